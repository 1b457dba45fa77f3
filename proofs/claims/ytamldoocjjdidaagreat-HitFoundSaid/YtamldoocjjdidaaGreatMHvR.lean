import Derived.Test.YtamldoocjjdidaaGreatMHvK
namespace Go.Proofs.YtamldoocjjdidaaGreat
open Go.RowKit
set_option maxRecDepth 100000
set_option maxHeartbeats 64000000
theorem stepM_ge (x:Int):∀(l:List (Int×Int)) (s:Int),s≤l.foldl (stepM x) s∧∀p∈l,p.1+p.2-x≤l.foldl (stepM x) s
 |[],s=>⟨Int.le_refl _,fun p hp=>by cases hp⟩
 |a :: l,s=>by
  obtain⟨h1,h2⟩:=stepM_ge x l (stepM x s a);have h3:s≤stepM x s a∧a.1+a.2-x≤stepM x s a:=by unfold stepM;split<;>omega
  refine⟨Int.le_trans h3.1 h1,fun p hp=>?_⟩
  rcases List.mem_cons.1 hp with rfl|hp
  ·exact Int.le_trans h3.2 h1
  ·exact h2 p hp
theorem covM_ge {x:Int} {l:List (Int×Int)} {p:Int×Int} (hp:p∈l):p.1+p.2-x≤covM x l:=(stepM_ge x l 0).2 p hp
theorem cutB_no {x:Int} (h:cutB x=false):cutV x=x:=by
 unfold cutB at h;unfold cutV;simp at h
 split<;>(try split)<;>omega
theorem cover_has {l:List Rc} (h:coverB l=false) {r:Rc} (hr:r∈l) (hs:r.some=true):insideB r (coverR l)=true:=by
 rw[←(refCov_eq l).2] at h;rw[←(refCov_eq l).1];have hm:r∈someL l:=List.mem_filter.2 ⟨hr,hs⟩;unfold refCovB at h;unfold refCovR;generalize someL l=ms at *;cases ms with
 |nil=>cases hm
 |cons q t=>
  simp only[Bool.or_eq_false_iff] at h;obtain⟨⟨h1,h2⟩,h3,h4⟩:=h;have a1:=(minL_le ((q :: t).map (·.x)) q.x).2 r.x (List.mem_map_of_mem hm);have a2:=(minL_le ((q :: t).map (·.y)) q.y).2 r.y (List.mem_map_of_mem hm);have z1:(r.x,r.w)∈((q :: t).map (·.x)).zip ((q :: t).map (·.w)):=by
   rw[List.zip_map'];exact List.mem_map.2 ⟨r,hm,rfl⟩
  have z2:(r.y,r.h)∈((q :: t).map (·.y)).zip ((q :: t).map (·.h)):=by
   rw[List.zip_map'];exact List.mem_map.2 ⟨r,hm,rfl⟩
  have b1:=covM_ge (x:=minL q.x ((q :: t).map (·.x))) z1;have b2:=covM_ge (x:=minL q.y ((q :: t).map (·.y))) z2;simp only at b1 b2;simp only[cutB_no h1,cutB_no h2,cutB_no h3,cutB_no h4];have hs2:=hs;unfold Rc.some at hs2;simp only[Bool.and_eq_true,decide_eq_true_eq] at hs2;unfold insideB;rw[hs];simp only[Bool.not_true,Bool.false_or,Rc.some,Bool.and_eq_true,decide_eq_true_eq];omega
theorem cutV_bd (x:Int):-1099511627776≤cutV x∧cutV x≤1099511627776:=by
 unfold cutV
 split<;>(try split)<;>omega
theorem cover_ok (l:List Rc):(coverR l).Ok:=by
 rw[←(refCov_eq l).1];unfold refCovR;cases someL l with
 |nil=>constructor<;>decide
 |cons q t=>
  have h1:=cutV_bd (minL q.x ((q :: t).map (·.x)));have h2:=cutV_bd (minL q.y ((q :: t).map (·.y)));have h3:=cutV_bd (covM (minL q.x ((q :: t).map (·.x))) (((q :: t).map (·.x)).zip ((q :: t).map (·.w))));have h4:=cutV_bd (covM (minL q.y ((q :: t).map (·.y))) (((q :: t).map (·.y)).zip ((q :: t).map (·.h))))
  constructor<;>simp only<;>omega
theorem und_box (ns:List Nd) (fs:List FV) (px py:Int) (i:Nat):undB ns fs ⟨px,py,1,1⟩ i=boxIn ns fs px py i:=by
 unfold undB;rw[meet_point];unfold boxIn;cases decide (nK ns i≠3)<;>rfl
theorem last_filter (p:Nat→Bool):∀n:Nat,(lastP p n<0→(List.range n).filter p=[])∧(0≤lastP p n→((List.range n).filter p).getLast?=some (lastP p n).toNat∧p (lastP p n).toNat=true)
 |0=>⟨fun _=>rfl,fun h=>absurd h (by show ¬(0:Int)≤-1;decide)⟩
 |n+1=>by
  obtain⟨h1,h2⟩:=last_filter p n;rw[List.range_succ,List.filter_append];by_cases hp:p n=true
  ·rw[last_yes hp,List.filter_cons_of_pos hp];exact⟨fun h=>absurd h (by omega),fun _=>⟨by simp,by rw[Int.toNat_natCast];exact hp⟩⟩
  ·have hp':p n=false:=by simpa using hp
   rw[last_no hp',List.filter_cons_of_neg hp];simp only[List.filter_nil,List.append_nil];exact⟨h1,h2⟩
theorem under_at (ns:List Nd) (fs:List FV) (px py:Int) :
  (lastP (boxIn ns fs px py) ns.length<0→undV true ns fs ⟨px,py,1,1⟩=[]) ∧
  (0≤lastP (boxIn ns fs px py) ns.length→(undV true ns fs ⟨px,py,1,1⟩).getLast?=some (lastP (boxIn ns fs px py) ns.length)):=by
 have e:undV true ns fs ⟨px,py,1,1⟩=((List.range ns.length).filter (boxIn ns fs px py)).map (fun i:Nat=>(i:Int)):=by
  unfold undV undK;rw[show (plV true ns fs).length=ns.length by simp[plV,plL_len]];rw[show undB ns fs ⟨px,py,1,1⟩=boxIn ns fs px py from funext fun i=>und_box ns fs px py i]
 rw[e];obtain⟨h1,h2⟩:=last_filter (boxIn ns fs px py) ns.length;refine⟨fun h=>by rw[h1 h];rfl,fun h=>?_⟩;rw[List.getLast?_map,(h2 h).1];simp only[Option.map_some]
 congr 1
 omega
theorem inside_unit {ns:List Nd} {fs:List FV} {px py:Int} {i:Nat} (h:boxIn ns fs px py i=true):insideB ⟨px,py,1,1⟩ (plN ns fs i)=true∧(plN ns fs i).some=true:=by
 unfold boxIn spanB at h;simp only[Bool.and_eq_true,decide_eq_true_eq] at h;unfold insideB Rc.some;simp only[Bool.or_eq_true,Bool.and_eq_true,decide_eq_true_eq];refine⟨.inr ⟨⟨⟨?_,?_⟩,?_⟩,?_⟩,?_,?_⟩<;>omega
theorem inside_trans {a b c:Rc} (h1:insideB a b=true) (h2:insideB b c=true) (hb:b.some=true):insideB a c=true:=by
 unfold insideB at *;cases ha:a.some
 ·rfl
 ·rw[ha] at h1;rw[hb] at h1 h2;simp only[Bool.not_true,Bool.false_or,Bool.and_eq_true,decide_eq_true_eq] at *;exact⟨⟨h2.1.1,by omega⟩,by omega⟩
theorem first_spec {α:Type} (p:α→Bool):∀(l:List α) (k:Nat),firstA p l k=-1∨∃(j:Nat) (x:α),firstA p l k=((k+j:Nat):Int)∧l[j]?=some x∧p x=true
 |[],_=>.inl rfl
 |a :: l,k=>by
  unfold firstA;by_cases h:p a=true
  ·rw[if_pos h];exact .inr ⟨0,a,rfl,rfl,h⟩
  ·rw[if_neg h]
   rcases first_spec p l (k+1) with h1|⟨j,x,h1,h2,h3⟩
   ·exact .inl h1
   ·exact .inr ⟨j+1,x,by rw[h1];congr 1;omega,by simpa using h2,h3⟩
theorem line_spec (r:Rc) (px py:Int):∀(l:List LV) (k:Nat),lineA r px py l k=(-1,-1)∨∃(j:Nat) (x:LV),lineA r px py l k=(((k+j:Nat):Int),firstA (pcIn r px) x.ps 0)∧l[j]?=some x∧lnIn r py x=true
 |[],_=>.inl rfl
 |a :: l,k=>by
  unfold lineA;by_cases h:lnIn r py a=true
  ·rw[if_pos h];exact .inr ⟨0,a,rfl,rfl,h⟩
  ·rw[if_neg h]
   rcases line_spec r px py l (k+1) with h1|⟨j,x,h1,h2,h3⟩
   ·exact .inl h1
   ·exact .inr ⟨j+1,x,by rw[h1];congr 2;omega,by simpa using h2,h3⟩
theorem at_cases (ns:List Nd) (fs:List FV) (px py:Int) (hf:farB true px py=false) :
  (atV true ns fs px py=(-1,-1,-1)∧undV true ns fs ⟨px,py,1,1⟩=[]) ∨
  ∃n:Nat,n<ns.length∧boxIn ns fs px py n=true∧(undV true ns fs ⟨px,py,1,1⟩).getLast?=some (n:Int) ∧
   (atV true ns fs px py=((n:Int),-1,-1)∨∃(j:Nat) (l:LV),(lsN fs n)[j]?=some l∧lnIn (plN ns fs n) py l=true ∧
    (atV true ns fs px py=((n:Int),(j:Int),-1)∨∃(i:Nat) (p:Pc),l.ps[i]?=some p∧pcIn (plN ns fs n) px p=true∧atV true ns fs px py=((n:Int),(j:Int),(i:Int)))):=by
 obtain⟨h1,h2⟩:=under_at ns fs px py;have hl:=last_ge (boxIn ns fs px py) ns.length;unfold atV;rw[if_neg (by simp[hf])];by_cases hn:lastP (boxIn ns fs px py) ns.length<0
 ·rw[if_pos hn];exact .inl ⟨rfl,h1 hn⟩
 ·rw[if_neg hn];obtain⟨n,hj⟩:∃j:Nat,lastP (boxIn ns fs px py) ns.length=j:=⟨(lastP (boxIn ns fs px py) ns.length).toNat,by omega⟩
  have hb:=((last_filter (boxIn ns fs px py) ns.length).2 (by omega)).2;have h3:=h2 (by omega);rw[hj] at hl hb h3 ⊢;rw[Int.toNat_natCast] at hb ⊢;refine .inr ⟨n,by omega,hb,h3,?_⟩
  rcases line_spec (plN ns fs n) px py (lsN fs n) 0 with q|⟨j,l,q,q2,q3⟩
  ·rw[q];exact .inl rfl
  ·refine .inr ⟨j,l,q2,q3,?_⟩;rw[q];simp only[Nat.zero_add]
   rcases first_spec (pcIn (plN ns fs n) px) l.ps 0 with r|⟨i,p,r,r2,r3⟩
   ·rw[r];exact .inl rfl
   ·rw[r];simp only[Nat.zero_add];exact .inr ⟨i,p,r2,r3,rfl⟩
theorem par_kind {ns:List Nd} (h:TOk ns) {i p:Nat} (hi:i<ns.length) (hp:parN ns i=p):nK ns p≠3:=by
 intro h3;have h1:=ok_leaf h hi h3;rw[bel_par hp,sub_self] at h1;cases h1
theorem place_kid {ns:List Nd} (fs:List FV) (h:TOk ns) {i p:Nat} (hi:i<ns.length) (h3:nK ns i≠3) (hp:parN ns i=p):(plN ns fs i).x-(plN ns fs p).x=fX fs i∧(plN ns fs i).y-(plN ns fs p).y=fY fs i:=by
 unfold plN;rw[if_neg h3,if_neg (par_kind h hi hp)];have h1:=pos_kid (fX fs) hp;have h2:=pos_kid (fY fs) hp
 show posN ns (fX fs) i-posN ns (fX fs) p=_∧posN ns (fY fs) i-posN ns (fY fs) p=_
 omega
end Go.Proofs.YtamldoocjjdidaaGreat
