import Derived.Test.YtamldoocjjdidaaGreatMHvR
namespace Go.Proofs.YtamldoocjjdidaaGreat
open Go.RowKit
set_option maxRecDepth 100000
set_option maxHeartbeats 64000000
def mvF (f:Fg) (dx dy:Int):Fg:=⟨f.x+dx,f.y+dy,f.w,f.h,f.lA,f.ln,f.lc⟩
def mvV (v:FV) (dx dy:Int):FV:=⟨mvF v.f dx dy,v.ls⟩
def mvL (fs:List FV) (k:Nat) (dx dy:Int):List FV:=match fs[k]? with|some v=>fs.set k (mvV v dx dy)|none=>fs
theorem mvL_get (fs:List FV) {k:Nat} (hk:k<fs.length) (dx dy:Int) (i:Nat):(mvL fs k dx dy)[i]?=if i=k then (fs[i]?).map (fun v=>mvV v dx dy) else fs[i]?:=by
 unfold mvL;rw[AE hk];simp only;by_cases h:i=k
 ·subst h;rw[if_pos rfl,List.getElem?_set_self (by omega),AE hk];rfl
 ·rw[if_neg h,List.getElem?_set_ne (fun e=>h e.symm)]
theorem fgN_mv (fs:List FV) {k:Nat} (hk:k<fs.length) (dx dy:Int) (i:Nat):fgN (mvL fs k dx dy) i=if i=k then mvF (fgN fs i) dx dy else fgN fs i:=by
 unfold fgN;rw[mvL_get fs hk];by_cases h:i=k
 ·subst h;rw[if_pos rfl,if_pos rfl,AE hk];rfl
 ·rw[if_neg h,if_neg h]
theorem lsN_mv (fs:List FV) {k:Nat} (hk:k<fs.length) (dx dy:Int) (i:Nat):lsN (mvL fs k dx dy) i=lsN fs i:=by
 unfold lsN;rw[mvL_get fs hk];by_cases h:i=k
 ·subst h;rw[if_pos rfl,AE hk];rfl
 ·rw[if_neg h]
theorem fX_mv (fs:List FV) {k:Nat} (hk:k<fs.length) (dx dy:Int) (i:Nat):fX (mvL fs k dx dy) i=fX fs i+(if i=k then dx else 0):=by
 unfold fX;rw[fgN_mv fs hk]
 split
 ·rfl
 ·omega
theorem fY_mv (fs:List FV) {k:Nat} (hk:k<fs.length) (dx dy:Int) (i:Nat):fY (mvL fs k dx dy) i=fY fs i+(if i=k then dy else 0):=by
 unfold fY;rw[fgN_mv fs hk]
 split
 ·rfl
 ·omega
theorem pos_mv (ns:List Nd) (g g':Nat→Int) (k:Nat) (d:Int) (hg:∀i,g' i=g i+(if i=k then d else 0)):∀i:Nat,posN ns g' i=posN ns g i+(if sub ns k i=true then d else 0):=by
 intro i
 induction i using Nat.strongRecOn with
 |ind i ih=>
  rw[posN_up,posN_up ns g i,hg];by_cases hp:parN ns i<0
  ·rw[if_pos hp,if_pos hp];have hb:bel ns (k:Int) i=false:=bel_no (by omega) _;have hs:sub ns k i=decide (i=k):=by rw[sub,hb,Bool.or_false]
   rw[hs];by_cases h:i=k
   ·rw[if_pos h,if_pos (by simp[h])];try omega
   ·rw[if_neg h,if_neg (by simp[h])];try omega
  ·rw[if_neg hp,if_neg hp];have hlt:=(parN_lt ns i).2;obtain⟨p,hpp⟩:∃p:Nat,parN ns i=p:=⟨(parN ns i).toNat,by omega⟩
   rw[hpp,Int.toNat_natCast,ih p (by omega)];have hs:sub ns k i=(decide (i=k)||sub ns k p):=by rw[sub,bel_par hpp]
   by_cases h:i=k
   ·have hn:sub ns k p=false:=by
     cases e:sub ns k p
     ·rfl
     ·have:=sub_le e;omega
    rw[hs,hn,if_pos h,if_neg (by simp),if_pos (by simp[h])];omega
   ·rw[hs,decide_eq_false h,Bool.false_or,if_neg h];omega
def mvR (r:Rc) (dx dy:Int):Rc:=⟨r.x+dx,r.y+dy,r.w,r.h⟩
theorem plN_mv (ns:List Nd) (fs:List FV) {k:Nat} (hk:k<fs.length) (dx dy:Int) (i:Nat):plN ns (mvL fs k dx dy) i=if nK ns i≠3∧sub ns k i=true then mvR (plN ns fs i) dx dy else plN ns fs i:=by
 unfold plN;by_cases h3:nK ns i=3
 ·rw[if_pos h3,if_neg (fun h=>h.1 h3),if_pos h3]
 ·rw[if_neg h3,if_neg h3];have h1:=pos_mv ns (fX fs) (fX (mvL fs k dx dy)) k dx (fX_mv fs hk dx dy) i;have h2:=pos_mv ns (fY fs) (fY (mvL fs k dx dy)) k dy (fY_mv fs hk dx dy) i;have hw:(fgN (mvL fs k dx dy) i).w=(fgN fs i).w∧(fgN (mvL fs k dx dy) i).h=(fgN fs i).h:=by
   rw[fgN_mv fs hk]
   split<;>exact⟨rfl,rfl⟩
  unfold boxN;rw[h1,h2,hw.1,hw.2];by_cases hs:sub ns k i=true
  ·rw[if_pos hs,if_pos hs,if_pos ⟨h3,hs⟩];rfl
  ·rw[if_neg hs,if_neg hs,if_neg (fun h=>hs h.2),Int.add_zero,Int.add_zero]
theorem span_mv (f m x d:Int):spanB (f+d) m (x+d)=spanB f m x:=by
 unfold spanB;rw[Bool.eq_iff_iff];simp only[Bool.and_eq_true,decide_eq_true_eq];omega
theorem pcIn_mv (r:Rc) (px dx dy:Int) (p:Pc):pcIn (mvR r dx dy) (px+dx) p=pcIn r px p:=by
 unfold pcIn mvR;rw[show r.x+dx+p.x=r.x+p.x+dx by omega];exact span_mv _ _ _ _
theorem lnIn_mv (r:Rc) (py dx dy:Int) (l:LV):lnIn (mvR r dx dy) (py+dy) l=lnIn r py l:=by
 unfold lnIn mvR;rw[show r.y+dy+l.l.y=r.y+l.l.y+dy by omega];exact span_mv _ _ _ _
theorem lineA_mv (r:Rc) (px py dx dy:Int):∀(l:List LV) (k:Nat),lineA (mvR r dx dy) (px+dx) (py+dy) l k=lineA r px py l k
 |[],_=>rfl
 |a :: l,k=>by
  unfold lineA;rw[lnIn_mv,lineA_mv r px py dx dy l (k+1),show pcIn (mvR r dx dy) (px+dx)=pcIn r px from funext fun p=>pcIn_mv r px dx dy p]
theorem last_congr {p q:Nat→Bool}:∀n:Nat,(∀i,i<n→p i=q i)→lastP p n=lastP q n
 |0,_=>rfl
 |n+1,h=>by
  unfold lastP;rw[h n (by omega),last_congr n (fun i hi=>h i (by omega))]
theorem at_mv (ns:List Nd) (fs:List FV) (hT:TOk ns) (hk:0<fs.length) (px py dx dy:Int) (h1:-1125899906842624≤px∧px≤1125899906842624) (h2:-1125899906842624≤py∧py≤1125899906842624) (h3:-2147483648≤dx∧dx≤2147483647) (h4:-2147483648≤dy∧dy≤2147483647) :
  atV true ns (mvL fs 0 dx dy) (px+dx) (py+dy)=atV true ns fs px py:=by
 have f1:farB true px py=false:=by simp[farB];omega
 have f2:farB true (px+dx) (py+dy)=false:=by simp[farB];omega
 have hb:∀i,i<ns.length→boxIn ns (mvL fs 0 dx dy) (px+dx) (py+dy) i=boxIn ns fs px py i:=fun i hi=>by
  unfold boxIn;by_cases h3:nK ns i=3
  ·simp[h3]
  ·rw[plN_mv ns fs hk,if_pos ⟨h3,ok_below0 hT hi⟩]
   show (decide (nK ns i≠3)&&(spanB ((plN ns fs i).x+dx) (plN ns fs i).w (px+dx)&&spanB ((plN ns fs i).y+dy) (plN ns fs i).h (py+dy)))=_
   rw[span_mv,span_mv]
 unfold atV;rw[f1,f2,last_congr _ hb];have hl:=last_ge (boxIn ns fs px py) ns.length;by_cases hn:lastP (boxIn ns fs px py) ns.length<0
 ·simp only[hn,if_true]
 ·rw[if_neg (by simp),if_neg hn,if_neg (by simp),if_neg hn];obtain⟨j,hj⟩:∃j:Nat,lastP (boxIn ns fs px py) ns.length=j:=⟨(lastP (boxIn ns fs px py) ns.length).toNat,by omega⟩
  have hbj:=((last_filter (boxIn ns fs px py) ns.length).2 (by omega)).2;rw[hj] at hl hbj ⊢;rw[Int.toNat_natCast] at hbj ⊢;have h3:nK ns j≠3:=by
   unfold boxIn at hbj;simp only[Bool.and_eq_true,decide_eq_true_eq] at hbj;exact hbj.1
  rw[plN_mv ns fs hk,if_pos ⟨h3,ok_below0 hT (by omega)⟩,lsN_mv fs hk,lineA_mv]
theorem fOk_mv {fs:List FV} (h:fs.all fOk=true) {k:Nat} (hk:k<fs.length) {dx dy:Int} (hb:∀x∈fs,(-1073741824≤x.f.x∧x.f.x≤1073741824)∧(-1073741824≤x.f.y∧x.f.y≤1073741824)) (h3:-2147483648≤dx∧dx≤2147483647) (h4:-2147483648≤dy∧dy≤2147483647):(mvL fs k dx dy).all fOk=true:=by
 rw[List.all_eq_true] at h ⊢;intro x hx;obtain⟨i,hi⟩:=List.getElem?_of_mem hx;rw[mvL_get fs hk] at hi
 split at hi
 ·rw[Option.map_eq_some_iff] at hi;obtain⟨v,hv,rfl⟩:=hi;have hm:=List.mem_of_getElem? hv;have h1:=h v hm;obtain⟨b1,b2⟩:=hb v hm;unfold fOk at h1 ⊢;simp only[Bool.and_eq_true] at h1 ⊢;refine⟨⟨⟨⟨?_,?_⟩,h1.1.1.2⟩,h1.1.2⟩,h1.2⟩
  ·show inB (v.f.x+dx)=true
   unfold inB;simp;omega
  ·show inB (v.f.y+dy)=true
   unfold inB;simp;omega
 ·exact h x (List.mem_of_getElem? hi)
end Go.Proofs.YtamldoocjjdidaaGreat
