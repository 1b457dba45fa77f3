import Derived.Test.YtamldoocjjdidaaGreatMSt2
import Derived.Test.YtamldoocjjdidaaGreatMWidF
namespace Go.Proofs.YtamldoocjjdidaaGreat
open Go.RowKit
set_option maxRecDepth 100000
set_option maxHeartbeats 64000000
def shr0 (s:Sty) (c l g:Int):Int:=if resB s.w then resV s.w c else min g (max l (c-(s.b3+s.b1+s.p3+s.p1)-resV s.m3 c-resV s.m1 c))
def shrW (s:Sty) (c l g:Int):Int:=clampV s c (shr0 s c l g)
theorem ref_shr (s:Sty) (c l g:Int) (hs:mayB s=true) (hc:c≤1099511627776) (hl:-1099511627776≤l) (hl':l≤1099511627776) (hg:-1099511627776≤g) (hg':g≤1099511627776) (w:World):Calls Tryz.prog 109 #[.agg s.cells,.int .i64 c,.int .i64 l,.int .i64 g] w fun e w'=>e=.returned (.tuple #[usedV (cutV (shrW s (max c 0) l g)) (cutV (resV s.m3 (max c 0))) (cutV (resV s.m1 (max c 0))),.bool (cutB (shrW s (max c 0) l g)||cutB (resV s.m3 (max c 0))||cutB (resV s.m1 (max c 0)))])∧Ext w w':=by
 obtain⟨⟨e0,e1,e2,e3,et⟩,ew,emi,ema⟩:=may_facts hs;obtain⟨C,hC⟩:∃C:Int,(if c<0 then (0:Int) else c)=C:=⟨_,rfl⟩
 have hCm:Hid (max c 0=C):=by unfold Hid;rw[←hC];split<;>omega
 have hC0:0≤C:=by rw[←hC];split<;>omega
 have hC1:C≤1099511627776:=by rw[←hC];split<;>omega
 have q1:=lenMay_part (by decide) e1;have q3:=lenMay_part (by decide) e3;have qw:=lenMay_part (by decide) ew;have qi:=lenMay_part (by decide) emi;have qa:=lenMay_part (by decide) ema;obtain⟨r1,r1'⟩:=res_bd (c:=C) (by decide) (by decide) e1 hC1;obtain⟨r3,r3'⟩:=res_bd (c:=C) (by decide) (by decide) e3 hC1;obtain⟨rw1,rw1'⟩:=res_bd (c:=C) (by decide) (by decide) ew hC1;have ri:=res_bd (c:=C) (by decide) (by decide) emi hC1;have ra:=res_bd (c:=C) (by decide) (by decide) ema hC1;obtain⟨hf1,hf2⟩:0≤s.b3+s.b1+s.p3+s.p1∧s.b3+s.b1+s.p3+s.p1≤4398046511104:=by
  have:=et.b3;have:=et.b1;have:=et.p3;have:=et.p1;omega
 have c3:=fun w=>ref_resolve s.m3 C q3 hC1 w
 have c1:=fun w=>ref_resolve s.m1 C q1 hC1 w
 have cw:=fun w=>ref_resolve s.w C qw hC1 w
 have cf:=fun w=>ref_frame s et w
 have cc:=fun x w=>ref_clamp s C x qa qi hC1 w
 have hcl:=fun x hx=>clamp_bd (s:=s) (c:=C) (x:=x) ra ri hx
 have B00:Blk ((w.alloc (.cells s.cells 65)).alloc (.cells #[.int .i64 0,.int .i64 0,.int .i64 0] 120)) w.heap.size 65 s.cells:=(Blk.new _ _ _).alloc _;rw[hCm.out];have hx0:shr0 s C l g≤50000000000000:=by unfold shr0;split<;>omega
 obtain⟨k1,k2⟩:=hcl _ hx0;have e0W:shrW s C l g=clampV s C (shr0 s C l g):=rfl;have e00:shr0 s C l g=if resB s.w then resV s.w C else min g (max l (C-(s.b3+s.b1+s.p3+s.p1)-resV s.m3 C-resV s.m1 C)):=rfl
 have cc:=fun w=>cc (shr0 s C l g) w
 rw[←e0W] at cc k1 k2;clear e0W hcl ri ra e0 e1 e2 e3 ew emi ema hs q1 q3 qw qi qa;generalize shrW s C l g=K at *;generalize shr0 s C l g=X at *;generalize resV s.m3 C=M at *;generalize resV s.m1 C=N at *;generalize resV s.w C=V at *;generalize hF:s.b3+s.b1+s.p3+s.p1=F at *;clear hF hCm;cases hbw:resB s.w
 ·rw[hbw] at e00;simp only[Bool.false_eq_true,if_false] at e00;obtain⟨Y,hY⟩:∃Y:Int,(if l<C-F-M-N then C-F-M-N else l)=Y:=⟨_,rfl⟩
  have hX:(if Y<g then Y else g)=X:=by rw[e00,←hY];split<;>split<;>omega
  have hX0:-1099511627776≤X:=by rw[←hX,←hY];split<;>split<;>omega
  clear e00;go_enter Tryz.func109,Tryz.ntmps109;go_wp2_with (first
   |(refine wpList_load_blk rfl 65 _ rfl w.heap.size rfl 65 s.cells _ (by assumption) Tryz.underlying65 rfl (info_style s) ?_)
   |(go_at_call 91;((first|(with_reducible refine (c3 _).mono ?_)|(with_reducible refine (c1 _).mono ?_)|(with_reducible refine (cw _).mono ?_));rintro e w' ⟨rfl,hb⟩;have B0:Blk w' w.heap.size 65 s.cells:=Blk.ext (by first|assumption|exact (Blk.new _ _ _).alloc _|exact Blk.new _ _ _) hb;have C0:=B0.cell;have B1:Blk w' (w.heap.size+1) 120 #[.int .i64 0,.int .i64 0,.int .i64 0]:=Blk.ext (by first|assumption|exact Blk.new1 _ _ _ _) hb;have C1:=B1.cell;have F1:=B1.frozen))
   |(go_at_call 89;((with_reducible refine (cf _).mono ?_);rintro e w' ⟨rfl,hb⟩;have B0:Blk w' w.heap.size 65 s.cells:=Blk.ext (by first|assumption|exact (Blk.new _ _ _).alloc _|exact Blk.new _ _ _) hb;have C0:=B0.cell;have B1:Blk w' (w.heap.size+1) 120 #[.int .i64 0,.int .i64 0,.int .i64 0]:=Blk.ext (by first|assumption|exact Blk.new1 _ _ _ _) hb;have C1:=B1.cell;have F1:=B1.frozen))
   |(go_at_call 145;((with_reducible refine (cc _).mono ?_);rintro e w' ⟨rfl,hb⟩;have B0:Blk w' w.heap.size 65 s.cells:=Blk.ext (by first|assumption|exact (Blk.new _ _ _).alloc _|exact Blk.new _ _ _) hb;have C0:=B0.cell;have B1:Blk w' (w.heap.size+1) 120 #[.int .i64 0,.int .i64 0,.int .i64 0]:=Blk.ext (by first|assumption|exact Blk.new1 _ _ _ _) hb;have C1:=B1.cell;have F1:=B1.frozen))
   |(go_at_call 146;((with_reducible refine (cutAll_any _ _ _ _).mono ?_);rintro e w' ⟨rfl,hb⟩;have B0:Blk w' w.heap.size 65 s.cells:=Blk.ext (by first|assumption|exact (Blk.new _ _ _).alloc _|exact Blk.new _ _ _) hb;have C0:=B0.cell;have B1:Blk w' (w.heap.size+1) 120 #[.int .i64 0,.int .i64 0,.int .i64 0]:=Blk.ext (by first|assumption|exact Blk.new1 _ _ _ _) hb;have C1:=B1.cell;have F1:=B1.frozen)))
  all_goals refine bodyPost_ret (results_cell_tmp rfl _ _ (w.heap.size+1) 120 _ _ rfl (((B1.set_ 0 _).set_ 1 _).set_ 2 _) Tryz.underlying120 rfl (by kernel_rfl)) rfl ⟨?_,?_⟩
  all_goals first
   |((repeat (first|exact Ext.refl _|(with_reducible refine Ext.trans ?_ (by assumption))|(with_reducible refine Ext.alloc ?_ _)|(with_reducible refine Ext.drew ?_)|(with_reducible refine Ext.drewN ?_ _)|(with_reducible refine Ext.set ?_ (by simp) _)));done)
   |rfl
 ·rw[hbw] at e00;simp only[if_true] at e00;subst e00;go_enter Tryz.func109,Tryz.ntmps109;go_wp2_with (first
   |(refine wpList_load_blk rfl 65 _ rfl w.heap.size rfl 65 s.cells _ (by assumption) Tryz.underlying65 rfl (info_style s) ?_)
   |(go_at_call 91;((first|(with_reducible refine (c3 _).mono ?_)|(with_reducible refine (c1 _).mono ?_)|(with_reducible refine (cw _).mono ?_));rintro e w' ⟨rfl,hb⟩;have B0:Blk w' w.heap.size 65 s.cells:=Blk.ext (by first|assumption|exact (Blk.new _ _ _).alloc _|exact Blk.new _ _ _) hb;have C0:=B0.cell;have B1:Blk w' (w.heap.size+1) 120 #[.int .i64 0,.int .i64 0,.int .i64 0]:=Blk.ext (by first|assumption|exact Blk.new1 _ _ _ _) hb;have C1:=B1.cell;have F1:=B1.frozen))
   |(go_at_call 89;((with_reducible refine (cf _).mono ?_);rintro e w' ⟨rfl,hb⟩;have B0:Blk w' w.heap.size 65 s.cells:=Blk.ext (by first|assumption|exact (Blk.new _ _ _).alloc _|exact Blk.new _ _ _) hb;have C0:=B0.cell;have B1:Blk w' (w.heap.size+1) 120 #[.int .i64 0,.int .i64 0,.int .i64 0]:=Blk.ext (by first|assumption|exact Blk.new1 _ _ _ _) hb;have C1:=B1.cell;have F1:=B1.frozen))
   |(go_at_call 145;((with_reducible refine (cc _).mono ?_);rintro e w' ⟨rfl,hb⟩;have B0:Blk w' w.heap.size 65 s.cells:=Blk.ext (by first|assumption|exact (Blk.new _ _ _).alloc _|exact Blk.new _ _ _) hb;have C0:=B0.cell;have B1:Blk w' (w.heap.size+1) 120 #[.int .i64 0,.int .i64 0,.int .i64 0]:=Blk.ext (by first|assumption|exact Blk.new1 _ _ _ _) hb;have C1:=B1.cell;have F1:=B1.frozen))
   |(go_at_call 146;((with_reducible refine (cutAll_any _ _ _ _).mono ?_);rintro e w' ⟨rfl,hb⟩;have B0:Blk w' w.heap.size 65 s.cells:=Blk.ext (by first|assumption|exact (Blk.new _ _ _).alloc _|exact Blk.new _ _ _) hb;have C0:=B0.cell;have B1:Blk w' (w.heap.size+1) 120 #[.int .i64 0,.int .i64 0,.int .i64 0]:=Blk.ext (by first|assumption|exact Blk.new1 _ _ _ _) hb;have C1:=B1.cell;have F1:=B1.frozen)))
  all_goals refine bodyPost_ret (results_cell_tmp rfl _ _ (w.heap.size+1) 120 _ _ rfl (((B1.set_ 0 _).set_ 1 _).set_ 2 _) Tryz.underlying120 rfl (by kernel_rfl)) rfl ⟨?_,?_⟩
  all_goals first
   |((repeat (first|exact Ext.refl _|(with_reducible refine Ext.trans ?_ (by assumption))|(with_reducible refine Ext.alloc ?_ _)|(with_reducible refine Ext.drew ?_)|(with_reducible refine Ext.drewN ?_ _)|(with_reducible refine Ext.set ?_ (by simp) _)));done)
   |rfl
end Go.Proofs.YtamldoocjjdidaaGreat
namespace Go.Proofs.YtamldoocjjdidaaGreat
set_option maxRecDepth 100000
set_option maxHeartbeats 64000000
section
variable {P:Program} {ops:Array Oper} {F:Act→World→Prop} {W:World} {R:Nat→Value→World→Prop}
theorem wpOp_inv {i:Nat} {o:Oper} (ho:ops[i]?=some o) {Inv:Act→Prop} (h1:∀a u,Inv a→Inv (a.put o.dst u)) (h2:∀(a:Act) d,Inv a→Inv { a with defers:=d :: a.defers }) {K:Act→World→Prop} {a:Act} {w:World} (hi:Inv a) (h:wpOp P ops noQ i K a w):wpOp P ops noQ i (fun a' w'=>Inv a'∧K a' w') a w:=by
 unfold wpOp at *;simp only[ho] at *
 split
 ·rename_i hw
  simp only[hw,if_true] at h
  rcases h with h|h
  case inr=>exact .inr h
  refine .inl ?_;unfold Oper.wp at *;generalize (execOp a.eval o).run P w=r at *;cases r with
  |ok n w'=>
   cases n<;>simp only[Oper.upon] at h ⊢
   case value u=>exact⟨h1 a u hi,h⟩
   case skip=>exact⟨h1 a _ hi,h⟩
   case defer d=>exact⟨h1 _ _ (h2 _ _ hi),h⟩
   case enter f args=>
    refine Calls.mono h fun e w'' he=>?_
    cases e with
    |returned u=>exact⟨h1 a u hi,he⟩
    |panicked c=>exact he
    |outgrown=>exact he
   case row row args=>exact Rows.mono h fun u w'' he=>⟨h1 a u hi,he⟩
  |halt x w'=>
   cases x<;>simp only[Oper.upon] at h ⊢
   all_goals exact h
 ·rename_i hw
  simp only[hw] at h;exact⟨h1 _ _ hi,h⟩
theorem wpOp_put2 {k:Nat} {o:Oper} {d:Option Tmp} {v:Value} (hk:ops[k]?=some o) (hsk:∀cs b,o.op≠.select cs b) (h1:∀t,d=some t→t∉o.looksAt ops) (h2:∀t,d=some t→o.dst≠some t)
  {K K':Act→World→Prop} (hK:∀a w,K a w→K' (a.put d v) w) {a:Act} {w:World} (h:wpOp P ops noQ k K a w):wpOp P ops noQ k K' (a.put d v) w:=by
 unfold wpOp at *;simp only[hk] at *;rw[wanted_put o a d v h1]
 split
 ·rename_i hw
  simp only[hw,if_true] at h
  rcases h with h|⟨_,hasks,_,hf⟩
  case inr=>exact False.elim hf
  refine .inl ?_;unfold Oper.wp at *;rw[execOp_put o hsk a d v h1];generalize (execOp a.eval o).run P w=r at *;cases r with
  |ok n w'=>
   cases n<;>simp only[Oper.upon] at h ⊢
   case value u=>rw[Act.put_comm a v u h2];exact hK _ _ h
   case skip=>rw[Act.put_comm a v undef h2];exact hK _ _ h
   case defer x=>rw[Act.put_defers,Act.put_comm _ v undef h2];exact hK _ _ h
   case enter f args=>
    refine Calls.mono h fun e w'' he=>?_
    cases e with
    |returned u=>
     show K' ((a.put d v).put o.dst u) w''
     rw[Act.put_comm a v u h2];exact hK _ _ he
    |panicked c=>exact he
    |outgrown=>exact he
   case row row args=>
    refine Rows.mono h fun u w'' he=>?_
    show K' ((a.put d v).put o.dst u) w''
    rw[Act.put_comm a v u h2];exact hK _ _ he
  |halt x w'=>
   cases x<;>simp only[Oper.upon] at h ⊢
   all_goals exact h
 ·rename_i hw
  simp only[hw] at h;rw[Act.put_comm a v undef h2];exact hK _ _ h
def lset (J:List Nat) (l:Array Bool):Array Bool:=J.foldl (fun l j=>l.setIfInBounds j true) l
theorem set2_comm (l:Array Bool) (i j:Nat):(l.setIfInBounds i true).setIfInBounds j true=(l.setIfInBounds j true).setIfInBounds i true:=by
 by_cases h:i=j
 ·subst h;rfl
 ·exact Array.setIfInBounds_comm _ _ h
theorem lset_perm {J K:List Nat} (h:J.Perm K) (l:Array Bool):lset J l=lset K l:=h.foldl_eq' (fun x _ y _ z=>set2_comm z x y) l
theorem lset_set (J:List Nat) (l:Array Bool) (i:Nat):(lset J l).setIfInBounds i true=lset J (l.setIfInBounds i true):=by
 induction J generalizing l with
 |nil=>rfl
 |cons j J ih=>
  show (lset J (l.setIfInBounds j true)).setIfInBounds i true=lset J ((l.setIfInBounds i true).setIfInBounds j true)
  rw[ih,set2_comm]
theorem lset_ready {J:List Nat} {l:Array Bool} {k:Nat} (hk:k∈Region.ready .any ops l) (hJ:k∉J):k∈Region.ready .any ops (lset J l):=by
 induction J generalizing l with
 |nil=>exact hk
 |cons j J ih=>exact ih (ready_mono hk (fun h=>hJ (by rw[h];exact List.mem_cons_self))) (fun h=>hJ (List.mem_cons_of_mem _ h))
def FltAt (P:Program) (ops:Array Oper) (W:World) (R:Nat→Value→World→Prop) (j:Nat) (a:Act) (w:World):Prop:=
 ∃o,ops[j]?=some o∧Region.wanted o (yielded ops a.tmps)=true∧∀w',Ext w w'→Ext W w'→∃v w'',(execOp a.eval o).run P w'=.ok (.value v) w''∧Ext w' w''∧R j v w''
def dstOf (ops:Array Oper) (j:Nat):Option Tmp:=(ops[j]?).bind (·.dst)
def putJ (ops:Array Oper) (vs:Nat→Value) (J:List Nat) (a:Act):Act:=J.foldl (fun a j=>a.put (dstOf ops j) (vs j)) a
def FinJ (ops:Array Oper) (R:Nat→Value→World→Prop) (G:Act→World→Prop) (J:List Nat) (a:Act) (w:World):Prop:=
 ∀w' vs,Ext w w'→(∀j∈J,R j (vs j) w')→G (putJ ops vs J a) w'
def wpOrdT (P:Program) (ops:Array Oper) (W:World) (Fin:Act→World→Prop):List (Nat×Nat)→Act→World→Prop
 |[],a,w=>Fin a w
 |(c,i) :: r,a,w=>∃o,ops[i]?=some o ∧
  (if c=0 then ∃v,YieldsIf P ops (fun w=>true=true→Ext W w) o v a∧wpOrdT P ops W Fin r (a.put o.dst v) w
   else if c=1 then ∃v,YieldsIf P ops (fun w=>false=true→Ext W w) o v a∧wpOrdT P ops W Fin r (a.put o.dst v) w
   else ∀w',Ext w w'→Ext W w'→wpOp P ops noQ i (fun a' w''=>Ext w' w''∧wpOrdT P ops W Fin r a' w'') a w')
def FreeP (ops:Array Oper) (l:Array Bool) (i:Nat):Prop:=
 ∀oi,ops[i]?=some oi→∀j oj,ops[j]?=some oj→j≠i→l.getD j true=false→(∀e∈oj.after,Region.binds .any e=true→e.on≠i)→oi.apart ops oj=true
def PlP (ops:Array Oper) (J:List Nat):List (Nat×Nat)→Array Bool→Prop
 |[],l=>∀k o,ops[k]?=some o→k∉J→l.getD k true=false→∀j∈J,needsB ops ops.size k j=true
 |(c,i) :: r,l=>i∈Region.ready .any ops l∧i∉J∧(c=0∨c=1→FreeP ops l i)∧(¬(c=0∨c=1)→∀k∈Region.ready .any ops (lset J l),k=i)∧PlP ops J r (l.setIfInBounds i true)
def plB (ops:Array Oper) (J:List Nat):List (Nat×Nat)→Array Bool→Bool
 | [],l=>(List.range ops.size).all fun k=>J.contains k||l.getD k true||J.all fun j=>needsB ops ops.size k j
 |(c,i) :: r,l=>(Region.ready .any ops l).contains i&&!(J.contains i)&&(if c=0∨c=1 then Region.free .any ops l i else (Region.ready .any ops (lset J l)).all (·==i))&&plB ops J r (l.setIfInBounds i true)
theorem plP_of (J:List Nat):∀(r:List (Nat×Nat)) (l:Array Bool),plB ops J r l=true→PlP ops J r l
 |[],l,h=>fun k o ho hk hl j hj=>by
  have h1:=List.all_eq_true.1 h k (List.mem_range.2 (Array.getElem?_eq_some_iff.1 ho).1);simp only[Bool.or_eq_true,hl,Bool.false_eq_true,or_false,List.all_eq_true] at h1
  rcases h1 with h1|h1
  ·exact absurd (by simpa using h1) hk
  ·exact h1 j hj
 |(c,i) :: r,l,h=>by
  simp only[plB,Bool.and_eq_true] at h;obtain⟨⟨⟨h1,h2⟩,h3⟩,h4⟩:=h;refine⟨by simpa using h1,by simpa using h2,fun hc oi ho=>?_,fun hc k hk=>?_,plP_of J r _ h4⟩
  ·rw[if_pos hc] at h3;exact Region.free_spec ho h3
  ·rw[if_neg hc] at h3
   simpa using List.all_eq_true.1 h3 k hk
theorem plP_erase {J:List Nat} {j:Nat} (hj:j∈J):∀(r:List (Nat×Nat)) (l:Array Bool),PlP ops J r l→PlP ops (J.erase j) r (l.setIfInBounds j true)
 |[],l,h=>fun k o ho hk hl q hq=>by
  have hkj:k≠j:=by
   rintro rfl;by_cases hlt:k<l.size
   ·simp[hlt] at hl
   ·simp[hlt] at hl
  rw[getD_set_ne true (Ne.symm hkj)] at hl;exact h k o ho (fun hm=>hk ((List.mem_erase_of_ne hkj).2 hm)) hl q (List.mem_of_mem_erase hq)
 |(c,i) :: r,l,⟨h1,h2,h3,h4,h5⟩=>by
  have hij:i≠j:=fun e=>h2 (e▸hj)
  refine⟨ready_mono h1 hij,fun hm=>h2 (List.mem_of_mem_erase hm),fun hc oi ho q oq hq hqi hl hn=>?_,fun hc k hk=>?_,?_⟩
  ·by_cases hqj:q=j
   ·subst hqj;by_cases hlt:q<l.size
    ·simp[hlt] at hl
    ·simp[hlt] at hl
   ·rw[getD_set_ne true (Ne.symm hqj)] at hl;exact h3 hc oi ho q oq hq hqi hl hn
  ·refine h4 hc k ?_;rw[lset_perm (List.perm_cons_erase hj) l];exact hk
  ·rw[set2_comm];exact plP_erase hj r _ h5
theorem FltAt.put {j:Nat} {a:Act} {w w2:World} {d:Option Tmp} {u:Value} (hsel:Region.noSelect ops=true) (h:FltAt P ops W R j a w) (hw:Ext w w2) (hd:∀o,ops[j]?=some o→∀t,d=some t→t∉o.looksAt ops):FltAt P ops W R j (a.put d u) w2:=by
 obtain⟨o,ho,h1,h2⟩:=h;refine⟨o,ho,by rw[wanted_put o a d u (hd o ho)];exact h1,fun w' hx hW=>?_⟩;rw[execOp_put o (Region.noSelect_spec hsel j o · · ho) a d u (hd o ho)];exact h2 w' (hw.trans hx) hW
theorem ordT_put {d:Option Tmp} {v:Value} {Fin Fin':Act→World→Prop} {Rj:World→Prop} (hsel:Region.noSelect ops=true) (hRj:∀w w',Rj w→Ext w w'→Rj w') (hF:∀a w w2,Ext w w2→Rj w2→Fin a w→Fin' (a.put d v) w2) :
  ∀(r:List (Nat×Nat)) (a:Act) (w w2:World),(∀x∈r,∀o,ops[x.2]?=some o→(∀t,d=some t→t∉o.looksAt ops)∧(∀t,d=some t→o.dst≠some t))→Ext w w2→Rj w2→wpOrdT P ops W Fin r a w→wpOrdT P ops W Fin' r (a.put d v) w2
 |[],a,w,w2,_,hw,hr,h=>hF a w w2 hw hr h
 |(c,i) :: r,a,w,w2,hx,hw,hr,⟨o,ho,h⟩=>by
  obtain⟨hx1,hx2⟩:=hx (c,i) List.mem_cons_self o ho;have hxr:=fun x hm=>hx x (List.mem_cons_of_mem _ hm)
  have hso:=fun cs b=>Region.noSelect_spec hsel i o cs b ho
  refine⟨o,ho,?_⟩;by_cases h0:c=0
  ·rw[if_pos h0] at h ⊢;obtain⟨u,hy,h⟩:=h;refine⟨u,hy.of_same (execOp_put o hso a d v hx1) (wanted_put o a d v hx1),?_⟩;rw[Act.put_comm a v u hx2];exact ordT_put hsel hRj hF r _ _ _ hxr hw hr h
  ·rw[if_neg h0] at h ⊢;by_cases h1:c=1
   ·rw[if_pos h1] at h ⊢;obtain⟨u,hy,h⟩:=h;refine⟨u,hy.of_same (execOp_put o hso a d v hx1) (wanted_put o a d v hx1),?_⟩;rw[Act.put_comm a v u hx2];exact ordT_put hsel hRj hF r _ _ _ hxr hw hr h
   ·rw[if_neg h1] at h ⊢;intro w' hx' hW;exact wpOp_put2 ho hso hx1 hx2 (fun a' w'' hk=>⟨hk.1,ordT_put hsel hRj hF r a' w'' w'' hxr (Ext.refl _) (hRj _ _ (hRj _ _ hr hx') hk.1) hk.2⟩) (h w' (hw.trans hx') hW)
theorem putJ_congr {vs us:Nat→Value}:∀(J:List Nat) (a:Act),(∀j∈J,vs j=us j)→putJ ops vs J a=putJ ops us J a
 |[],_,_=>rfl
 |j :: J,a,h=>by
  show putJ ops vs J (a.put (dstOf ops j) (vs j))=putJ ops us J (a.put (dstOf ops j) (us j))
  rw[h j List.mem_cons_self];exact putJ_congr J _ fun k hk=>h k (List.mem_cons_of_mem _ hk)
theorem finJ_put {G:Act→World→Prop} {J:List Nat} {j:Nat} {v:Value} {o:Oper} (hj:j∈J) (hn:J.Nodup) (ho:ops[j]?=some o) (hR:∀j v w w',R j v w→Ext w w'→R j v w')
  (hap:∀x∈J,∀y∈J,x≠y→∀d,dstOf ops x=some d→dstOf ops y≠some d) (a:Act) (w w2:World) (hw:Ext w w2) (hr:R j v w2) (h:FinJ ops R G J a w):FinJ ops R G (J.erase j) (a.put o.dst v) w2:=by
 intro w' vs hx hv;have h1:=h w' (fun k=>if k=j then v else vs k) (hw.trans hx) (fun k hk=>by
  by_cases hkj:k=j
  ·subst hkj;simpa using hR _ _ _ _ hr hx
  ·simpa[hkj] using hv k ((List.mem_erase_of_ne hkj).2 hk))
 have e:putJ ops (fun k=>if k=j then v else vs k) J a=putJ ops vs (J.erase j) (a.put o.dst v):=by
  unfold putJ;rw[(List.perm_cons_erase hj).foldl_eq' (fun x hx y hy z=>?_) a]
  ·show putJ ops (fun k=>if k=j then v else vs k) (J.erase j) (a.put (dstOf ops j) (if j=j then v else vs j))=_
   rw[if_pos rfl,show dstOf ops j=o.dst by simp[dstOf,ho]];exact putJ_congr _ _ fun k hk=>if_neg (fun e=>(List.Nodup.mem_erase_iff hn).1 (e▸hk) |>.1 rfl)
  ·by_cases hxy:x=y
   ·subst hxy;rfl
   ·exact Act.put_comm z _ _ (hap x hx y hy hxy)
 rw[←e];exact h1
structure JOk (ops:Array Oper) (J:List Nat) (r:List (Nat×Nat)):Prop where
 nd:J.Nodup
 jj:∀x∈J,∀y∈J,x≠y→∀ox oy,ops[x]?=some ox→ops[y]?=some oy→ox.apart ops oy=true
 jr:∀x∈r,∀j∈J,∀ox oj,ops[x.2]?=some ox→ops[j]?=some oj→oj.apart ops ox=true
theorem JOk.erase {J:List Nat} {r:List (Nat×Nat)} (h:JOk ops J r) (j:Nat):JOk ops (J.erase j) r:=
 ⟨h.nd.erase j,fun x hx y hy=>h.jj x (List.mem_of_mem_erase hx) y (List.mem_of_mem_erase hy),fun x hx k hk=>h.jr x hx k (List.mem_of_mem_erase hk)⟩
theorem JOk.tail {J:List Nat} {r:List (Nat×Nat)} {x:Nat×Nat} (h:JOk ops J (x :: r)):JOk ops J r:=⟨h.nd,h.jj,fun y hy=>h.jr y (List.mem_cons_of_mem _ hy)⟩
theorem JOk.dst {J:List Nat} {r:List (Nat×Nat)} (h:JOk ops J r):∀x∈J,∀y∈J,x≠y→∀d,dstOf ops x=some d→dstOf ops y≠some d:=by
 intro x hx y hy hxy d hd he;unfold dstOf at hd he;cases hox:ops[x]? with
 |none=>simp[hox] at hd
 |some ox=>
  cases hoy:ops[y]? with
  |none=>simp[hoy] at he
  |some oy=>
   simp only[hox,hoy,Option.bind_some] at hd he;exact (Oper.apart_spec (h.jj x hx y hy hxy ox oy hox hoy)).2.1 d hd he
theorem flt_sound (hsel:Region.noSelect ops=true) (hR:∀j v w w',R j v w→Ext w w'→R j v w') {G:Act→World→Prop} {lE:Array Bool} {f:Nat}
  (hEnd:∀a w,Ext W w→G a w→wpAnyE P ops F (fun w=>Ext W w) ops.size f lE a w) :
  ∀(m:Nat) (J:List Nat) (r:List (Nat×Nat)) (l:Array Bool) (a:Act) (w:World),J.length+r.length=m→JOk ops J r→(∀j∈J,j∈Region.ready .any ops l)→PlP ops J r l→Closed ops l→l.size=ops.size→lset (r.map (·.2)) (lset J l)=lE→Ext W w →
   (∀j∈J,FltAt P ops W R j a w)→wpOrdT P ops W (FinJ ops R G J) r a w→wpAnyE P ops F (fun w=>Ext W w) ops.size (m+f) l a w:=by
 intro m
 induction m with
 |zero=>
  intro J r l a w hm hJ hr hP hc hz hl hS hF h;obtain rfl:J=[]:=List.length_eq_zero_iff.1 (by omega);obtain rfl:r=[]:=List.length_eq_zero_iff.1 (by omega);have h1:=h w (fun _=>undef) (Ext.refl _) (by simp);have e:l=lE:=hl;rw[Nat.zero_add,e];exact hEnd a w hS h1
 |succ m ih=>
  intro J r l a w hm hJ hr hP hc hz hl hS hF h;have hnoe:∀l':Array Bool,l'.size=ops.size→l'.getD ops.size false=false:=fun l' hz'=>by simp[←hz']
  have take:∀j∈J,wpOp P ops noQ j (fun a' w'=>((l.setIfInBounds j true).getD ops.size false=false→Ext W w')∧wpAnyE P ops F (fun w=>Ext W w) ops.size (m+f) (l.setIfInBounds j true) a' w') a w:=by
   intro j hj;obtain⟨o,ho,hw,hrun⟩:=hF j hj;obtain⟨v,w2,hv,hx,hRv⟩:=hrun w (Ext.refl _) hS;unfold wpOp;simp only[ho,hw,if_true];refine .inl ?_;unfold Oper.wp;rw[hv];simp only[Oper.upon];refine⟨fun _=>hS.trans hx,ih (J.erase j) r _ _ _ ?_ (hJ.erase j) ?_ (plP_erase hj r l hP) (closed_set hc (hr j hj)) (by simpa using hz) ?_ (hS.trans hx) ?_ ?_⟩
   ·have:=List.length_erase_of_mem hj;have:=List.length_pos_of_mem hj;omega
   ·intro k hk;have hkj:k≠j:=fun e=>((List.Nodup.mem_erase_iff hJ.nd).1 hk).1 e
    exact ready_mono (hr k (List.mem_of_mem_erase hk)) hkj
   ·rw[←hl,lset_perm (List.perm_cons_erase hj) l];rfl
   ·intro k hk;have hkj:k≠j:=fun e=>((List.Nodup.mem_erase_iff hJ.nd).1 hk).1 e
    exact (hF k (List.mem_of_mem_erase hk)).put hsel hx fun ok hok=>(Oper.apart_spec (hJ.jj j hj k (List.mem_of_mem_erase hk) (Ne.symm hkj) o ok ho hok)).1
   ·exact ordT_put (Rj:=R j v) hsel (hR j v) (fun a w w2 hw hr h=>finJ_put hj hJ.nd ho hR hJ.dst a w w2 hw hr h) r a w w2
     (fun x hx ox hox=>⟨(Oper.apart_spec (hJ.jr x hx j hj ox o hox ho)).1,(Oper.apart_spec (hJ.jr x hx j hj ox o hox ho)).2.1⟩) hx hRv h
  cases r with
  |nil=>
   rw[show m+1+f=(m+f)+1 by omega];have hJ0:∃j,j∈J:=by
    cases J with
    |nil=>simp at hm
    |cons j J=>exact⟨j,List.mem_cons_self⟩
   obtain⟨j0,hj0⟩:=hJ0;refine⟨fun hh=>(by have:=hr j0 hj0;rw[hh] at this;cases this),fun k hk=>?_⟩;by_cases hkJ:k∈J
   ·exact take k hkJ
   ·exfalso
    obtain⟨hl0,o,ho,hall⟩:=mem_ready.1 hk;have hn:=hP k o ho hkJ hl0 j0 hj0;obtain⟨s,hs⟩:∃s,ops.size=s+1:=⟨ops.size-1,by have:=(Array.getElem?_eq_some_iff.1 ho).1;omega⟩
    rw[hs] at hn;unfold needsB at hn;simp only[ho] at hn;obtain⟨x,hx,hb⟩:=Array.any_eq_true'.1 hn;simp only[Bool.and_eq_true,Bool.or_eq_true,beq_iff_eq] at hb;have h1:=hall x hx hb.1;have h2:Ls l j0:=by
     rcases hb.2 with h2|h2
     ·rw[←h2];exact h1
     ·exact needs_spec hc _ _ _ h2 h1
    have h3:=(mem_ready.1 (hr j0 hj0)).1;have hlt:j0<l.size:=by
     rcases Nat.lt_or_ge j0 l.size with h'|h'
     ·exact h'
     ·simp[Array.getElem?_eq_none h'] at h3
    have h2':l.getD j0 false=true:=h2;simp[hlt] at h2' h3;rw[h2'] at h3;cases h3
  |cons x r=>
   obtain⟨c,i⟩:=x;obtain⟨o,ho,h⟩:=h;obtain⟨hi,hiJ,hfree,honly,hP'⟩:=hP;have hl':lset (r.map (·.2)) (lset J (l.setIfInBounds i true))=lE:=by
    rw[←hl,←lset_set];rfl
   have hr':∀j∈J,j∈Region.ready .any ops (l.setIfInBounds i true):=fun j hj=>ready_mono (hr j hj) (fun e=>hiJ (e▸hj))
   have hjx:∀j∈J,∀oj,ops[j]?=some oj→∀t,o.dst=some t→t∉oj.looksAt ops:=fun j hj oj hoj=>(Oper.apart_spec (hJ.jr (c,i) List.mem_cons_self j hj o oj ho hoj)).2.2
   have hlen:J.length+r.length=m:=by simp only[List.length_cons] at hm;omega
   rw[show m+1+f=(m+f)+1 by omega];by_cases h0:c=0
   ·rw[if_pos h0] at h;obtain⟨v,hy,h⟩:=h;refine wpAnyE_first (c:=true) ho (Region.noSelect_spec hsel) (by have:=(Array.getElem?_eq_some_iff.1 ho).1;omega) (fun _ l' _ hz' _=>hnoe l' hz') (m+f) l a w hc hz (hfree (.inl h0) o ho) hi hy (fun _=>hS) ?_;exact ih J r _ _ _ hlen hJ.tail hr' hP' (closed_set hc hi) (by simpa using hz) hl' hS (fun j hj=>(hF j hj).put hsel (Ext.refl _) (hjx j hj)) h
   ·rw[if_neg h0] at h;by_cases h1:c=1
    ·rw[if_pos h1] at h;obtain⟨v,hy,h⟩:=h;refine wpAnyE_first (c:=false) ho (Region.noSelect_spec hsel) (by have:=(Array.getElem?_eq_some_iff.1 ho).1;omega) (fun hh=>by cases hh) (m+f) l a w hc hz (hfree (.inr h1) o ho) hi hy (fun _=>hS) ?_;exact ih J r _ _ _ hlen hJ.tail hr' hP' (closed_set hc hi) (by simpa using hz) hl' hS (fun j hj=>(hF j hj).put hsel (Ext.refl _) (hjx j hj)) h
    ·rw[if_neg h1] at h;refine⟨fun hh=>(by rw[hh] at hi;cases hi),fun k hk=>?_⟩;by_cases hkJ:k∈J
     ·exact take k hkJ
     ·obtain rfl:=honly (by simp[h0,h1]) k (lset_ready hk hkJ);have h2:=wpOp_inv (Inv:=fun a=>∀j∈J,FltAt P ops W R j a w) ho (fun a u hh j hj=>(hh j hj).put hsel (Ext.refl _) (hjx j hj)) (fun a d hh j hj=>hh j hj) hF (h w (Ext.refl _) hS);refine wpOp_mono (fun a' w' hk=>?_) h2;obtain⟨h3,h4,h5⟩:=hk;exact⟨fun _=>hS.trans h4,ih J r _ _ _ hlen hJ.tail hr' hP' (closed_set hc hi) (by simpa using hz) hl' (hS.trans h4) (fun j hj=>by
       obtain⟨oj,hoj,h6,h7⟩:=h3 j hj;exact⟨oj,hoj,h6,fun w2 hx hW=>h7 w2 (h4.trans hx) hW⟩) h5⟩
def ordPB (ops:Array Oper):List (Nat×Nat)→Array Bool→Bool
 |[],_=>true
 |(c,i) :: r,l=>(if c=0∨c=1 then (Region.ready .any ops l).contains i&&Region.free .any ops l i else decide (Region.ready .any ops l=[i]))&&ordPB ops r (l.setIfInBounds i true)
theorem ordP_sound (hsel:Region.noSelect ops=true) {f:Nat} {lE:Array Bool}:∀(r:List (Nat×Nat)) (l:Array Bool) (a:Act) (w:World),ordPB ops r l=true→Closed ops l→l.size=ops.size→Ext W w→lset (r.map (·.2)) l=lE →
  (∀x∈r,x.1=0∨x.1=1∨x.1=2)→wpOrd P ops (fun a w=>Ext W w→wpAnyE P ops F (fun w=>Ext W w) ops.size f lE a w) (fun w=>Ext W w) r a w→wpAnyE P ops F (fun w=>Ext W w) ops.size (r.length+f) l a w
 |[],l,a,w,_,_,_,hS,hl,_,h=>by
  have e:l=lE:=hl;rw[List.length_nil,Nat.zero_add,e];exact h hS
 |(c,i) :: r,l,a,w,hB,hc,hz,hS,hl,hcl,⟨o,ho,h⟩=>by
  rw[ordPB,Bool.and_eq_true] at hB;obtain⟨hB,hR⟩:=hB;have hnoe:∀l':Array Bool,l'.size=ops.size→l'.getD ops.size false=false:=fun l' hz'=>by simp[←hz']
  have hne:i≠ops.size:=by have:=(Array.getElem?_eq_some_iff.1 ho).1;omega
  have hcl':∀x∈r,x.1=0∨x.1=1∨x.1=2:=fun x hx=>hcl x (List.mem_cons_of_mem _ hx)
  rw[List.length_cons,show r.length+1+f=(r.length+f)+1 by omega];by_cases h0:c=0
  ·rw[if_pos (.inl h0)] at hB;rw[if_pos h0] at h;simp only[Bool.and_eq_true] at hB;obtain⟨v,hy,h⟩:=h;have hr:i∈Region.ready .any ops l:=by simpa using hB.1
   exact wpAnyE_first (c:=true) ho (Region.noSelect_spec hsel) hne (fun _ l' _ hz' _=>hnoe l' hz') (r.length+f) l a w hc hz (Region.free_spec ho hB.2) hr hy (fun _=>hS) (ordP_sound hsel r _ _ _ hR (closed_set hc hr) (by simpa using hz) hS hl hcl' h)
  ·rw[if_neg h0] at h;by_cases h1:c=1
   ·rw[if_pos (.inr h1)] at hB;rw[if_pos h1] at h;simp only[Bool.and_eq_true] at hB;obtain⟨v,hy,h⟩:=h;have hr:i∈Region.ready .any ops l:=by simpa using hB.1
    exact wpAnyE_first (c:=false) ho (Region.noSelect_spec hsel) hne (fun hh=>by cases hh) (r.length+f) l a w hc hz (Region.free_spec ho hB.2) hr hy (fun _=>hS) (ordP_sound hsel r _ _ _ hR (closed_set hc hr) (by simpa using hz) hS hl hcl' h)
   ·rw[if_neg (by simp[h0,h1])] at hB;have h2:c=2:=by
     rcases hcl (c,i) List.mem_cons_self with h|h|h
     ·exact absurd h h0
     ·exact absurd h h1
     ·exact h
    rw[if_neg h1,if_pos h2] at h;have hr1:Region.ready .any ops l=[i]:=of_decide_eq_true hB;have hri:i∈Region.ready .any ops l:=by rw[hr1];exact List.mem_singleton.2 rfl
    refine⟨fun hh=>(by rw[hr1] at hh;cases hh),fun j hj=>?_⟩;rw[hr1] at hj;obtain rfl:=List.mem_singleton.1 hj;exact wpOp_mono (fun a' w' hk=>⟨fun _=>hk.1,ordP_sound hsel r _ _ _ hR (closed_set hc hri) (by simpa using hz) hk.1 hl hcl' hk.2⟩) h
def wpOrdTL (P:Program) (ops:Array Oper) (W:World) (Fin:Act→World→Prop):List (Nat×Nat×Option Oper)→Act→World→Prop
 |[],a,w=>Fin a w
 |(_,_,none) :: _,_,_=>False
 |(c,_,some o) :: r,a,w=>
  if c=0 then ∃v,YieldsIf P ops (fun w=>true=true→Ext W w) o v a∧wpOrdTL P ops W Fin r (a.put o.dst v) w
  else if c=1 then ∃v,YieldsIf P ops (fun w=>false=true→Ext W w) o v a∧wpOrdTL P ops W Fin r (a.put o.dst v) w
  else ∀w',Ext w w'→Ext W w'→wpList P ops (fun e a' w''=>e=.normal∧Ext w' w''∧wpOrdTL P ops W Fin r a' w'') [o] a w'
theorem ordT_of_L {Fin:Act→World→Prop}:∀(ord:List (Nat×Nat)) (a:Act) (w:World),wpOrdTL P ops W Fin (ord.map fun x=>(x.1,x.2,ops[x.2]?)) a w→wpOrdT P ops W Fin ord a w
 |[],a,w,h=>h
 |(c,i) :: r,a,w,h=>by
  rw[List.map_cons] at h;cases ho:ops[i]? with
  |none=>simp only[ho] at h;exact False.elim h
  |some o=>
   simp only[ho] at h;unfold wpOrdTL at h;refine⟨o,ho,?_⟩;by_cases h0:c=0
   ·rw[if_pos h0] at h ⊢;obtain⟨v,hy,h⟩:=h;exact⟨v,hy,ordT_of_L r _ _ h⟩
   ·rw[if_neg h0] at h ⊢;by_cases h1:c=1
    ·rw[if_pos h1] at h ⊢;obtain⟨v,hy,h⟩:=h;exact⟨v,hy,ordT_of_L r _ _ h⟩
    ·rw[if_neg h1] at h ⊢;intro w' hx hW;exact wpOp_mono (fun a' w'' hk=>⟨hk.1,ordT_of_L r _ _ hk.2⟩) (op_of_list ho (h w' hx hW))
def jokB (ops:Array Oper) (J:List Nat) (r:List (Nat×Nat)):Bool:=
 J.all (fun x=>J.all fun y=>x==y||(match ops[x]?,ops[y]? with | some ox,some oy=>ox.apart ops oy | _,_=>false)) &&
 r.all (fun x=>J.all fun j=>match ops[x.2]?,ops[j]? with|some ox,some oj=>oj.apart ops ox|_,_=>false)
theorem jok_of {J:List Nat} {r:List (Nat×Nat)} (hn:J.Nodup) (h:jokB ops J r=true):JOk ops J r:=by
 simp only[jokB,Bool.and_eq_true,List.all_eq_true] at h;refine⟨hn,fun x hx y hy hxy ox oy hox hoy=>?_,fun x hx j hj ox oj hox hoj=>?_⟩
 ·have h1:=h.1 x hx y hy
  simpa[hox,hoy,hxy] using h1
 ·have h1:=h.2 x hx j hj
  simpa[hox,hoj] using h1
def closedB (ops:Array Oper) (l:Array Bool):Bool:=(List.range ops.size).all fun i=>!(l.getD i false)||match ops[i]? with | some o=>o.after.all fun e=>!(Region.binds .any e)||l.getD e.on false | none=>true
theorem closed_of {l:Array Bool} (h:closedB ops l=true):Closed ops l:=fun i o ho hl e he hb=>by
 have h1:=List.all_eq_true.1 h i (List.mem_range.2 (Array.getElem?_eq_some_iff.1 ho).1);have hl':l.getD i false=true:=hl;simp only[ho,hl',Bool.not_true,Bool.false_or] at h1;have h2:=Array.all_eq_true_iff_forall_mem.1 h1 e he;simp only[hb,Bool.not_true,Bool.false_or] at h2;exact h2
def fltB (ops:Array Oper) (o1:List (Nat×Nat)) (J:List Nat) (r o2:List (Nat×Nat)):Bool:=
 ordPB ops o1 (Array.replicate ops.size false)&&(o1.all (fun x=>decide (x.1≤2))&&(decide J.Nodup&&(jokB ops J r&&(J.all (fun j=>(Region.ready .any ops (lset (o1.map (·.2)) (Array.replicate ops.size false))).contains j) &&
 (plB ops J r (lset (o1.map (·.2)) (Array.replicate ops.size false))&&(closedB ops (lset (o1.map (·.2)) (Array.replicate ops.size false))&&(closedB ops (lset (r.map (·.2)) (lset J (lset (o1.map (·.2)) (Array.replicate ops.size false)))) &&
 (ordB ops ops.size o2 (lset (r.map (·.2)) (lset J (lset (o1.map (·.2)) (Array.replicate ops.size false))))&&decide (o1.length+(J.length+r.length+o2.length)=ops.size)))))))))
theorem lset_size (J:List Nat) (l:Array Bool):(lset J l).size=l.size:=by
 induction J generalizing l with
 |nil=>rfl
 |cons j J ih=>show (lset J (l.setIfInBounds j true)).size=_;rw[ih];simp
theorem wpOrd_mono {F':Act→World→Prop} {S:World→Prop} (hF:∀a w,F a w→F' a w):∀(r:List (Nat×Nat)) (a:Act) (w:World),wpOrd P ops F S r a w→wpOrd P ops F' S r a w
 |[],a,w,h=>hF a w h
 |(c,i) :: r,a,w,⟨o,ho,h⟩=>by
  refine⟨o,ho,?_⟩;by_cases h0:c=0
  ·rw[if_pos h0] at h ⊢;obtain⟨v,hy,h⟩:=h;exact⟨v,hy,wpOrd_mono hF r _ _ h⟩
  ·rw[if_neg h0] at h ⊢;by_cases h1:c=1
   ·rw[if_pos h1] at h ⊢;obtain⟨v,hy,h⟩:=h;exact⟨v,hy,wpOrd_mono hF r _ _ h⟩
   ·rw[if_neg h1] at h ⊢;by_cases h2:c=2
    ·rw[if_pos h2] at h ⊢;exact wpOp_mono (fun a' w' hk=>⟨hk.1,wpOrd_mono hF r _ _ hk.2⟩) h
    ·rw[if_neg h2] at h ⊢;exact wpOp_mono (fun a' w' hk=>wpOrd_mono hF r _ _ hk) h
theorem wp_region_flt {Q:Exit→Act→World→Prop} {id:Nat} {os:List Oper} {a:Act} {w:World} (o1:List (Nat×Nat)) (J:List Nat) (r o2:List (Nat×Nat)) (R:Nat→Value→World→Prop) (hm:P.follows .mixedOrders=true) (hs:Region.noSelect os.toArray=true)
  (hB:fltB os.toArray o1 J r o2=true) (hR:∀j v w w',R j v w→Ext w w'→R j v w')
  (h:wpOrdL P os.toArray (fun a1 w1=>(∀j∈J,FltAt P os.toArray w R j a1 w1)∧wpOrdTL P os.toArray w (FinJ os.toArray R (fun a2 w2=>wpOrdL P os.toArray (Q .normal) (fun w'=>Ext w w') (o2.map fun x=>(x.1,x.2,os.toArray[x.2]?)) a2 w2) J) (r.map fun x=>(x.1,x.2,os.toArray[x.2]?)) a1 w1)
   (fun w'=>Ext w w') (o1.map fun x=>(x.1,x.2,os.toArray[x.2]?)) a w.drew):(Code.region id os.toArray true).wp P Q a w:=by
 refine wp_region_any hm ?_;simp only[fltB,Bool.and_eq_true,decide_eq_true_eq] at hB;obtain⟨h1,h2,h3,h4,h5,h6,h7,h8,h9,h10⟩:=hB;have hz0:(Array.replicate os.toArray.size false).size=os.toArray.size:=by simp
 have hS:Ext w w.drew:=(Ext.refl _).drew;have key:=ordP_sound (P:=P) (F:=Q .normal) (W:=w) (f:=J.length+r.length+o2.length) (lE:=lset (o1.map (·.2)) (Array.replicate os.toArray.size false)) hs o1 (Array.replicate os.toArray.size false) a w.drew h1 (fun i o _ hl=>absurd hl (ls_none _ _)) hz0 hS rfl
  (fun x hx=>by have:=of_decide_eq_true (List.all_eq_true.1 h2 x hx);omega)
  (wpOrd_mono (fun a1 w1 hk hS1=>by
   have:=flt_sound (P:=P) (F:=Q .normal) (W:=w) (R:=R) (f:=o2.length) (lE:=lset (r.map (·.2)) (lset J (lset (o1.map (·.2)) (Array.replicate os.toArray.size false)))) (G:=fun a2 w2=>wpOrdL P os.toArray (Q .normal) (fun w'=>Ext w w') (o2.map fun x=>(x.1,x.2,os.toArray[x.2]?)) a2 w2) hs hR
    (fun a2 w2 hS2 hG=>ord_sound (P:=P) hs o2 _ a2 w2 h9 (closed_of h8) (by rw[lset_size,lset_size,lset_size];exact hz0) (fun _=>hS2) (ord_of_L o2 a2 w2 hG))
    (J.length+r.length) J r _ a1 w1 rfl (jok_of h3 h4) (fun j hj=>by simpa using List.all_eq_true.1 h5 j hj) (plP_of J r _ h6) (closed_of h7) (by rw[lset_size];exact hz0) rfl hS1 hk.1 (ordT_of_L r a1 w1 hk.2)
   exact this) o1 a w.drew (ord_of_L o1 a w.drew h))
 rw[h10] at key;have h11:=wpAny_of_E _ _ _ _ key
 simpa using h11
section
variable {i:Nat} {r:List (Nat×Nat×Option Oper)} {a:Act} {w:World} {o:Oper} {v:Value} {Fin:Act→World→Prop}
theorem flt_nil (h:Fin a w):wpOrdTL P ops W Fin [] a w:=h
theorem flt_hold (hw:Region.wanted o (yielded ops a.tmps)=true) (hr:∀w',Ext W w'→(execOp a.eval o).run P w'=.ok (.value v) w') (h:wpOrdTL P ops W Fin r (a.put o.dst v) w):wpOrdTL P ops W Fin ((0,i,some o) :: r) a w:=by
 unfold wpOrdTL;rw[if_pos rfl];exact⟨v,.inl ⟨hw,fun w' hh=>hr w' (hh rfl)⟩,h⟩
theorem flt_pure (hw:Region.wanted o (yielded ops a.tmps)=true) (hr:∀w',(execOp a.eval o).run P w'=.ok (.value v) w') (h:wpOrdTL P ops W Fin r (a.put o.dst v) w):wpOrdTL P ops W Fin ((1,i,some o) :: r) a w:=by
 unfold wpOrdTL;rw[if_neg (by decide),if_pos rfl];exact⟨v,.inl ⟨hw,fun w' _=>hr w'⟩,h⟩
theorem flt_keep (h:∀w',Ext w w'→Ext W w'→wpList P ops (fun e a' w''=>e=.normal∧Ext w' w''∧wpOrdTL P ops W Fin r a' w'') [o] a w'):wpOrdTL P ops W Fin ((2,i,some o) :: r) a w:=by
 unfold wpOrdTL;rw[if_neg (by decide),if_neg (by decide)];exact h
end
end
end Go.Proofs.YtamldoocjjdidaaGreat
