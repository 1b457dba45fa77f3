import Derived.Test.YtamldoocjjdidaaGreatMBigAp
import Derived.Test.YtamldoocjjdidaaGreatMEdK1
namespace Go.Proofs.YtamldoocjjdidaaGreat
open Go.RowKit
set_option maxRecDepth 100000
set_option maxHeartbeats 64000000
theorem madeCells_bool (n:Nat):(madeCells (Value.cells (.bool false)) n).toList=bools (List.replicate n false):=by
 apply List.ext_getElem
 ·simp[madeCells,bools]
 ·intro i h1 h2;simp[madeCells,bools,Value.cells,Nat.mod_one]
theorem mkb (K:Nat) (h:K≤1000000):∃C:Array Value,C.toList=bools (List.replicate K false)∧C.size=K∧∀w':World,(Instr.makeSlice 106 (.int .i64 K) (.int .i64 K)).run Tryz.prog w'=.ok (.slice (some ⟨w'.heap.size,0,none⟩) K K) (w'.alloc (.cells C 4)):=by
 obtain⟨i0,hi0,hz0,hz1,hz2⟩:=info_parts bigb_info;refine⟨madeCells (Value.cells (.bool false)) K,madeCells_bool K,size_madeCells _ _,fun w'=>?_⟩;have:=run_make (P:=Tryz.prog) w' 106 4 i0 _ Tryz.underlying106 hi0 hz0 .i64 .i64 (K:Int) (K:Int) (by omega) (by omega) (by rw[hz2];omega) (by omega)
 simpa[hz1] using this
theorem zp_mul {ma mb:Bool} {a b l:List Bool} (h:val l=val a*val b):bigZ (ma != mb) l=bigZ ma a*bigZ mb b:=by
 have e:(val l:Int)=(val a:Int)*(val b:Int):=by rw[h];exact Int.natCast_mul _ _
 cases ma<;>cases mb
 ·show bigZ false l=_;rw[bigZ_f,bigZ_f,bigZ_f,e]
 ·show bigZ true l=_;rw[bigZ_t,bigZ_f,bigZ_t,e,Int.mul_neg]
 ·show bigZ true l=_;rw[bigZ_t,bigZ_f,bigZ_t,e,Int.neg_mul]
 ·show bigZ false l=_;rw[bigZ_f,bigZ_t,bigZ_t,e,Int.neg_mul_neg]
structure MulRel (w wr:World) (ga:Nat) (va vb:Array Value) (a b:List Bool) (i:Nat):Prop where
 ext:Ext w wr
 ba:Blk wr ga 134 va
 bb:Blk wr (ga+1) 134 vb
 bo:Blk wr (ga+2) 134 #[.bool false,.slice none 0 0]
 o:∃A c l,Blk wr (ga+3) 134 #[.bool false,.slice A l.length c]∧Rd wr 1 A l.length (bools l)∧l.length≤c∧c≤maxLen∧val l=val (a.take i)*val b∧l.length≤i+b.length+1∧∀b off,A=some ⟨b,off,none⟩→ga+4≤b
theorem mul_any (ma mb:Bool) (A B:Option Addr) (n c k d:Nat) (a b:List Bool) (w:World) (ha:Rd w 1 A n (bools a)) (hb:Rd w 1 B k (bools b)) (hn:n≤20000) (hk:k≤20000) :
  Calls Tryz.prog 98 #[bigV ma A n c,bigV mb B k d] w (BigFr w (ZP (bigZ ma a*bigZ mb b) (n+k+1))):=by
 obtain⟨i0,hi0,hz0,hz1,hz2⟩:=info_parts bigb_info;have HI:=AB (And.intro hi0 (And.intro hz0 (And.intro hz1 hz2)));have la:a.length=n:=by have:=ha.len;simpa[bools] using this
 have lb:b.length=k:=by have:=hb.len;simpa[bools] using this
 have HL:=AB (And.intro la lb);clear la lb hi0 hz0 hz1 hz2;go_enter Tryz.func98,Tryz.ntmps98;go_wp2_with fail;have Ba:Blk ((((w.alloc (.cells #[.bool ma,.slice A n c] 134)).alloc (.cells #[.bool mb,.slice B k d] 134)).alloc (.cells #[.bool false,.slice none 0 0] 134)).alloc (.cells #[.bool false,.slice none 0 0] 134)) w.heap.size 134 #[.bool ma,.slice A n c]:=(((Blk.new _ _ _).alloc _).alloc _).alloc _;have Bb:Blk ((((w.alloc (.cells #[.bool ma,.slice A n c] 134)).alloc (.cells #[.bool mb,.slice B k d] 134)).alloc (.cells #[.bool false,.slice none 0 0] 134)).alloc (.cells #[.bool false,.slice none 0 0] 134)) (w.heap.size+1) 134 #[.bool mb,.slice B k d]:=((Blk.new1 _ _ _ _).alloc _).alloc _;have Bo:Blk ((((w.alloc (.cells #[.bool ma,.slice A n c] 134)).alloc (.cells #[.bool mb,.slice B k d] 134)).alloc (.cells #[.bool false,.slice none 0 0] 134)).alloc (.cells #[.bool false,.slice none 0 0] 134)) (w.heap.size+2) 134 #[.bool false,.slice none 0 0]:=(Blk.new2 _ _ _ _ _).alloc _;have Bv:Blk ((((w.alloc (.cells #[.bool ma,.slice A n c] 134)).alloc (.cells #[.bool mb,.slice B k d] 134)).alloc (.cells #[.bool false,.slice none 0 0] 134)).alloc (.cells #[.bool false,.slice none 0 0] 134)) (w.heap.size+3) 134 #[.bool false,.slice none 0 0]:=by
  have h:=Blk.new (((w.alloc (.cells #[.bool ma,.slice A n c] 134)).alloc (.cells #[.bool mb,.slice B k d] 134)).alloc (.cells #[.bool false,.slice none 0 0] 134)) 134 #[.bool false,.slice none 0 0]
  simpa only[World.size_alloc] using h
 have E0:Ext w ((((w.alloc (.cells #[.bool ma,.slice A n c] 134)).alloc (.cells #[.bool mb,.slice B k d] 134)).alloc (.cells #[.bool false,.slice none 0 0] 134)).alloc (.cells #[.bool false,.slice none 0 0] 134)):=((((Ext.refl _).alloc _).alloc _).alloc _).alloc _;generalize ((((w.alloc (.cells #[.bool ma,.slice A n c] 134)).alloc (.cells #[.bool mb,.slice B k d] 134)).alloc (.cells #[.bool false,.slice none 0 0] 134)).alloc (.cells #[.bool false,.slice none 0 0] 134))=wa at *;generalize hga:w.heap.size=ga at *;have HGA:=AB hga;clear hga;go_loopw [6] (fun iv wr=>∃i:Nat,i≤n∧iv=.int .i64 i∧MulRel w wr ga #[.bool ma,.slice A n c] #[.bool mb,.slice B k d] a b i) (fun iv _=>n-(intOf iv).toNat)
 case atStart=>exact⟨0,Nat.zero_le _,rfl,E0,Ba,Bb,Bo,none,0,[],Bv,Rd.nil _ _ _,Nat.le_refl _,by simp[maxLen],by simp[val],by simp,by intro b off h;cases h⟩
 case round=>
  clear Ba Bb Bo Bv E0 wa;obtain⟨i,hi,rfl,E0,Ba,Bb,Bo,Ao,co,lo,Bv,Ro,ko1,ko2,hV,hLo,hne⟩:=hrel;generalize wr=W0 at *;have da:=Ba.cell;have za:=Ba.lt;have zv:=Bv.lt;by_cases hlt:i<n
  ·have hltI:(i:Int)<(n:Int):=by omega
   obtain⟨bk,off,u,rfl,hbk,hu,hc⟩:=(ha.ext E0).get hlt;obtain⟨dg,hd,rfl⟩:=bools_get hu;have hgd:a.getD i false=dg:=by rw[List.getD_eq_getElem?_getD,hd];rfl
   have HV:=AB hV;have HGD:=AB hgd;clear hu hd hV hgd;cases dg
   ·have hstep:=mul_step0 (AA HV) (AA HGD);have HS:=AB hstep;clear hstep;go_wp2_with fail;go_roundw
    case rel=>exact⟨i+1,by omega,by go_num,E0,Ba,Bb,Bo,Ao,co,lo,Bv,Ro,ko1,ko2,AA HS,by omega,hne⟩
    case measure=>simp[intOf];omega
   ·obtain⟨C,hC1,hC2,hmk⟩:=mkb i (by omega);have HC:=AB (And.intro hC1 hC2);have HMK:=AB hmk;have HBB:=AB hb;have HAA:=AB ha;clear hC1 hC2 hmk hb ha;go_wp2_with fail;refine wp_region_linI (by kernel_rfl) (fun w'=>(ExtX W0 w' [(ga+3)])∧(∃A9 n9 c9,Blk w' (ga+3) 134 #[.bool false,.slice A9 n9 c9])) (fun ii vv ww=>match ii with|0=>vv=.pointer (some ⟨(ga+3),1,none⟩)|1=>vv=.slice Ao lo.length co|2=>vv=.int .i64 i|3=>∃g,W0.heap.size≤g∧vv=.slice (some ⟨g,0,none⟩) i i∧Blk ww g 4 C|4=>vv=.pointer (some ⟨(ga+1),1,none⟩)|5=>vv=.slice B k d|6=>∃A0 c0,vv=.slice A0 (i+k) c0∧Rd ww 1 A0 (i+k) (bools (List.replicate i false++b))|7=>∃A0 c0 l0,vv=.slice A0 l0.length c0∧Dig W0 ww A0 c0 l0∧val l0=val lo+val (List.replicate i false++b)∧l0.length≤i+k+2|8=>vv=.pointer (some ⟨(ga+3),1,none⟩)|9=>∃A0 c0 l0,Blk ww (ga+3) 134 #[.bool false,.slice A0 l0.length c0]∧Dig W0 ww A0 c0 l0∧val l0=val lo+val (List.replicate i false++b)∧l0.length≤i+k+2|_=>True) (fun ii=>match ii with|1=>[(0,20)]|3=>[(2,22)]|5=>[(4,24)]|6=>[(3,23),(5,25)]|7=>[(1,21),(6,26)]|9=>[(8,28),(7,27)]|_=>[]) (fun ii=>match ii with|0=>[5]|2=>[6]|4=>[3]|8=>[5]|_=>[]) (fun ii=>match ii with|0=>[2,4,3,5,6]|1=>[2,4,3,5,6]|2=>[0,4,5,1]|3=>[0,4,5,1]|4=>[0,2,3,1]|5=>[0,2,3,1]|6=>[0,1]|8=>[7]|_=>[]) [9] [0,1,0,4,0,16,60,127,255,511] (fun w0q=>Blk w0q (ga+3) 134 #[.bool false,.slice Ao lo.length co]) [9] 37 rfl (by kernel_rfl) (by kernel_rfl) (⟨ExtX.start _ _,_,_,_,Bv⟩) (Bv) ?_ ?_
    ·rename_i hcont;clear hcont
     refine⟨?_,?_,?_,?_,?_,?_,?_,?_,?_,?_,trivial⟩
     ·refine stepI_plain rfl ?_;rintro F a w1 ⟨jE,jO⟩ - ⟨t5,-⟩ iO K hK;have t5:a.tmps[5]?=some (.pointer (some ⟨ga+3,0,none⟩)):=t5;go_simp;exact hK _ _ ⟨jE,jO⟩ rfl (fun _ _ _ h=>h) (fun _=>iO)
     ·refine stepI_plain rfl ?_;rintro F a w1 ⟨jE,jO⟩ ⟨h0,t20,-⟩ - iO K hK;have h0:(F 0)=.pointer (some ⟨(ga+3),1,none⟩):=h0;rw[h0] at t20;clear h0;have c0:=iO.cell;go_simp;exact hK _ _ ⟨jE,jO⟩ rfl (fun _ _ _ h=>h) (fun _=>iO)
     ·refine stepI_plain rfl ?_;rintro F a w1 ⟨jE,jO⟩ - ⟨t6,-⟩ iO K hK;have t6:a.tmps[6]?=some (.int .i64 i):=t6;go_simp;exact hK _ _ ⟨jE,jO⟩ rfl (fun _ _ _ h=>h) (fun _=>iO)
     ·refine stepI_plain rfl ?_;rintro F a w1 ⟨jE,jO⟩ ⟨h2,t22,-⟩ - iO K hK;have h2:(F 2)=.int .i64 i:=h2;rw[h2] at t22;clear h2;have hmk:=AA HMK w1;go_simp;have hx:Ext w1 (w1.alloc (.cells C 4)):=(Ext.refl _).alloc _;exact hK _ _ ⟨jE.trans hx,jO.imp fun _ ⟨n9,c9,k⟩=>⟨n9,c9,k.ext hx⟩⟩ ⟨_,jE.size,rfl,Blk.new _ _ _⟩ (by intro jq hj uq h;have hj:jq∈[0,4,5,1]:=hj;simp only[List.mem_cons,List.not_mem_nil,or_false] at hj;rcases hj with rfl|rfl|rfl|rfl;exact h;exact h;exact h;exact h) (fun _=>iO.ext hx)
     ·refine stepI_plain rfl ?_;rintro F a w1 ⟨jE,jO⟩ - ⟨t3,-⟩ iO K hK;have t3:a.tmps[3]?=some (.pointer (some ⟨ga+1,0,none⟩)):=t3;go_simp;exact hK _ _ ⟨jE,jO⟩ rfl (fun _ _ _ h=>h) (fun _=>iO)
     ·refine stepI_plain rfl ?_;rintro F a w1 ⟨jE,jO⟩ ⟨h4,t24,-⟩ - iO K hK;have h4:(F 4)=.pointer (some ⟨(ga+1),1,none⟩):=h4;rw[h4] at t24;clear h4;have c0:=(jE.blk Bb (by simp)).cell;go_simp;exact hK _ _ ⟨jE,jO⟩ rfl (fun _ _ _ h=>h) (fun _=>iO)
     ·refine stepI_plain rfl ?_;rintro F a w1 ⟨jE,jO⟩ ⟨h3,t23,h5,t25,-⟩ - iO K hK;have h3:∃g,W0.heap.size≤g∧(F 3)=.slice (some ⟨g,0,none⟩) i i∧Blk w1 g 4 C:=h3;have h5:(F 5)=.slice B k d:=h5;rw[h5] at t25;clear h5;obtain⟨g1,hg1,e1,k1⟩:=h3;rw[e1] at t23;refine wp_append_rd (.tmp 23) (.tmp 25) _ rfl W0.heap.size 4 i0 _ 1 1 Tryz.underlying106 (AA HI).1 (AA HI).2.1 (AA HI).2.2.1 (AA HI).2.2.2 rfl (by omega) _ i (bools (List.replicate i false)) (eval_tmp t23) (by have h:=k1.own (base:=W0.heap.size) (n:=i) hg1 (AA HC).2 (by simp only[maxLen];omega);rwa [(AA HC).1] at h) B k d (bools b) (eval_tmp t25) ((AA HBB).ext (jE.ext E0 (by have:=AA HGA;simp;omega))) (one_bools b) (by simp only[maxLen];omega) (by omega) jE.size ?_;intro A' c' w2 own4 g4 at4;exact hK _ _ ⟨jE.grown g4 (fun m e=>by have e:g1=m:=Option.some.inj e;omega),jO.imp fun _ ⟨n9,c9,k⟩=>⟨n9,c9,k.keep g4 (fun e=>by have e:=Option.some.inj e;simp at e;omega)⟩⟩ ⟨A',c',rfl,by rw[bools_append];exact Rd.of_own own4⟩ (by intro jq hj uq h;have hj:jq∈[0,1]:=hj;simp only[List.mem_cons,List.not_mem_nil,or_false] at hj;rcases hj with rfl|rfl;exact h;exact h) (fun _=>iO.keep g4 (fun e=>by have e:=Option.some.inj e;simp at e;omega))
     ·refine stepI_plain rfl ?_;rintro F a w1 ⟨jE,jO⟩ ⟨h1,t21,h6,t26,-⟩ - iO K hK;have h1:(F 1)=.slice Ao lo.length co:=h1;rw[h1] at t21;clear h1;have h6:∃A0 c0,(F 6)=.slice A0 (i+k) c0∧Rd w1 1 A0 (i+k) (bools (List.replicate i false++b)):=h6;obtain⟨A6,c6,e6,k6⟩:=h6;rw[e6] at t26;go_simp
      with_reducible refine (plus_any Ao A6 lo.length co (i+k) c6 lo (List.replicate i false++b) _ (jE.rd Ro (by intro b off e;have:=hne b off e;simp;omega)) k6 (by have:=(AA HL).2;omega) (by omega)).mono ?_
      rintro e w2 ⟨A0,c0,l0,rfl,hR0,q1,q2,⟨q3,q4⟩,hx,hfr⟩;exact hK _ _ ⟨jE.trans hx,jO.imp fun _ ⟨n9,c9,k⟩=>⟨n9,c9,k.ext hx⟩⟩ ⟨A0,c0,l0,rfl,⟨hR0,q1,q2,fun b off e=>Nat.le_trans jE.size (hfr b off e)⟩,q3,by rw[q4];simp;have:=(AA HL).2;omega⟩ (fun _ hj _ _=>(List.not_mem_nil hj).elim) (fun _=>iO.ext hx)
     ·refine stepI_plain rfl ?_;rintro F a w1 ⟨jE,jO⟩ - ⟨t5,-⟩ iO K hK;have t5:a.tmps[5]?=some (.pointer (some ⟨ga+3,0,none⟩)):=t5;go_simp;exact hK _ _ ⟨jE,jO⟩ rfl (fun _ _ _ h=>h) (fun _=>iO)
     ·refine stepI_plain rfl ?_;rintro F a w1 ⟨jE,jO⟩ ⟨h8,t28,h7,t27,-⟩ - iO K hK;have h8:(F 8)=.pointer (some ⟨(ga+3),1,none⟩):=h8;rw[h8] at t28;clear h8;have h7:∃A0 c0 l0,(F 7)=.slice A0 l0.length c0∧Dig W0 w1 A0 c0 l0∧val l0=val lo+val (List.replicate i false++b)∧l0.length≤i+k+2:=h7;obtain⟨A1,c1,l1,e0,hD,hZ⟩:=h7;rw[e0] at t27;obtain⟨A9,n9,c9,k⟩:=jO;have c:=k.cell;have f:=k.frozen;clear iO;go_simp;exact hK undef _ ⟨jE.set (by simp) _,⟨_,_,_,k.set_ 1 _⟩⟩ ⟨A1,c1,l1,k.set_ 1 _,hD.set (by simp;omega) _,hZ⟩ (fun _ hj _ _=>(List.not_mem_nil hj).elim) (fun h=>(h (by simp)).elim)
    ·rintro F W9 ⟨jE,jO⟩ ⟨h9,-⟩;have h9:∃A0 c0 l0,Blk W9 (ga+3) 134 #[.bool false,.slice A0 l0.length c0]∧Dig W0 W9 A0 c0 l0∧val l0=val lo+val (List.replicate i false++b)∧l0.length≤i+k+2:=h9;obtain⟨A0,c0,l0,B1,hD,q1,q2⟩:=h9;simp only[putL,Act.put,Nat.reduceAdd,Nat.zero_add,List.setIfInBounds_toArray,List.set_cons_succ,List.set_cons_zero];have hx:Ext w W9:=jE.ext E0 (by have:=AA HGA;simp;omega);replace Ba:=jE.blk Ba (by simp);replace Bb:=jE.blk Bb (by simp);replace Bo:=jE.blk Bo (by simp);have hst:=mul_step1 (AA HV) (AA HGD) q1;have HS:=AB hst;clear jE jO q1 hst da;go_wp2_with fail;go_roundw
     case rel=>exact⟨i+1,by omega,by go_num,hx,Ba,Bb,Bo,A0,c0,l0,B1,hD.rd,hD.le,hD.mx,AA HS,by have:=(AA HL).2;omega,fun b off e=>by have:=hD.fr b off e;omega⟩
     case measure=>simp[intOf];omega
  ·obtain rfl:i=n:=by omega
   have hS:a.take i=a:=List.take_of_length_le (by have:=(AA HL).1;omega);rw[hS] at hV;have hzm:=zp_mul (ma:=ma) (mb:=mb) hV;obtain⟨sg,hsg⟩:∃s,(!(ma==mb))=s:=⟨_,rfl⟩
   have hsg2:(ma != mb)=sg:=hsg;rw[hsg2] at hzm;have HZ:=AB hzm;have db:=Bb.cell;have zb:=Bb.lt;have dv:=Bv.cell;have fv:=Bv.frozen;clear hS hV hzm ha hb hsg2;go_wp2_with fail;obtain⟨W1,hW1⟩:∃W1,W1=W0.setCell ⟨ga+3,0,none⟩ (.bool sg):=⟨_,rfl⟩
   clear hsg;rw[←hW1];have Bo1:Blk W1 (ga+2) 134 #[.bool false,.slice none 0 0]:=by rw[hW1];exact Bo.far (by simp) _
   have E1:Ext w W1:=by rw[hW1];exact E0.set (by have:=AA HGA;simp;omega) _
   have R1:Rd W1 1 Ao lo.length (bools lo):=by
    rw[hW1];exact Ro.grown (row:=some (ga+3)) ⟨rfl,rfl,rfl,by simp[World.setCell],fun j hj hn=>Below.heap_setCell W0 _ _ j (fun e=>hn (congrArg some e))⟩ (fun b off e h2=>by have:=hne b off e;injection h2 with h2;omega)
   clear hW1 Ba Bb Bv Bo Ro da za zv db zb dv fv E0;refine (short_any sg Ao lo.length co lo W1 R1 (by have:=(AA HL).2;omega) ko1 ko2).mono ?_;rintro e W2 ⟨m0,c1,l1,rfl,hR1,q1,q2,hS,hx⟩;have Bo2:=Bo1.ext hx;have E2:=E1.trans hx;have d2:=Bo2.cell;have f2:=Bo2.frozen;have z2:=Bo2.lt;clear Bo1 E1 hx R1;go_wp2_with fail;refine bodyPost_ret (results_cell1 rfl _ _ (ga+2) 134 _ _ rfl ((Bo2.set_ 0 _).set_ 1 _) Tryz.underlying134 rfl (by kernel_rfl)) rfl ?_;refine⟨m0,Ao,c1,l1,rfl,⟨?_,q1,q2,fun b off e=>by have:=hne b off e;have:=AA HGA;omega⟩,zp_of hS (by have:=(AA HL).2;omega) (AA HZ),(E2.set (by have:=AA HGA;simp;omega) _).set (by have:=AA HGA;simp;omega) _⟩;have hg:∀(W:World) (R:Rd W 1 Ao l1.length (bools l1)) (j:Nat) (v:Value),Rd (W.setCell ⟨ga+2,j,none⟩ v) 1 Ao l1.length (bools l1):=fun W R j v=>
    R.grown (row:=some (ga+2)) ⟨rfl,rfl,rfl,by simp[World.setCell],fun j' hj hn=>Below.heap_setCell W _ _ j' (fun e=>hn (congrArg some e))⟩ (fun b off e h2=>by have:=hne b off e;injection h2 with h2;omega)
   exact hg _ (hg _ hR1 0 _) 1 _
theorem zp_neg {z:Int} {k:Nat} {m:Bool} {l:List Bool} (h:ZP z k m l):m=decide (z<0):=by
 obtain⟨h1,h2,-,-⟩:=h;cases m
 ·rw[bigZ_f] at h1;simp;omega
 ·have:=h2 rfl;rw[bigZ_t] at h1;simp;omega
theorem refminus_any (x:Int) (h1:-9223372036854775808≤x) (h2:x≤9223372036854775807) (w:World) :
  Calls Tryz.prog 67 #[.int .i64 x] w (BigFr w (ZP (-x) 130)):=by
 go_enter Tryz.func67,Tryz.ntmps67;go_wp2_with fail;have Bo:Blk (w.alloc (.cells #[.bool false,.slice none 0 0] 134)) w.heap.size 134 #[.bool false,.slice none 0 0]:=Blk.new _ _ _;have E0:Ext w (w.alloc (.cells #[.bool false,.slice none 0 0] 134)):=(Ext.refl _).alloc _;generalize w.alloc (.cells #[.bool false,.slice none 0 0] 134)=wa at *;generalize hga:w.heap.size=ga at *;have HGA:=AB hga;clear hga
 with_reducible refine (of_any (-1) (by omega) (by omega) _).mono ?_
 rintro e w1 ⟨m1,A1,c1,l1,rfl,R1,-,-,P1,hx⟩;have Bo1:=Bo.ext hx;have E1:=E0.trans hx;have z1:=of_zs P1;have k1:l1.length≤64:=P1.2.2;have ZZ1:=AB z1;clear Bo E0 hx P1 z1;go_wp2_with fail
 with_reducible refine (of_any x h1 h2 _).mono ?_
 rintro e w2 ⟨m2,A2,c2,l2,rfl,R2,-,-,P2,hx⟩;have Bo2:=Bo1.ext hx;have E2:=E1.trans hx;have z2:=of_zs P2;have k2:l2.length≤64:=P2.2.2;have ZZ2:=AB z2;have R1':=R1.ext hx;clear Bo1 E1 hx P2 z2 R1;go_wp2_with fail
 with_reducible refine (mul_any m1 m2 A1 A2 l1.length c1 l2.length c2 l1 l2 w2 R1' R2 (by omega) (by omega)).mono ?_
 rintro e w3 ⟨m3,A3,c3,l3,rfl,hD,hZ,hx⟩;have Bo3:=Bo2.ext hx;have E3:=E2.trans hx;have HE:=AB (And.intro E2.size Bo2.lt);have d3:=Bo3.cell;have f3:=Bo3.frozen;have zz3:=Bo3.lt;have HZ:=AB hZ;clear Bo2 E2 hx R1' R2 hZ;go_wp2_with fail;refine bodyPost_ret (results_cell1 rfl _ _ ga 134 _ _ rfl ((Bo3.set_ 0 _).set_ 1 _) Tryz.underlying134 rfl (by kernel_rfl)) rfl ?_;have hs3:shortOk l3:=(AA HZ).2.2.1;have hf:∀(b off:Nat),A3=some ⟨b,off,none⟩→w2.heap.size≤b:=hD.fr;have hg:∀(W:World) (R:Dig w2 W A3 c3 l3) (j:Nat) (v:Value),Dig w2 (W.setCell ⟨ga,j,none⟩ v) A3 c3 l3:=fun W R j v=>R.set (by have:=(AA HE).2;simp;omega) v
 have hd:=hg _ (hg _ hD 0 (.bool m3)) 1 (.slice A3 l3.length c3);refine⟨m3,A3,c3,l3,rfl,⟨hd.rd,hd.le,hd.mx,fun b off e=>by have:=hf b off e;have:=(AA HE).1;omega⟩,?_,(E3.set (by have:=AA HGA;simp;omega) _).set (by have:=AA HGA;simp;omega) _⟩;obtain⟨q1,q2,q3,q4⟩:=AA HZ;have y1:=AA ZZ1;have y2:=AA ZZ2;rw[y1,y2] at q1;exact⟨by omega,q2,q3,by omega⟩
theorem refadd_any (x y:Int) (h1:-9223372036854775808≤x) (h2:x≤9223372036854775807) (h3:-9223372036854775808≤y) (h4:y≤9223372036854775807) (w:World) :
  Calls Tryz.prog 66 #[.int .i64 x,.int .i64 y] w (BigFr w (ZP (x+y) 130)):=by
 go_enter Tryz.func66,Tryz.ntmps66;go_wp2_with fail;have Bo:Blk (w.alloc (.cells #[.bool false,.slice none 0 0] 134)) w.heap.size 134 #[.bool false,.slice none 0 0]:=Blk.new _ _ _;have E0:Ext w (w.alloc (.cells #[.bool false,.slice none 0 0] 134)):=(Ext.refl _).alloc _;generalize w.alloc (.cells #[.bool false,.slice none 0 0] 134)=wa at *;generalize hga:w.heap.size=ga at *;have HGA:=AB hga;clear hga
 with_reducible refine (of_any x h1 h2 _).mono ?_
 rintro e w1 ⟨m1,A1,c1,l1,rfl,R1,-,-,P1,hx⟩;have Bo1:=Bo.ext hx;have E1:=E0.trans hx;have z1:=of_zs P1;have k1:l1.length≤64:=P1.2.2;have ZZ1:=AB z1;clear Bo E0 hx P1 z1;go_wp2_with fail
 with_reducible refine (of_any y h3 h4 _).mono ?_
 rintro e w2 ⟨m2,A2,c2,l2,rfl,R2,-,-,P2,hx⟩;have Bo2:=Bo1.ext hx;have E2:=E1.trans hx;have z2:=of_zs P2;have k2:l2.length≤64:=P2.2.2;have ZZ2:=AB z2;have R1':=R1.ext hx;clear Bo1 E1 hx P2 z2 R1;go_wp2_with fail
 with_reducible refine (add_any m1 m2 A1 A2 l1.length c1 l2.length c2 l1 l2 w2 R1' R2 (by omega) (by omega)).mono ?_
 rintro e w3 ⟨m3,A3,c3,l3,rfl,hD,hZ,hx⟩;have Bo3:=Bo2.ext hx;have E3:=E2.trans hx;have HE:=AB (And.intro E2.size Bo2.lt);have d3:=Bo3.cell;have f3:=Bo3.frozen;have zz3:=Bo3.lt;have HZ:=AB hZ;clear Bo2 E2 hx R1' R2 hZ;go_wp2_with fail;refine bodyPost_ret (results_cell1 rfl _ _ ga 134 _ _ rfl ((Bo3.set_ 0 _).set_ 1 _) Tryz.underlying134 rfl (by kernel_rfl)) rfl ?_;have hs3:shortOk l3:=(AA HZ).2.2.1;have hf:∀(b off:Nat),A3=some ⟨b,off,none⟩→w2.heap.size≤b:=hD.fr;have hg:∀(W:World) (R:Dig w2 W A3 c3 l3) (j:Nat) (v:Value),Dig w2 (W.setCell ⟨ga,j,none⟩ v) A3 c3 l3:=fun W R j v=>R.set (by have:=(AA HE).2;simp;omega) v
 have hd:=hg _ (hg _ hD 0 (.bool m3)) 1 (.slice A3 l3.length c3);refine⟨m3,A3,c3,l3,rfl,⟨hd.rd,hd.le,hd.mx,fun b off e=>by have:=hf b off e;have:=(AA HE).1;omega⟩,?_,(E3.set (by have:=AA HGA;simp;omega) _).set (by have:=AA HGA;simp;omega) _⟩;obtain⟨q1,q2,q3,q4⟩:=AA HZ;have y1:=AA ZZ1;have y2:=AA ZZ2;rw[y1,y2] at q1;exact⟨by omega,q2,q3,by omega⟩
theorem bigless_any (ma mb:Bool) (A B:Option Addr) (n c k d:Nat) (x y:List Bool) (w:World) (ha:Rd w 1 A n (bools x)) (hb:Rd w 1 B k (bools y)) (hn:n≤10000) (hk:k≤10000) :
  Calls Tryz.prog 68 #[bigV ma A n c,bigV mb B k d] w fun e w'=>e=.returned (.bool (decide (bigZ ma x<bigZ mb y)))∧Ext w w':=by
 go_enter Tryz.func68,Tryz.ntmps68;go_upto_region 1 with fail;have Ba:Blk ((w.alloc (.cells #[.bool ma,.slice A n c] 134)).alloc (.cells #[.bool mb,.slice B k d] 134)) w.heap.size 134 #[.bool ma,.slice A n c]:=(Blk.new _ _ _).alloc _;have Bb:Blk ((w.alloc (.cells #[.bool ma,.slice A n c] 134)).alloc (.cells #[.bool mb,.slice B k d] 134)) (w.heap.size+1) 134 #[.bool mb,.slice B k d]:=Blk.new1 _ _ _ _;have E0:Ext w ((w.alloc (.cells #[.bool ma,.slice A n c] 134)).alloc (.cells #[.bool mb,.slice B k d] 134)):=((Ext.refl _).alloc _).alloc _;generalize ((w.alloc (.cells #[.bool ma,.slice A n c] 134)).alloc (.cells #[.bool mb,.slice B k d] 134))=W0 at *;generalize hga:w.heap.size=ga at *;have HGA:=AB hga;clear hga;have lo0:=Bb.lt;refine wp_region_linT (by kernel_rfl) (fun w'=>(ExtX W0 w' [])) (fun ii vv ww=>match ii with|0=>vv=bigV ma A n c|1=>∃m0 A0 c0 l0,vv=bigV m0 A0 l0.length c0∧Rd ww 1 A0 l0.length (bools l0)∧OfP (-1) m0 l0|2=>vv=bigV mb B k d|3=>∃m0 A0 c0 l0,vv=bigV m0 A0 l0.length c0∧Dig W0 ww A0 c0 l0∧ZP (-bigZ mb y) (64+k+1) m0 l0|4=>∃m0 A0 c0 l0,vv=bigV m0 A0 l0.length c0∧Dig W0 ww A0 c0 l0∧ZP (bigZ ma x-bigZ mb y) (n+k+70) m0 l0|5=>∃g,vv=.pointer (some ⟨g,0,none⟩)∧W0.heap.size≤g∧Blk ww g 134 #[.bool false,.slice none 0 0]|6=>True|_=>True) (fun ii=>match ii with|3=>[(1,7),(2,8)]|4=>[(0,6),(3,9)]|6=>[(5,5),(4,10)]|_=>[]) (fun ii=>match ii with|0=>[2]|2=>[3]|_=>[]) (fun ii=>match ii with|0=>[1,2,3,5]|1=>[2,0,5]|2=>[1,0,5]|3=>[0,5]|4=>[5]|5=>[1,2,0,3,4]|_=>[]) [] [0,0,0,6,15,0,63] (fun _=>True) [] (fun FT wT=>∃g m0 A0 c0 l0,FT 5=.pointer (some ⟨g,0,none⟩)∧Blk wT g 134 #[.bool m0,.slice A0 l0.length c0]∧ZP (bigZ ma x-bigZ mb y) (n+k+70) m0 l0∧Ext W0 wT) 6 13 rfl (by kernel_rfl) (by kernel_rfl) (.inl (by kernel_rfl)) (ExtX.start _ _) trivial ?_ ?_
 ·rename_i hcont;clear hcont
  refine⟨?_,?_,?_,?_,?_,?_,?_,trivial⟩
  ·refine stepT_plain rfl ?_;rintro F a w1 jE - ⟨t2,-⟩ - K hK;have t2:a.tmps[2]?=some (.pointer (some ⟨ga,0,none⟩)):=t2;have c0:=(jE.blk Ba (by simp)).cell;go_simp;exact hK _ _ jE rfl (fun _ _ _ h=>h) (fun _=>trivial) (fun he=>absurd he (by decide))
  ·refine stepT_plain rfl ?_;rintro F a w1 jE - - - K hK;go_simp
   with_reducible refine (of_any (-1) (by omega) (by omega) _).mono ?_
   rintro e w2 ⟨m0,A0,c0,l0,rfl,hR0,k1,k2,hP0,hx⟩;exact hK _ _ (jE.trans hx) ⟨m0,A0,c0,l0,rfl,hR0,hP0⟩ (by intro jq hj uq h;have hj:jq∈[2,0,5]:=hj;simp only[List.mem_cons,List.not_mem_nil,or_false] at hj;rcases hj with rfl|rfl|rfl;exact h;exact h;exact (have h:∃g,uq=.pointer (some ⟨g,0,none⟩)∧W0.heap.size≤g∧Blk w1 g 134 #[.bool false,.slice none 0 0]:=h;let ⟨g,q1,q2,q3⟩:=h;⟨g,q1,q2,q3.ext hx⟩)) (fun _=>trivial) (fun he=>absurd he (by decide))
  ·refine stepT_plain rfl ?_;rintro F a w1 jE - ⟨t3,-⟩ - K hK;have t3:a.tmps[3]?=some (.pointer (some ⟨ga+1,0,none⟩)):=t3;have c0:=(jE.blk Bb (by simp)).cell;go_simp;exact hK _ _ jE rfl (fun _ _ _ h=>h) (fun _=>trivial) (fun he=>absurd he (by decide))
  ·refine stepT_plain rfl ?_;rintro F a w1 jE ⟨h1,t7,h2,t8,-⟩ - - K hK;have h1:∃m0 A0 c0 l0,(F 1)=bigV m0 A0 l0.length c0∧Rd w1 1 A0 l0.length (bools l0)∧OfP (-1) m0 l0:=h1;have h2:(F 2)=bigV mb B k d:=h2;rw[h2] at t8;clear h2;obtain⟨m1,A1,c1,l1,e1,hR1,hP1⟩:=h1;rw[e1] at t7;go_simp;have hz1:=of_zs hP1;have hl1:l1.length≤64:=hP1.2.2
   with_reducible refine (mul_any m1 mb A1 B l1.length c1 k d l1 y _ hR1 (jE.rd (hb.ext E0) (by simp)) (by omega) (by omega)).mono ?_
   rintro e w2 ⟨m0,A0,c0,l0,rfl,hD,hZ,hx⟩;exact hK _ _ (jE.trans hx) ⟨m0,A0,c0,l0,rfl,⟨hD.rd,hD.le,hD.mx,fun b off e=>Nat.le_trans jE.size (hD.fr b off e)⟩,by rw[hz1] at hZ;exact⟨by have:=hZ.1;omega,hZ.2.1,hZ.2.2.1,by have:=hZ.2.2.2;omega⟩⟩ (by intro jq hj uq h;have hj:jq∈[0,5]:=hj;simp only[List.mem_cons,List.not_mem_nil,or_false] at hj;rcases hj with rfl|rfl;exact h;exact (have h:∃g,uq=.pointer (some ⟨g,0,none⟩)∧W0.heap.size≤g∧Blk w1 g 134 #[.bool false,.slice none 0 0]:=h;let ⟨g,q1,q2,q3⟩:=h;⟨g,q1,q2,q3.ext hx⟩)) (fun _=>trivial) (fun he=>absurd he (by decide))
  ·refine stepT_plain rfl ?_;rintro F a w1 jE ⟨h0,t6,h3,t9,-⟩ - - K hK;have h0:(F 0)=bigV ma A n c:=h0;rw[h0] at t6;clear h0;have h3:∃m0 A0 c0 l0,(F 3)=bigV m0 A0 l0.length c0∧Dig W0 w1 A0 c0 l0∧ZP (-bigZ mb y) (64+k+1) m0 l0:=h3;obtain⟨m1,A1,c1,l1,e1,hD1,hZ1⟩:=h3;rw[e1] at t9;go_simp;have hl1:=hZ1.2.2.2
   with_reducible refine (add_any ma m1 A A1 n c l1.length c1 x l1 _ (jE.rd (ha.ext E0) (by simp)) hD1.rd (by omega) (by omega)).mono ?_
   rintro e w2 ⟨m0,A0,c0,l0,rfl,hD,hZ,hx⟩;exact hK _ _ (jE.trans hx) ⟨m0,A0,c0,l0,rfl,⟨hD.rd,hD.le,hD.mx,fun b off e=>Nat.le_trans jE.size (hD.fr b off e)⟩,by rw[hZ1.1] at hZ;exact⟨by have:=hZ.1;omega,hZ.2.1,hZ.2.2.1,by have:=hZ.2.2.2;omega⟩⟩ (by intro jq hj uq h;have hj:jq∈[5]:=hj;simp only[List.mem_singleton] at hj;subst hj;exact (have h:∃g,uq=.pointer (some ⟨g,0,none⟩)∧W0.heap.size≤g∧Blk w1 g 134 #[.bool false,.slice none 0 0]:=h;let ⟨g,q1,q2,q3⟩:=h;⟨g,q1,q2,q3.ext hx⟩)) (fun _=>trivial) (fun he=>absurd he (by decide))
  ·refine stepT_plain rfl ?_;rintro F a w1 jE - - - K hK;go_simp;have hx:Ext w1 (w1.alloc (.cells #[.bool false,.slice none 0 0] 134)):=(Ext.refl _).alloc _;exact hK _ _ (jE.trans hx) ⟨_,rfl,jE.size,Blk.new _ _ _⟩ (by intro jq hj uq h;have hj:jq∈[1,2,0,3,4]:=hj;simp only[List.mem_cons,List.not_mem_nil,or_false] at hj;rcases hj with rfl|rfl|rfl|rfl|rfl;exact (have h:∃m0 A0 c0 l0,uq=bigV m0 A0 l0.length c0∧Rd w1 1 A0 l0.length (bools l0)∧OfP (-1) m0 l0:=h;let ⟨m0,A0,c0,l0,q1,q2,q3⟩:=h;⟨m0,A0,c0,l0,q1,q2.ext hx,q3⟩);exact h;exact h;exact (have h:∃m0 A0 c0 l0,uq=bigV m0 A0 l0.length c0∧Dig W0 w1 A0 c0 l0∧ZP (-bigZ mb y) (64+k+1) m0 l0:=h;let ⟨m0,A0,c0,l0,q1,q2,q3⟩:=h;⟨m0,A0,c0,l0,q1,q2.ext hx,q3⟩);exact (have h:∃m0 A0 c0 l0,uq=bigV m0 A0 l0.length c0∧Dig W0 w1 A0 c0 l0∧ZP (bigZ ma x - bigZ mb y) (n+k+70) m0 l0:=h;let ⟨m0,A0,c0,l0,q1,q2,q3⟩:=h;⟨m0,A0,c0,l0,q1,q2.ext hx,q3⟩)) (fun _=>trivial) (fun he=>absurd he (by decide))
  ·refine stepT_plain rfl ?_;rintro F a w1 jE ⟨h5,t5,h4,t10,-⟩ - - K hK;have h5:∃g,(F 5)=.pointer (some ⟨g,0,none⟩)∧W0.heap.size≤g∧Blk w1 g 134 #[.bool false,.slice none 0 0]:=h5;have h4:∃m0 A0 c0 l0,(F 4)=bigV m0 A0 l0.length c0∧Dig W0 w1 A0 c0 l0∧ZP (bigZ ma x-bigZ mb y) (n+k+70) m0 l0:=h4;obtain⟨m1,A1,c1,l1,e1,hD1,hZ1⟩:=h4;rw[e1] at t10;obtain⟨g,e5,hg,k⟩:=h5;rw[e5] at t5;have c:=k.cell;have f:=k.frozen;go_simp;have hw:∀(W:World) (h:ExtX W0 W []) (j:Nat) (v:Value),ExtX W0 (W.setCell ⟨g,j,none⟩ v) []:=fun W h j v=>⟨h.os,h.tape,h.output,by simpa[World.setCell] using h.size,fun i hi hx=>(Below.heap_setCell W _ v i (fun e=>by have e:g=i:=e.symm;omega)).trans (h.block i hi hx)⟩
   have hj2:=hw _ (hw _ jE 0 (.bool m1)) 1 (.slice A1 l1.length c1);exact hK undef _ hj2 trivial (fun _ hj _ _=>(List.not_mem_nil hj).elim) (fun _=>trivial) (fun _=>⟨g,m1,A1,c1,l1,e5,(k.set_ 0 _).set_ 1 _,hZ1,⟨hj2.os,hj2.tape,hj2.output,hj2.size,fun i hi=>hj2.block i hi (by simp)⟩⟩)
 ·rintro F W9 jE - hT;obtain⟨g,m0,A0,c0,l0,e5,B1,hZ,hx⟩:=hT (by decide);simp only[putL,Act.put,Nat.reduceAdd,Nat.zero_add,List.setIfInBounds_toArray,List.set_cons_succ,List.set_cons_zero];rw[e5];have hv:=zp_neg hZ;have hd:decide (bigZ ma x<bigZ mb y)=m0:=by rw[hv];exact decide_eq_decide.2 (by omega)
  have HD:=AB hd;have d1:=B1.cell;have zz1:=B1.lt;have E1:=E0.trans hx;clear jE hT hv hd ha hb;go_wp2_with fail;go_ret;exact⟨by rw[AA HD];rfl,E1⟩
def BigTo (w:World) (z:Int) (k:Nat) (e:Ending) (w':World):Prop:=(∃v,e=.returned v∧BigAt w' v z k)∧Ext w w'
theorem BigFr.to {w w':World} {e:Ending} {z:Int} {k:Nat} (h:BigFr w (ZP z k) e w'):BigTo w z k e w':=by
 obtain⟨m,A,c,l,rfl,hD,hZ,hx⟩:=h;exact⟨⟨_,rfl,m,A,c,l,rfl,hD.rd,hZ.1,hZ.2.2.2⟩,hx⟩
section
variable (w:World)
theorem of_at (x:Int) (h:-9223372036854775808≤x∧x≤9223372036854775807):Calls Tryz.prog 64 #[.int .i64 x] w (BigTo w x 64):=
 (of_any x h.1 h.2 w).mono fun _ _ ⟨m,A,c,l,h1,h2,_,_,h5,hx⟩=>⟨⟨_,h1,m,A,c,l,rfl,h2,of_zs h5,h5.2.2⟩,hx⟩
theorem minus_at (x:Int) (h:-9223372036854775808≤x∧x≤9223372036854775807):Calls Tryz.prog 67 #[.int .i64 x] w (BigTo w (-x) 130):=
 (refminus_any x h.1 h.2 w).mono fun _ _=>BigFr.to
theorem add2_at (x y:Int) (h:-9223372036854775808≤x∧x≤9223372036854775807) (h':-9223372036854775808≤y∧y≤9223372036854775807):Calls Tryz.prog 66 #[.int .i64 x,.int .i64 y] w (BigTo w (x+y) 130):=
 (refadd_any x y h.1 h.2 h'.1 h'.2 w).mono fun _ _=>BigFr.to
variable {w}
theorem lessZ_at {u v:Value} {x y:Int} {k l:Nat} {p:Bool} (hp:decide (x<y)=p) (h:BigAt w u x k) (h':BigAt w v y l) (hk:k≤9000) (hl:l≤9000):Calls Tryz.prog 68 #[u,v] w fun e w'=>e=.returned (.bool p)∧Ext w w':=by
 obtain⟨m1,A1,c1,l1,rfl,R1,z1,k1⟩:=h;obtain⟨m2,A2,c2,l2,rfl,R2,z2,k2⟩:=h';refine (bigless_any m1 m2 A1 A2 l1.length c1 l2.length c2 l1 l2 w R1 R2 (by omega) (by omega)).mono fun e w' hh=>?_
 rw[z1,z2,hp] at hh;exact hh
theorem cut_at {u:Value} {x:Int} {k:Nat} (h:BigAt w u x k) (hk:k≤9000):Calls Tryz.prog 69 #[u] w fun e w'=>e=.returned (.tuple #[.int .i64 (cutV x),.bool (cutB x)])∧Ext w w':=by
 obtain⟨m1,A1,c1,l1,rfl,R1,z1,k1⟩:=h;have:=refcut_any m1 A1 l1.length c1 l1 w R1 (by omega);rw[z1] at this;exact this
end
theorem refmeet2_any (a n b m:Int) (ha:-9223372036854775808≤a∧a≤9223372036854775807) (hn:-9223372036854775808≤n∧n≤9223372036854775807) (hb:-9223372036854775808≤b∧b≤9223372036854775807) (hm:-9223372036854775808≤m∧m≤9223372036854775807) (w:World) :
  Calls Tryz.prog 49 #[.int .i64 a,.int .i64 n,.int .i64 b,.int .i64 m] w fun e w'=>e=.returned (.bool (decide (a<b+m)&&decide (b<a+n)))∧Ext w w':=by
 obtain⟨p,hp⟩:∃p,decide (a<b+m)=p:=⟨_,rfl⟩
 obtain⟨q,hq⟩:∃q,decide (b<a+n)=q:=⟨_,rfl⟩
 rw[hp,hq];have HP:=AB hp;have HQ:=AB hq;have HA:=AB (And.intro ha hn);have HB:=AB (And.intro hb hm);clear hp hq ha hn hb hm;have E0:Ext w w:=Ext.refl _;go_enter Tryz.func49,Tryz.ntmps49
 skip
 go_wp2_with fail
 with_reducible refine (of_at _ a (AA HA).1).mono ?_
 rintro e w1 ⟨⟨v1,rfl,b1⟩,hx⟩;replace E0:=E0.trans hx;clear hx;go_wp2_with fail
 with_reducible refine (add2_at _ b m (AA HB).1 (AA HB).2).mono ?_
 rintro e w2 ⟨⟨v2,rfl,b2⟩,hx⟩;replace b1:=b1.ext hx;replace E0:=E0.trans hx;clear hx;go_wp2_with fail
 with_reducible refine (lessZ_at (AA HP) b1 b2 (by omega) (by omega)).mono ?_
 rintro e w3 ⟨rfl,hx⟩;replace E0:=E0.trans hx;clear hx;clear b1 b2;cases p
 ·go_wp2_with fail;go_ret;exact⟨rfl,E0⟩
 go_wp2_with fail
 with_reducible refine (of_at _ b (AA HB).1).mono ?_
 rintro e w4 ⟨⟨v1,rfl,b1⟩,hx⟩;replace E0:=E0.trans hx;clear hx;go_wp2_with fail
 with_reducible refine (add2_at _ a n (AA HA).1 (AA HA).2).mono ?_
 rintro e w5 ⟨⟨v2,rfl,b2⟩,hx⟩;replace b1:=b1.ext hx;replace E0:=E0.trans hx;clear hx;go_wp2_with fail
 with_reducible refine (lessZ_at (AA HQ) b1 b2 (by omega) (by omega)).mono ?_
 rintro e w6 ⟨rfl,hx⟩;replace E0:=E0.trans hx;clear hx;go_wp2_with fail;go_ret;exact⟨rfl,E0⟩
theorem refsome_any (r:Rc) (w:World):Calls Tryz.prog 47 #[.agg r.cs] w fun e w'=>e=.returned (.bool r.some)∧Ext w w':=by
 obtain⟨x,y,a,b⟩:=r;by_cases ha:0<a
 ·by_cases hb:0<b
  all_goals
   go_enter Tryz.func47,Tryz.ntmps47
   go_wp2
   go_ret;exact⟨ret1b (by simp[Rc.some];omega),(Ext.refl _).alloc _⟩
 ·go_enter Tryz.func47,Tryz.ntmps47
  go_wp2
  go_ret;exact⟨ret1b (by simp[Rc.some];omega),(Ext.refl _).alloc _⟩
theorem refmeet_any (a b:Rc) (ha:a.Ok) (hb:b.Ok) (w:World):Calls Tryz.prog 32 #[.agg a.cs,.agg b.cs] w fun e w'=>e=.returned (.bool (meetB a b))∧Ext w w':=by
 obtain⟨x,y,p,q⟩:=a;obtain⟨x2,y2,p2,q2⟩:=b;obtain⟨a1,a2,a3,a4,a5,a6,a7,a8⟩:=ha;obtain⟨b1,b2,b3,b4,b5,b6,b7,b8⟩:=hb;simp only at a1 a2 a3 a4 a5 a6 a7 a8 b1 b2 b3 b4 b5 b6 b7 b8;have c1:=fun w=>AB (refsome_any ⟨x,y,p,q⟩ w)
 have c2:=fun w=>AB (refsome_any ⟨x2,y2,p2,q2⟩ w)
 have d1:=fun w=>AB (refmeet2_any x p x2 p2 ⟨a1,a2⟩ ⟨a5,a6⟩ ⟨b1,b2⟩ ⟨b5,b6⟩ w)
 have d2:=fun w=>AB (refmeet2_any y q y2 q2 ⟨a3,a4⟩ ⟨a7,a8⟩ ⟨b3,b4⟩ ⟨b7,b8⟩ w)
 have em:meetB ⟨x,y,p,q⟩ ⟨x2,y2,p2,q2⟩=(Rc.some ⟨x,y,p,q⟩&&(Rc.some ⟨x2,y2,p2,q2⟩&&((decide (x<x2+p2)&&decide (x2<x+p))&&(decide (y<y2+q2)&&decide (y2<y+q))))):=by unfold meetB;simp only[Bool.and_assoc]
 generalize Rc.some ⟨x,y,p,q⟩=s1 at *;generalize Rc.some ⟨x2,y2,p2,q2⟩=s2 at *;generalize (decide (x<x2+p2)&&decide (x2<x+p))=t1 at *;generalize (decide (y<y2+q2)&&decide (y2<y+q))=t2 at *;rw[em];clear em a1 a2 a3 a4 a5 a6 a7 a8 b1 b2 b3 b4 b5 b6 b7 b8;go_enter Tryz.func32,Tryz.ntmps32;go_wp2_with fail;have Ba:Blk ((w.alloc (.cells #[.int .i64 x,.int .i64 y,.int .i64 p,.int .i64 q] 33)).alloc (.cells #[.int .i64 x2,.int .i64 y2,.int .i64 p2,.int .i64 q2] 33)) (w.heap.size) 33 #[.int .i64 x,.int .i64 y,.int .i64 p,.int .i64 q]:=(Blk.new _ _ _).alloc _;have Bb:Blk ((w.alloc (.cells #[.int .i64 x,.int .i64 y,.int .i64 p,.int .i64 q] 33)).alloc (.cells #[.int .i64 x2,.int .i64 y2,.int .i64 p2,.int .i64 q2] 33)) (w.heap.size+1) 33 #[.int .i64 x2,.int .i64 y2,.int .i64 p2,.int .i64 q2]:=Blk.new1 _ _ _ _;have E0:Ext w ((w.alloc (.cells #[.int .i64 x,.int .i64 y,.int .i64 p,.int .i64 q] 33)).alloc (.cells #[.int .i64 x2,.int .i64 y2,.int .i64 p2,.int .i64 q2] 33)):=((Ext.refl _).alloc _).alloc _;generalize ((w.alloc (.cells #[.int .i64 x,.int .i64 y,.int .i64 p,.int .i64 q] 33)).alloc (.cells #[.int .i64 x2,.int .i64 y2,.int .i64 p2,.int .i64 q2] 33))=wa at *;have Bac:=Ba.cell;have Bal:=Ba.lt;have Bbc:=Bb.cell;have Bbl:=Bb.lt;go_wp2_with fail
 with_reducible refine (AA (c1 _)).mono ?_
 rintro e w1 ⟨rfl,hx⟩;have B2:=Ba.ext hx;have B3:=Bb.ext hx;have E4:=E0.trans hx;clear Bac Bal Bbc Bbl;clear Ba Bb E0 hx;have Bac:=B2.cell;have Bal:=B2.lt;have Bbc:=B3.cell;have Bbl:=B3.lt;cases s1
 ·go_wp2_with fail;go_ret;exact⟨rfl,E4⟩
 go_wp2_with fail
 with_reducible refine (AA (c2 _)).mono ?_
 rintro e w5 ⟨rfl,hx⟩;have B6:=B2.ext hx;have B7:=B3.ext hx;have E8:=E4.trans hx;clear Bac Bal Bbc Bbl;clear B2 B3 E4 hx;have Bac:=B6.cell;have Bal:=B6.lt;have Bbc:=B7.cell;have Bbl:=B7.lt;cases s2
 ·go_wp2_with fail;go_ret;exact⟨rfl,E8⟩
 go_wp2_with fail
 with_reducible refine (AA (d1 _)).mono ?_
 rintro e w9 ⟨rfl,hx⟩;have B10:=B6.ext hx;have B11:=B7.ext hx;have E12:=E8.trans hx;clear Bac Bal Bbc Bbl;clear B6 B7 E8 hx;have Bac:=B10.cell;have Bal:=B10.lt;have Bbc:=B11.cell;have Bbl:=B11.lt;cases t1
 ·go_wp2_with fail;go_ret;exact⟨rfl,E12⟩
 go_wp2_with fail
 with_reducible refine (AA (d2 _)).mono ?_
 rintro e w13 ⟨rfl,hx⟩;have B14:=B10.ext hx;have B15:=B11.ext hx;have E16:=E12.trans hx;clear Bac Bal Bbc Bbl;clear B10 B11 E12 hx;have Bac:=B14.cell;have Bal:=B14.lt;have Bbc:=B15.cell;have Bbl:=B15.lt;go_wp2_with fail;go_ret;exact⟨ret1b (by simp),E16⟩
theorem Dig.put2 {w0 w:World} {A:Option Addr} {c g:Nat} {l:List Bool} (h:Dig w0 w A c l) (hs:shortOk l) (hb:Blk w g 134 #[.bool false,.slice none 0 0]) (u v:Value):Rd ((w.setCell ⟨g,0,none⟩ u).setCell ⟨g,1,none⟩ v) 1 A l.length (bools l)∧(l≠[]→∀b off,A=some ⟨b,off,none⟩→b≠g):=by
 refine⟨?_,fun hl=>h.apart hs hb hl⟩;by_cases hl:l=[]
 ·subst hl;exact Rd.nil _ _ _
 ·have hne:=h.apart hs hb hl;have hg:∀(W:World) (R:Rd W 1 A l.length (bools l)) (j:Nat) (x:Value),Rd (W.setCell ⟨g,j,none⟩ x) 1 A l.length (bools l):=fun W R j x=>
   R.grown (row:=some g) ⟨rfl,rfl,rfl,by simp[World.setCell],fun j' hj hn=>Below.heap_setCell W _ _ j' (fun e=>hn (congrArg some e))⟩ (fun b off e h2=>hne b off e (Option.some.inj h2).symm)
  exact hg _ (hg _ h.rd 0 u) 1 v
theorem fold_take2 {α β:Type} (f:β→α→β) (b:β) (l:List α) (k:Nat) (r:α) (h:l[k]?=some r):(l.take (k+1)).foldl f b=f ((l.take k).foldl f b) r:=by
 rw[List.take_add_one,h];simp
theorem minL_bd (x:Int) (hx:-9223372036854775808≤x∧x≤9223372036854775807) (l:List Int) (hl:I64s l):-9223372036854775808≤minL x l∧minL x l≤9223372036854775807:=by
 unfold minL
 induction l generalizing x with
 |nil=>exact hx
 |cons a r ih=>
  have ha:=hl a (List.mem_cons_self ..);refine ih _ ?_ (fun z hz=>hl z (List.mem_cons_of_mem _ hz))
  show -9223372036854775808≤(if a<x then a else x)∧(if a<x then a else x)≤9223372036854775807
  split<;>omega
theorem refcover_any (A B:Option Addr) (n c d:Nat) (x0:Int) (xs ws:List Int) (w:World) (ha:Rd w 1 A n (ints xs)) (hb:Rd w 1 B n (ints ws)) (hxs:I64s xs) (hws:I64s ws) (h0:xs[0]?=some x0) (hn:n≤1000) :
  Calls Tryz.prog 48 #[.slice A n c,.slice B n d] w fun e w'=>e=.returned (.tuple #[.int .i64 (cutV (minL x0 xs)),.int .i64 (cutV (covM (minL x0 xs) (xs.zip ws))),.bool (cutB (minL x0 xs)||cutB (covM (minL x0 xs) (xs.zip ws)))])∧Ext w w':=by
 have hl:xs.length=n:=by have:=ha.len;simpa[ints] using this
 have hl2:ws.length=n:=by have:=hb.len;simpa[ints] using this
 have hn0:0<n:=by
  rcases Nat.eq_zero_or_pos n with h|h
  ·subst h;simp[List.length_eq_zero_iff.1 hl] at h0
  ·exact h
 have HL:=AB (And.intro hl hl2);clear hl hl2;obtain⟨b0,o0,z0,rfl,hb0,hz0,hc0⟩:=ints_cell ha hn0;rw[Nat.add_zero] at hc0;have e0:z0=x0:=by rw[h0] at hz0;injection hz0 with h;exact h.symm
 subst e0;have hx0:=hxs z0 (List.mem_of_getElem? h0);have hn0I:(0:Int)<(n:Int):=by omega
 have hF:=minL_bd z0 hx0 xs hxs;have HF:=AB hF;have HX0:=AB hx0;clear hF hz0 h0 hx0;go_enter Tryz.func48,Tryz.ntmps48;go_wp2_with fail;go_loopw [7,8] (fun f i wr=>∃k:Nat,k≤n∧f=.int .i64 (minL z0 (xs.take k))∧i=.int .i64 k∧w=wr) (fun _ i _=>n-(intOf i).toNat)
 case atStart=>exact⟨0,Nat.zero_le _,rfl,rfl,rfl⟩
 case round=>
  obtain⟨k,hk,rfl,rfl,rfl⟩:=hrel;by_cases hlt:k<n
  ·have hltI:(k:Int)<(n:Int):=by omega
   obtain⟨b,off,z,e,hb',hzk,hc⟩:=ints_cell ha hlt;injection e with e;injection e with e1 e2 _;subst e1 e2;have hst:minL z0 (xs.take (k+1))=(if z<minL z0 (xs.take k) then z else minL z0 (xs.take k)):=fold_take2 _ _ _ _ _ hzk;have HST:=AB hst;generalize minL z0 (xs.take k)=f at *;obtain⟨f2,hf2⟩:∃f2,(if z<f then z else f)=f2:=⟨_,rfl⟩
   have HF2:=AB hf2;clear hzk hst hb ha hxs hws;go_wp2_with fail;go_roundw
   case rel=>exact⟨k+1,by omega,by first|(rw[AA HST,AA HF2];done)|(rw[AA HST,AA HF2];congr 1;have:=AA HF2;omega),by go_num,by trivial⟩
   case measure=>simp[intOf];omega
  ·obtain rfl:k=n:=by omega
   have hS:xs.take k=xs:=List.take_of_length_le (by have:=(AA HL).1;omega);rw[hS];clear hS hlt;obtain⟨f,hf⟩:∃f,minL z0 xs=f:=⟨_,rfl⟩
   rw[hf] at HF ⊢;have HFE:=AB hf;clear hf;go_wp2_with fail
   with_reducible refine (of_at _ 0 (by omega)).mono ?_
   rintro e w1 ⟨⟨v1,rfl,q1⟩,hx1⟩;obtain⟨m1,A1,c1,l1,rfl,R1,z1,k1⟩:=q1;have sA:∀b off,l1≠[]→A1=some ⟨b,off,none⟩→b<w1.heap.size:=fun b off hne e=>by
    obtain⟨b',off',e',hb',_⟩:=R1.at_ (List.length_pos_iff.2 hne);rw[e] at e';injection e' with e';injection e' with e1 _ _;omega
   have HSA:=AB sA;clear sA;go_upto_region 7 with fail;have V1:BigVar (w1.alloc (.cells #[.bool m1,.slice A1 l1.length c1] 134)) w1.heap.size 0 140:=
    ⟨m1,A1,c1,l1,Blk.new _ _ _,R1.alloc _,z1,by omega,fun hne b off e=>by have:=AA HSA b off hne e;omega⟩
   have E1:Ext w (w1.alloc (.cells #[.bool m1,.slice A1 l1.length c1] 134)):=hx1.alloc _;generalize w1.alloc (.cells #[.bool m1,.slice A1 l1.length c1] 134)=w2 at *;have hgs:=hx1.size;generalize w1.heap.size=gL at *;have HGS:=AB hgs;clear hx1 R1 z1 k1 HSA hgs;go_wp2_with fail;go_loopw [10] (fun i wq=>∃k':Nat,k'≤k∧i=.int .i64 k'∧Ext w wq∧BigVar wq gL (covM f ((xs.zip ws).take k')) 140) (fun i _=>k-(intOf i).toNat)
   case atStart=>exact⟨0,Nat.zero_le _,rfl,E1,V1⟩
   case round=>
    clear V1 E1;obtain⟨j,hj,rfl,E1,V1⟩:=hrel;by_cases hlt:j<k
    ·have hltI:(j:Int)<(k:Int):=by omega
     obtain⟨b,off,z,e,hb',hzk,hc⟩:=ints_cell ha hlt;injection e with e;injection e with e1 e2 _;subst e1 e2;obtain⟨b2,off2,y,rfl,hb2,hyk,hcy⟩:=ints_cell hb hlt;have hbz:=hxs z (List.mem_of_getElem? hzk);have hby:=hws y (List.mem_of_getElem? hyk);have hzip:(xs.zip ws)[j]?=some (z,y):=by rw[List.getElem?_zip_eq_some];exact⟨hzk,hyk⟩
     have hst:covM f ((xs.zip ws).take (j+1))=stepM f (covM f ((xs.zip ws).take j)) (z,y):=fold_take2 _ _ _ _ _ hzip;have HST:=AB hst;have hcW:∀W:World,Ext w W→W.cell? ⟨b0,o0+j,none⟩=some (.int .i64 z)∧W.cell? ⟨b2,off2+j,none⟩=some (.int .i64 y):=fun W h=>⟨(h.cells.1 _ _ hb').trans hc,(h.cells.1 _ _ hb2).trans hcy⟩
     have HC:=AB hcW;have HBZ:=AB hbz;have HBY:=AB hby;generalize covM f ((xs.zip ws).take j)=M at *;clear hzk hyk hzip hst hcW hc hcy hb2 ha hb hxs hws hbz hby hc0;generalize hw0:wr=W0 at *;clear hw0;go_upto_region 10 with fail;refine wp_region_linT (by kernel_rfl) (fun w'=>(ExtX W0 w' [])) (fun ii vv ww=>match ii with|0=>vv=.slice (some ⟨b0,o0,none⟩) k c|1=>vv=.int .i64 j|2=>vv=.pointer (some ⟨b0,o0+j,none⟩)|3=>vv=.int .i64 z|4=>vv=.slice (some ⟨b2,off2,none⟩) k d|5=>vv=.int .i64 j|6=>vv=.pointer (some ⟨b2,off2+j,none⟩)|7=>vv=.int .i64 y|8=>BigAt ww vv (z+y) 130|9=>vv=.int .i64 f|10=>BigAt ww vv (-f) 130|11=>∃m0 A0 c0 l0,vv=bigV m0 A0 l0.length c0∧Dig W0 ww A0 c0 l0∧ZP (z+y-f) 140 m0 l0|12=>∃g,vv=.pointer (some ⟨g,0,none⟩)∧W0.heap.size≤g∧Blk ww g 134 #[.bool false,.slice none 0 0]|13=>True|_=>True) (fun ii=>match ii with|2=>[(0,38),(1,39)]|3=>[(2,40)]|6=>[(4,42),(5,43)]|7=>[(6,44)]|8=>[(3,41),(7,45)]|10=>[(9,47)]|11=>[(8,46),(10,48)]|13=>[(12,11),(11,49)]|_=>[]) (fun ii=>match ii with|0=>[0]|1=>[10]|4=>[1]|5=>[10]|9=>[7]|_=>[]) (fun ii=>match ii with|0=>[1,4,5,6,7,9,12]|1=>[0,4,5,6,7,9,12]|2=>[4,5,6,7,9,12]|3=>[4,5,6,7,9,12]|4=>[0,1,2,5,3,9,12]|5=>[0,1,2,4,3,9,12]|6=>[0,1,2,3,9,12]|7=>[0,1,2,3,9,12]|8=>[9,12]|9=>[0,1,2,4,5,6,3,7,8,12]|10=>[8,12]|11=>[12]|12=>[0,1,2,4,5,6,3,7,9,8,10,11]|_=>[]) [] [0,0,3,7,0,0,48,112,255,0,1023,2047,0,8191] (fun _=>True) [] (fun FT wT=>∃g,FT 12=.pointer (some ⟨g,0,none⟩)∧W0.heap.size≤g∧(∃m0 A0 c0 l0,Blk wT g 134 #[.bool m0,.slice A0 l0.length c0]∧Rd wT 1 A0 l0.length (bools l0)∧bigZ m0 l0=z+y-f∧l0.length≤140∧Fresh W0 A0)∧Ext W0 wT) 13 71 rfl (by kernel_rfl) (by kernel_rfl) (.inl (by kernel_rfl)) (ExtX.start _ _) trivial ?_ ?_
     ·rename_i hcont;clear hcont
      refine⟨?_,?_,?_,?_,?_,?_,?_,?_,?_,?_,?_,?_,?_,?_,trivial⟩
      ·refine stepT_plain rfl ?_;rintro F a w1 jE - ⟨t0,-⟩ - K hK;have t0:a.tmps[0]?=some (.slice (some ⟨b0,o0,none⟩) k c):=t0;go_simp;exact hK _ _ jE rfl (fun _ _ _ h=>h) (fun _=>trivial) (fun he=>absurd he (by decide))
      ·refine stepT_plain rfl ?_;rintro F a w1 jE - ⟨t10,-⟩ - K hK;have t10:a.tmps[10]?=some (.int .i64 j):=t10;go_simp;exact hK _ _ jE rfl (fun _ _ _ h=>h) (fun _=>trivial) (fun he=>absurd he (by decide))
      ·refine stepT_plain rfl ?_;rintro F a w1 jE ⟨h0,t38,h1,t39,-⟩ - - K hK;have h0:(F 0)=.slice (some ⟨b0,o0,none⟩) k c:=h0;rw[h0] at t38;clear h0;have h1:(F 1)=.int .i64 j:=h1;rw[h1] at t39;clear h1;go_simp;exact hK _ _ jE rfl (fun _ _ _ h=>h) (fun _=>trivial) (fun he=>absurd he (by decide))
      ·refine stepT_plain rfl ?_;rintro F a w1 jE ⟨h2,t40,-⟩ - - K hK;have h2:(F 2)=.pointer (some ⟨b0,o0+j,none⟩):=h2;rw[h2] at t40;clear h2;have hc:=(AA HC w1 (E1.trans (jE.ext (Ext.refl _) (by simp)))).1;go_simp;exact hK _ _ jE rfl (fun _ _ _ h=>h) (fun _=>trivial) (fun he=>absurd he (by decide))
      ·refine stepT_plain rfl ?_;rintro F a w1 jE - ⟨t1,-⟩ - K hK;have t1:a.tmps[1]?=some (.slice (some ⟨b2,off2,none⟩) k d):=t1;go_simp;exact hK _ _ jE rfl (fun _ _ _ h=>h) (fun _=>trivial) (fun he=>absurd he (by decide))
      ·refine stepT_plain rfl ?_;rintro F a w1 jE - ⟨t10,-⟩ - K hK;have t10:a.tmps[10]?=some (.int .i64 j):=t10;go_simp;exact hK _ _ jE rfl (fun _ _ _ h=>h) (fun _=>trivial) (fun he=>absurd he (by decide))
      ·refine stepT_plain rfl ?_;rintro F a w1 jE ⟨h4,t42,h5,t43,-⟩ - - K hK;have h4:(F 4)=.slice (some ⟨b2,off2,none⟩) k d:=h4;rw[h4] at t42;clear h4;have h5:(F 5)=.int .i64 j:=h5;rw[h5] at t43;clear h5;go_simp;exact hK _ _ jE rfl (fun _ _ _ h=>h) (fun _=>trivial) (fun he=>absurd he (by decide))
      ·refine stepT_plain rfl ?_;rintro F a w1 jE ⟨h6,t44,-⟩ - - K hK;have h6:(F 6)=.pointer (some ⟨b2,off2+j,none⟩):=h6;rw[h6] at t44;clear h6;have hc:=(AA HC w1 (E1.trans (jE.ext (Ext.refl _) (by simp)))).2;go_simp;exact hK _ _ jE rfl (fun _ _ _ h=>h) (fun _=>trivial) (fun he=>absurd he (by decide))
      ·refine stepT_plain rfl ?_;rintro F a w1 jE ⟨h3,t41,h7,t45,-⟩ - - K hK;have h3:(F 3)=.int .i64 z:=h3;rw[h3] at t41;clear h3;have h7:(F 7)=.int .i64 y:=h7;rw[h7] at t45;clear h7;go_simp
       with_reducible refine (add2_at _ z y (AA HBZ) (AA HBY)).mono ?_
       rintro e w2 ⟨⟨v',rfl,hv⟩,hx⟩;exact hK _ _ (jE.trans hx) hv (by intro jq hj uq h;have hj:jq∈[9,12]:=hj;simp only[List.mem_cons,List.not_mem_nil,or_false] at hj;rcases hj with rfl|rfl;exact h;exact (have h:∃g,uq=.pointer (some ⟨g,0,none⟩)∧W0.heap.size≤g∧Blk w1 g 134 #[.bool false,.slice none 0 0]:=h;let ⟨g,q1,q2,q3⟩:=h;⟨g,q1,q2,q3.ext hx⟩)) (fun _=>trivial) (fun he=>absurd he (by decide))
      ·refine stepT_plain rfl ?_;rintro F a w1 jE - ⟨t7,-⟩ - K hK;have t7:a.tmps[7]?=some (.int .i64 f):=t7;go_simp;exact hK _ _ jE rfl (fun _ _ _ h=>h) (fun _=>trivial) (fun he=>absurd he (by decide))
      ·refine stepT_plain rfl ?_;rintro F a w1 jE ⟨h9,t47,-⟩ - - K hK;have h9:(F 9)=.int .i64 f:=h9;rw[h9] at t47;clear h9;go_simp
       with_reducible refine (minus_at _ f (AA HF)).mono ?_
       rintro e w2 ⟨⟨v',rfl,hv⟩,hx⟩;exact hK _ _ (jE.trans hx) hv (by intro jq hj uq h;have hj:jq∈[8,12]:=hj;simp only[List.mem_cons,List.not_mem_nil,or_false] at hj;rcases hj with rfl|rfl;exact (have h:BigAt w1 uq (z+y) 130:=h;h.ext hx);exact (have h:∃g,uq=.pointer (some ⟨g,0,none⟩)∧W0.heap.size≤g∧Blk w1 g 134 #[.bool false,.slice none 0 0]:=h;let ⟨g,q1,q2,q3⟩:=h;⟨g,q1,q2,q3.ext hx⟩)) (fun _=>trivial) (fun he=>absurd he (by decide))
      ·refine stepT_plain rfl ?_;rintro F a w1 jE ⟨h8,t46,h10,t48,-⟩ - - K hK;have h8:BigAt w1 (F 8) (z+y) 130:=h8;have h10:BigAt w1 (F 10) (-f) 130:=h10;obtain⟨m1,A1,c1,l1,e1,R1,z1,k1⟩:=h8;obtain⟨m2,A2,c2,l2,e2,R2,z2,k2⟩:=h10;rw[e1] at t46;rw[e2] at t48;go_simp
       with_reducible refine (add_any m1 m2 A1 A2 l1.length c1 l2.length c2 l1 l2 _ R1 R2 (by omega) (by omega)).mono ?_
       rintro e w2 ⟨m0,A0,c0,l0,rfl,hD,hZ,hx⟩;exact hK _ _ (jE.trans hx) ⟨m0,A0,c0,l0,rfl,⟨hD.rd,hD.le,hD.mx,fun b off e=>Nat.le_trans jE.size (hD.fr b off e)⟩,by rw[z1,z2] at hZ;exact⟨by have:=hZ.1;omega,hZ.2.1,hZ.2.2.1,by have:=hZ.2.2.2;omega⟩⟩ (by intro jq hj uq h;have hj:jq∈[12]:=hj;simp only[List.mem_singleton] at hj;subst hj;exact (have h:∃g,uq=.pointer (some ⟨g,0,none⟩)∧W0.heap.size≤g∧Blk w1 g 134 #[.bool false,.slice none 0 0]:=h;let ⟨g,q1,q2,q3⟩:=h;⟨g,q1,q2,q3.ext hx⟩)) (fun _=>trivial) (fun he=>absurd he (by decide))
      ·refine stepT_plain rfl ?_;rintro F a w1 jE - - - K hK;go_simp;have hx:Ext w1 (w1.alloc (.cells #[.bool false,.slice none 0 0] 134)):=(Ext.refl _).alloc _;exact hK _ _ (jE.trans hx) ⟨_,rfl,jE.size,Blk.new _ _ _⟩ (by intro jq hj uq h;have hj:jq∈[0,1,2,4,5,6,3,7,9,8,10,11]:=hj;simp only[List.mem_cons,List.not_mem_nil,or_false] at hj;rcases hj with rfl|rfl|rfl|rfl|rfl|rfl|rfl|rfl|rfl|rfl|rfl|rfl;exact h;exact h;exact h;exact h;exact h;exact h;exact h;exact h;exact h;exact (have h:BigAt w1 uq (z+y) 130:=h;h.ext hx);exact (have h:BigAt w1 uq (-f) 130:=h;h.ext hx);exact (have h:∃m0 A0 c0 l0,uq=bigV m0 A0 l0.length c0∧Dig W0 w1 A0 c0 l0∧ZP (z+y - f) 140 m0 l0:=h;let ⟨m0,A0,c0,l0,q1,q2,q3⟩:=h;⟨m0,A0,c0,l0,q1,q2.ext hx,q3⟩)) (fun _=>trivial) (fun he=>absurd he (by decide))
      ·refine stepT_plain rfl ?_;rintro F a w1 jE ⟨h12,t11,h11,t49,-⟩ - - K hK;have h12:∃g,(F 12)=.pointer (some ⟨g,0,none⟩)∧W0.heap.size≤g∧Blk w1 g 134 #[.bool false,.slice none 0 0]:=h12;have h11:∃m0 A0 c0 l0,(F 11)=bigV m0 A0 l0.length c0∧Dig W0 w1 A0 c0 l0∧ZP (z+y-f) 140 m0 l0:=h11;obtain⟨m1,A1,c1,l1,e1,hD1,hZ1⟩:=h11;rw[e1] at t49;obtain⟨g,e5,hg,k5⟩:=h12;rw[e5] at t11;have hp2:=hD1.put2 hZ1.2.2.1 k5 (.bool m1) (.slice A1 l1.length c1);have c:=k5.cell;have f5:=k5.frozen;go_simp;have hw:∀(W:World) (h:ExtX W0 W []) (j:Nat) (v:Value),ExtX W0 (W.setCell ⟨g,j,none⟩ v) []:=fun W h j v=>⟨h.os,h.tape,h.output,by simpa[World.setCell] using h.size,fun i hi hx=>(Below.heap_setCell W _ v i (fun e=>by have e:g=i:=e.symm;omega)).trans (h.block i hi hx)⟩
       have hj2:=hw _ (hw _ jE 0 (.bool m1)) 1 (.slice A1 l1.length c1);exact hK undef _ hj2 trivial (fun _ hj _ _=>(List.not_mem_nil hj).elim) (fun _=>trivial) (fun _=>⟨g,e5,hg,⟨m1,A1,c1,l1,(k5.set_ 0 _).set_ 1 _,hp2.1,hZ1.1,hZ1.2.2.2,hD1.fr⟩,⟨hj2.os,hj2.tape,hj2.output,hj2.size,fun i hi=>hj2.block i hi (by simp)⟩⟩)
     ·rintro F W9 jE - hT;obtain⟨g,e5,hg,⟨m0,A0,c0,l0,B0,R0,z0',k0,fr0⟩,hx⟩:=hT (by decide);simp only[putL,Act.put,Nat.reduceAdd,Nat.zero_add,List.setIfInBounds_toArray,List.set_cons_succ,List.set_cons_zero];rw[e5];clear jE hT e5;obtain⟨m1,A1,c1,l1,B1,R1,z1,k1,ne1⟩:=V1;have ltL:=B1.lt;replace B1:=B1.ext hx;replace R1:=R1.ext hx;have E2:=E1.trans hx;have d0:=B0.cell;have zz0:=B0.lt;have d1:=B1.cell;have zz1:=B1.lt;have q1:BigAt W9 (bigV m1 A1 l1.length c1) M 140:=⟨m1,A1,c1,l1,rfl,R1,z1,k1⟩
      have q0:BigAt W9 (bigV m0 A0 l0.length c0) (z+y-f) 140:=⟨m0,A0,c0,l0,rfl,R0,z0',k0⟩
      obtain⟨P,hP⟩:∃P,decide (M<z+y-f)=P:=⟨_,rfl⟩
      have HP:=AB hP;have HNE:=AB (And.intro ne1 (And.intro hg (And.intro ltL fr0)));clear hP ne1 hx hg ltL fr0;go_wp2_with fail
      with_reducible refine (lessZ_at (AA HP) q1 q0 (by omega) (by omega)).mono ?_
      rintro e W8 ⟨rfl,hx⟩;replace B1:=B1.ext hx;replace R1:=R1.ext hx;replace B0:=B0.ext hx;replace R0:=R0.ext hx;replace E2:=E2.trans hx;clear d0 zz0 d1 zz1 q0 q1 hx;have d0:=B0.cell;have zz0:=B0.lt;have d1:=B1.cell;have f1:=B1.frozen;cases P
      ·have HS:=AB (by rw[AA HST];have h:=AA HP;simp at h;unfold stepM;rw[if_neg (by simp;omega)]:covM f ((xs.zip ws).take (j+1))=M);go_wp2_with fail;go_roundw
       case rel=>exact⟨j+1,by omega,by go_num,E2,by rw[AA HS];exact⟨m1,A1,c1,l1,B1,R1,z1,k1,(AA HNE).1⟩⟩
       case measure=>simp[intOf];omega
      ·have HS:=AB (by rw[AA HST];have h:=AA HP;simp at h;unfold stepM;rw[if_pos h]:covM f ((xs.zip ws).take (j+1))=z+y-f);go_wp2_with fail;go_roundw
       case rel=>
        obtain⟨-,n2,n3,n4⟩:=AA HNE;have hne:∀b off,A0=some ⟨b,off,none⟩→b≠gL:=fun b off e=>by have:=n4 b off e;omega
        have hgr:∀(W:World) (R:Rd W 1 A0 l0.length (bools l0)) (i:Nat) (x:Value),Rd (W.setCell ⟨gL,i,none⟩ x) 1 A0 l0.length (bools l0):=fun W R i x=>
         R.grown (row:=some gL) ⟨rfl,rfl,rfl,by simp[World.setCell],fun j' hj hn=>Below.heap_setCell W _ _ j' (fun e=>hn (congrArg some e))⟩ (fun b off e h2=>hne b off e (Option.some.inj h2).symm)
        refine⟨j+1,by omega,by go_num,(E2.set (by have:=AA HGS;simp;omega) _).set (by have:=AA HGS;simp;omega) _,?_⟩;rw[AA HS];exact⟨m0,A0,c0,l0,(B1.set_ 0 _).set_ 1 _,hgr _ (hgr _ R0 0 _) 1 _,z0',k0,fun _=>hne⟩
       case measure=>simp[intOf];omega
    ·obtain rfl:j=k:=by omega
     have hS:(xs.zip ws).take j=xs.zip ws:=List.take_of_length_le (by have:=AA HL;simp;omega);rw[hS] at V1;obtain⟨M,hM⟩:∃M,covM f (xs.zip ws)=M:=⟨_,rfl⟩
     rw[hM] at V1;have HME:=AB hM;clear hM;obtain⟨m1,A1,c1,l1,B1,R1,z1,k1,-⟩:=V1;have dL:=B1.cell;have zL:=B1.lt;clear ha hb hxs hws hS hc0;go_wp2_with fail
     with_reducible refine (of_at _ f (AA HF)).mono ?_
     rintro e w3 ⟨⟨v3,rfl,q3⟩,hx⟩;replace B1:=B1.ext hx;replace R1:=R1.ext hx;have E3:=E1.trans hx;clear dL zL hx E1;have dL:=B1.cell;have zL:=B1.lt;go_wp2_with fail
     with_reducible refine (cut_at q3 (by omega)).mono ?_
     rintro e w4 ⟨rfl,hx⟩;replace B1:=B1.ext hx;replace R1:=R1.ext hx;have E4:=E3.trans hx;clear dL zL hx E3 q3;have dL:=B1.cell;have zL:=B1.lt;have q4:BigAt w4 (bigV m1 A1 l1.length c1) M 140:=⟨m1,A1,c1,l1,rfl,R1,z1,k1⟩
     go_wp2_with fail
     with_reducible refine (cut_at q4 (by omega)).mono ?_
     rintro e w5 ⟨rfl,hx⟩;have E5:=E4.trans hx;clear dL zL hx E4 q4 R1 B1;obtain⟨p,hp⟩:∃p,cutB f=p:=⟨_,rfl⟩
     obtain⟨q,hq⟩:∃q,cutB M=q:=⟨_,rfl⟩
     rw[hp,hq];have HPE:=AB (And.intro hp hq);clear hp hq;cases p
     ·go_wp2_with fail
      go_ret3
      exact⟨by rw[AA HFE,AA HME,(AA HPE).1,(AA HPE).2];rfl,E5⟩
     ·go_wp2_with fail
      go_ret3
      exact⟨by rw[AA HFE,AA HME,(AA HPE).1,(AA HPE).2];rfl,E5⟩
end Go.Proofs.YtamldoocjjdidaaGreat
