import Derived.Test.YtamldoocjjdidaaGreatMBigD
import Derived.Deep.DeepCutAuto
namespace Go.Proofs.YtamldoocjjdidaaGreat
open Go.RowKit
set_option maxRecDepth 100000
set_option maxHeartbeats 64000000
def bigZ (m:Bool) (l:List Bool):Int:=if m=true then -(val l:Int) else val l
theorem bigZ_f (l:List Bool):bigZ false l=(val l:Int):=rfl
theorem bigZ_t (l:List Bool):bigZ true l=-(val l:Int):=rfl
theorem val_drop_le (l:List Bool) (j:Nat):val (l.drop j)≤val l:=by
 have h:=val_split l j;have:=Nat.le_mul_of_pos_left (val (l.drop j)) (Nat.two_pow_pos j);omega
theorem big_field1 (m:Bool) (A:Option Addr) (n c:Nat) (w:World):(Instr.field 134 (bigV m A n c) 1).run Tryz.prog w=.ok (.slice A n c) w:=by kernel_rfl
theorem refcut_any (m:Bool) (A:Option Addr) (n c:Nat) (l:List Bool) (w:World) (hr:Rd w 1 A n (bools l)) (hn:n≤100000) :
  Calls Tryz.prog 69 #[bigV m A n c] w fun e w'=>e=.returned (.tuple #[.int .i64 (cutV (bigZ m l)),.bool (cutB (bigZ m l))])∧Ext w w':=by
 have hl:l.length=n:=by have:=hr.len;simpa[bools] using this
 have HL:=AB hl;clear hl;go_enter Tryz.func69,Tryz.ntmps69
 go_wp2
 have B1:Blk (w.alloc (.cells #[.bool m,.slice A n c] 134)) w.heap.size 134 #[.bool m,.slice A n c]:=Blk.new _ _ _;have E1:Ext w (w.alloc (.cells #[.bool m,.slice A n c] 134)):=(Ext.refl _).alloc _;generalize w.alloc (.cells #[.bool m,.slice A n c] 134)=w1 at *;have hlt:=B1.lt;have hfld:=big_field1;have hc0:w1.cell? ⟨w.heap.size,1,none⟩=some (.slice A n c):=by rw[B1.cell];rfl
 go_region_with (first|(go_at_call 64;refine (of_any 1099511627776 (by omega) (by omega) _).mono ?_;rintro e w2 ⟨m0,A0,c0,l0,rfl,hR0,k1,k2,hP0,hX⟩;have hc2:=(hX.cells.1 _ _ hlt).trans hc0)|(go_at_call 96;refine (less_any A0 A l0.length c0 n c l0 l _ hR0 (hr.ext (E1.drew.trans hX)) (by have:=hP0.2.2;omega) hn).mono ?_;rintro e w3 ⟨rfl,rfl⟩))
 all_goals
  have hv0:val l0=1099511627776:=hP0.1;have B2:=B1.ext ((Ext.refl w1).drew.trans hX);have E2:=E1.trans ((Ext.refl w1).drew.trans hX);have R2:=hr.ext E2;have hcc:=B2.cell;rw[hv0];clear hv0 hP0 hR0 hc0 hc2 hX B1 E1 hlt hr hfld;by_cases hbig:1099511627776<val l
  ·have e0:decide (1099511627776<val l)=true:=by simp[hbig]
   rw[e0];have HB:=AB hbig;clear hbig e0;cases m
   ·go_wp2
    go_ret2;exact⟨ret2 (by have:=AA HB;rw[bigZ_f];unfold cutV;rw[if_pos (by omega)]) (by have:=AA HB;rw[bigZ_f];simp[cutB];omega),E2⟩
   ·go_wp2
    go_ret2;exact⟨ret2 (by have:=AA HB;rw[bigZ_t];unfold cutV;rw[if_neg (by omega),if_pos (by omega)]) (by have:=AA HB;rw[bigZ_t];simp[cutB];omega),E2⟩
  ·have e0:decide (1099511627776<val l)=false:=by simp[hbig]
   rw[e0];have HB:=AB hbig;clear hbig e0
   go_wp2
   go_loop [4,5] (fun v i=>∃j,j≤n∧((j=0∧i=.int .i64 (-1))∨∃q:Nat,j=q+1∧i=.int .i64 q)∧v=.int .i64 (val (l.drop j):Nat)) (fun _ i=>(intOf i+1).toNat)
   case atStart=>
    refine⟨n,Nat.le_refl _,?_,by rw[List.drop_eq_nil_of_le (by rw[AA HL];omega)];rfl⟩;cases n with
    |zero=>exact .inl ⟨rfl,rfl⟩
    |succ q=>exact .inr ⟨q,rfl,by go_num⟩
   case round=>
    obtain⟨j,hj,hi,rfl⟩:=hrel
    rcases hi with ⟨rfl,rfl⟩|⟨q,rfl,rfl⟩
    ·rw[List.drop_zero];have hb:=AA HB;cases m
     ·go_wp2
      go_ret2;exact⟨ret2 (by have:=AA HB;rw[bigZ_f];unfold cutV;rw[if_neg (by omega),if_neg (by omega)]) (by have:=AA HB;rw[bigZ_f];simp[cutB];omega),E2⟩
     ·go_wp2
      go_ret2;exact⟨ret2 (by have:=AA HB;rw[bigZ_t];unfold cutV;rw[if_neg (by omega),if_neg (by omega)]) (by have:=AA HB;rw[bigZ_t];simp[cutB];omega),E2⟩
    ·have hd:=val_drop l q;have hle:=val_drop_le l q;have ca:=at_any A n c q l _ R2 (by omega) (by omega);have b1:=atN_le l q;have hb:=AA HB;have HD:=AB hd;generalize val (l.drop (q+1))=V at *;generalize atN l q=X at *;have CA:=AB ca;have i1:2*(V:Int)+(X:Int)≤1099511627776:=by omega
     have i2:(X:Int)≤1:=by omega
     clear ca hd hle hb;go_wp2_with fail;refine (AA CA).mono ?_;rintro e w' ⟨rfl,rfl⟩;go_wp2_with fail
     go_round
     case rel=>
      refine⟨q,by omega,?_,by rw[AA HD];go_num⟩;cases q with
      |zero=>exact .inl ⟨rfl,rfl⟩
      |succ p=>exact .inr ⟨p,rfl,by go_num⟩
     case measure=>simp[intOf]
def ZP (z:Int) (k:Nat) (m:Bool) (l:List Bool):Prop:=bigZ m l=z∧(m=true→0<val l)∧shortOk l∧l.length≤k
theorem zp_short {m0 m:Bool} {l0 l:List Bool} {k:Nat} (h:ShortP m0 l0 m l) (hk:l0.length≤k):ZP (bigZ m0 l0) k m l:=by
 obtain⟨h1,h2,h3,h4⟩:=h;refine⟨?_,?_,h3,by omega⟩
 ·cases m0
  ·simp at h2;subst h2;rw[bigZ_f,bigZ_f,h1]
  ·simp at h2;by_cases hp:0<val l0
   ·simp[hp] at h2;subst h2;rw[bigZ_t,bigZ_t,h1]
   ·simp[hp] at h2;subst h2;rw[bigZ_f,bigZ_t,h1];omega
 ·intro hm;rw[hm] at h2;have:0<val l0:=by
   rcases Nat.eq_zero_or_pos (val l0) with h|h
   ·rw[h] at h2;simp at h2
   ·exact h
  omega
structure Dig (w0 w:World) (A:Option Addr) (c:Nat) (l:List Bool):Prop where
 rd:Rd w 1 A l.length (bools l)
 le:l.length≤c
 mx:c≤maxLen
 fr:Fresh w0 A
theorem Dig.ext {w0 w w':World} {A:Option Addr} {c:Nat} {l:List Bool} (h:Dig w0 w A c l) (hx:Ext w w'):Dig w0 w' A c l:=⟨h.rd.ext hx,h.le,h.mx,h.fr⟩
theorem Dig.set {w0 w:World} {A:Option Addr} {c:Nat} {l:List Bool} (h:Dig w0 w A c l) {p:Addr} (hp:p.block<w0.heap.size) (v:Value):Dig w0 (w.setCell p v) A c l:=
 ⟨h.rd.grown (w':=w.setCell p v) (row:=some p.block) ⟨rfl,rfl,rfl,by simp[World.setCell],fun i hi hne=>Below.heap_setCell w p v i (fun e=>hne (by rw[e]))⟩ (fun b off e h2=>by
  have:=h.fr b off e;injection h2 with h2;omega),h.le,h.mx,h.fr⟩
def BigFr (w:World) (P:Bool→List Bool→Prop) (e:Ending) (w':World):Prop:=
 ∃m A c l,e=.returned (bigV m A l.length c)∧Dig w w' A c l∧P m l∧Ext w w'
theorem zp_of {z:Int} {k:Nat} {s m:Bool} {l0 l:List Bool} (h:ShortP s l0 m l) (hk:l0.length≤k) (hz:bigZ s l0=z):ZP z k m l:=hz▸zp_short h hk
theorem add_any (ma mb:Bool) (A B:Option Addr) (n c k d:Nat) (a b:List Bool) (w:World) (ha:Rd w 1 A n (bools a)) (hb:Rd w 1 B k (bools b)) (hn:n≤90000) (hk:k≤90000) :
  Calls Tryz.prog 65 #[bigV ma A n c,bigV mb B k d] w (BigFr w (ZP (bigZ ma a+bigZ mb b) (max n k+1))):=by
 have la:a.length=n:=by have:=ha.len;simpa[bools] using this
 have lb:b.length=k:=by have:=hb.len;simpa[bools] using this
 have HL:=AB (And.intro la lb);clear la lb;go_enter Tryz.func65,Tryz.ntmps65;go_upto_region 1 with fail;have Ba:Blk (((w.alloc (.cells #[.bool ma,.slice A n c] 134)).alloc (.cells #[.bool mb,.slice B k d] 134)).alloc (.cells #[.bool false,.slice none 0 0] 134)) w.heap.size 134 #[.bool ma,.slice A n c]:=((Blk.new _ _ _).alloc _).alloc _;have Bb:Blk (((w.alloc (.cells #[.bool ma,.slice A n c] 134)).alloc (.cells #[.bool mb,.slice B k d] 134)).alloc (.cells #[.bool false,.slice none 0 0] 134)) (w.heap.size+1) 134 #[.bool mb,.slice B k d]:=(Blk.new1 _ _ _ _).alloc _;have Bo:Blk (((w.alloc (.cells #[.bool ma,.slice A n c] 134)).alloc (.cells #[.bool mb,.slice B k d] 134)).alloc (.cells #[.bool false,.slice none 0 0] 134)) (w.heap.size+2) 134 #[.bool false,.slice none 0 0]:=Blk.new2 _ _ _ _ _;have E0:Ext w (((w.alloc (.cells #[.bool ma,.slice A n c] 134)).alloc (.cells #[.bool mb,.slice B k d] 134)).alloc (.cells #[.bool false,.slice none 0 0] 134)):=(((Ext.refl _).alloc _).alloc _).alloc _;generalize (((w.alloc (.cells #[.bool ma,.slice A n c] 134)).alloc (.cells #[.bool mb,.slice B k d] 134)).alloc (.cells #[.bool false,.slice none 0 0] 134))=W0 at *;generalize hga:w.heap.size=ga at *;have HGA:=AB hga;clear hga;have lo:=Bo.lt;obtain⟨N,hN⟩:∃N,max n k+1=N:=⟨_,rfl⟩
 have HN:Hid (N≤90001):=by unfold Hid;omega
 obtain⟨Z,hZ⟩:∃Z,bigZ ma a+bigZ mb b=Z:=⟨_,rfl⟩
 have HZ:=AB (And.intro hN hZ);clear hN hZ;have da:=Ba.cell;have db:=Bb.cell;have za:=Ba.lt;have zb:=Bb.lt;cases hs:(ma==mb)
 ·have hab:(ma==mb)=false:=hs;have hmb:mb=!ma:=by cases ma<;>cases mb<;>simp_all
  have HM:=AB hmb;have cl:=AB (less_any A B n c k d a b W0 (ha.ext E0) (hb.ext E0) (by omega) (by omega));by_cases hlt:val a<val b
  ·have hd:decide (val a<val b)=true:=by simpa using hlt
   rw[hd] at cl;have HLT:=AB hlt;have cm:=fun W (h:Ext w W)=>AB ((minus_any B A k d n c b a W (hb.ext h) (ha.ext h) (by omega) (by omega) (by have:=AA HLT;omega)).mono (R':=BitsOut W fun o=>bigZ mb o=Z∧o.length≤N) (by
    rintro e w' ⟨A1,c1,l1,h1,h2,h3,h4,⟨h5,h6⟩,h7,h8⟩;refine⟨A1,c1,l1,h1,h2,h3,h4,⟨?_,?_⟩,h7,h8⟩
    ·rw[←(AA HZ).2,AA HM];cases ma<;>simp only[bigZ,Bool.not_true,Bool.not_false,Bool.false_eq_true,if_true,if_false]<;>have:=AA HLT<;>omega
    ·have:=(AA HZ).1;have:=AA HL;omega))
   clear hs hlt hd hmb;go_wp2_with fail;refine (AA cl).mono ?_;rintro e W1 ⟨rfl,rfl⟩;go_upto_region 4 with fail;clear da db za zb;have da:=Ba.cell;have db:=Bb.cell;have za:=Ba.lt;have zb:=Bb.lt;refine wp_region_ord [(1,0),(0,1),(1,2),(0,3),(1,4),(0,5),(2,6),(1,7),(2,8),(3,9)] 9 (fun w'=>Ext W0 w') (by kernel_rfl) (by kernel_rfl) rfl (by kernel_rfl) ((Ext.refl _).drew) ?_;simp only[AD]
   iterate 6 ((first|refine ordQA ?_|refine ordQB ?_);simp only[AC])
   have HX:=AB (Ext.refl W0).drew;generalize World.drew W0=wd at *;clear da db za zb;refine ord_keep ?_;go_wp2_with fail
   with_reducible refine (AA (cm _ (E0.trans (AA HX)))).mono ?_
   rintro e w1 ⟨A0,c0,l0,rfl,hR0,k1,k2,⟨q1,q2⟩,hx,hfr⟩;have HF:=AB (hfr.mono (AA HX));replace HX:=AB ((AA HX).trans hx);clear hx hfr;go_wp2_with fail;refine⟨AA HX,?_⟩
   iterate 1 ((first|refine ordQA ?_|refine ordQB ?_);simp only[AC])
   refine ord_keep ?_;go_wp2_with fail
   with_reducible refine (short_any mb A0 l0.length c0 l0 _ hR0 (by have:=AA HN;omega) k1 k2).mono ?_
   rintro e w2 ⟨m0,c1,l1,rfl,hR1,k3,k4,hS,hx⟩;replace HX:=AB ((AA HX).trans hx);clear hx;go_wp2_with fail;refine⟨AA HX,?_⟩;refine ord_last ?_;refine wpList_store_blk rfl 134 _ _ rfl (ga+2) rfl #[.bool m0,.slice A0 l1.length c1] rfl 134 #[.bool false,.slice none 0 0] (Bo.ext (AA HX)) (by kernel_rfl) rfl (by simp[Value.oneCell']) ?_;intro w3 B3 hg z3;refine⟨rfl,ord_nil ?_⟩;simp only[AC];have hR3:=hR1.grown hg (fun b off e h2=>by have:=AA HF b off e;injection h2 with h2;omega);have HE:=AB (Ext.grown (E0.trans (AA HX)) hg (fun j e=>by injection e with e;have:=AA HGA;omega));go_wp2_with fail;refine bodyPost_ret (results_cell1 rfl _ _ (ga+2) 134 _ _ rfl B3 Tryz.underlying134 rfl (by kernel_rfl)) rfl ?_;obtain⟨p1,p2⟩:=AA HZ;rw[p1,p2];exact⟨m0,A0,c1,l1,rfl,⟨hR3,k3,k4,(AA HF).mono E0⟩,zp_of hS q2 q1,AA HE⟩
  ·have hd:decide (val a<val b)=false:=by simpa using hlt
   rw[hd] at cl;have HLT:=AB hlt;have cm:=fun W (h:Ext w W)=>AB ((minus_any A B n c k d a b W (ha.ext h) (hb.ext h) (by omega) (by omega) (by have:=AA HLT;omega)).mono (R':=BitsOut W fun o=>bigZ ma o=Z∧o.length≤N) (by
    rintro e w' ⟨A1,c1,l1,h1,h2,h3,h4,⟨h5,h6⟩,h7,h8⟩;refine⟨A1,c1,l1,h1,h2,h3,h4,⟨?_,?_⟩,h7,h8⟩
    ·rw[←(AA HZ).2,AA HM];cases ma<;>simp only[bigZ,Bool.not_true,Bool.not_false,Bool.false_eq_true,if_true,if_false]<;>have:=AA HLT<;>omega
    ·have:=(AA HZ).1;have:=AA HL;omega))
   clear hs hlt hd hmb;go_wp2_with fail;refine (AA cl).mono ?_;rintro e W1 ⟨rfl,rfl⟩;go_upto_region 5 with fail;clear da db za zb;have da:=Ba.cell;have db:=Bb.cell;have za:=Ba.lt;have zb:=Bb.lt;refine wp_region_ord [(1,0),(0,1),(1,2),(0,3),(1,4),(0,5),(2,6),(1,7),(2,8),(3,9)] 9 (fun w'=>Ext W0 w') (by kernel_rfl) (by kernel_rfl) rfl (by kernel_rfl) ((Ext.refl _).drew) ?_;simp only[AD]
   iterate 6 ((first|refine ordQA ?_|refine ordQB ?_);simp only[AC])
   have HX:=AB (Ext.refl W0).drew;generalize World.drew W0=wd at *;clear da db za zb;refine ord_keep ?_;go_wp2_with fail
   with_reducible refine (AA (cm _ (E0.trans (AA HX)))).mono ?_
   rintro e w1 ⟨A0,c0,l0,rfl,hR0,k1,k2,⟨q1,q2⟩,hx,hfr⟩;have HF:=AB (hfr.mono (AA HX));replace HX:=AB ((AA HX).trans hx);clear hx hfr;go_wp2_with fail;refine⟨AA HX,?_⟩
   iterate 1 ((first|refine ordQA ?_|refine ordQB ?_);simp only[AC])
   refine ord_keep ?_;go_wp2_with fail
   with_reducible refine (short_any ma A0 l0.length c0 l0 _ hR0 (by have:=AA HN;omega) k1 k2).mono ?_
   rintro e w2 ⟨m0,c1,l1,rfl,hR1,k3,k4,hS,hx⟩;replace HX:=AB ((AA HX).trans hx);clear hx;go_wp2_with fail;refine⟨AA HX,?_⟩;refine ord_last ?_;refine wpList_store_blk rfl 134 _ _ rfl (ga+2) rfl #[.bool m0,.slice A0 l1.length c1] rfl 134 #[.bool false,.slice none 0 0] (Bo.ext (AA HX)) (by kernel_rfl) rfl (by simp[Value.oneCell']) ?_;intro w3 B3 hg z3;refine⟨rfl,ord_nil ?_⟩;simp only[AC];have hR3:=hR1.grown hg (fun b off e h2=>by have:=AA HF b off e;injection h2 with h2;omega);have HE:=AB (Ext.grown (E0.trans (AA HX)) hg (fun j e=>by injection e with e;have:=AA HGA;omega));go_wp2_with fail;refine bodyPost_ret (results_cell1 rfl _ _ (ga+2) 134 _ _ rfl B3 Tryz.underlying134 rfl (by kernel_rfl)) rfl ?_;obtain⟨p1,p2⟩:=AA HZ;rw[p1,p2];exact⟨m0,A0,c1,l1,rfl,⟨hR3,k3,k4,(AA HF).mono E0⟩,zp_of hS q2 q1,AA HE⟩
 ·have hab:(ma==mb)=true:=hs;have hmb:ma=mb:=by simpa using hs
  have HM:=AB hmb;have cp:=fun W (h:Ext w W)=>AB ((plus_any A B n c k d a b W (ha.ext h) (hb.ext h) (by omega) (by omega)).mono (R':=BitsOut W fun o=>bigZ ma o=Z∧o.length≤N) (by
    rintro e w' ⟨A1,c1,l1,h1,h2,h3,h4,⟨h5,h6⟩,h7,h8⟩;refine⟨A1,c1,l1,h1,h2,h3,h4,⟨?_,?_⟩,h7,h8⟩
    ·rw[←(AA HZ).2,←AA HM];cases ma<;>simp only[bigZ,Bool.false_eq_true,if_true,if_false]<;>omega
    ·have:=(AA HZ).1;have:=AA HL;omega))
  clear hs hmb;go_upto_region 2 with fail;clear da db za zb;have da:=Ba.cell;have db:=Bb.cell;have za:=Ba.lt;have zb:=Bb.lt;refine wp_region_ord [(1,0),(0,1),(1,2),(0,3),(1,4),(0,5),(2,6),(1,7),(2,8),(3,9)] 9 (fun w'=>Ext W0 w') (by kernel_rfl) (by kernel_rfl) rfl (by kernel_rfl) ((Ext.refl _).drew) ?_;simp only[AD]
  iterate 6 ((first|refine ordQA ?_|refine ordQB ?_);simp only[AC])
  have HX:=AB (Ext.refl W0).drew;generalize World.drew W0=wd at *;clear da db za zb;refine ord_keep ?_;go_wp2_with fail
  with_reducible refine (AA (cp _ (E0.trans (AA HX)))).mono ?_
  rintro e w1 ⟨A0,c0,l0,rfl,hR0,k1,k2,⟨q1,q2⟩,hx,hfr⟩;have HF:=AB (hfr.mono (AA HX));replace HX:=AB ((AA HX).trans hx);clear hx hfr;go_wp2_with fail;refine⟨AA HX,?_⟩
  iterate 1 ((first|refine ordQA ?_|refine ordQB ?_);simp only[AC])
  refine ord_keep ?_;go_wp2_with fail
  with_reducible refine (short_any ma A0 l0.length c0 l0 _ hR0 (by have:=AA HN;omega) k1 k2).mono ?_
  rintro e w2 ⟨m0,c1,l1,rfl,hR1,k3,k4,hS,hx⟩;replace HX:=AB ((AA HX).trans hx);clear hx;go_wp2_with fail;refine⟨AA HX,?_⟩;refine ord_last ?_;refine wpList_store_blk rfl 134 _ _ rfl (ga+2) rfl #[.bool m0,.slice A0 l1.length c1] rfl 134 #[.bool false,.slice none 0 0] (Bo.ext (AA HX)) (by kernel_rfl) rfl (by simp[Value.oneCell']) ?_;intro w3 B3 hg z3;refine⟨rfl,ord_nil ?_⟩;simp only[AC];have hR3:=hR1.grown hg (fun b off e h2=>by have:=AA HF b off e;injection h2 with h2;omega);have HE:=AB (Ext.grown (E0.trans (AA HX)) hg (fun j e=>by injection e with e;have:=AA HGA;omega));go_wp2_with fail;refine bodyPost_ret (results_cell1 rfl _ _ (ga+2) 134 _ _ rfl B3 Tryz.underlying134 rfl (by kernel_rfl)) rfl ?_;obtain⟨p1,p2⟩:=AA HZ;rw[p1,p2];exact⟨m0,A0,c1,l1,rfl,⟨hR3,k3,k4,(AA HF).mono E0⟩,zp_of hS q2 q1,AA HE⟩
theorem of_zs {x:Int} {m:Bool} {l:List Bool} (h:OfP x m l):bigZ m l=x:=by
 obtain⟨h1,h2,_⟩:=h;subst h2;by_cases hx:x<0
 ·rw[decide_eq_true hx,bigZ_t,h1];omega
 ·rw[decide_eq_false hx,bigZ_f,h1];omega
theorem ints_cell {w:World} {A:Option Addr} {n:Nat} {zs:List Int} (h:Rd w 1 A n (ints zs)) {k:Nat} (hk:k<n):∃b off z,A=some ⟨b,off,none⟩∧b<w.heap.size∧zs[k]?=some z∧w.cell? ⟨b,off+k,none⟩=some (.int .i64 z):=by
 obtain⟨b,off,u,rfl,hb,hu,hc⟩:=h.get hk;unfold ints at hu;rw[List.getElem?_map] at hu;cases hq:zs[k]? with
 |none=>simp[hq] at hu
 |some z=>exact⟨b,off,z,rfl,hb,rfl,by rw[hc];simpa[hq] using hu.symm⟩
structure BigSumRel (w wr:World) (g:Nat) (zs:List Int) (k:Nat):Prop where
 ext:Ext w wr
 o:∃m A c l,Blk wr g 134 #[.bool m,.slice A l.length c]∧Rd wr 1 A l.length (bools l)∧bigZ m l=lsum (zs.take k)∧l.length≤65+k∧∀b off,A=some ⟨b,off,none⟩→b≠g
theorem refsum_any (A:Option Addr) (n c:Nat) (zs:List Int) (w:World) (hr:Rd w 1 A n (ints zs)) (hz:I64s zs) (hn:n≤20000) :
  Calls Tryz.prog 105 #[.slice A n c] w fun e w'=>e=.returned (.tuple #[.int .i64 (cutV (lsum zs)),.bool (cutB (lsum zs))])∧Ext w w':=by
 have hl:zs.length=n:=by have:=hr.len;simpa[ints] using this
 have HL:=AB hl;clear hl;go_enter Tryz.func105,Tryz.ntmps105;go_wp2_with fail;have B0:Blk (w.alloc (.cells #[.bool false,.slice none 0 0] 134)) w.heap.size 134 #[.bool false,.slice none 0 0]:=Blk.new _ _ _;have E0:Ext w (w.alloc (.cells #[.bool false,.slice none 0 0] 134)):=(Ext.refl _).alloc _;generalize w.alloc (.cells #[.bool false,.slice none 0 0] 134)=wa at *;go_loopw [5] (fun i wr=>∃k:Nat,k≤n∧i=.int .i64 k∧BigSumRel w wr w.heap.size zs k) (fun i _=>n-(intOf i).toNat)
 case atStart=>exact⟨0,Nat.zero_le _,rfl,E0,false,none,0,[],B0,Rd.nil _ _ _,rfl,by simp,by intro b off h;cases h⟩
 case round=>
  clear B0 E0 wa;obtain⟨k,hk,rfl,E0,m,Ao,co,lo,Bo,Ro,hV,hLo,hne⟩:=hrel;generalize hgo:w.heap.size=go at *;have HGO:=AB hgo;clear hgo;by_cases hlt:k<n
  ·have hltI:(k:Int)<(n:Int):=by omega
   obtain⟨b,off,z,rfl,hb,hzk,hc⟩:=ints_cell hr hlt;have hbz:=hz z (List.mem_of_getElem? hzk);have htk:lsum (zs.take (k+1))=bigZ m lo+z:=by
    have hlt':k<zs.length:=by have:=AA HL;omega
    rw[lsum_take zs k hlt',hV];rw[AE hlt'] at hzk;injection hzk with hzk;rw[hzk]
   have HT:=AB htk;have hcW:∀W:World,Ext w W→W.cell? ⟨b,off+k,none⟩=some (.int .i64 z):=fun W h=>(h.cells.1 b (off+k) hb).trans hc
   have HC:=AB hcW;clear hV htk hzk hr hcW hc;generalize wr=W0 at *;have lo0:=Bo.lt;have cz:=AA HC W0 E0;have d0:=Bo.cell;have hbw:=Nat.lt_of_lt_of_le hb E0.size;go_upto_region 5 with fail;refine wp_region_ord [(0,0),(1,1),(1,2),(1,3),(0,4),(2,5),(2,6),(3,7)] 7 (fun w'=>Ext W0 w') (by kernel_rfl) (by kernel_rfl) rfl (by kernel_rfl) ((Ext.refl _).drew) ?_;simp only[AD]
   iterate 5 ((first|refine ordQA ?_|refine ordQB ?_);simp only[AC])
   have HX:=AB (Ext.refl W0).drew;generalize World.drew W0=wd at *;clear cz d0 hbw;refine ord_keep ?_;go_wp2_with fail
   with_reducible refine (of_any z hbz.1 hbz.2 _).mono ?_
   rintro e w1 ⟨m0,A0,c0,l0,rfl,hR0,k1,k2,hP0,hx⟩;replace HX:=AB ((AA HX).trans hx);clear hx;go_wp2_with fail;refine⟨AA HX,?_⟩;have hz1:=of_zs hP0;have hl1:l0.length≤64:=hP0.2.2;refine ord_keep ?_;go_wp2_with fail
   with_reducible refine (add_any m m0 Ao A0 lo.length co l0.length c0 lo l0 _ (Ro.ext (AA HX)) hR0 (by omega) (by omega)).mono ?_
   rintro e w2 ⟨m1,A1,c1,l1,rfl,hD,hZ,hx⟩;have HFR:=AB (hD.fr.mono (AA HX));replace HX:=AB ((AA HX).trans hx);clear hx;go_wp2_with fail;refine⟨AA HX,?_⟩;rw[hz1] at hZ;refine ord_last ?_;refine wpList_store_blk rfl 134 _ _ rfl go rfl #[.bool m1,.slice A1 l1.length c1] rfl 134 #[.bool m,.slice Ao lo.length co] (Bo.ext (AA HX)) (by kernel_rfl) rfl (by simp[Value.oneCell']) ?_;intro w3 B3 hg z3;refine⟨rfl,ord_nil ?_⟩;simp only[AC];have hR3:=hD.rd.grown hg (fun b off e h2=>by have:=AA HFR b off e;injection h2 with h2;omega);have HE:=AB (Ext.grown (E0.trans (AA HX)) hg (fun j e=>by injection e with e;have:=AA HGO;omega));go_wp2_with fail;go_roundw
   case rel=>exact⟨k+1,by omega,by go_num,AA HE,m1,A1,c1,l1,B3,hR3,by rw[AA HT];exact hZ.1,by have:=hZ.2.2.2;omega,fun b off e=>by have:=AA HFR b off e;omega⟩
   case measure=>simp[intOf];omega
  ·obtain rfl:k=n:=by omega
   have hS:zs.take k=zs:=List.take_of_length_le (by have:=AA HL;omega);rw[hS] at hV;have cc:=AB (by have:=refcut_any m Ao lo.length co lo wr Ro (by omega);rwa [hV] at this);have d0:=Bo.cell;clear hS hV hz hr Ro;obtain⟨X,hX⟩:∃X,cutV (lsum zs)=X:=⟨_,rfl⟩
   obtain⟨p,hp⟩:∃p,cutB (lsum zs)=p:=⟨_,rfl⟩
   rw[hX,hp] at cc;have HX:=AB (And.intro hX hp);clear hX hp;go_wp2_with fail;refine (AA cc).mono ?_;rintro e w3 ⟨rfl,hx⟩;go_wp2_with fail;go_ret2;obtain⟨q1,q2⟩:=AA HX;exact⟨by rw[q1,q2];rfl,E0.trans hx⟩
theorem Dig.apart {w0 w:World} {A:Option Addr} {c g:Nat} {l:List Bool} (h:Dig w0 w A c l) (hs:shortOk l) (hb:Blk w g 134 #[.bool false,.slice none 0 0]) (hl:l≠[]):∀b off,A=some ⟨b,off,none⟩→b≠g:=by
 rintro b off rfl rfl;have hl0:0<l.length:=List.length_pos_iff.2 hl;obtain⟨b',off',e,hb',hc⟩:=h.rd.at_ hl0;injection e with e;injection e with e1 e2 _;subst e1 e2;have hh:=hb.cell;have hc0:∀j u,l[j]?=some u→w.cell? ⟨b,off+j,none⟩=some (.bool u):=fun j u hu=>by
  have:=hc j (.bool u) (by simp[bools,hu]);simpa using this
 obtain⟨u0,hu0⟩:∃u,l[0]?=some u:=⟨l[0],AE hl0⟩
 have k0:=hc0 0 u0 hu0;rw[hh] at k0
 rcases off with _|_|off
 ·simp at k0
  rcases Nat.lt_or_ge 1 l.length with h2|h2
  ·have k1:=hc0 1 l[1] (AE h2);rw[hh] at k1;simp at k1
  ·have h1:l=[u0]:=by
    match l,hl0,h2,hu0 with
    |[x],_,_,h=>simpa using h
   rw[h1,k0] at hs
   rcases hs with hs|hs<;>simp[val] at hs
 ·simp at k0
 ·simp at k0
theorem Dig.put {w0 w:World} {A:Option Addr} {c g:Nat} {l:List Bool} (h:Dig w0 w A c l) (hs:shortOk l) (hb:Blk w g 134 #[.bool false,.slice none 0 0]) (i:Nat) (v:Value) (w':World) (hw:w'=w.setCell ⟨g,i,none⟩ v):Dig w0 w' A c l:=by
 subst hw;refine⟨?_,h.le,h.mx,h.fr⟩;by_cases hl:l=[]
 ·subst hl;exact Rd.nil _ _ _
 ·exact h.rd.grown (w':=w.setCell ⟨g,i,none⟩ v) (row:=some g) ⟨rfl,rfl,rfl,by simp[World.setCell],fun j hj hn=>Below.heap_setCell w _ _ j (fun e=>hn (congrArg some e))⟩ (fun b off e h2=>h.apart hs hb hl b off e (Option.some.inj h2).symm)
def BigAt (w:World) (v:Value) (z:Int) (k:Nat):Prop:=∃m A c l,v=bigV m A l.length c∧Rd w 1 A l.length (bools l)∧bigZ m l=z∧l.length≤k
theorem BigAt.ext {w w':World} {v:Value} {z:Int} {k:Nat} (h:BigAt w v z k) (hx:Ext w w'):BigAt w' v z k:=by
 obtain⟨m,A,c,l,h1,h2,h3⟩:=h;exact⟨m,A,c,l,h1,h2.ext hx,h3⟩
def BigVar (w:World) (g:Nat) (z:Int) (k:Nat):Prop:=∃m A c l,Blk w g 134 #[.bool m,.slice A l.length c]∧Rd w 1 A l.length (bools l)∧bigZ m l=z∧l.length≤k∧(l≠[]→∀b off,A=some ⟨b,off,none⟩→b≠g)
theorem BigVar.ext {w w':World} {g:Nat} {z:Int} {k:Nat} (h:BigVar w g z k) (hx:Ext w w'):BigVar w' g z k:=by
 obtain⟨m,A,c,l,h1,h2,h3⟩:=h;exact⟨m,A,c,l,h1.ext hx,h2.ext hx,h3⟩
def minL (x:Int) (l:List Int):Int:=l.foldl (fun a b=>if b<a then b else a) x
def stepM (f:Int) (s:Int) (p:Int×Int):Int:=if s<p.1+p.2-f then p.1+p.2-f else s
def covM (f:Int) (l:List (Int×Int)):Int:=l.foldl (stepM f) 0
end Go.Proofs.YtamldoocjjdidaaGreat
