import Derived.Test.YtamldoocjjdidaaGreatMHuB
import Derived.Test.YtamldoocjjdidaaGreatMHuD
namespace Go.Proofs.YtamldoocjjdidaaGreat
open Go.RowKit
set_option maxRecDepth 100000
set_option maxHeartbeats 64000000
theorem rows_in {rs:List (List Nat)} {n:Nat} (h:rs.flatten.Perm (List.range n)) {r:Nat} {z:Int} (hz:z∈castL (rs.getD r [])):0≤z∧z<(n:Int):=by
 unfold castL at hz;obtain⟨k,hk,rfl⟩:=List.mem_map.1 hz;have h1:k∈rs.flatten:=by
  rcases getD_in2 rs r [] with h2|h2
  ·exact List.mem_flatten.2 ⟨_,h2,hk⟩
  ·rw[h2] at hk;cases hk
 have:=List.mem_range.1 (h.mem_iff.1 h1);omega
theorem rows_short {rs:List (List Nat)} {n:Nat} (h:rs.flatten.Perm (List.range n)) (r:Nat):(castL (rs.getD r [])).length≤n:=by
 have h0:(castL (rs.getD r [])).length=(rs.getD r []).length:=by simp[castL]
 have h1:rs.flatten.length=n:=by rw[h.length_eq,List.length_range]
 rw[h0,←h1]
 rcases getD_in2 rs r [] with h2|h2
 ·exact (List.sublist_flatten_of_mem h2).length_le
 ·rw[h2];simp
structure GSt (w3 w:World) (gI:Nat) (il:Il) (n1 n2 n3 n4:Nat) (u1 u2 u3 u4:Value) (ss:List Sty) (us:List Us) (cs:List Ct) (hs:List Int):Prop where
 ext:Ext w3 w
 bi:Blk w gI 117 (ilC il).toArray
 o1:w.ownsRow w3.heap.size 65 43 u1 n1 (recs styC ss)
 o2:w.ownsRow w3.heap.size 120 3 u2 n2 (recs usC us)
 o3:w.ownsRow w3.heap.size 108 4 u3 n3 (recs ctC cs)
 o4:w.ownsRow w3.heap.size 2 1 u4 n4 (ints hs)
 k1:∀s∈ss,NdOk s
 k2:∀u∈us,UsOk u
 k3:CtsOk cs
section
variable {w3 w w':World} {gI n1 n2 n3 n4:Nat} {il:Il} {u1 u2 u3 u4 v:Value} {ss:List Sty} {us:List Us} {cs:List Ct} {hs:List Int}
theorem GSt.step (h:GSt w3 w gI il n1 n2 n3 n4 u1 u2 u3 u4 ss us cs hs) (hx:Ext w w'):GSt w3 w' gI il n1 n2 n3 n4 u1 u2 u3 u4 ss us cs hs:=
 ⟨h.ext.trans hx,h.bi.ext hx,own_ext h.o1 hx,own_ext h.o2 hx,own_ext h.o3 hx,own_ext h.o4 hx,h.k1,h.k2,h.k3⟩
theorem GSt.var (h:GSt w3 w gI il n1 n2 n3 n4 u1 u2 u3 u4 ss us cs hs) {q z:Nat} (hg:w.grownBy w' (some q)) (hlo:w3.heap.size≤q) (hI:gI≠q) (hb:∀v,(v=u1∨v=u2∨v=u3∨v=u4)→∀b,v.ownBlock=some b→b<z) (hz:z≤q):GSt w3 w' gI il n1 n2 n3 n4 u1 u2 u3 u4 ss us cs hs:=
 ⟨h.ext.grownBlk hg hlo,h.bi.grownNe hg hI,own_grown h.o1 hg (fun b e=>by have:=hb _ (.inl rfl) b e;omega),own_grown h.o2 hg (fun b e=>by have:=hb _ (.inr (.inl rfl)) b e;omega),own_grown h.o3 hg (fun b e=>by have:=hb _ (.inr (.inr (.inl rfl))) b e;omega),own_grown h.o4 hg (fun b e=>by have:=hb _ (.inr (.inr (.inr rfl))) b e;omega),h.k1,h.k2,h.k3⟩
theorem GSt.lt (h:GSt w3 w gI il n1 n2 n3 n4 u1 u2 u3 u4 ss us cs hs):∀v,(v=u1∨v=u2∨v=u3∨v=u4)→∀b,v.ownBlock=some b→b<w.heap.size:=fun v hv b e=>by
 rcases hv with rfl|rfl|rfl|rfl
 ·exact (h.o1.lt b e).2
 ·exact (h.o2.lt b e).2
 ·exact (h.o3.lt b e).2
 ·exact (h.o4.lt b e).2
theorem GSt.push1 (h:GSt w3 w gI il n1 n2 n3 n4 u1 u2 u3 u4 ss us cs hs) {s:Sty} (hs':NdOk s) (hx:Ext w3 w') (hg:w.grownBy w' u1.ownBlock) (ho:w'.ownsRow w3.heap.size 65 43 v (n1+1) (recs styC ss++styC s)):GSt w3 w' gI il (n1+1) n2 n3 n4 v u2 u3 u4 (ss++[s]) us cs hs:=
 ⟨hx,h.bi.grownOwn hg (own_blk_ne h.o1 h.bi (by decide)),by rw[recs_append,recs_one];exact ho,h.o2.kept hg (own_ne h.o2 h.o1 (by decide)),h.o3.kept hg (own_ne h.o3 h.o1 (by decide)),h.o4.kept hg (own_ne h.o4 h.o1 (by decide)),fun x hx=>by
  rcases List.mem_append.1 hx with hx|hx
  ·exact h.k1 x hx
  ·rw[List.mem_singleton.1 hx];exact hs',h.k2,h.k3⟩
theorem GSt.push2 (h:GSt w3 w gI il n1 n2 n3 n4 u1 u2 u3 u4 ss us cs hs) {u:Us} (hu:UsOk u) (hx:Ext w3 w') (hg:w.grownBy w' u2.ownBlock) (ho:w'.ownsRow w3.heap.size 120 3 v (n2+1) (recs usC us++usC u)):GSt w3 w' gI il n1 (n2+1) n3 n4 u1 v u3 u4 ss (us++[u]) cs hs:=
 ⟨hx,h.bi.grownOwn hg (own_blk_ne h.o2 h.bi (by decide)),h.o1.kept hg (own_ne h.o1 h.o2 (by decide)),by rw[recs_append,recs_one];exact ho,h.o3.kept hg (own_ne h.o3 h.o2 (by decide)),h.o4.kept hg (own_ne h.o4 h.o2 (by decide)),h.k1,fun x hx=>by
  rcases List.mem_append.1 hx with hx|hx
  ·exact h.k2 x hx
  ·rw[List.mem_singleton.1 hx];exact hu,h.k3⟩
theorem GSt.push3 (h:GSt w3 w gI il n1 n2 n3 n4 u1 u2 u3 u4 ss us cs hs) {c:Ct} (hc:CtOk c) (hx:Ext w3 w') (hg:w.grownBy w' u3.ownBlock) (ho:w'.ownsRow w3.heap.size 108 4 v (n3+1) (recs ctC cs++ctC c)):GSt w3 w' gI il n1 n2 (n3+1) n4 u1 u2 v u4 ss us (cs++[c]) hs:=
 ⟨hx,h.bi.grownOwn hg (own_blk_ne h.o3 h.bi (by decide)),h.o1.kept hg (own_ne h.o1 h.o3 (by decide)),h.o2.kept hg (own_ne h.o2 h.o3 (by decide)),by rw[recs_append,recs_one];exact ho,h.o4.kept hg (own_ne h.o4 h.o3 (by decide)),h.k1,h.k2,fun x hx=>by
  rcases List.mem_append.1 hx with hx|hx
  ·exact h.k3 x hx
  ·rw[List.mem_singleton.1 hx];exact hc⟩
theorem GSt.push4 (h:GSt w3 w gI il n1 n2 n3 n4 u1 u2 u3 u4 ss us cs hs) {z:Int} (hx:Ext w3 w') (hg:w.grownBy w' u4.ownBlock) (ho:w'.ownsRow w3.heap.size 2 1 v (n4+1) (ints hs++[.int .i64 z])):GSt w3 w' gI il n1 n2 n3 (n4+1) u1 u2 u3 v ss us cs (hs++[z]):=
 ⟨hx,h.bi.grownOwn hg (own_blk_ne h.o4 h.bi (by decide)),h.o1.kept hg (own_ne h.o1 h.o4 (by decide)),h.o2.kept hg (own_ne h.o2 h.o4 (by decide)),h.o3.kept hg (own_ne h.o3 h.o4 (by decide)),by rw[show ints (hs++[z])=ints hs++[.int .i64 z] by simp[ints]];exact ho,h.k1,h.k2,h.k3⟩
end
structure CSt (w5 w:World) (gI:Nat) (il:Il) (i:Nat) (fs:List Fg) (bl:List Bool):Prop where
 ext:ExtX w5 w [gI]
 hi:gI<w5.heap.size
 bi:Blk w gI 117 (ilC il).toArray
 of:w.ownsRow w5.heap.size 58 5 (.slice il.fA il.fn il.fc) il.fn (recs fgC fs)
 fok:∀f∈fs,(InM f.x∧InM f.y∧InM f.w∧InM f.h)∧f.lA=none∧f.ln=0∧f.lc=0
 ob:w.ownsRow w5.heap.size 4 1 (.slice il.bA il.bn il.bc) il.bn (boolL bl)
section
variable {w5 w w':World} {gI:Nat} {il il':Il} {i:Nat} {fs:List Fg} {bl:List Bool}
theorem CSt.step (h:CSt w5 w gI il i fs bl) (hx:Ext w w'):CSt w5 w' gI il i fs bl:=
 ⟨h.ext.trans hx,h.hi,h.bi.ext hx,own_ext h.of hx,h.fok,own_ext h.ob hx⟩
theorem CSt.varF (h:CSt w5 w gI il i fs bl) {gV:Nat} {cs:Array Value} (hV:Blk w gV 58 cs) (hg:w.grownBy w' (some gV)) (hlo:w5.heap.size≤gV) (hne:∀q,(Value.slice il.fA il.fn il.fc).ownBlock=some q→q≠gV):CSt w5 w' gI il i fs bl:=
 ⟨h.ext.grownRow hg (fun q e=>by have:=Option.some.inj e;exact .inl (by omega)),h.hi,h.bi.grownNe hg (blk_ne h.bi hV (by decide)),own_grown h.of hg hne,h.fok,own_grown h.ob hg (own_blk_ne h.ob hV (by decide))⟩
theorem CSt.pushF (h:CSt w5 w gI il i fs bl) {f:Fg} {A5:Option Addr} {c5:Nat} (hf:(InM f.x∧InM f.y∧InM f.w∧InM f.h)∧f.lA=none∧f.ln=0∧f.lc=0) (hg:w.grownBy w' (Value.ownBlock (.slice il.fA il.fn il.fc))) (ho:w'.ownsRow w5.heap.size 58 5 (.slice A5 (il.fn+1) c5) (il.fn+1) (recs fgC fs++fgC f)) :
  CSt w5 (w'.setCell ⟨gI,1,none⟩ (.slice A5 (il.fn+1) c5)) gI { il with fA:=A5,fn:=il.fn+1,fc:=c5 } (i+1) (fs++[f]) bl:=by
 have B1:=h.bi.grownOwn hg (own_blk_ne h.of h.bi (by decide));have hs:=gsCell (w:=w') gI 1 (u:=.slice A5 (il.fn+1) c5);have hb1:=h.ob.kept hg (own_ne h.ob h.of (by decide));refine⟨(h.ext.grownRow hg (fun q e=>.inl (h.of.lt q e).1)).grownRow hs (fun q e=>.inr (by simp[←Option.some.inj e])),h.hi,B1.set_ 1 _,?_,?_,own_grown hb1 hs (own_blk_ne hb1 B1 (by decide))⟩
 ·show World.ownsRow _ _ _ 5 (.slice A5 (il.fn+1) c5) (il.fn+1) (recs fgC (fs++[f]))
  rw[recs_append,recs_one];exact own_grown ho hs (own_blk_ne ho B1 (by decide))
 ·intro q hq
  rcases List.mem_append.1 hq with hq|hq
  ·exact h.fok q hq
  ·rw[List.mem_singleton.1 hq];exact hf
theorem CSt.cell (h:CSt w5 w gI il i fs bl) (j:Nat) (v:Value) (hv:(ilC il).toArray.setIfInBounds j v=(ilC il').toArray) (h1:il'.fA=il.fA∧il'.fn=il.fn∧il'.fc=il.fc) (h2:il'.bA=il.bA∧il'.bn=il.bn∧il'.bc=il.bc):CSt w5 (w.setCell ⟨gI,j,none⟩ v) gI il' i fs bl:=by
 have hg:=gsCell (w:=w) gI j (u:=v);obtain⟨a1,a2,a3⟩:=h1;obtain⟨b1,b2,b3⟩:=h2;refine⟨h.ext.grownRow hg (fun q e=>.inr (by simp[←Option.some.inj e])),h.hi,hv▸h.bi.set_ j v,?_,h.fok,?_⟩
 ·rw[a1,a2,a3];exact own_grown h.of hg (own_blk_ne h.of h.bi (by decide))
 ·rw[b1,b2,b3];exact own_grown h.ob hg (own_blk_ne h.ob h.bi (by decide))
theorem ExtX.rd4 {w4 w8 w':World} {k n:Nat} {A:Option Addr} {ys:List Value} {xs:List Nat} (h4:Rd w4 k A n ys) (e:ExtX w8 w' xs) (h8:Rd w8 k A n ys) (hx:∀x∈xs,w4.heap.size≤x):Rd w' k A n ys:=
 ⟨h8.len,fun hn=>by
  obtain⟨b,off,rfl,hb,_⟩:=h4.at_ hn;exact (e.rd h8 (fun b' o' e' hm=>by
   injection e' with e';injection e' with e' e2;subst e';have:=hx _ hm;omega)).at_ hn⟩
theorem CSt.pushB (h:CSt w5 w gI il i fs bl) {b:Bool} {A5:Option Addr} {c5:Nat} (hg:w.grownBy w' (Value.ownBlock (.slice il.bA il.bn il.bc))) (ho:w'.ownsRow w5.heap.size 4 1 (.slice A5 (il.bn+1) c5) (il.bn+1) (boolL bl++[.bool b])) :
  CSt w5 (w'.setCell ⟨gI,2,none⟩ (.slice A5 (il.bn+1) c5)) gI { il with bA:=A5,bn:=il.bn+1,bc:=c5 } i fs (bl++[b]):=by
 have B1:=h.bi.grownOwn hg (own_blk_ne h.ob h.bi (by decide));have hs:=gsCell (w:=w') gI 2 (u:=.slice A5 (il.bn+1) c5);have hf1:=h.of.kept hg (own_ne h.of h.ob (by decide));refine⟨(h.ext.grownRow hg (fun q e=>.inl (h.ob.lt q e).1)).grownRow hs (fun q e=>.inr (by simp[←Option.some.inj e])),h.hi,B1.set_ 2 _,own_grown hf1 hs (own_blk_ne hf1 B1 (by decide)),h.fok,?_⟩
 show World.ownsRow _ _ _ 1 (.slice A5 (il.bn+1) c5) (il.bn+1) (boolL (bl++[b]))
 rw[show boolL (bl++[b])=boolL bl++[.bool b] by simp[boolL]];exact own_grown ho hs (own_blk_ne ho B1 (by decide))
end
section
variable {w:World} {ns:List Nd} {av:List Int} {un:Nat→List Int} {us:List Us} {cs:List Ct} {hs:List Int}
theorem island23_any (t:Tr) (root:Nat) (hr:root<ns.length) (hroot:rootN ns root=true) (uA cA hA:Option Addr) (nu uc nc cc nh hc:Nat) (h:LT w t ns av un) (ru:Rd w 3 uA nu (recs usC us)) (uok:∀u∈us,UsOk u) (rc:Rd w 4 cA nc (recs ctC cs)) (cok:CtsOk cs) (rh:Rd w 1 hA nh (ints hs)) (few:nu≤1000000∧nh≤1000000) (_fewc:nc≤1000000) :
  Calls Tryz.prog 56 #[.agg t.cs,.int .i64 root,.slice uA nu uc,.slice cA nc cc,.slice hA nh hc] w (IsleIs w ns.length):=by
 have hf:=h.few;have hnl:=h.tr.nodes.nlen;have hm:t.nl≤1000000:=by omega
 have H:=AB h;have hr':=AB hr;have cR:=fun w h=>AB (show Calls Tryz.prog 83 #[.agg t.cs,.int .i64 root] w _ from refroot_in t ns root hr w h (by unfold maxLen;omega))
 rw[hroot] at cR;have cB:=fun w h ru rh=>AB (block22_any (w:=w) (us:=us) (hs:=hs) (av:=av) (un:=un) t root hr uA hA nu uc nh hc h ru uok rh few)
 clear h hnl hroot;go_enter Tryz.func56,Tryz.ntmps56;go_upto_region 1 with fail;generalize hw1:World.alloc (World.alloc w _) _=w1;obtain⟨gT,hgT⟩:∃g,w.heap.size=g:=⟨_,rfl⟩
 have BT:Blk w1 gT 25 t.cs:=by rw[←hw1,←hgT];exact (Blk.new _ _ _).alloc _
 have BZ:Blk w1 (gT+1) 117 (ilC zIl).toArray:=by rw[←hw1,←hgT];exact Blk.new1 _ _ _ _
 have E1:=AB (show Ext w w1 by rw[←hw1];exact ((Ext.refl _).alloc _).alloc _);rw[hgT];have HGT:=AB hgT;clear hgT hw1;have c0:=(BT.cell 0).trans (rfl:_=some (Value.slice t.na t.nl t.nc));have c1:=(BT.cell 1).trans (rfl:_=some (Value.slice t.aa t.al t.ac));have c2:=(BT.cell 2).trans (rfl:_=some (Value.int .i64 t.view));have lT:=BT.lt;go_wp2_with fail
 with_reducible refine (AA (cR _ ((AA H).ext (AA E1)).tr.nodes)).mono ?_
 rintro e w2 ⟨rfl,hx⟩;replace BT:=BT.ext hx;replace BZ:=BZ.ext hx;replace E1:=AB ((AA E1).trans hx);clear hx cR c0 c1 c2 lT;obtain⟨nd,hnd⟩:∃nd,ns[root]?=some nd:=⟨_,AE hr⟩
 obtain⟨bn,on,hna,lbn,hcn⟩:=((AA H).ext (AA E1)).tr.nodes.node hnd;have HNd:=AB ((AA H).ok.nd hnd);have HC:=AB hcn;have HNA:=AB hna;have c0:=(BT.cell 0).trans (rfl:_=some (Value.slice t.na t.nl t.nc));rw[hna] at c0;have lT:=BT.lt;have hiN:(0:Int)≤(root:Int)∧(root:Int)<(t.nl:Int):=by have:=(AA H).tr.nodes.nlen;omega
 clear hcn hnd hna;go_upto_region 3 with fail
 iterate 16 go_step
 refine wpList_load_sty (.tmp 41) rfl bn (on+root*44+1) rfl rfl nd.s (fun x v hv=>(by have h1:=(AA HC) (1+x) v (by rw[Nat.add_comm];exact hv);rwa [←Nat.add_assoc] at h1)) ?_;simp only[AC];refine wpList_var rfl rfl 65 rfl 11 rfl (.tmp 42) rfl rfl zsty.cells nd.s.cells zero_sty rfl rfl (info_style _) rfl (by kernel_rfl) ?_;intro w3 BS hx z3;simp only[AC];replace BT:=BT.ext hx;replace BZ:=BZ.ext hx;replace E1:=AB ((AA E1).trans hx);generalize w2.heap.size=gS at *;clear hx z3 c0 lT lbn HC;have kd:=(BS.cell 0).trans (rfl:_=some (Value.int .u8 nd.s.kind));have lS:=BS.lt;obtain⟨t1,ht1⟩:∃t,(nd.s.kind==1)=t:=⟨_,rfl⟩
 go_upto_if 45 with (fail);clear kd lS;cases t1
 ·as_aux_lemma=>
  clear ht1 cB;obtain⟨zs,hzs⟩:∃l,insN ns (root:Int)=l:=⟨_,rfl⟩
  have HZ:=AB (fun z (hz:z∈zs)=>insN_mem (hzs▸hz));have hzl:zs.length≤ns.length:=by rw[←hzs];exact insN_len ns _
  have cI:=fun w h=>AB (refinside_any t ns (AA H).ok (root:Int) w h hm)
  rw[hzs] at cI;clear hzs;have c0:=(BT.cell 0).trans (rfl:_=some (Value.slice t.na t.nl t.nc));have c1:=(BT.cell 1).trans (rfl:_=some (Value.slice t.aa t.al t.ac));have c2:=(BT.cell 2).trans (rfl:_=some (Value.int .i64 t.view));have lT:=BT.lt;go_wp2_with fail
  with_reducible refine (AA (cI _ ((AA H).ext (AA E1)).tr.nodes)).mono ?_
  rintro e w4 ⟨An,cn,rfl,RN,hx,hfr⟩;have HFR:=AB hfr;have HW3:=AB (show gT+1<w3.heap.size from BZ.lt);replace BT:=BT.ext hx;replace BS:=BS.ext hx;replace BZ:=BZ.ext hx;replace E1:=AB ((AA E1).trans hx);clear hx cI c0 c1 c2 lT hfr;dsimp only
  iterate 4 go_step
  refine wpList_var rfl rfl 117 rfl 12 rfl (.tmp 54) rfl rfl (ilC zIl).toArray (ilC ⟨An,zs.length,cn,none,0,0,none,0,0,0,none,0,0,false⟩).toArray ilC_zero rfl rfl (ilC_size _) rfl (by kernel_rfl) ?_;intro w5 BI hx z5;simp only[AC];have G:GSt w4 w5 w4.heap.size ⟨An,zs.length,cn,none,0,0,none,0,0,0,none,0,0,false⟩ 0 0 0 0 (.slice none 0 0) (.slice none 0 0) (.slice none 0 0) (.slice none 0 0) [] [] [] []:=⟨hx,BI,own_nil _ _ _ _,own_nil _ _ _ _,own_nil _ _ _ _,own_nil _ _ _ _,by simp,by simp,fun x h=>by cases h⟩
  obtain⟨gI,hgI⟩:∃g,w4.heap.size=g:=⟨_,rfl⟩
  have HGI:=AB hgI;rw[hgI] at G ⊢;clear hgI BI hx z5;have BT4:=AB BT;have BS4:=AB BS;have BZ4:=AB BZ;have RN4:=AB RN;have hul:=AB (ru.recN usC_len (by omega));have hcl:=AB (rc.recN ctC_len (by omega));have HUO:=AB uok;have HCO:=AB cok;have HI1:=AB sty_row;have HI2:=AB us_row;have HI3:=AB ct_row;have HI4:=AB int_row;clear BT BS BZ RN uok cok;go_wp2_with fail;go_loopw [13,14,15,16,17] (fun v13 v14 v15 v16 v17 wq=>∃(i:Nat) (A1 A2 A3 A4:Option Addr) (c1 c2 c3 c4:Nat) (ss:List Sty) (us2:List Us) (cs2:List Ct) (hs2:List Int),v17=.int .i64 i∧v13=.slice A1 i c1∧v14=.slice A2 i c2∧v15=.slice A3 i c3∧v16=.slice A4 i c4∧i≤zs.length∧GSt w4 wq gI ⟨An,zs.length,cn,none,0,0,none,0,0,0,none,0,0,false⟩ i i i i (.slice A1 i c1) (.slice A2 i c2) (.slice A3 i c3) (.slice A4 i c4) ss us2 cs2 hs2) (fun _ _ _ _ v17 _=>zs.length-(intOf v17).toNat)
  case atStart=>exact⟨0,none,none,none,none,0,0,0,0,[],[],[],[],rfl,rfl,rfl,rfl,rfl,by omega,G⟩
  case round=>
   clear G;obtain⟨i,A1,A2,A3,A4,c1,c2,c3,c4,ss,us2,cs2,hs2,rfl,rfl,rfl,rfl,rfl,hi,G⟩:=hrel;have i0:=(G.bi.cell 0).trans (rfl:_=some (Value.slice An zs.length cn));have lI:=G.bi.lt;by_cases hiz:i<zs.length
   ·as_aux_lemma=>
    have hizI:(0:Int)≤(i:Int)∧(i:Int)<(zs.length:Int):=by omega
    have rn:=(AA RN4).ext G.ext;obtain⟨z,hz⟩:∃z,zs[i]?=some z:=⟨_,AE hiz⟩
    obtain⟨k,rfl,hk1,hk⟩:=(AA HZ) z (List.mem_of_getElem? hz);obtain⟨ba,oa,hAn,la,-⟩:=rn.at_ (by omega);subst hAn;have q1:=(rn.cellAt hiz (show (ints zs)[i]?=some (Value.int .i64 (k:Int)) by rw[ints,List.getElem?_map,hz];rfl)).2;clear rn hz;obtain⟨nd2,hnd2⟩:∃nd,ns[k]?=some nd:=⟨_,AE hk⟩
    obtain⟨bn2,on2,hna,lbn,hcn⟩:=(((AA H).ext (AA E1)).ext G.ext).tr.nodes.node hnd2;have HNd2:=AB ((AA H).ok.nd hnd2);have HC:=AB hcn;have BTr:=(AA BT4).ext G.ext;have t0:=(BTr.cell 0).trans (rfl:_=some (Value.slice t.na t.nl t.nc));rw[hna] at t0;have lT:=BTr.lt;have hiN2:(0:Int)≤(k:Int)∧(k:Int)<(t.nl:Int):=by have:=(AA H).tr.nodes.nlen;omega
    have hkI:(0:Int)≤(k:Int)∧(k:Int)≤1000000:=by omega
    clear hcn hnd2 hna BTr;go_upto_region 15 with fail;clear q1 la i0 lI
    iterate 19 go_step
    refine wpList_load_sty (.tmp 72) rfl bn2 (on2+k*44+1) rfl rfl nd2.s (fun x v hv=>(by have h1:=(AA HC) (1+x) v (by rw[Nat.add_comm];exact hv);rwa [←Nat.add_assoc] at h1)) ?_;simp only[AC];refine Go.Great.wpList_buildSliceTo rfl 156 65 1 _ rfl _ rfl _ rfl Tryz.underlying156 (styC nd2.s).toArray (by simp only[List.map_toArray,List.map_cons,List.map_nil];exact built_sty _) ?_;simp only[AC];have hx:Ext wr (wr.alloc (.cells (styC nd2.s).toArray 65)):=(Ext.refl _).alloc _;have R5:Rd (wr.alloc (.cells (styC nd2.s).toArray 65)) 43 (some ⟨wr.heap.size,0,none⟩) 1 (styC nd2.s):=(Blk.new wr 65 (styC nd2.s).toArray).rdk (n:=1) (k:=43) rfl;replace G:=G.step hx;clear hx t0 lT lbn HC;generalize wr.alloc (.cells (styC nd2.s).toArray 65)=w6 at *;generalize wr.heap.size=gqw6 at *;refine wpList_push (W:=w4) rfl (.tmp 67) (.tmp 74) 156 rfl w4.heap.size 65 43 Tryz.underlying156 HI1 (by omega) _ i (recs styC ss) rfl G.o1 _ 1 1 (styC nd2.s) rfl R5 (styC_one1 _) (by omega) G.ext (Nat.le_refl _) G.ext.size ?_;intro B1 d1 w7 O1 X1 g1 at1;replace G:=G.push1 (AA HNd2) X1 g1 O1;clear R5 O1 X1 g1 at1;simp only[AC];go_upto_region 16 with fail;have HLT:=AB G.lt;have HIq:=AB G.bi.lt;have HLo:=AB G.ext.size;go_step;refine wpList_alloc_var rfl 120 rfl (usC ⟨0,0,0⟩).toArray (by kernel_rfl) ?_;intro w8 BV hx zx;simp only[AC];replace G:=G.step hx;generalize w7.heap.size=gU at *;clear hx zx;go_upto_if 79 with (fail);go_cut [] from 55 to 111 (fun wx=>(∃u,UsOk u∧Blk wx gU 120 (usC u).toArray)∧GSt w4 wx gI ⟨some ⟨ba,oa,none⟩,zs.length,cn,none,0,0,none,0,0,0,none,0,0,false⟩ (i+1) i i i (.slice B1 (i+1) d1) (.slice A2 i c2) (.slice A3 i c3) (.slice A4 i c4) (ss++[nd2.s]) us2 cs2 hs2)
    case first=>
     as_aux_lemma=>
     by_cases hku:k<nu
     ·have hkuI:(0:Int)≤(k:Int)∧(k:Int)<(nu:Int):=by omega
      have rr:=(ru.ext (AA E1)).ext G.ext;obtain⟨u,hu⟩:∃u,us[k]?=some u:=⟨_,AE (by have:=AA hul;omega)⟩
      have HU:=AB ((AA HUO) u (List.mem_of_getElem? hu));obtain⟨bu,ou,hAu,lbu,hmu⟩:=rr.rec_ usC_len hu (by omega);subst hAu;have HMU:=AB hmu;clear hmu hu rr;go_upto_region 18 with fail
      iterate 10 go_step
      refine wpList_load_midg 120 (.tmp 82) rfl bu (ou+k*3) rfl rfl (usC u) _ (fun x v hv=>(AA HMU) x v hv) Tryz.underlying120 rfl (by kernel_rfl) ?_;simp only[AC];refine wpList_store_blk rfl 120 (.tmp 19) (.tmp 83) rfl gU rfl (usC u).toArray rfl 120 (usC ⟨0,0,0⟩).toArray BV (by kernel_rfl) rfl (by kernel_rfl) ?_;intro w9 B9 g9 z9;simp only[Act.put];have G9:=G.var g9 (AA HLo) (fun e=>by have:=AA HIq;omega) (AA HLT) (Nat.le_refl _);go_wp2_with fail;go_meet
      case rel=>exact⟨⟨u,AA HU,B9⟩,G9⟩
     ·have hkuI:¬(k:Int)<(nu:Int):=by omega
      go_wp2_with fail;go_meet
      case rel=>exact⟨⟨_,UsOk.zero,BV⟩,G⟩
    case rest=>
     as_aux_lemma=>
     clear G BV HLT HIq HLo;obtain⟨⟨xu,xuok,xuB⟩,G⟩:=hcut;go_upto_region 19 with fail;have HLT:=AB G.lt;have HIq:=AB G.bi.lt;have HLo:=AB G.ext.size;go_step;refine wpList_alloc_var rfl 108 rfl (ctC zCt).toArray (by kernel_rfl) ?_;intro w10 BV hx zx;simp only[AC];replace G:=G.step hx;replace xuB:=xuB.ext hx;generalize wc.heap.size=gC at *;clear hx zx;go_upto_if 87 with (fail);go_cut [] from 55 to 111 (fun wx=>(∃u,CtOk u∧Blk wx gC 108 (ctC u).toArray)∧GSt w4 wx gI ⟨some ⟨ba,oa,none⟩,zs.length,cn,none,0,0,none,0,0,0,none,0,0,false⟩ (i+1) i i i (.slice B1 (i+1) d1) (.slice A2 i c2) (.slice A3 i c3) (.slice A4 i c4) (ss++[nd2.s]) us2 cs2 hs2∧Blk wx gU 120 (usC xu).toArray)
     case first=>
      as_aux_lemma=>
      by_cases hku:k<nc
      ·have hkuI:(0:Int)≤(k:Int)∧(k:Int)<(nc:Int):=by omega
       have rr:=(rc.ext (AA E1)).ext G.ext;obtain⟨u,hu⟩:∃u,cs[k]?=some u:=⟨_,AE (by have:=AA hcl;omega)⟩
       have HU:=AB ((AA HCO) u (List.mem_of_getElem? hu));obtain⟨bu,ou,hAu,lbu,hmu⟩:=rr.rec_ ctC_len hu (by omega);subst hAu;have HMU:=AB hmu;clear hmu hu rr;go_upto_region 21 with fail
       iterate 10 go_step
       refine wpList_load_midg 108 (.tmp 90) rfl bu (ou+k*4) rfl rfl (ctC u) _ (fun x v hv=>(AA HMU) x v hv) Tryz.underlying108 rfl (by kernel_rfl) ?_;simp only[AC];refine wpList_store_blk rfl 108 (.tmp 20) (.tmp 91) rfl gC rfl (ctC u).toArray rfl 108 (ctC zCt).toArray BV (by kernel_rfl) rfl (by kernel_rfl) ?_;intro w9 B9 g9 z9;simp only[Act.put];have G9:=G.var g9 (AA HLo) (fun e=>by have:=AA HIq;omega) (AA HLT) (Nat.le_refl _);go_wp2_with fail;go_meet
       case rel=>exact⟨⟨u,AA HU,B9⟩,G9,xuB.grownNe g9 (blk_ne xuB BV (by decide))⟩
      ·have hkuI:¬(k:Int)<(nc:Int):=by omega
       go_wp2_with fail;go_meet
       case rel=>exact⟨⟨_,CtOk.zero,BV⟩,G,xuB⟩
     case rest=>
      as_aux_lemma=>
      clear G BV HLT HIq HLo xuB;obtain⟨⟨xc,xcok,xcB⟩,G,xuB⟩:=hcut;go_upto_if 95 with (fail);go_cut [21] from 55 to 111 (fun v21 wx=>(∃z:Int,v21=.int .i64 z)∧GSt w4 wx gI ⟨some ⟨ba,oa,none⟩,zs.length,cn,none,0,0,none,0,0,0,none,0,0,false⟩ (i+1) i i i (.slice B1 (i+1) d1) (.slice A2 i c2) (.slice A3 i c3) (.slice A4 i c4) (ss++[nd2.s]) us2 cs2 hs2∧Blk wx gU 120 (usC xu).toArray∧Blk wx gC 108 (ctC xc).toArray)
      case first=>
       as_aux_lemma=>
       by_cases hku:k<nh
       ·have hkuI:(0:Int)≤(k:Int)∧(k:Int)<(nh:Int):=by omega
        have rr:=(rh.ext (AA E1)).ext G.ext;obtain⟨z,hz⟩:∃z,hs[k]?=some z:=⟨_,AE (by have:=rr.len;rw[ints_len] at this;omega)⟩
        obtain⟨bz,oz,hAz,lz,-⟩:=rr.at_ (by omega);subst hAz;have q1:=(rr.cellAt hku (show (ints hs)[k]?=some (Value.int .i64 z) by rw[ints,List.getElem?_map,hz];rfl)).2;clear rr hz;go_wp2_with fail;go_meet
        case rel=>exact⟨⟨_,rfl⟩,G,xuB,xcB⟩
       ·have hkuI:¬(k:Int)<(nh:Int):=by omega
        go_wp2_with fail;go_meet
        case rel=>exact⟨⟨_,rfl⟩,G,xuB,xcB⟩
      case rest=>
       as_aux_lemma=>
       clear G xuB xcB;obtain⟨⟨zh,rfl⟩,G,xuB,xcB⟩:=hcut;go_upto_region 25 with fail
       iterate 4 go_step
       refine wpList_load_blk rfl 120 (.tmp 19) rfl gU rfl 120 (usC xu).toArray _ xuB Tryz.underlying120 rfl (by kernel_rfl) ?_;simp only[AC];refine Go.Great.wpList_buildSliceTo rfl 27 120 1 _ rfl _ rfl _ rfl Tryz.underlying27 (usC xu).toArray (by simp only[List.map_toArray,List.map_cons,List.map_nil];exact built_us _) ?_;simp only[AC];have hx:Ext wc (wc.alloc (.cells (usC xu).toArray 120)):=(Ext.refl _).alloc _;have R5:Rd (wc.alloc (.cells (usC xu).toArray 120)) 3 (some ⟨wc.heap.size,0,none⟩) 1 (usC xu):=(Blk.new wc 120 (usC xu).toArray).rdk (n:=1) (k:=3) rfl;replace G:=G.step hx;replace xcB:=xcB.ext hx;clear hx;generalize wc.alloc (.cells (usC xu).toArray 120)=w11 at *;generalize wc.heap.size=gqw11 at *;refine wpList_push (W:=w4) rfl (.tmp 100) (.tmp 102) 27 rfl w4.heap.size 120 3 Tryz.underlying27 HI2 (by omega) _ i (recs usC us2) rfl G.o2 _ 1 1 (usC xu) rfl R5 (usC_one _) (by omega) G.ext (Nat.le_refl _) G.ext.size ?_;intro B2 d2 w12 O1 X1 g1 at1;have xcB':=xcB.grownOwn g1 (own_blk_ne G.o2 xcB (by decide));replace G:=G.push2 xuok X1 g1 O1;clear R5 O1 X1 g1 at1 xuB xcB;have xcB:=xcB';clear xcB';simp only[AC];go_upto_region 26 with fail
       iterate 4 go_step
       refine wpList_load_blk rfl 108 (.tmp 20) rfl gC rfl 108 (ctC xc).toArray _ xcB Tryz.underlying108 rfl (by kernel_rfl) ?_;simp only[AC];refine Go.Great.wpList_buildSliceTo rfl 26 108 1 _ rfl _ rfl _ rfl Tryz.underlying26 (ctC xc).toArray (by simp only[List.map_toArray,List.map_cons,List.map_nil];exact built_ct _) ?_;simp only[AC];have hx:Ext w12 (w12.alloc (.cells (ctC xc).toArray 108)):=(Ext.refl _).alloc _;have R5:Rd (w12.alloc (.cells (ctC xc).toArray 108)) 4 (some ⟨w12.heap.size,0,none⟩) 1 (ctC xc):=(Blk.new w12 108 (ctC xc).toArray).rdk (n:=1) (k:=4) rfl;replace G:=G.step hx;replace xcB:=xcB.ext hx;clear hx;generalize w12.alloc (.cells (ctC xc).toArray 108)=w13 at *;generalize w12.heap.size=gqw13 at *;refine wpList_push (W:=w4) rfl (.tmp 104) (.tmp 106) 26 rfl w4.heap.size 108 4 Tryz.underlying26 HI3 (by omega) _ i (recs ctC cs2) rfl G.o3 _ 1 1 (ctC xc) rfl R5 (ctC_one _) (by omega) G.ext (Nat.le_refl _) G.ext.size ?_;intro B3 d3 w14 O1 X1 g1 at1;replace G:=G.push3 xcok X1 g1 O1;clear R5 O1 X1 g1 at1 xcB;simp only[AC];go_upto_region 27 with fail
       iterate 7 go_step
       refine Go.Great.wpList_buildSliceTo rfl 23 2 1 _ rfl _ rfl _ rfl Tryz.underlying23 ([.int .i64 zh]).toArray (by kernel_rfl) ?_;simp only[AC];have hx:Ext w14 (w14.alloc (.cells ([.int .i64 zh]).toArray 2)):=(Ext.refl _).alloc _;have R5:Rd (w14.alloc (.cells ([.int .i64 zh]).toArray 2)) 1 (some ⟨w14.heap.size,0,none⟩) 1 ([.int .i64 zh]):=(Blk.new w14 2 ([.int .i64 zh]).toArray).rdk (n:=1) (k:=1) rfl;replace G:=G.step hx;clear hx;generalize w14.alloc (.cells ([.int .i64 zh]).toArray 2)=w15 at *;generalize w14.heap.size=gqw15 at *;refine wpList_push (W:=w4) rfl (.tmp 108) (.tmp 110) 23 rfl w4.heap.size 2 1 Tryz.underlying23 HI4 (by omega) _ i (ints hs2) rfl G.o4 _ 1 1 [.int .i64 zh] rfl R5 (by simp[Value.oneCell']) (by omega) G.ext (Nat.le_refl _) G.ext.size ?_;intro B4 d4 w16 O1 X1 g1 at1;replace G:=G.push4 X1 g1 O1;clear R5 O1 X1 g1 at1;simp only[AC];go_wp2_with fail;go_roundw
       case rel=>exact⟨i+1,B1,B2,B3,B4,d1,d2,d3,d4,_,_,_,_,by go_num,rfl,rfl,rfl,rfl,by omega,G⟩
       case measure=>simp[intOf];omega
   ·as_aux_lemma=>
    have hizI:¬(i:Int)<(zs.length:Int):=by omega
    go_upto_if 115 with (fail);clear i0 lI;go_cut [22] from 112 to 208 (fun v22 wx=>(∃c:Int,v22=.int .i64 c∧Hid (0≤c∧c≤1099511627776))∧GSt w4 wx gI ⟨An,zs.length,cn,none,0,0,none,0,0,0,none,0,0,false⟩ i i i i (.slice A1 i c1) (.slice A2 i c2) (.slice A3 i c3) (.slice A4 i c4) ss us2 cs2 hs2)
    case first=>
     as_aux_lemma=>
     by_cases hku:root<nu
     ·have hkuI:(0:Int)≤(root:Int)∧(root:Int)<(nu:Int):=by omega
      have rr:=(ru.ext (AA E1)).ext G.ext;obtain⟨u,hu⟩:∃u,us[root]?=some u:=⟨_,AE (by have:=AA hul;omega)⟩
      have HU:=AB ((AA HUO) u (List.mem_of_getElem? hu)).w;obtain⟨bu,ou,hAu,lbu,hmu⟩:=rr.rec_ usC_len hu (by omega);subst hAu;have q0:=hmu 0 _ (show (usC u)[0]?=some (Value.int .i64 u.w) from rfl);rw[Nat.add_zero] at q0;clear hmu hu rr;go_wp2_with fail;go_meet
      case rel=>exact⟨⟨_,rfl,HU⟩,G⟩
     ·have hkuI:¬(root:Int)<(nu:Int):=by omega
      go_wp2_with fail;go_meet
      case rel=>exact⟨⟨_,rfl,AB (by omega)⟩,G⟩
    case rest=>
     as_aux_lemma=>
     clear G;obtain⟨⟨c,rfl,hc⟩,G⟩:=hcut;have BSr:=(AA BS4).ext G.ext;have hi300:i≤300:=by omega
     have cRw:=fun w rk rg=>AB (rows_any nd.s c A1 A3 i c1 i c3 ss cs2 w rk rg hi300 (by omega) (fun s hs=>(G.k1 s hs).kid) G.k3 (AA hc))
     have cPl:=fun Ar nr cr L w rk ru rh h1 h2 h3 h4=>AB (place20_any nd.s c A1 A2 A4 Ar i c1 i c2 i c4 nr cr ss us2 hs2 L w rk ru rh h1 h2 h3 h4 hi300 (by omega) (by omega) (AA hc).2 (fun s hs=>(G.k1 s hs).edges))
     go_upto_region 31 with fail;go_step;refine wpList_load_blk rfl 65 (.tmp 11) rfl gS rfl 65 nd.s.cells _ BSr Tryz.underlying65 rfl (info_style _) ?_;simp only[AC];go_wp2_with fail
     with_reducible refine (AA (cRw _ (Rd.of_own G.o1) (Rd.of_own G.o3))).mono ?_
     rintro e w6 ⟨Ar,nr,cr,rs,rfl,RR',hrl,hnr,hperm,hx⟩;have RR:=RR'.mono (Nat.zero_le _);replace G:=G.step hx;replace BSr:=BSr.ext hx;clear hx cRw;have cPl1:=fun w rk ru rh h1=>cPl Ar nr cr (fun r=>castL (rs.getD r [])) w rk ru rh h1 (fun r _ z hz=>rows_in hperm hz) (fun r _=>by have:=rows_short hperm r;omega) (by omega)
     have HRR:=AB RR;clear cPl RR RR' hrl hnr;go_upto_region 32 with fail;go_step;refine wpList_load_blk rfl 65 (.tmp 11) rfl gS rfl 65 nd.s.cells _ BSr Tryz.underlying65 rfl (info_style _) ?_;simp only[AC];go_wp2_with fail
     with_reducible refine (AA (cPl1 _ (Rd.of_own G.o1) (Rd.of_own G.o2) (Rd.of_own G.o4) (AA HRR))).mono ?_
     rintro e w8 ⟨gF,gB,za,F,bl,rfl,FA,hbl,BB,hlo,hx⟩;have HLO:=AB (show gI<gF∧gI<gB∧gI<w8.heap.size by have:=G.bi.lt;have:=hx.size;omega);replace G:=G.step hx;replace BSr:=BSr.ext hx;clear hx cPl1 HRR hlo hperm;have C:CSt w8 w8 gI ⟨An,zs.length,cn,none,0,0,none,0,0,0,none,0,0,false⟩ 0 [] []:=⟨ExtX.refl w8 [gI],(AA HLO).2.2,G.bi,own_nil _ _ _ _,by simp,own_nil _ _ _ _⟩
     have hgS:gS≠gI:=blk_ne BSr G.bi (by decide);have HWI:=AB (show w.heap.size≤gI by have h1:=AA HGI;have h2:=(AA E1).size;omega);have HFA:=AB FA;have HBB:=AB BB;have HBL:=AB hbl;have HBS:=AB BSr;have BZ8:=AB ((AA BZ4).ext G.ext);have RN8:=AB ((AA RN4).ext G.ext);have E8:=AB ((AA E1).trans G.ext);have HFr:=AB frag_row;have HBo:=AB bool_row;clear G FA BB hbl BSr;go_wp2_with fail;go_loopw [27] (fun v27 wq=>∃(j:Nat) (rA:Option Addr) (rc2:Nat) (bA:Option Addr) (bc:Nat) (fgs:List Fg) (bl2:List Bool),v27=.int .i64 j∧j≤i∧CSt w8 wq gI ⟨An,zs.length,cn,rA,j,rc2,bA,j,bc,0,none,0,0,false⟩ j fgs bl2) (fun v27 _=>i-(intOf v27).toNat)
     case atStart=>exact⟨0,none,0,none,0,[],[],rfl,by omega,C⟩
     case round=>
      clear C;obtain⟨j,rA,rc2,bA,bc,fgs,bl2,rfl,hj,C⟩:=hrel;by_cases hji:j<i
      ·as_aux_lemma=>
       have hjI:(0:Int)≤(j:Int)∧(j:Int)<(i:Int):=by omega
       have FAr:=(AA HFA).extx C.ext (by have:=AA HLO;simp;omega);obtain⟨⟨f0,f1,f2,f3⟩,hf⟩:∃f,F j=f:=⟨_,rfl⟩
       have HF:=AB (FAr.cell j hji);rw[hf] at HF;have lF:=FAr.lt;have hOV:=AB (fun q e=>(C.of.lt q e).2);have hlV:=AB (show w8.heap.size≤wr.heap.size from C.ext.size);clear hf FAr;go_upto_region 36 with fail
       iterate 10 go_step
       refine wpList_load_midg 58 (.tmp 145) rfl gF (j*5) rfl rfl (frC ⟨f0,f1,f2,f3⟩) _ (fun x v hv=>(AA HF) x v hv) Tryz.underlying58 rfl (by kernel_rfl) ?_;simp only[AC];refine wpList_var rfl rfl 58 rfl 28 rfl (.tmp 146) rfl rfl (fgC zFg).toArray (fgC ⟨f0,f1,f2,f3,none,0,0⟩).toArray fgC_zero rfl rfl (fgC_size _) rfl (by kernel_rfl) ?_;intro w9 BV hx z9;simp only[AC];replace C:=C.step hx;have hne:=AB (show ∀q,(Value.slice rA j rc2).ownBlock=some q→q≠wr.heap.size from fun q e=>by have:=(AA hOV) q e;omega);generalize wr.heap.size=gV at *;clear hx z9 HF lF hOV;have BSw:=C.ext.blk (AA HBS) (by simp;exact hgS);have s1:=(BSw.cell 27).trans (rfl:_=some (Value.int .i64 nd.s.b3));have s2:=(BSw.cell 31).trans (rfl:_=some (Value.int .i64 nd.s.p3));have v0:=(BV.cell 0).trans (rfl:_=some (Value.int .i64 f0));have lS:=BSw.lt;have lV:=BV.lt;obtain⟨d1,hd1⟩:∃z,IntKind.i64.wrap (f0+nd.s.b3)=z:=⟨_,rfl⟩
       obtain⟨d2,hd2⟩:∃z,IntKind.i64.wrap (d1+nd.s.p3)=z:=⟨_,rfl⟩
       go_upto_region 37 with fail
       iterate 34 go_step
       refine wpList_store_one rfl 2 (.tmp 157) (.tmp 156) rfl gV 0 rfl (.int .i64 d2) rfl rfl 58 (fgC ⟨f0,f1,f2,f3,none,0,0⟩) BV (by show 0<5;decide) i64_sz1' (fgC ⟨d2,f1,f2,f3,none,0,0⟩) rfl ?_;clear s1 s2 v0 lS lV hd1 hd2 BSw;have BV0:=BV;intro w10 BV gg zz;simp only[Act.put];replace C:=C.varF BV0 gg (AA hlV) (AA hne);clear BV0 gg zz;have BSw:=C.ext.blk (AA HBS) (by simp;exact hgS);have s1:=(BSw.cell 24).trans (rfl:_=some (Value.int .i64 nd.s.b0));have s2:=(BSw.cell 28).trans (rfl:_=some (Value.int .i64 nd.s.p0));have v0:=(BV.cell 1).trans (rfl:_=some (Value.int .i64 f1));have lS:=BSw.lt;have lV:=BV.lt;obtain⟨e1,he1⟩:∃z,IntKind.i64.wrap (f1+nd.s.b0)=z:=⟨_,rfl⟩
       obtain⟨e2,he2⟩:∃z,IntKind.i64.wrap (e1+nd.s.p0)=z:=⟨_,rfl⟩
       go_upto_region 38 with fail
       iterate 34 go_step
       refine wpList_store_one rfl 2 (.tmp 168) (.tmp 167) rfl gV 1 rfl (.int .i64 e2) rfl rfl 58 (fgC ⟨d2,f1,f2,f3,none,0,0⟩) BV (by show 1<5;decide) i64_sz1' (fgC ⟨d2,e2,f2,f3,none,0,0⟩) rfl ?_;clear s1 s2 v0 lS lV he1 he2 BSw;have BV0:=BV;intro w11 BV gg zz;simp only[Act.put];replace C:=C.varF BV0 gg (AA hlV) (AA hne);clear BV0 gg zz;have BSw:=C.ext.blk (AA HBS) (by simp;exact hgS);clear BSw;go_upto_region 39 with fail;go_step;refine wpList_load_blk rfl 58 (.tmp 28) rfl gV rfl 58 (fgC ⟨d2,e2,f2,f3,none,0,0⟩).toArray _ BV Tryz.underlying58 rfl (fgC_size _) ?_;simp only[AC];simp only[fgC];go_wp2_with fail
       with_reducible refine (cut_fg _ _ _ _ _ _ _ _).mono ?_
       rintro e w12 ⟨⟨g0,g1,g2,g3,fl,fm,fv⟩,cb,rfl,hfo,⟨rfl,rfl,rfl⟩,hx⟩;have HFO:=AB hfo;replace C:=C.step hx;replace BV:=BV.ext hx;clear hx hfo;dsimp only
       iterate 10 go_step
       refine wpList_store_blk rfl 58 (.tmp 28) (.tmp 172) rfl gV rfl (fgC ⟨g0,g1,g2,g3,none,0,0⟩).toArray rfl 58 (fgC ⟨d2,e2,f2,f3,none,0,0⟩).toArray BV (fgC_size _) rfl (by kernel_rfl) ?_;have BV0:=BV;clear BV;intro w13 BV g13 z13;simp only[Act.put];replace C:=C.varF BV0 g13 (AA hlV) (AA hne);clear BV0 g13 z13 hlV hne;go_upto_region 40 with fail;have i1:=(C.bi.cell 1).trans (rfl:_=some (Value.slice rA j rc2));have lI:=C.bi.lt
       iterate 7 go_step
       refine wpList_load_blk rfl 58 (.tmp 28) rfl gV rfl 58 (fgC ⟨g0,g1,g2,g3,none,0,0⟩).toArray _ BV Tryz.underlying58 rfl (fgC_size _) ?_;simp only[AC];clear BV i1 lI;refine Go.Great.wpList_buildSliceTo rfl 28 58 1 _ rfl _ rfl _ rfl Tryz.underlying28 (fgC ⟨g0,g1,g2,g3,none,0,0⟩).toArray (by simp only[List.map_toArray,List.map_cons,List.map_nil];exact built_fg _) ?_;simp only[AC];have hx:Ext w13 (w13.alloc (.cells (fgC ⟨g0,g1,g2,g3,none,0,0⟩).toArray 58)):=(Ext.refl _).alloc _;have R5:Rd (w13.alloc (.cells (fgC ⟨g0,g1,g2,g3,none,0,0⟩).toArray 58)) 5 (some ⟨w13.heap.size,0,none⟩) 1 (fgC ⟨g0,g1,g2,g3,none,0,0⟩):=(Blk.new w13 58 (fgC ⟨g0,g1,g2,g3,none,0,0⟩).toArray).rdk (n:=1) (k:=5) rfl;replace C:=C.step hx;clear hx;generalize w13.alloc (.cells (fgC ⟨g0,g1,g2,g3,none,0,0⟩).toArray 58)=w14 at *;generalize w13.heap.size=gqw14 at *;have EW:=ExtX.base (AA E8) C.ext (fun x hx=>by have:=List.mem_singleton.1 hx;have:=AA HWI;omega);refine wpList_push (W:=w) rfl (.tmp 175) (.tmp 177) 28 rfl w8.heap.size 58 5 Tryz.underlying28 HFr (by omega) _ j (recs fgC fgs) rfl C.of _ 1 1 (fgC ⟨g0,g1,g2,g3,none,0,0⟩) rfl R5 (fgC_one _) (by omega) EW (AA E8).size C.ext.size ?_;intro A5 c5 w15 O5 X5 g5 at5;have BI9:=C.bi.grownOwn g5 (own_blk_ne C.of C.bi (by decide));have lI:=BI9.lt;have fI:=BI9.frozen 1;have i1:=(BI9.cell 1).trans (rfl:_=some (Value.slice rA j rc2));have C2:CSt w8 (w15.setCell ⟨gI,1,none⟩ (.slice A5 (j+1) c5)) gI ⟨An,zs.length,cn,A5,j+1,c5,bA,j,bc,0,none,0,0,false⟩ (j+1) (fgs++[⟨g0,g1,g2,g3,none,0,0⟩]) bl2:=C.pushF ⟨AA HFO,rfl,rfl,rfl⟩ g5 O5;clear O5 X5 g5 at5 R5 C BI9 EW;simp only[AC];go_upto_region 41 with fail;clear lI fI i1;generalize World.setCell w15 ⟨gI,1,none⟩ (.slice A5 (j+1) c5)=w16 at *;have i2:=(C2.bi.cell 2).trans (rfl:_=some (Value.slice bA j bc));have lI:=C2.bi.lt;obtain⟨vb,hvb⟩:∃v,bl[j]?=some v:=⟨_,AE (by have:=AA HBL;omega)⟩
       have BBw:=C2.ext.blk (AA HBB) (by have:=AA HLO;simp;omega);have kB:=(BBw.cell j).trans (show _=some (Value.bool vb) by rw[List.getElem?_toArray,boolL,List.getElem?_map,hvb];rfl);have lB:=BBw.lt;clear hvb BBw;cases vb
       ·refine wp_region_ord [(1,0),(0,1),(1,2),(1,3),(1,4),(0,5),(1,6),(1,7),(1,8),(2,9),(3,10),(1,11),(3,12)] 10 (fun w'=>Ext w16 w') (by kernel_rfl) (by kernel_rfl) rfl (by kernel_rfl) ((Ext.refl _).drew) ?_;simp only[AD]
        iterate 9 ((first|refine ordQE ?_|refine ordQF ?_|refine ordQC ?_|refine ordQD ?_);simp only[AC])
        refine ord_keep ?_;go_wp2_with fail;have hx:=((Ext.refl w16).alloc (.cells #[Value.bool cb] 4)).drew;have R5:Rd (w16.alloc (.cells #[Value.bool cb] 4)).drew 1 (some ⟨w16.heap.size,0,none⟩) 1 [Value.bool cb]:=((Blk.new w16 4 #[Value.bool cb]).rdk (n:=1) (k:=1) rfl).ext (Ext.refl _).drew;refine⟨hx,?_⟩;clear i2 lI kB lB;replace C2:=C2.step hx;clear hx;generalize (w16.alloc (.cells #[Value.bool cb] 4)).drew=w17 at *;generalize w16.heap.size=gq at *;have EW:=ExtX.base (AA E8) C2.ext (fun x hx=>by have:=List.mem_singleton.1 hx;have:=AA HWI;omega);refine ord_last ?_;refine wpList_push (W:=w) rfl (.tmp 181) (.tmp 189) 106 rfl w8.heap.size 4 1 Tryz.underlying106 HBo (by omega) _ j (boolL bl2) rfl C2.ob _ 1 1 [.bool cb] rfl R5 (by simp[Value.oneCell']) (by omega) EW (AA E8).size C2.ext.size ?_;intro A6 c6 w18 O6 X6 g6 at6;have BI9:=C2.bi.grownOwn g6 (own_blk_ne C2.ob C2.bi (by decide));have lI:=BI9.lt;have fI:=BI9.frozen 2;have i2:=(BI9.cell 2).trans (rfl:_=some (Value.slice bA j bc));have C3:CSt w8 (w18.setCell ⟨gI,2,none⟩ (.slice A6 (j+1) c6)) gI ⟨An,zs.length,cn,A5,j+1,c5,A6,j+1,c6,0,none,0,0,false⟩ (j+1) _ (bl2++[cb]):=C2.pushB g6 O6;clear O6 X6 g6 at6 R5 C2 BI9 EW;simp only[AC];go_wp2_with fail
        iterate 1 ((first|refine ordQA ?_|refine ordQB ?_);simp only[AC])
        refine ord_last ?_;go_wp2_with fail;refine ord_nil ?_;clear i2 lI fI;go_wp2_with fail;go_roundw
        case rel=>exact⟨j+1,A5,c5,A6,c6,_,_,by go_num,by omega,C3⟩
        case measure=>simp[intOf];omega
       ·refine wp_region_ord [(1,0),(0,1),(1,2),(1,3),(1,4),(0,5),(1,6),(1,7),(1,8),(2,9),(3,10),(1,11),(3,12)] 10 (fun w'=>Ext w16 w') (by kernel_rfl) (by kernel_rfl) rfl (by kernel_rfl) ((Ext.refl _).drew) ?_;simp only[AD]
        iterate 9 ((first|refine ordQE ?_|refine ordQF ?_|refine ordQC ?_|refine ordQD ?_);simp only[AC])
        refine ord_keep ?_;go_wp2_with fail;have hx:=((Ext.refl w16).alloc (.cells #[Value.bool true] 4)).drew;have R5:Rd (w16.alloc (.cells #[Value.bool true] 4)).drew 1 (some ⟨w16.heap.size,0,none⟩) 1 [Value.bool true]:=((Blk.new w16 4 #[Value.bool true]).rdk (n:=1) (k:=1) rfl).ext (Ext.refl _).drew;refine⟨hx,?_⟩;clear i2 lI kB lB;replace C2:=C2.step hx;clear hx;generalize (w16.alloc (.cells #[Value.bool true] 4)).drew=w17 at *;generalize w16.heap.size=gq at *;have EW:=ExtX.base (AA E8) C2.ext (fun x hx=>by have:=List.mem_singleton.1 hx;have:=AA HWI;omega);refine ord_last ?_;refine wpList_push (W:=w) rfl (.tmp 181) (.tmp 189) 106 rfl w8.heap.size 4 1 Tryz.underlying106 HBo (by omega) _ j (boolL bl2) rfl C2.ob _ 1 1 [.bool true] rfl R5 (by simp[Value.oneCell']) (by omega) EW (AA E8).size C2.ext.size ?_;intro A6 c6 w18 O6 X6 g6 at6;have BI9:=C2.bi.grownOwn g6 (own_blk_ne C2.ob C2.bi (by decide));have lI:=BI9.lt;have fI:=BI9.frozen 2;have i2:=(BI9.cell 2).trans (rfl:_=some (Value.slice bA j bc));have C3:CSt w8 (w18.setCell ⟨gI,2,none⟩ (.slice A6 (j+1) c6)) gI ⟨An,zs.length,cn,A5,j+1,c5,A6,j+1,c6,0,none,0,0,false⟩ (j+1) _ (bl2++[true]):=C2.pushB g6 O6;clear O6 X6 g6 at6 R5 C2 BI9 EW;simp only[AC];go_wp2_with fail
        iterate 1 ((first|refine ordQA ?_|refine ordQB ?_);simp only[AC])
        refine ord_last ?_;go_wp2_with fail;refine ord_nil ?_;clear i2 lI fI;go_wp2_with fail;go_roundw
        case rel=>exact⟨j+1,A5,c5,A6,c6,_,_,by go_num,by omega,C3⟩
        case measure=>simp[intOf];omega
      ·as_aux_lemma=>
       have hjI:¬(j:Int)<(i:Int):=by omega
       obtain rfl:i=j:=by omega
       obtain rfl:i=zs.length:=by omega
       have BSw:=C.ext.blk (AA HBS) (by simp;exact hgS);have cFr:=fun w=>AB (ref_frame nd.s (AA HNd).thin w)
       obtain⟨xA,hxA⟩:∃z,nd.s.b3+nd.s.b1+nd.s.p3+nd.s.p1=z:=⟨_,rfl⟩
       obtain⟨xD,hxD⟩:∃z,nd.s.b0+nd.s.b2+nd.s.p0+nd.s.p2=z:=⟨_,rfl⟩
       rw[hxA,hxD] at cFr;clear hxA hxD;go_upto_region 42 with fail;go_step;refine wpList_load_blk rfl 65 (.tmp 11) rfl gS rfl 65 nd.s.cells _ BSw Tryz.underlying65 rfl (info_style _) ?_;simp only[AC];go_wp2_with fail
       with_reducible refine (AA (cFr _)).mono ?_
       rintro e w9 ⟨rfl,hx⟩;replace C:=C.step hx;clear hx cFr BSw;have BSw:=C.ext.blk (AA HBS) (by simp;exact hgS);have cH:=fun w=>AB (ref_high nd.s za w)
       obtain⟨hv,hhv⟩:∃z,highV nd.s za=z:=⟨_,rfl⟩
       rw[hhv] at cH;clear hhv;go_upto_region 43 with fail;go_step;refine wpList_load_blk rfl 65 (.tmp 11) rfl gS rfl 65 nd.s.cells _ BSw Tryz.underlying65 rfl (info_style _) ?_;simp only[AC];go_wp2_with fail
       with_reducible refine (AA (cH _)).mono ?_
       rintro e w10 ⟨rfl,hx⟩;replace C:=C.step hx;clear hx cH BSw;obtain⟨s1,hs1⟩:∃z,IntKind.i64.wrap (hv+xD)=z:=⟨_,rfl⟩
       have cC:=fun w=>AB (ref_cut s1 w)
       obtain⟨hi_,hhi⟩:∃z,cutV s1=z:=⟨_,rfl⟩
       obtain⟨cb,hcb⟩:∃z,cutB s1=z:=⟨_,rfl⟩
       have HHi:=AB (show InM hi_ by rw[←hhi];exact cutV_in s1);simp only[hhi,hcb] at cC;clear hhi hcb;go_wp2_with fail
       with_reducible refine (AA (cC _)).mono ?_
       rintro e w11 ⟨rfl,hw11⟩;subst hw11;clear hs1 cC;have i3:=(C.bi.cell 3).trans (rfl:_=some (Value.int .i64 0));have i5:=(C.bi.cell 5).trans (rfl:_=some (Value.bool false));have lI:=C.bi.lt;have f3:=C.bi.frozen 3;have f5:=C.bi.frozen 5;go_upto_region 44 with fail;clear i3 i5 lI f3 f5;replace C:=(C.cell (il':=⟨An,zs.length,cn,rA,zs.length,rc2,bA,zs.length,bc,hi_,none,0,0,false⟩) 3 (.int .i64 hi_) rfl ⟨rfl,rfl,rfl⟩ ⟨rfl,rfl,rfl⟩).cell (il':=⟨An,zs.length,cn,rA,zs.length,rc2,bA,zs.length,bc,hi_,none,0,0,cb⟩) 5 (.bool cb) rfl ⟨rfl,rfl,rfl⟩ ⟨rfl,rfl,rfl⟩;have BZr:=C.ext.blk (AA BZ8) (by have h1:=(AA BZ4).lt;have h2:=AA HGI;simp;omega)
       iterate 1 go_step
       refine wpList_load_blk rfl 117 (.tmp 12) rfl gI rfl 117 (ilC ⟨An,zs.length,cn,rA,zs.length,rc2,bA,zs.length,bc,hi_,none,0,0,cb⟩).toArray _ C.bi Tryz.underlying117 rfl (ilC_size _) ?_;simp only[AC];refine wpList_store_blk rfl 117 (.tmp 10) (.tmp 208) rfl (gT+1) rfl (ilC ⟨An,zs.length,cn,rA,zs.length,rc2,bA,zs.length,bc,hi_,none,0,0,cb⟩).toArray rfl 117 (ilC zIl).toArray BZr (ilC_size _) rfl (by kernel_rfl) ?_;intro w14 B14 g14 z14;simp only[Act.put];go_wp2_with fail;refine bodyPost_ret (results_cellH rfl _ _ (gT+1) 117 _ _ rfl B14 Tryz.underlying117 rfl (ilC_size _)) rfl ?_;have hE:=ExtX.base (AA E8) C.ext (fun x hx=>by have:=List.mem_singleton.1 hx;have:=AA HWI;omega);have hB8:gT+1<w8.heap.size:=(AA BZ8).lt;have hwB:w.heap.size≤w8.heap.size:=(AA E8).size;have RNf:=ExtX.rd4 (AA RN4) C.ext (AA RN8) (fun x hx=>by have:=List.mem_singleton.1 hx;have:=AA HGI;omega);refine⟨_,rfl,⟨⟨zs,RNf.grown g14 (fun b off e e2=>?_),fun z hz=>?_⟩,fun b off e=>?_,hzl,rfl,rfl,⟨fgs,?_,fun f hf=>?_⟩,⟨bl2,?_⟩,AA HHi,LinesO.nil _ _⟩,hE.grown g14 (fun q e=>?_)⟩
       ·have h1:=(AA HFR) b off e;have h2:=Option.some.inj e2;have h3:=AA HW3;omega
       ·obtain⟨m,rfl,h1,h2⟩:=(AA HZ) z hz;omega
       ·have h1:=(AA HFR) b off e;have h3:=AA HW3;have:=AA HGT;omega
       ·exact own_mono (own_grown C.of g14 (own_apart C.of hB8)) hwB
       ·obtain⟨⟨a1,a2,a3,a4⟩,b1,b2,b3⟩:=C.fok f hf;exact⟨a1,a2,a3,a4,by rw[b1,b2,b3];exact LinesO.nil _ _⟩
       ·exact own_mono (own_grown C.ob g14 (own_apart C.ob hB8)) hwB
       ·have:=Option.some.inj e;have:=AA HGT;omega
 ·as_aux_lemma=>
  have c0:=(BT.cell 0).trans (rfl:_=some (Value.slice t.na t.nl t.nc));have c1:=(BT.cell 1).trans (rfl:_=some (Value.slice t.aa t.al t.ac));have c2:=(BT.cell 2).trans (rfl:_=some (Value.int .i64 t.view));have lT:=BT.lt;clear ht1;go_wp2_with fail
  with_reducible refine (AA (cB _ ((AA H).ext (AA E1)) (ru.ext (AA E1)) (rh.ext (AA E1)))).mono ?_
  rintro e w4 ⟨il,rfl,hil,hx⟩;have hgw:=AB BZ.lt;replace BZ:=BZ.ext hx;replace E1:=AB ((AA E1).trans hx);clear hx c0 c1 c2 lT BT BS;dsimp only
  iterate 1 go_step
  refine wpList_store_blk rfl 117 (.tmp 10) (.tmp 50) rfl (gT+1) rfl (ilC il).toArray rfl 117 (ilC zIl).toArray BZ (ilC_size _) rfl (by kernel_rfl) ?_;intro w5 B5 g5 z5;simp only[Act.put];go_wp2_with fail;refine bodyPost_ret (results_cellH rfl _ _ (gT+1) 117 _ _ rfl B5 Tryz.underlying117 rfl (ilC_size _)) rfl ?_;have hE3:w.heap.size≤w3.heap.size:=by have:=AA hgw;have:=AA HGT;omega
  exact⟨il,rfl,(hil.low g5 (AA hgw)).mono hE3,(AA E1).grown g5 (fun q e=>by have:=Option.some.inj e;have:=AA HGT;omega)⟩
end
end Go.Proofs.YtamldoocjjdidaaGreat
