import Derived.Test.YtamldoocjjdidaaGreatMHtP
namespace Go.Proofs.YtamldoocjjdidaaGreat
open Go.RowKit
set_option maxRecDepth 100000
set_option maxHeartbeats 64000000
theorem field_used (u l r:Int) (w:World):(Instr.field 120 (.agg #[.int .i64 u,.int .i64 l,.int .i64 r]) 0).run Tryz.prog w=.ok (.int .i64 u) w:=by kernel_rfl
section
variable {w0 w:World} {ns:List Nd} {av:List Int} {un:Nat→List Int} {NW:Nat→Nat} {K:Ck} {F:Nat} {us:List Us} {hs:List Int}
theorem WkIn.node (I:WkIn w0 ns av un K us hs) (hx:Ext w0 w) {i:Nat} (hi:i<ns.length):∃(nd:Nd) (bn on:Nat),ns[i]?=some nd∧K.t.na=some ⟨bn,on,none⟩∧K.t.nl=ns.length∧bn<w.heap.size∧NdOk nd.s∧∀j u,nd.cells[j]?=some u→w.cell? ⟨bn,on+i*44+j,none⟩=some u:=by
 obtain⟨nd,hnd⟩:∃nd,ns[i]?=some nd:=⟨_,AE hi⟩
 obtain⟨bn,on,h1,h2,h3⟩:=(I.lt.tr.nodes.ext hx).node hnd;exact⟨nd,bn,on,hnd,h1,(I.lt.tr.nodes.nlen).symm,h2,I.lt.ok.nd hnd,h3⟩
theorem side22_any (I:WkIn w0 ns av un K us hs) (i:Nat) (hi:i<ns.length) (S:WkS w0 w ns NW K F) (e:Int) (he:e=0∨e=1∨e=2∨e=3) :
  Calls Tryz.prog 148 #[ptrV K.gW,.int .i64 i,.int .i64 e] w (SomeI w):=by
 obtain⟨nd,bn,on,hnd,hna,hnl,lbn,hok,hcn⟩:=I.node S.ext hi;obtain⟨a,m,l,fA,fc,fs,BW,OF⟩:=S.st;have c0:=(BW.cell 0).trans (rfl:_=some (Value.slice K.t.na K.t.nl K.t.nc));rw[hna] at c0;have hf:=I.lt.few;have hiI:(0:Int)≤(i:Int)∧(i:Int)<(K.t.nl:Int):=by omega
 have lW:=BW.lt;have HC:=AB hcn;clear OF S hna hnl hcn;go_enter Tryz.func148,Tryz.ntmps148;go_upto_region 1 with fail
 iterate 25 go_step
 refine wpList_load_sty (.tmp 15) rfl bn (on+i*44+1) rfl rfl nd.s (fun x v hv=>(by have h1:=(AA HC) (1+x) v (by rw[Nat.add_comm];exact hv);rwa [←Nat.add_assoc] at h1)) ?_;simp only[AC];refine wpList_var rfl rfl 65 rfl 7 rfl (.tmp 16) rfl rfl zsty.cells nd.s.cells zero_sty rfl rfl (info_style _) rfl (by kernel_rfl) ?_;intro w2 BS hx z2;simp only[AC];generalize w.heap.size=gS at *;clear c0 lW BW lbn;have lS:=BS.lt
 rcases he with rfl|rfl|rfl|rfl
 ·have c1:=(BS.cell 24).trans (rfl:_=some (Value.int .i64 nd.s.b0));have c2:=(BS.cell 28).trans (rfl:_=some (Value.int .i64 nd.s.p0));go_upto_region 2 with fail
  go_quiet (fail)
  go_wp2_with fail;go_ret;exact⟨_,rfl,hx.drewN _⟩
 ·have c1:=(BS.cell 25).trans (rfl:_=some (Value.int .i64 nd.s.b1));have c2:=(BS.cell 29).trans (rfl:_=some (Value.int .i64 nd.s.p1));go_upto_region 2 with fail
  go_quiet (fail)
  go_wp2_with fail;go_ret;exact⟨_,rfl,hx.drewN _⟩
 ·have c1:=(BS.cell 26).trans (rfl:_=some (Value.int .i64 nd.s.b2));have c2:=(BS.cell 30).trans (rfl:_=some (Value.int .i64 nd.s.p2));go_upto_region 2 with fail
  go_quiet (fail)
  go_wp2_with fail;go_ret;exact⟨_,rfl,hx.drewN _⟩
 ·have c1:=(BS.cell 27).trans (rfl:_=some (Value.int .i64 nd.s.b3));have c2:=(BS.cell 31).trans (rfl:_=some (Value.int .i64 nd.s.p3));go_upto_region 2 with fail
  go_quiet (fail)
  go_wp2_with fail;go_ret;exact⟨_,rfl,hx.drewN _⟩
theorem wide22_any (I:WkIn w0 ns av un K us hs) (i:Nat) (hi:i<ns.length) (S:WkS w0 w ns NW K F) :
  Calls Tryz.prog 111 #[ptrV K.gW,.int .i64 i] w (SomeI w):=by
 have hf:=I.lt.few;have cU:=fun w S=>AB (used22_any (w:=w) (NW:=NW) (F:=F) I i (by omega) S)
 obtain⟨nd,bn,on,hnd,hna,hnl,lbn,hok,hcn⟩:=I.node S.ext hi;have cF:=fun w=>AB (ref_frame nd.s hok.thin w)
 have HS:=AB S;obtain⟨a,m,l,fA,fc,fs,BW,OF⟩:=S.st;have c0:=(BW.cell 0).trans (rfl:_=some (Value.slice K.t.na K.t.nl K.t.nc));rw[hna] at c0;have hiI:(0:Int)≤(i:Int)∧(i:Int)<(K.t.nl:Int):=by omega
 have lW:=BW.lt;have HC:=AB hcn;obtain⟨xA,hxA⟩:∃z,nd.s.b3+nd.s.b1+nd.s.p3+nd.s.p1=z:=⟨_,rfl⟩
 obtain⟨xD,hxD⟩:∃z,nd.s.b0+nd.s.b2+nd.s.p0+nd.s.p2=z:=⟨_,rfl⟩
 rw[hxA,hxD] at cF;clear OF S hna hnl hcn hxA hxD hok;go_enter Tryz.func111,Tryz.ntmps111;go_upto_region 1 with fail
 iterate 25 go_step
 refine wpList_load_sty (.tmp 15) rfl bn (on+i*44+1) rfl rfl nd.s (fun x v hv=>(by have h1:=(AA HC) (1+x) v (by rw[Nat.add_comm];exact hv);rwa [←Nat.add_assoc] at h1)) ?_;simp only[AC];go_wp2_with fail
 with_reducible refine (AA (cF _)).mono ?_
 rintro e w2 ⟨rfl,hx⟩;go_wp2_with fail
 with_reducible refine (AA (cU _ ((AA HS).step hx))).mono ?_
 rintro e w3 ⟨⟨uw,ul,ur⟩,rfl,hu,hx3⟩;simp only[usC];clear c0 lW BW lbn cF cU hu;have fU:=field_used uw ul ur;go_wp2_with fail;go_ret;exact⟨_,rfl,hx.trans hx3⟩
theorem margin22_any (I:WkIn w0 ns av un K us hs) (i:Nat) (hi:i<ns.length) (p:Nat) (hp:nP ns i=(p:Int)) (hp2:p≤1000000) (S:WkS w0 w ns NW K F) (e:Int) (he:e=0∨e=2) :
  Calls Tryz.prog 156 #[ptrV K.gW,.int .i64 i,.int .i64 e] w (SomeI w):=by
 have hf:=I.lt.few;have cU:=fun w S=>AB (used22_any (w:=w) (NW:=NW) (F:=F) I p (by omega) S)
 obtain⟨nd,bn,on,hnd,hna,hnl,lbn,hok,hcn⟩:=I.node S.ext hi;have cR:=fun l c w h1 h2=>AB (ref_resolve l c h1 h2 w)
 have HP:=AB (show nd.p=(p:Int) by rw[←hp,nP,hnd]);have HM0:=AB hok.sty.p0;have HM2:=AB hok.sty.p2;have HS:=AB S;obtain⟨a,m,l,fA,fc,fs,BW,OF⟩:=S.st;have c0:=(BW.cell 0).trans (rfl:_=some (Value.slice K.t.na K.t.nl K.t.nc));rw[hna] at c0;have hiI:(0:Int)≤(i:Int)∧(i:Int)<(K.t.nl:Int):=by omega
 have lW:=BW.lt;have q0:=hcn 0 _ (show nd.cells[0]?=some (Value.int .i64 nd.p) from rfl);rw[AA HP,Nat.add_zero] at q0;clear OF S hna hnl hok hp
 rcases he with rfl|rfl
 ·have q1:=hcn 17 _ (show nd.cells[17]?=some (Value.int .u8 nd.s.m0.k) from rfl);have q2:=hcn 18 _ (show nd.cells[18]?=some (Value.int .i64 nd.s.m0.n) from rfl);clear hcn;go_enter Tryz.func156,Tryz.ntmps156;go_upto_region 1 with fail;refine wp_region_ord [(1,0),(1,1),(1,2),(1,3),(0,4),(1,5),(1,6),(1,7),(1,8),(1,9),(1,10),(0,11),(1,12),(1,13),(1,14),(1,15),(1,16),(0,17),(1,18),(1,19),(1,20),(0,21),(2,22),(1,23),(3,24),(1,25),(1,26),(1,27),(1,28),(1,29)] 24 (fun w'=>Ext w w') (by kernel_rfl) (by kernel_rfl) rfl (by kernel_rfl) ((Ext.refl _).drew) ?_;simp only[AD]
  iterate 22 ((first|refine ordQA ?_|refine ordQB ?_);simp only[AC])
  refine ord_keep ?_;go_wp2_with fail
  with_reducible refine (AA (cU _ ((AA HS).step (Ext.refl w).drew))).mono ?_
  rintro e w3 ⟨⟨uw,ul,ur⟩,rfl,hu,hx⟩;have HX2:=AB ((Ext.refl w).drew.trans hx);clear hx;have hub:=hu.w.2;simp only at hub;simp only[usC];have fU:=field_used uw ul ur;go_wp2_with fail;refine⟨AA HX2,?_⟩
  iterate 1 ((first|refine ordQA ?_|refine ordQB ?_);simp only[AC])
  refine ord_last ?_;go_wp2_with fail
  with_reducible refine (AA (cR nd.s.m0 uw _ (AA HM0) hub)).mono ?_
  rintro e w4 ⟨rfl,hx3⟩;go_wp2_with fail
  iterate 5 ((first|refine ordQA ?_|refine ordQB ?_);simp only[AC])
  refine ord_nil ?_;go_wp2_with fail;go_ret;exact⟨_,rfl,(AA HX2).trans hx3⟩
 ·have q1:=hcn 21 _ (show nd.cells[21]?=some (Value.int .u8 nd.s.m2.k) from rfl);have q2:=hcn 22 _ (show nd.cells[22]?=some (Value.int .i64 nd.s.m2.n) from rfl);clear hcn;go_enter Tryz.func156,Tryz.ntmps156;go_upto_region 1 with fail;refine wp_region_ord [(1,0),(1,1),(1,2),(1,3),(0,4),(1,5),(1,6),(1,7),(1,8),(1,9),(1,10),(0,11),(1,12),(1,13),(1,14),(1,15),(1,16),(0,17),(1,18),(1,19),(1,20),(0,21),(2,22),(1,23),(3,24),(1,25),(1,26),(1,27),(1,28),(1,29)] 24 (fun w'=>Ext w w') (by kernel_rfl) (by kernel_rfl) rfl (by kernel_rfl) ((Ext.refl _).drew) ?_;simp only[AD]
  iterate 22 ((first|refine ordQA ?_|refine ordQB ?_);simp only[AC])
  refine ord_keep ?_;go_wp2_with fail
  with_reducible refine (AA (cU _ ((AA HS).step (Ext.refl w).drew))).mono ?_
  rintro e w3 ⟨⟨uw,ul,ur⟩,rfl,hu,hx⟩;have HX2:=AB ((Ext.refl w).drew.trans hx);clear hx;have hub:=hu.w.2;simp only at hub;simp only[usC];have fU:=field_used uw ul ur;go_wp2_with fail;refine⟨AA HX2,?_⟩
  iterate 1 ((first|refine ordQA ?_|refine ordQB ?_);simp only[AC])
  refine ord_last ?_;go_wp2_with fail
  with_reducible refine (AA (cR nd.s.m2 uw _ (AA HM2) hub)).mono ?_
  rintro e w4 ⟨rfl,hx3⟩;go_wp2_with fail
  iterate 5 ((first|refine ordQA ?_|refine ordQB ?_);simp only[AC])
  refine ord_nil ?_;go_wp2_with fail;go_ret;exact⟨_,rfl,(AA HX2).trans hx3⟩
end
def WkOut2 (w0 w:World) (ns:List Nd) (NW:Nat→Nat) (K:Ck) (F:Nat) (e:Ending) (w':World):Prop:=e=.returned (.tuple #[])∧WkS w0 w' ns NW K F∧KeepS w w'
def KeepR (K:Ck) (w w':World):Prop:=∀(e k m:Nat) (u:Value) (xs:List Value),w.ownsRow K.B e k u m xs→w'.ownsRow K.B e k u m xs
theorem KeepR.of {K:Ck} {w w':World} (hx:Ext w w'):KeepR K w w':=fun _ _ _ _ _ h=>own_ext h hx
theorem KeepR.trans {K:Ck} {a b c:World} (h:KeepR K a b) (k:KeepR K b c):KeepR K a c:=fun e q m u xs r=>k e q m u xs (h e q m u xs r)
theorem KeepR.cell {K:Ck} {w:World} {q:Nat} (hq:q<K.B) (i:Nat) (v:Value):KeepR K w (w.setCell ⟨q,i,none⟩ v):=fun _ _ _ _ _ h=>own_grown h (gsCell q i) (own_apart h hq)
def KeepB (K:Ck) (w w':World):Prop:=KeepS w w'∧KeepR K w w'
theorem KeepB.trans {K:Ck} {a b c:World} (h:KeepB K a b) (k:KeepB K b c):KeepB K a c:=⟨h.1.trans k.1,h.2.trans k.2⟩
theorem KeepB.of {K:Ck} {w w':World} (hx:Ext w w'):KeepB K w w':=⟨KeepS.of hx,KeepR.of hx⟩
def WkOut3 (w0 w:World) (ns:List Nd) (NW:Nat→Nat) (K:Ck) (F:Nat) (e:Ending) (w':World):Prop:=WkOut2 w0 w ns NW K F e w'∧KeepR K w w'
section
variable {w0 w:World} {ns:List Nd} {av:List Int} {un:Nat→List Int} {NW:Nat→Nat} {K:Ck} {F:Nat} {us:List Us} {hs:List Int}
theorem WkS.setAt (S:WkS w0 w ns NW K F) (v:Int):WkS w0 (w.setCell ⟨K.gW,7,none⟩ (.int .i64 v)) ns NW K F:=by
 obtain⟨a,m,l,fA,fc,fs,BW,OF⟩:=S.st;have hg:=gsCell (w:=w) K.gW 7 (u:=.int .i64 v);exact S.setW hg ⟨v,m,l,fA,fc,fs,BW.set_ 7 (.int .i64 v),own_grown OF hg (own_apart OF S.hi.1)⟩
theorem WkS.setM (S:WkS w0 w ns NW K F) (v:Int):WkS w0 (w.setCell ⟨K.gW,8,none⟩ (.int .i64 v)) ns NW K F:=by
 obtain⟨a,m,l,fA,fc,fs,BW,OF⟩:=S.st;have hg:=gsCell (w:=w) K.gW 8 (u:=.int .i64 v);exact S.setW hg ⟨a,v,l,fA,fc,fs,BW.set_ 8 (.int .i64 v),own_grown OF hg (own_apart OF S.hi.1)⟩
theorem WkS.setL (S:WkS w0 w ns NW K F) (v:Int):WkS w0 (w.setCell ⟨K.gW,9,none⟩ (.int .i64 v)) ns NW K F:=by
 obtain⟨a,m,l,fA,fc,fs,BW,OF⟩:=S.st;have hg:=gsCell (w:=w) K.gW 9 (u:=.int .i64 v);exact S.setW hg ⟨a,m,v,fA,fc,fs,BW.set_ 9 (.int .i64 v),own_grown OF hg (own_apart OF S.hi.1)⟩
theorem settle22_any (hn:ns.length≤1000000) (S:WkS w0 w ns NW K F) :
  Calls Tryz.prog 154 #[ptrV K.gW] w (WkOut3 w0 w ns NW K F):=by
 have cM:=fun w S=>AB (mark22_any (w0:=w0) (w:=w) (ns:=ns) (NW:=NW) (K:=K) (F:=F) S)
 go_enter Tryz.func154,Tryz.ntmps154;go_wp2_with fail
 with_reducible refine (AA (cM _ S)).mono ?_
 rintro e w1 ⟨z,rfl,hx⟩;replace S:=S.step hx;have KS:=AB ((KeepB.of (K:=K) hx).trans (((show KeepB K _ _ from ⟨S.keepW 7 (.int .i64 z),KeepR.cell S.hi.1 7 _⟩).trans ⟨(S.setAt z).keepW 8 (.int .i64 0),KeepR.cell S.hi.1 8 _⟩).trans ⟨((S.setAt z).setM 0).keepW 9 (.int .i64 0),KeepR.cell S.hi.1 9 _⟩));clear hx cM;have HS:=AB S;obtain⟨a,m,l,fA,fc,fs,BW,OF⟩:=S.st;have c7:=(BW.cell 7).trans (rfl:_=some (Value.int .i64 a));have c8:=(BW.cell 8).trans (rfl:_=some (Value.int .i64 m));have c9:=(BW.cell 9).trans (rfl:_=some (Value.int .i64 l));have lW:=BW.lt;have fW:=BW.frozen;clear S OF;go_upto_region 2 with fail;have S:=(((AA HS).setAt z).setM 0).setL 0;clear c7 c8 c9 lW fW BW HS;generalize ((w1.setCell ⟨K.gW,7,none⟩ (.int .i64 z)).setCell ⟨K.gW,8,none⟩ (.int .i64 0)).setCell ⟨K.gW,9,none⟩ (.int .i64 0)=w2 at *;go_wp2_with fail;obtain⟨n,hn2⟩:∃n,ns.length=n:=⟨_,rfl⟩
 have HN:=AB hn2;rw[hn2] at hn;clear hn2;go_loopw [2] (fun v2 wq=>∃(k:Nat),v2=.int .i64 k∧k≤n∧WkS w0 wq ns NW K F∧Hid (KeepB K w wq)) (fun v2 _=>n-(intOf v2).toNat)
 case atStart=>exact⟨0,rfl,by omega,S,KS⟩
 case round=>
  clear S KS;obtain⟨k,rfl,hk,S,KS⟩:=hrel;have HS:=AB S;obtain⟨a,m,l,fA,fc,fs,BW,OF⟩:=S.st;rw[AA HN] at BW;have c11:=(BW.cell 11).trans (rfl:_=some (Value.slice (some ⟨K.gO,0,none⟩) n n));have lW:=BW.lt;by_cases hkn:k<n
  ·have hkI:(0:Int)≤(k:Int)∧(k:Int)<(n:Int):=by omega
   obtain⟨bl,hbl,BO⟩:=S.op;obtain⟨yl,hyl,BY⟩:=S.ys;rw[AA HN] at hbl hyl;obtain⟨v,hv⟩:∃v,bl[k]?=some v:=⟨_,AE (by omega)⟩
   obtain⟨y,hy⟩:∃v,yl[k]?=some v:=⟨_,AE (by omega)⟩
   have cO:=(BO.cell k).trans (show _=some (Value.bool v) by rw[List.getElem?_toArray,boolL,List.getElem?_map,hv];rfl);have lO:=BO.lt;have fO:=BO.frozen k;have cY:=(BY.cell k).trans (show _=some (Value.int .i64 y) by rw[List.getElem?_toArray,ints,List.getElem?_map,hy];rfl);have lY:=BY.lt;have fY:=BY.frozen k;have c13:=(BW.cell 13).trans (rfl:_=some (Value.slice (some ⟨K.gY,0,none⟩) n n));have c7:=(BW.cell 7).trans (rfl:_=some (Value.int .i64 a));clear hv hy OF S BO BY;cases v
   ·go_wp2_with fail;go_roundw
    case rel=>exact⟨k+1,by go_num,by omega,AA HS,KS⟩
    case measure=>simp[intOf];omega
   ·go_upto_region 6 with fail;refine wp_region_ord [(1,0),(1,1),(1,2),(0,3),(1,4),(1,5),(1,6),(1,7),(0,8),(1,9),(3,10)] 10 (fun w'=>Ext wr w') (by kernel_rfl) (by kernel_rfl) rfl (by kernel_rfl) ((Ext.refl _).drew) ?_;simp only[AD]
    iterate 10 ((first|refine ordQA ?_|refine ordQB ?_);simp only[AC])
    refine ord_last ?_;go_wp2_with fail;refine ord_nil ?_;have S:=((AA HS).setI (q:=K.gY) (i:=k) (v:=a) (.inr (.inl rfl))).step (Ext.refl _).drew;replace KS:=AB (((AA KS).trans ⟨(AA HS).keepI (.inr (.inl rfl)) k (.int .i64 a),KeepR.cell (AA HS).hi.2.2.2.1 k _⟩).trans (KeepB.of (Ext.refl _).drew));clear HS cO lO fO cY lY fY c13 c7 c11 lW BW;generalize (World.setCell wr ⟨K.gY,k,none⟩ (.int .i64 a)).drew=w3 at *;have HS:=AB S;obtain⟨a,m,l,fA,fc,fs,BW,OF⟩:=S.st;rw[AA HN] at BW;have c11:=(BW.cell 11).trans (rfl:_=some (Value.slice (some ⟨K.gO,0,none⟩) n n));have lW:=BW.lt;obtain⟨bl,hbl,BO⟩:=S.op;rw[AA HN] at hbl;obtain⟨v,hv⟩:∃v,bl[k]?=some v:=⟨_,AE (by omega)⟩
    have cO:=(BO.cell k).trans (show _=some (Value.bool v) by rw[List.getElem?_toArray,boolL,List.getElem?_map,hv];rfl);have lO:=BO.lt;have fO:=BO.frozen k;clear hv OF S BO;go_wp2_with fail;go_roundw
    case rel=>exact⟨k+1,by go_num,by omega,(AA HS).setO,AB ((AA KS).trans ⟨(AA HS).keepO k (.bool false),KeepR.cell (AA HS).hi.2.1 k _⟩)⟩
    case measure=>simp[intOf];omega
  ·have hkI:¬(k:Int)<(n:Int):=by omega
   have hkb:decide (k<n)=false:=by simp;omega
   clear S OF;go_wp2_with fail
   go_end0
   exact⟨⟨rfl,AA HS,(AA KS).1⟩,(AA KS).2⟩
end
section
variable {w0 w:World} {ns:List Nd} {av:List Int} {un:Nat→List Int} {NW:Nat→Nat} {K:Ck} {F:Nat} {us:List Us} {hs:List Int}
theorem leave22_any (I:WkIn w0 ns av un K us hs) (i:Nat) (hi:i<ns.length) (below:Int) (S:WkS w0 w ns NW K F) :
  Calls Tryz.prog 160 #[ptrV K.gW,.int .i64 i,.int .i64 below] w (WkOut2 w0 w ns NW K F):=by
 have hf:=I.lt.few;obtain⟨n,hn2⟩:∃n,ns.length=n:=⟨_,rfl⟩
 have cM:=fun w S=>AB (mark22_any (w0:=w0) (w:=w) (ns:=ns) (NW:=NW) (K:=K) (F:=F) S)
 have cSt:=fun w S=>AB (settle22_any (w0:=w0) (w:=w) (ns:=ns) (NW:=NW) (K:=K) (F:=F) (by omega) S)
 have cSd:=fun e w S he=>AB (side22_any (w:=w) (NW:=NW) (F:=F) I i hi S e he)
 have cJ:=fun m l x w=>AB (show Calls Tryz.prog 159 #[.agg #[.int .i64 m,.int .i64 l],.int .i64 x] w (StrutIs w) from join14_any ⟨m,l⟩ x w)
 obtain⟨nd,bn,on,hnd,hna,hnl,lbn,hok,hcn⟩:=I.node S.ext hi;have HN:=AB hn2;rw[hn2] at hi hf;have HNA:=AB hna;have HC:=AB hcn;have cH:=fun x w=>AB (ref_high nd.s x w)
 have hiI:(0:Int)≤(i:Int)∧(i:Int)<(n:Int):=by omega
 have hiN:(0:Int)≤(i:Int)∧(i:Int)<(K.t.nl:Int):=by omega
 clear hna hcn hok hn2 hnl;have HS:=AB S;obtain⟨a,m,l,fA,fc,fs,BW,OF⟩:=S.st;rw[AA HN] at BW;have c0:=(BW.cell 0).trans (rfl:_=some (Value.slice K.t.na K.t.nl K.t.nc));rw[AA HNA] at c0;have lW:=BW.lt;have fW:=BW.frozen;clear OF S;go_enter Tryz.func160,Tryz.ntmps160;go_upto_region 0 with fail
 iterate 25 go_step
 refine wpList_load_sty (.tmp 19) rfl bn (on+i*44+1) rfl rfl nd.s (fun x v hv=>(by have h1:=(AA HC) (1+x) v (by rw[Nat.add_comm];exact hv);rwa [←Nat.add_assoc] at h1)) ?_;simp only[AC];refine wpList_var rfl rfl 65 rfl 6 rfl (.tmp 20) rfl rfl zsty.cells nd.s.cells zero_sty rfl rfl (info_style _) rfl (by kernel_rfl) ?_;intro w2 BS hx z2;simp only[AC];have S:=(AA HS).step hx;have KS:=AB (KeepS.of hx);generalize w.heap.size=gS at *;clear hx z2 HS lbn;clear lW fW BW c0;go_wp2_with fail
 with_reducible refine (AA (cSd 2 _ S (by simp))).mono ?_
 rintro e w3 ⟨fl,rfl,hx⟩;replace S:=S.step hx;replace KS:=AB ((AA KS).trans (KeepS.of hx));replace BS:=BS.ext hx;clear hx;obtain⟨no,hno⟩:∃z,highV nd.s 0=z:=⟨_,rfl⟩
 have cH0:=fun w=>cH 0 w
 rw[hno] at cH0;clear hno;go_upto_region 2 with fail;go_step;refine wpList_load_blk rfl 65 (.tmp 6) rfl gS rfl 65 nd.s.cells _ BS Tryz.underlying65 rfl (info_style _) ?_;simp only[AC];go_wp2_with fail
 with_reducible refine (AA (cH0 _)).mono ?_
 rintro e w4 ⟨rfl,hx⟩;replace S:=S.step hx;replace KS:=AB ((AA KS).trans (KeepS.of hx));replace BS:=BS.ext hx;clear hx cH0;obtain⟨t1,ht1⟩:∃t,(fl==0)=t:=⟨_,rfl⟩
 obtain⟨t2,ht2⟩:∃t,(no==0)=t:=⟨_,rfl⟩
 go_upto_region 3 with fail;go_cut [40] from 12 to 183 (fun v40 wx=>∃b:Bool,v40=.bool b∧wx=w4)
 case first=>
  have HS:=AB S;obtain⟨a,m,l,fA,fc,fs,BW,OF⟩:=S.st;rw[AA HN] at BW;have c11:=(BW.cell 11).trans (rfl:_=some (Value.slice (some ⟨K.gO,0,none⟩) n n));obtain⟨lO,hlO,BO⟩:=S.op;rw[AA HN] at hlO;obtain⟨vO,hvO⟩:∃v,lO[i]?=some v:=⟨_,AE (by omega)⟩
  have kO:=(BO.cell i).trans (show _=some (Value.bool vO) by rw[List.getElem?_toArray,boolL,List.getElem?_map,hvO];rfl);have qO:=BO.lt;have zO:=BO.frozen i;have lW:=BW.lt;have fW:=BW.frozen;clear OF S BO hvO;cases vO
  all_goals cases t1
  all_goals
   go_wp2_with fail;go_meet
   case rel=>exact⟨_,rfl,rfl⟩
 case rest=>
  obtain⟨b40,rfl,rfl⟩:=hcut;clear ht1 ht2;cases b40
  ·as_aux_lemma=>
   have HS:=AB S;obtain⟨a,m,l,fA,fc,fs,BW,OF⟩:=S.st;rw[AA HN] at BW;have c11:=(BW.cell 11).trans (rfl:_=some (Value.slice (some ⟨K.gO,0,none⟩) n n));obtain⟨lO,hlO,BO⟩:=S.op;rw[AA HN] at hlO;obtain⟨vO,hvO⟩:∃v,lO[i]?=some v:=⟨_,AE (by omega)⟩
   have kO:=(BO.cell i).trans (show _=some (Value.bool vO) by rw[List.getElem?_toArray,boolL,List.getElem?_map,hvO];rfl);have qO:=BO.lt;have zO:=BO.frozen i;have lW:=BW.lt;have fW:=BW.frozen;clear OF S BO hvO;go_upto_if 70 with (fail);clear lW fW BW c11 kO qO zO hlO;have S:=AA HS;clear HS;cases vO
   ·as_aux_lemma=>
    obtain⟨t3,ht3⟩:∃t,decide (0<fl)=t:=⟨_,rfl⟩
    go_upto_if 104 with (fail);go_cut [] from 12 to 183 (fun wx=>WkS w0 wx ns NW K F∧Hid (KeepS w wx)∧Blk wx gS 65 nd.s.cells)
    case first=>
     cases t3
     ·go_wp2_with fail;go_meet
      case rel=>exact⟨S,KS,BS⟩
     ·go_wp2_with fail
      with_reducible refine (AA (cSt _ S)).mono ?_
      rintro e w5 ⟨⟨rfl,S,ks⟩,-⟩;go_wp2_with fail;go_meet
      case rel=>exact⟨S,AB ((AA KS).trans ks),ks _ _ BS⟩
    case rest=>
     clear S KS BS ht3;obtain⟨S,KS,BS⟩:=hcut;go_wp2_with fail
     with_reducible refine (AA (cSd 0 _ S (by simp))).mono ?_
     rintro e w5 ⟨rf,rfl,hx⟩;replace S:=S.step hx;replace KS:=AB ((AA KS).trans (KeepS.of hx));replace BS:=BS.ext hx;clear hx;have HS:=AB S;obtain⟨a,m,l,fA,fc,fs,BW,OF⟩:=S.st;rw[AA HN] at BW;have c7:=(BW.cell 7).trans (rfl:_=some (Value.int .i64 a));have c13:=(BW.cell 13).trans (rfl:_=some (Value.slice (some ⟨K.gY,0,none⟩) n n));obtain⟨lY,hlY,BY⟩:=S.ys;rw[AA HN] at hlY;obtain⟨vY,hvY⟩:∃v,lY[i]?=some v:=⟨_,AE (by omega)⟩
     have kY:=(BY.cell i).trans (show _=some (Value.int .i64 vY) by rw[List.getElem?_toArray,ints,List.getElem?_map,hvY];rfl);have qY:=BY.lt;have zY:=BY.frozen i;have lW:=BW.lt;have fW:=BW.frozen;clear OF S BY hvY;obtain⟨s1,hs1⟩:∃z,IntKind.i64.wrap (a-vY)=z:=⟨_,rfl⟩
     obtain⟨s2,hs2⟩:∃z,IntKind.i64.wrap (s1-rf)=z:=⟨_,rfl⟩
     go_upto_region 15 with fail;refine wp_region_ord [(1,0),(1,1),(1,2),(0,3),(1,4),(1,5),(1,6),(0,7),(1,8),(1,9),(0,10),(1,11),(1,12),(1,13),(1,14)] 15 (fun w'=>Ext w5 w') (by kernel_rfl) (by kernel_rfl) rfl (by kernel_rfl) ((Ext.refl _).drew) ?_;simp only[AD]
     iterate 15 ((first|refine ordQA ?_|refine ordQB ?_);simp only[AC])
     refine ord_nil ?_;have S:=(AA HS).step (Ext.refl w5).drew;replace KS:=AB ((AA KS).trans (KeepS.of (Ext.refl w5).drew));replace BS:=BS.ext (Ext.refl w5).drew;clear lW fW BW c7 c13 kY qY zY hlY;clear HS hs1 hs2;generalize w5.drew=w6 at *;obtain⟨hv,hhv⟩:∃z,highV nd.s s2=z:=⟨_,rfl⟩
     have cH0:=fun w=>cH s2 w
     rw[hhv] at cH0;clear hhv;go_upto_region 16 with fail;go_step;refine wpList_load_blk rfl 65 (.tmp 6) rfl gS rfl 65 nd.s.cells _ BS Tryz.underlying65 rfl (info_style _) ?_;simp only[AC];go_wp2_with fail
     with_reducible refine (AA (cH0 _)).mono ?_
     rintro e w7 ⟨rfl,hx⟩;replace S:=S.step hx;replace KS:=AB ((AA KS).trans (KeepS.of hx));replace BS:=BS.ext hx;clear hx cH0;obtain⟨s3,hs3⟩:∃z,IntKind.i64.wrap (rf+hv)=z:=⟨_,rfl⟩
     obtain⟨s4,hs4⟩:∃z,IntKind.i64.wrap (s3+fl)=z:=⟨_,rfl⟩
     have HS:=AB S;obtain⟨a,m,l,fA,fc,fs,BW,OF⟩:=S.st;rw[AA HN] at BW;have c14:=(BW.cell 14).trans (rfl:_=some (Value.slice (some ⟨K.gH,0,none⟩) n n));obtain⟨lH,hlH,BH⟩:=S.hs;rw[AA HN] at hlH;obtain⟨vH,hvH⟩:∃v,lH[i]?=some v:=⟨_,AE (by omega)⟩
     have kH:=(BH.cell i).trans (show _=some (Value.int .i64 vH) by rw[List.getElem?_toArray,ints,List.getElem?_map,hvH];rfl);have qH:=BH.lt;have zH:=BH.frozen i;have lW:=BW.lt;have fW:=BW.frozen;clear OF S BH hvH;go_upto_region 18 with fail;have S:=(AA HS).setI (q:=K.gH) (i:=i) (v:=s4) (.inr (.inr rfl));have ks:=(AA HS).keepI (.inr (.inr rfl)) i (.int .i64 s4);replace BS:=ks _ _ BS;replace KS:=AB ((AA KS).trans ks);clear lW fW BW c14 kH qH zH hlH;clear HS hs3 hs4 ks;generalize w7.setCell ⟨K.gH,i,none⟩ (.int .i64 s4)=w8 at *;have kh:=(BS.cell 6).trans (rfl:_=some (Value.int .u8 nd.s.h.k));have lS:=BS.lt;obtain⟨t4,ht4⟩:∃t,(nd.s.h.k==0)=t:=⟨_,rfl⟩
     obtain⟨t5,ht5⟩:∃t,(hv==s2)=t:=⟨_,rfl⟩
     go_cut [150] from 12 to 183 (fun v150 wx=>∃b:Bool,v150=.bool b∧wx=w8)
     case first=>
      cases t4
      all_goals cases t5
      all_goals
       go_wp2_with fail;go_meet
       case rel=>exact⟨_,rfl,rfl⟩
     case rest=>
      obtain⟨b150,rfl,rfl⟩:=hcut;clear kh lS ht4 ht5;cases b150
      ·as_aux_lemma=>
       go_upto_region 20 with fail;have HS:=AB S;obtain⟨a,m,l,fA,fc,fs,BW,OF⟩:=S.st;rw[AA HN] at BW;have c7:=(BW.cell 7).trans (rfl:_=some (Value.int .i64 a));have c13:=(BW.cell 13).trans (rfl:_=some (Value.slice (some ⟨K.gY,0,none⟩) n n));have c14:=(BW.cell 14).trans (rfl:_=some (Value.slice (some ⟨K.gH,0,none⟩) n n));obtain⟨lY,hlY,BY⟩:=S.ys;rw[AA HN] at hlY;obtain⟨vY,hvY⟩:∃v,lY[i]?=some v:=⟨_,AE (by omega)⟩
       have kY:=(BY.cell i).trans (show _=some (Value.int .i64 vY) by rw[List.getElem?_toArray,ints,List.getElem?_map,hvY];rfl);have qY:=BY.lt;have zY:=BY.frozen i;obtain⟨lH,hlH,BH⟩:=S.hs;rw[AA HN] at hlH;obtain⟨vH,hvH⟩:∃v,lH[i]?=some v:=⟨_,AE (by omega)⟩
       have kH:=(BH.cell i).trans (show _=some (Value.int .i64 vH) by rw[List.getElem?_toArray,ints,List.getElem?_map,hvH];rfl);have qH:=BH.lt;have zH:=BH.frozen i;have lW:=BW.lt;have fW:=BW.frozen;clear OF S BY hvY BH hvH;obtain⟨s5,hs5⟩:∃z,IntKind.i64.wrap (vY+vH)=z:=⟨_,rfl⟩
       refine wp_region_ord [(1,0),(1,1),(1,2),(1,3),(0,4),(1,5),(1,6),(0,7),(1,8),(1,9),(1,10),(0,11),(1,12),(1,13),(0,14),(1,15),(1,16),(1,17),(3,18)] 18 (fun w'=>Ext wc w') (by kernel_rfl) (by kernel_rfl) rfl (by kernel_rfl) ((Ext.refl _).drew) ?_;simp only[AD]
       iterate 18 ((first|refine ordQA ?_|refine ordQB ?_);simp only[AC])
       refine ord_last ?_;go_wp2_with fail;refine ord_nil ?_;have S:=((AA HS).setAt s5).step (Ext.refl _).drew;replace KS:=AB (((AA KS).trans ((AA HS).keepW 7 (.int .i64 s5))).trans (KeepS.of (Ext.refl _).drew));clear lW fW BW c7 c13 c14 kY qY zY hlY kH qH zH hlH;clear HS hs5;generalize (wc.setCell ⟨K.gW,7,none⟩ (.int .i64 s5)).drew=w9 at *;have HS:=AB S;obtain⟨a,m,l,fA,fc,fs,BW,OF⟩:=S.st;rw[AA HN] at BW;have c8:=(BW.cell 8).trans (rfl:_=some (Value.int .i64 m));have c9:=(BW.cell 9).trans (rfl:_=some (Value.int .i64 l));have lW:=BW.lt;have fW:=BW.frozen;clear OF S;go_wp2_with fail
       with_reducible refine (AA (cJ 0 0 below _)).mono ?_
       rintro e w8 ⟨⟨sm,sl⟩,rfl,hx⟩;have S:=(AA HS).step hx;replace KS:=AB ((AA KS).trans (KeepS.of hx));simp only[suC];clear lW fW BW c8 c9;clear hx;have HS:=AB S;obtain⟨a,m,l,fA,fc,fs,BW,OF⟩:=S.st;rw[AA HN] at BW;have c8:=(BW.cell 8).trans (rfl:_=some (Value.int .i64 m));have c9:=(BW.cell 9).trans (rfl:_=some (Value.int .i64 l));have lW:=BW.lt;have fW:=BW.frozen;clear OF S;go_wp2_with fail
       go_end0
       exact⟨rfl,((AA HS).setM sm).setL sl,((AA KS).trans ((AA HS).keepW 8 (.int .i64 sm))).trans (((AA HS).setM sm).keepW 9 (.int .i64 sl))⟩
      ·as_aux_lemma=>
       have HS:=AB S;obtain⟨a,m,l,fA,fc,fs,BW,OF⟩:=S.st;rw[AA HN] at BW;have c8:=(BW.cell 8).trans (rfl:_=some (Value.int .i64 m));have c9:=(BW.cell 9).trans (rfl:_=some (Value.int .i64 l));have lW:=BW.lt;have fW:=BW.frozen;clear OF S;go_wp2_with fail
       with_reducible refine (AA (cJ m l below _)).mono ?_
       rintro e w8 ⟨⟨sm,sl⟩,rfl,hx⟩;have S:=(AA HS).step hx;replace KS:=AB ((AA KS).trans (KeepS.of hx));simp only[suC];clear lW fW BW c8 c9;clear hx;have HS:=AB S;obtain⟨a,m,l,fA,fc,fs,BW,OF⟩:=S.st;rw[AA HN] at BW;have c8:=(BW.cell 8).trans (rfl:_=some (Value.int .i64 m));have c9:=(BW.cell 9).trans (rfl:_=some (Value.int .i64 l));have lW:=BW.lt;have fW:=BW.frozen;clear OF S;go_wp2_with fail
       go_end0
       exact⟨rfl,((AA HS).setM sm).setL sl,((AA KS).trans ((AA HS).keepW 8 (.int .i64 sm))).trans (((AA HS).setM sm).keepW 9 (.int .i64 sl))⟩
   ·as_aux_lemma=>
    obtain⟨nf,hnf⟩:∃z,IntKind.i64.wrap (no+fl)=z:=⟨_,rfl⟩
    go_wp2_with fail
    with_reducible refine (AA (cSt _ S)).mono ?_
    rintro e w5 ⟨⟨rfl,S,ks⟩,-⟩;replace KS:=AB ((AA KS).trans ks);clear ks;have HS:=AB S;obtain⟨a,m,l,fA,fc,fs,BW,OF⟩:=S.st;rw[AA HN] at BW;have c14:=(BW.cell 14).trans (rfl:_=some (Value.slice (some ⟨K.gH,0,none⟩) n n));obtain⟨lH,hlH,BH⟩:=S.hs;rw[AA HN] at hlH;obtain⟨vH,hvH⟩:∃v,lH[i]?=some v:=⟨_,AE (by omega)⟩
    have kH:=(BH.cell i).trans (show _=some (Value.int .i64 vH) by rw[List.getElem?_toArray,ints,List.getElem?_map,hvH];rfl);have qH:=BH.lt;have zH:=BH.frozen i;have lW:=BW.lt;have fW:=BW.frozen;clear OF S BH hvH;go_upto_region 10 with fail;have S:=(AA HS).setI (q:=K.gH) (i:=i) (v:=nf) (.inr (.inr rfl));replace KS:=AB ((AA KS).trans ((AA HS).keepI (.inr (.inr rfl)) i (.int .i64 nf)));clear lW fW BW c14 kH qH zH hlH;clear HS hnf;generalize w5.setCell ⟨K.gH,i,none⟩ (.int .i64 nf)=w6 at *;have HS:=AB S;obtain⟨a,m,l,fA,fc,fs,BW,OF⟩:=S.st;rw[AA HN] at BW;have c7:=(BW.cell 7).trans (rfl:_=some (Value.int .i64 a));have c14:=(BW.cell 14).trans (rfl:_=some (Value.slice (some ⟨K.gH,0,none⟩) n n));obtain⟨lH,hlH,BH⟩:=S.hs;rw[AA HN] at hlH;obtain⟨vH,hvH⟩:∃v,lH[i]?=some v:=⟨_,AE (by omega)⟩
    have kH:=(BH.cell i).trans (show _=some (Value.int .i64 vH) by rw[List.getElem?_toArray,ints,List.getElem?_map,hvH];rfl);have qH:=BH.lt;have zH:=BH.frozen i;have lW:=BW.lt;have fW:=BW.frozen;clear OF S BH hvH;obtain⟨s1,hs1⟩:∃z,IntKind.i64.wrap (a+vH)=z:=⟨_,rfl⟩
    refine wp_region_ord [(1,0),(1,1),(1,2),(1,3),(0,4),(1,5),(1,6),(1,7),(0,8),(1,9),(1,10),(0,11),(1,12),(1,13),(1,14),(3,15)] 15 (fun w'=>Ext w6 w') (by kernel_rfl) (by kernel_rfl) rfl (by kernel_rfl) ((Ext.refl _).drew) ?_;simp only[AD]
    iterate 15 ((first|refine ordQA ?_|refine ordQB ?_);simp only[AC])
    refine ord_last ?_;go_wp2_with fail;refine ord_nil ?_;have S:=((AA HS).setAt s1).step (Ext.refl _).drew;replace KS:=AB (((AA KS).trans ((AA HS).keepW 7 (.int .i64 s1))).trans (KeepS.of (Ext.refl _).drew));clear lW fW BW c7 c14 kH qH zH hlH;clear HS hs1;generalize (w6.setCell ⟨K.gW,7,none⟩ (.int .i64 s1)).drew=w7 at *;have HS:=AB S;obtain⟨a,m,l,fA,fc,fs,BW,OF⟩:=S.st;rw[AA HN] at BW;have c8:=(BW.cell 8).trans (rfl:_=some (Value.int .i64 m));have c9:=(BW.cell 9).trans (rfl:_=some (Value.int .i64 l));have lW:=BW.lt;have fW:=BW.frozen;clear OF S;go_wp2_with fail
    with_reducible refine (AA (cJ 0 0 below _)).mono ?_
    rintro e w8 ⟨⟨sm,sl⟩,rfl,hx⟩;have S:=(AA HS).step hx;replace KS:=AB ((AA KS).trans (KeepS.of hx));simp only[suC];clear lW fW BW c8 c9;clear hx;have HS:=AB S;obtain⟨a,m,l,fA,fc,fs,BW,OF⟩:=S.st;rw[AA HN] at BW;have c8:=(BW.cell 8).trans (rfl:_=some (Value.int .i64 m));have c9:=(BW.cell 9).trans (rfl:_=some (Value.int .i64 l));have lW:=BW.lt;have fW:=BW.frozen;clear OF S;go_wp2_with fail
    go_end0
    exact⟨rfl,((AA HS).setM sm).setL sl,((AA KS).trans ((AA HS).keepW 8 (.int .i64 sm))).trans (((AA HS).setM sm).keepW 9 (.int .i64 sl))⟩
  ·as_aux_lemma=>
   go_upto_region 4 with fail;have HS:=AB S;obtain⟨a,m,l,fA,fc,fs,BW,OF⟩:=S.st;rw[AA HN] at BW;have c13:=(BW.cell 13).trans (rfl:_=some (Value.slice (some ⟨K.gY,0,none⟩) n n));obtain⟨lY,hlY,BY⟩:=S.ys;rw[AA HN] at hlY;obtain⟨vY,hvY⟩:∃v,lY[i]?=some v:=⟨_,AE (by omega)⟩
   have kY:=(BY.cell i).trans (show _=some (Value.int .i64 vY) by rw[List.getElem?_toArray,ints,List.getElem?_map,hvY];rfl);have qY:=BY.lt;have zY:=BY.frozen i;have lW:=BW.lt;have fW:=BW.frozen;clear OF S BY hvY;refine wp_region_ord [(1,0),(1,1),(1,2),(0,3),(1,4),(1,5),(2,6),(1,7),(3,8)] 8 (fun w'=>Ext wc w') (by kernel_rfl) (by kernel_rfl) rfl (by kernel_rfl) ((Ext.refl _).drew) ?_;simp only[AD]
   iterate 6 ((first|refine ordQA ?_|refine ordQB ?_);simp only[AC])
   refine ord_keep ?_;go_wp2_with fail
   with_reducible refine (AA (cM _ ((AA HS).step (Ext.refl wc).drew))).mono ?_
   rintro e w5 ⟨z,rfl,hx⟩;have HX:=AB ((Ext.refl wc).drew.trans hx);clear hx;clear lW fW BW c13 kY qY zY hlY;have S:=(AA HS).step (AA HX);replace KS:=AB ((AA KS).trans (KeepS.of (AA HX)));have HS:=AB S;obtain⟨a,m,l,fA,fc,fs,BW,OF⟩:=S.st;rw[AA HN] at BW;have c13:=(BW.cell 13).trans (rfl:_=some (Value.slice (some ⟨K.gY,0,none⟩) n n));obtain⟨lY,hlY,BY⟩:=S.ys;rw[AA HN] at hlY;obtain⟨vY,hvY⟩:∃v,lY[i]?=some v:=⟨_,AE (by omega)⟩
   have kY:=(BY.cell i).trans (show _=some (Value.int .i64 vY) by rw[List.getElem?_toArray,ints,List.getElem?_map,hvY];rfl);have qY:=BY.lt;have zY:=BY.frozen i;have lW:=BW.lt;have fW:=BW.frozen;clear OF S BY hvY;go_wp2_with fail;refine⟨AA HX,?_⟩
   iterate 1 ((first|refine ordQA ?_|refine ordQB ?_);simp only[AC])
   refine ord_last ?_;go_wp2_with fail;refine ord_nil ?_;have S:=(AA HS).setI (q:=K.gY) (i:=i) (v:=z) (.inr (.inl rfl));replace KS:=AB ((AA KS).trans ((AA HS).keepI (.inr (.inl rfl)) i (.int .i64 z)));clear lW fW BW c13 kY qY zY hlY;clear HS HX;generalize w5.setCell ⟨K.gY,i,none⟩ (.int .i64 z)=w6 at *;have HS:=AB S;obtain⟨a,m,l,fA,fc,fs,BW,OF⟩:=S.st;rw[AA HN] at BW;have c11:=(BW.cell 11).trans (rfl:_=some (Value.slice (some ⟨K.gO,0,none⟩) n n));obtain⟨lO,hlO,BO⟩:=S.op;rw[AA HN] at hlO;obtain⟨vO,hvO⟩:∃v,lO[i]?=some v:=⟨_,AE (by omega)⟩
   have kO:=(BO.cell i).trans (show _=some (Value.bool vO) by rw[List.getElem?_toArray,boolL,List.getElem?_map,hvO];rfl);have qO:=BO.lt;have zO:=BO.frozen i;have lW:=BW.lt;have fW:=BW.frozen;clear OF S BO hvO;go_upto_region 6 with fail;have S:=(AA HS).setO (i:=i) (v:=false);replace KS:=AB ((AA KS).trans ((AA HS).keepO i (.bool false)));clear lW fW BW c11 kO qO zO hlO;clear HS;generalize w6.setCell ⟨K.gO,i,none⟩ (.bool false)=w7 at *;have HS:=AB S;obtain⟨a,m,l,fA,fc,fs,BW,OF⟩:=S.st;rw[AA HN] at BW;have c8:=(BW.cell 8).trans (rfl:_=some (Value.int .i64 m));have c9:=(BW.cell 9).trans (rfl:_=some (Value.int .i64 l));have lW:=BW.lt;have fW:=BW.frozen;clear OF S;go_wp2_with fail
   with_reducible refine (AA (cJ m l below _)).mono ?_
   rintro e w8 ⟨⟨sm,sl⟩,rfl,hx⟩;have S:=(AA HS).step hx;replace KS:=AB ((AA KS).trans (KeepS.of hx));simp only[suC];clear lW fW BW c8 c9;clear hx;have HS:=AB S;obtain⟨a,m,l,fA,fc,fs,BW,OF⟩:=S.st;rw[AA HN] at BW;have c8:=(BW.cell 8).trans (rfl:_=some (Value.int .i64 m));have c9:=(BW.cell 9).trans (rfl:_=some (Value.int .i64 l));have lW:=BW.lt;have fW:=BW.frozen;clear OF S;go_wp2_with fail
   go_end0
   exact⟨rfl,((AA HS).setM sm).setL sl,((AA KS).trans ((AA HS).keepW 8 (.int .i64 sm))).trans (((AA HS).setM sm).keepW 9 (.int .i64 sl))⟩
end
def LinesIs (w:World) (e:Ending) (w':World):Prop:=∃(A:Option Addr) (m c:Nat) (bb:Bool),e=.returned (.tuple #[.slice A m c,.bool bb])∧LinesO w' w.heap.size (.slice A m c)∧Ext w w'
section
variable {w0 w:World} {ns:List Nd} {av:List Int} {un:Nat→List Int} {NW:Nat→Nat} {K:Ck} {F:Nat} {us:List Us} {hs:List Int}
theorem lines22_any (I:WkIn w0 ns av un K us hs) (hNW:∀b,NW b=wordsK un (kidsN ns ns.length b)) (b:Nat) (hb:b<ns.length) (x y:Int) (S:WkS w0 w ns NW K F) :
  Calls Tryz.prog 112 #[ptrV K.gW,.int .i64 b,.int .i64 x,.int .i64 y] w (LinesIs w):=by
 have hf:=I.lt.few;obtain⟨Ak,ck,hkv⟩:=S.kid hb;have HKV:=AB hkv;have hkn:(kidsN ns ns.length b).length≤1000000:=by have:=kidsN_len ns ns.length b;omega
 have hm4:=AB (I.lt.words b);have cWs:=fun w h rk=>AB (show Calls Tryz.prog 76 #[.agg #[.slice K.t.na K.t.nl K.t.nc,.slice K.t.aa K.t.al K.t.ac,.int .i64 K.t.view],.slice Ak (kidsN ns ns.length b).length ck] w (Words17Is w un (kidsN ns ns.length b)) from words17_any K.t ns av un Ak _ ck (kidsN ns ns.length b) w h rk (kids_in b) (I.lt.words b) hkn)
 have cC:=fun x w=>AB (ref_cut x w)
 obtain⟨nd,bn,on,hnd,hna,hnl,lbn,hok,hcn⟩:=I.node S.ext hb;have HLi:=AB hok.line;have hc34:=hcn 34 _ (show nd.cells[34]?=some (Value.int .i64 nd.s.line) from rfl);obtain⟨ln,hln⟩:∃z,nd.s.line=z:=⟨_,rfl⟩
 rw[hln] at hc34 HLi;have HC34:=AB hc34;have HNA:=AB hna;have HLB:=AB lbn;have HNW:=AB (hNW b);have HIl:=AB line_row;have HIp:=AB piece_row;have hiN:(0:Int)≤(b:Int)∧(b:Int)<(K.t.nl:Int):=by omega
 have S0:=AB S;clear hkv hnd hna hnl lbn hok hcn hc34 hNW hln nd;obtain⟨n,hn2⟩:∃n,ns.length=n:=⟨_,rfl⟩
 have HN:=AB hn2;obtain⟨lK,cK⟩:=S.kidCell hb (AA HKV);have hlt:=AB (I.lt.ext (S.step (Ext.refl w).drew).ext);have hrk:=AB ((S.step (Ext.refl w).drew).kidRd (AA HKV));rw[hn2] at hb;have hiI:(0:Int)≤(b:Int)∧(b:Int)<(n:Int):=by omega
 clear hn2;have HS:=AB S;obtain⟨a,m,l,fA,fc,fs,BW,OF⟩:=S.st;rw[AA HN] at BW;have c0:=(BW.cell 0).trans (rfl:_=some (Value.slice K.t.na K.t.nl K.t.nc));have c1:=(BW.cell 1).trans (rfl:_=some (Value.slice K.t.aa K.t.al K.t.ac));have c2:=(BW.cell 2).trans (rfl:_=some (Value.int .i64 K.t.view));have c4:=(BW.cell 4).trans (rfl:_=some (Value.slice (some ⟨K.gK,0,none⟩) n K.kc));have lW:=BW.lt;have fW:=BW.frozen;clear OF S;go_enter Tryz.func112,Tryz.ntmps112;go_upto_region 3 with fail;refine wp_region_ord [(1,0),(1,1),(1,2),(0,3),(1,4),(1,5),(1,6),(0,7),(1,8),(1,9),(0,10),(3,11),(1,12),(1,13),(1,14),(1,15),(1,16)] 11 (fun w'=>Ext w w') (by kernel_rfl) (by kernel_rfl) rfl (by kernel_rfl) ((Ext.refl _).drew) ?_;simp only[AD]
 iterate 11 ((first|refine ordQA ?_|refine ordQB ?_);simp only[AC])
 refine ord_last ?_;go_wp2_with fail
 with_reducible refine (AA (cWs _ (AA hlt) (AA hrk))).mono ?_
 rintro e w2 ⟨Aw,A2,mw,cw,c2',ws,nl,rfl,hm,rW,rN,hWO,hx⟩;have E2:=AB ((Ext.refl w).drew.trans hx);have RW:=AB (Rd.of_own rW);have RN:=AB rN;have HWO:=AB hWO;have HM:=AB hm;clear hm rW rN hWO hx hlt hrk cWs lK cK;clear lW fW BW c0 c1 c2 c4;go_wp2_with fail
 iterate 5 ((first|refine ordQA ?_|refine ordQB ?_);simp only[AC])
 refine ord_nil ?_;have S:=(AA HS).step (AA E2);clear HS;obtain⟨rv,hrv,BR,hro⟩:=S.rows;rw[AA HN] at hrv;obtain⟨vR,hvR⟩:∃v,rv[b]?=some v:=⟨_,AE (by omega)⟩
 obtain⟨Ar,mr,cr,rs,rfl,OR,hrs,hmr⟩:=hro b vR hvR;have KR:=AB ((BR.cell b).trans (show _=some (Value.slice Ar mr cr) by rw[List.getElem?_toArray,hvR]));have LR:=AB BR.lt;have RR:=AB (Rd.of_own OR);have HRS:=AB hrs;clear hvR BR hro OR hrs hrv;obtain⟨a,m,l,fA,fc,fs,BW,OF⟩:=S.st;rw[AA HN] at BW;have C15:=AB ((BW.cell 15).trans (rfl:_=some (Value.slice (some ⟨K.gR,0,none⟩) n n)));have c0:=(BW.cell 0).trans (rfl:_=some (Value.slice K.t.na K.t.nl K.t.nc));rw[AA HNA] at c0;have C0:=AB c0;have LW:=AB BW.lt;have C34:=AB (((AA E2).cells.1 bn _ (AA HLB)).trans (AA HC34));have LB:=AB (show bn<w2.heap.size by have:=(AA E2).size;have:=AA HLB;omega);clear BW OF S HC34 HLB c0 a m l fA fc fs;obtain⟨hh,hhh⟩:∃z,max ln 0=z:=⟨_,rfl⟩
 have HH:=AB (show InM hh by have:=AA HLi;unfold InM;omega);go_wp2_with fail;go_loopw [10,11,14] (fun v10 v11 v14 wq=>∃(i c:Nat) (A:Option Addr) (bb:Bool) (ls:List Ll),v14=.int .i64 i∧v10=.slice A i c∧v11=.bool bb∧i≤mr∧LSt w2 wq A i c ls) (fun _ _ v14 _=>mr-(intOf v14).toNat)
 case atStart=>exact⟨0,0,none,false,[],rfl,rfl,rfl,by omega,LSt.zero w2⟩
 case round=>
  obtain⟨i,c,A,bb,ls,rfl,rfl,rfl,hi,L⟩:=hrel;have c15:=(L.ext.cells.1 K.gW _ (AA LW)).trans (AA C15);have kR:=(L.ext.cells.1 K.gR _ (AA LR)).trans (AA KR);have lW:K.gW<wr.heap.size:=Nat.lt_of_lt_of_le (AA LW) L.ext.size;have lR:K.gR<wr.heap.size:=Nat.lt_of_lt_of_le (AA LR) L.ext.size;by_cases him:i<mr
  ·as_aux_lemma=>
   have himI:(0:Int)≤(i:Int)∧(i:Int)<(mr:Int):=by omega
   obtain⟨r,hr⟩:∃r,rs[i]?=some r:=⟨_,AE (by have:=(AA RR).recN rwC_len (by omega);omega)⟩
   have hro:=(AA HRS) r (List.mem_of_getElem? hr);obtain⟨b1,o1,hA1,lb1,hmm⟩:=((AA RR).ext L.ext).rec_ rwC_len hr (by omega);subst hA1;have HMM:=AB hmm;obtain⟨⟨hf0,hfn⟩,zs,oz⟩:=hro;have RZ:=AB (Rd.of_own oz);clear hr hmm oz;go_upto_region 7 with fail
   iterate 28 go_step
   refine wpList_load_midg 227 (.tmp 58) rfl b1 (o1+i*4) rfl rfl (rwC r) _ (fun x v hv=>(AA HMM) x v hv) Tryz.underlying227 rfl (rwC_size _) ?_;simp only[AC];refine wpList_var rfl rfl 227 rfl 15 rfl (.tmp 59) rfl rfl (rwC zRw).toArray (rwC r).toArray rwC_zero rfl rfl (rwC_size _) rfl (by kernel_rfl) ?_;intro w4 BV hx z4;simp only[AC];replace L:=L.step hx;generalize wr.heap.size=gV at *;clear hx z4 HMM c15 kR lW lR lb1;obtain⟨ry,rf,rt,xA,xn,xc⟩:=r;simp only at hf0 hfn RZ;have v0:=(BV.cell 0).trans (rfl:_=some (Value.int .i64 ry));have lV:=BV.lt;obtain⟨d1,hd1⟩:∃z,IntKind.i64.wrap (ry-y)=z:=⟨_,rfl⟩
   obtain⟨top,htop⟩:∃z,cutV d1=z:=⟨_,rfl⟩
   obtain⟨tb,htb⟩:∃z,cutB d1=z:=⟨_,rfl⟩
   have HT:=AB (show InM top by rw[←htop];exact cutV_in d1);have cC1:=fun w=>cC d1 w
   simp only[htop,htb] at cC1;clear htop htb;go_wp2_with fail
   with_reducible refine (AA (cC1 _)).mono ?_
   rintro e w5 ⟨rfl,hw5⟩;subst hw5;clear hd1 cC1 v0;go_upto_region 9 with fail;go_cut [11] from 38 to 137 (fun v11 wx=>∃bq:Bool,v11=.bool bq∧wx=w4)
   case first=>
    cases bb
    all_goals
     go_wp2_with fail;go_meet
     case rel=>exact⟨_,rfl,rfl⟩
   case rest=>
    obtain⟨bq,rfl,hwc⟩:=hcut;subst hwc;have c0:=(L.ext.cells.1 K.gW _ (AA LW)).trans (AA C0);have lW:K.gW<wc.heap.size:=Nat.lt_of_lt_of_le (AA LW) L.ext.size;have c34:=(L.ext.cells.1 bn _ (AA LB)).trans (AA C34);have lB:bn<wc.heap.size:=Nat.lt_of_lt_of_le (AA LB) L.ext.size;go_upto_region 10 with fail
    iterate 40 go_step
    refine wpList_var rfl rfl 73 rfl 18 rfl (.tmp 84) rfl rfl (llC zLl).toArray (llC ⟨top,hh,none,0,0⟩).toArray llC_zero rfl rfl (llC_size _) rfl (by kernel_rfl) ?_;intro w6 BL hx z6;simp only[AC];have P:=PSt.new L hx BL (Nat.le_refl _) (AA HT) (AA HH);replace BV:=BV.ext hx;generalize wc.heap.size=gL at *;clear hx z6 BL L c0 lW c34 lB lV;go_wp2_with fail;go_loopw [11,19] (fun v11 v19 wq=>∃(k pc:Nat) (bq:Bool) (pA:Option Addr) (ps:List Pc),v19=.int .i64 k∧v11=.bool bq∧k≤xn∧PSt w2 wq A i c ls gL ⟨top,hh,pA,k,pc⟩ ps∧Blk wq gV 227 (rwC ⟨ry,rf,rt,xA,xn,xc⟩).toArray) (fun _ v19 _=>xn-(intOf v19).toNat)
    case atStart=>exact⟨0,0,bq,none,[],rfl,rfl,by omega,P,BV⟩
    case round=>
     clear P BV;obtain⟨k,pc,bq,pA,ps,rfl,rfl,hk,P,BV⟩:=hrel;have v3:=(BV.cell 3).trans (rfl:_=some (Value.slice xA xn xc));have lV:=BV.lt;by_cases hkx:k<xn
     ·as_aux_lemma=>
      have hkI:(0:Int)≤(k:Int)∧(k:Int)<(xn:Int):=by omega
      have rz:=(AA RZ).ext P.f.ext;obtain⟨z,hz⟩:∃z,zs[k]?=some z:=⟨_,AE (by have:=rz.len;rw[ints_len] at this;omega)⟩
      obtain⟨bz,oz,hAz,lz,-⟩:=rz.at_ (by omega);subst hAz;have q0:=rz.cellAt hkx (show (ints zs)[k]?=some (Value.int .i64 z) by rw[ints,List.getElem?_map,hz];rfl);have q1:=q0.2;clear rz hz q0;obtain⟨d2,hd2⟩:∃d,IntKind.i64.wrap (z-x)=d:=⟨_,rfl⟩
      obtain⟨at_,hat⟩:∃z,cutV d2=z:=⟨_,rfl⟩
      obtain⟨ab,hab⟩:∃z,cutB d2=z:=⟨_,rfl⟩
      have HAt:=AB (show InM at_ by rw[←hat];exact cutV_in d2);have cC1:=fun w=>cC d2 w
      simp only[hat,hab] at cC1;clear hat hab;go_wp2_with fail
      with_reducible refine (AA (cC1 _)).mono ?_
      rintro e w7 ⟨rfl,hw7⟩;subst hw7;clear hd2 cC1 v3 q1 lz;go_upto_region 15 with fail;go_cut [11] from 85 to 133 (fun v11 wx=>∃bq:Bool,v11=.bool bq∧wx=wr)
      case first=>
       cases bq
       all_goals
        go_wp2_with fail;go_meet
        case rel=>exact⟨_,rfl,rfl⟩
      case rest=>
       obtain⟨bq,rfl,hwc⟩:=hcut;subst hwc;obtain⟨q,hq⟩:∃q:Nat,rf+(k:Int)=(q:Int):=⟨(rf+k).toNat,by omega⟩
       have hqm:q<mw:=by have h1:=AA HM;have h2:=AA HNW;omega
       have hqI:(0:Int)≤(q:Int)∧(q:Int)<(mw:Int)∧(mw:Int)≤1000000:=by have h1:=AA HM;have h2:=AA hm4;omega
       have rw2:=(AA RW).ext P.f.ext;obtain⟨wd,hwd⟩:∃f,ws[q]?=some f:=⟨_,AE (by have:=rw2.recN wrdC_len (by omega);omega)⟩
       have HWd:=AB ((AA HWO) wd (List.mem_of_getElem? hwd)).w;obtain⟨b2,o2,hA2,lb2,hmm⟩:=rw2.rec_ wrdC_len hwd (by omega);subst hA2;have HMM:=AB hmm;have v1:=(BV.cell 1).trans (rfl:_=some (Value.int .i64 rf));have hk6:k+1≤1000000:=by have h1:=AA HNW;have h2:=AA hm4;omega
       clear rw2 hwd hmm;go_upto_region 16 with fail
       iterate 19 go_step
       refine wpList_load_midg 174 (.tmp 112) rfl b2 (o2+q*5) rfl rfl (wrdC wd) _ (fun x v hv=>(AA HMM) x v hv) Tryz.underlying174 rfl (wrdC_size _) ?_;simp only[AC];refine wpList_var rfl rfl 174 rfl 22 rfl (.tmp 113) rfl rfl (wrdC zWd).toArray (wrdC wd).toArray wrdC_zero rfl rfl (wrdC_size _) rfl (by kernel_rfl) ?_;intro w8 BX hx z8;simp only[AC];replace P:=P.step hx;replace BV:=BV.ext hx;generalize wc.heap.size=gX at *;clear hx z8 HMM v1 lb2 lV;obtain⟨wf,wt,ww,wg,wfo⟩:=wd;simp only at HWd;have rn2:=(AA RN).ext P.f.ext;obtain⟨zn,hzn⟩:∃z,nl[q]?=some z:=⟨_,AE (by have:=rn2.len;rw[ints_len] at this;omega)⟩
       obtain⟨b3,o3,hA3,lb3,-⟩:=rn2.at_ (by omega);subst hA3;have n0:=(rn2.cellAt hqm (show (ints nl)[q]?=some (Value.int .i64 zn) by rw[ints,List.getElem?_map,hzn];rfl)).2;clear hzn rn2;have k2:=(P.bl.cell 2).trans (rfl:_=some (Value.slice pA k pc));have lL:=P.bl.lt;have v1:=(BV.cell 1).trans (rfl:_=some (Value.int .i64 rf));have lV:=BV.lt;have x0:=(BX.cell 0).trans (rfl:_=some (Value.int .i64 wf));have x1:=(BX.cell 1).trans (rfl:_=some (Value.int .i64 wt));have x2:=(BX.cell 2).trans (rfl:_=some (Value.int .i64 ww));have lX:=BX.lt;have hqw:IntKind.i64.wrap (rf+(k:Int))=(q:Int):=by rw[IntWalk.i64_in _ (by omega)];exact hq
       clear hq;go_upto_region 17 with fail;refine wp_region_ord [(1,0),(0,1),(1,2),(1,3),(0,4),(1,5),(1,6),(1,7),(0,8),(1,9),(0,10),(1,11),(0,12),(1,13),(1,14),(0,15),(1,16),(2,17),(3,18),(1,19),(3,20)] 18 (fun w'=>Ext w8 w') (by kernel_rfl) (by kernel_rfl) rfl (by kernel_rfl) ((Ext.refl _).drew) ?_;simp only[AD]
       iterate 17 ((first|refine ordQA ?_|refine ordQB ?_);simp only[AC])
       have hS:=(Ext.refl w8).drew;replace P:=P.step hS;replace BV:=BV.ext hS;clear k2 lL v1 lV x0 x1 x2 lX n0 lb3 BX;generalize w8.drew=w9 at *;refine ord_keep ?_;refine Go.Great.wpList_buildSliceTo rfl 71 75 1 _ rfl _ rfl _ rfl Tryz.underlying71 (pcC ⟨zn,wf,wt,at_,ww⟩).toArray (by kernel_rfl) ?_;simp only[AC];have hx:Ext w9 (w9.alloc (.cells (pcC ⟨zn,wf,wt,at_,ww⟩).toArray 75)):=(Ext.refl _).alloc _;have R5:Rd (w9.alloc (.cells (pcC ⟨zn,wf,wt,at_,ww⟩).toArray 75)) 5 (some ⟨w9.heap.size,0,none⟩) 1 (pcC ⟨zn,wf,wt,at_,ww⟩):=(Blk.new w9 75 (pcC ⟨zn,wf,wt,at_,ww⟩).toArray).rdk (n:=1) (k:=5) rfl;replace P:=P.step hx;replace BV:=BV.ext hx;replace hS:=hS.trans hx;clear hx;generalize w9.alloc (.cells (pcC ⟨zn,wf,wt,at_,ww⟩).toArray 75)=w10 at *;generalize w9.heap.size=gqw10 at *;refine⟨rfl,hS,?_⟩;clear hS;refine ord_last ?_;refine wpList_push (W:=w2) rfl (.tmp 115) (.tmp 131) 71 rfl w2.heap.size 75 5 Tryz.underlying71 HIp (by omega) _ k (recs pcC ps) rfl P.ox _ 1 1 (pcC ⟨zn,wf,wt,at_,ww⟩) rfl R5 (pcC_one _) hk6 P.f.ext (Nat.le_refl _) P.f.ext.size ?_;intro A5 c5 w11 O5 E5 g5 at5;have lL:=(P.bl.grownOwn g5 P.p3).lt;have k2:=((P.bl.grownOwn g5 P.p3).cell 2).trans (rfl:_=some (Value.slice pA k pc));have fL:=(P.bl.grownOwn g5 P.p3).frozen 2;have P2:=P.more (p:=⟨zn,wf,wt,at_,ww⟩) ⟨AA HAt,AA HWd⟩ g5 O5 at5;have BV2:=P.others (A5:=A5) (c5:=c5) g5 BV (by decide) (by decide);clear O5 E5 g5 at5 R5 P BV;refine⟨rfl,?_⟩;simp only[AC]
       iterate 1 ((first|refine ordQA ?_|refine ordQB ?_);simp only[AC])
       refine ord_last ?_;go_wp2_with fail;refine ord_nil ?_;clear lL k2 fL;generalize World.setCell w11 ⟨gL,2,none⟩ _=w12 at *;go_wp2_with fail;go_roundw
       case rel=>exact⟨k+1,c5,bq,A5,_,by go_num,rfl,by omega,P2,BV2⟩
       case measure=>simp[intOf];omega
     ·have hkI:¬(k:Int)<(xn:Int):=by omega
      go_upto_region 18 with fail;clear v3 lV
      iterate 4 go_step
      refine wpList_load_blk rfl 73 (.tmp 18) rfl gL rfl 73 (llC ⟨top,hh,pA,k,pc⟩).toArray _ P.bl Tryz.underlying73 rfl (llC_size _) ?_;simp only[AC];refine Go.Great.wpList_buildSliceTo rfl 56 73 1 _ rfl _ rfl _ rfl Tryz.underlying56 (llC ⟨top,hh,pA,k,pc⟩).toArray (by kernel_rfl) ?_;simp only[AC];have hx:Ext wr (wr.alloc (.cells (llC ⟨top,hh,pA,k,pc⟩).toArray 73)):=(Ext.refl _).alloc _;have R5:Rd (wr.alloc (.cells (llC ⟨top,hh,pA,k,pc⟩).toArray 73)) 3 (some ⟨wr.heap.size,0,none⟩) 1 (llC ⟨top,hh,pA,k,pc⟩):=(Blk.new wr 73 (llC ⟨top,hh,pA,k,pc⟩).toArray).rdk (n:=1) (k:=3) rfl;replace P:=P.step hx;clear hx;generalize wr.alloc (.cells (llC ⟨top,hh,pA,k,pc⟩).toArray 73)=w8 at *;generalize wr.heap.size=gqw8 at *;refine wpList_pushL (W:=w2) rfl (.tmp 134) (.tmp 136) 56 rfl w2.heap.size 73 3 Tryz.underlying56 HIl (by omega) _ i (recs llC ls) rfl P.f.own _ 1 1 (llC ⟨top,hh,pA,k,pc⟩) rfl R5 (llC_one _) (by omega) P.f.ext (Nat.le_refl _) P.f.ext.size ?_;intro A9 c9 w9 O9 E9 g9 at9;have L2:=P.f.push P.done E9 g9 O9 rfl;clear R5 O9 E9 g9 at9 P BV;simp only[AC];go_wp2_with fail;go_roundw
      case rel=>exact⟨i+1,c9,A9,bq,_,by go_num,rfl,rfl,by omega,L2⟩
      case measure=>simp[intOf];omega
  ·have himI:¬(i:Int)<(mr:Int):=by omega
   have HE:=AB ((AA E2).trans L.ext);have LL:=L.linesO (B:=w.heap.size) (AA E2).size (by omega);clear L;go_wp2_with fail;go_ret2;exact⟨A,i,c,_,rfl,LL,AA HE⟩
end
end Go.Proofs.YtamldoocjjdidaaGreat
