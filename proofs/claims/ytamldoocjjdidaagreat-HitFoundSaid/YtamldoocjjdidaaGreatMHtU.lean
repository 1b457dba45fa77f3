import Derived.Test.YtamldoocjjdidaaGreatMHtX
namespace Go.Proofs.YtamldoocjjdidaaGreat
open Go.RowKit
set_option maxRecDepth 100000
set_option maxHeartbeats 64000000
def ContIs (w0 w:World) (ns:List Nd) (NW:Nat→Nat) (K:Ck) (lim:Nat) (e:Ending) (w':World):Prop:=e=.returned (.tuple #[])∧(∃F',F'≤lim∧WkS w0 w' ns NW K F')∧KeepS w w'
section
variable {w0 w:World} {ns:List Nd} {av:List Int} {un:Nat→List Int} {NW:Nat→Nat} {K:Ck} {F:Nat} {us:List Us} {hs:List Int}
theorem WkS.farI (h:WkS w0 w ns NW K F) {q:Nat} (hq:q=K.gX∨q=K.gY∨q=K.gH) {g:Nat} {T:TypeId} {cs:Array Value} (hb:Blk w g T cs) (hT:T≠2) (i:Nat) (v:Value):Blk (w.setCell ⟨q,i,none⟩ v) g T cs:=by
 have h1:∃ds,Blk w q 2 ds:=by
  rcases hq with rfl|rfl|rfl
  ·exact h.xs.elim fun _ k=>⟨_,k.2⟩
  ·exact h.ys.elim fun _ k=>⟨_,k.2⟩
  ·exact h.hs.elim fun _ k=>⟨_,k.2⟩
 obtain⟨ds,hd⟩:=h1;exact hb.far (blk_ne hb hd hT) v
theorem field_used1 (u l r:Int) (w:World):(Instr.field 120 (.agg #[.int .i64 u,.int .i64 l,.int .i64 r]) 1).run Tryz.prog w=.ok (.int .i64 l) w:=by kernel_rfl
theorem float_row:RowInfo 229 5:=rowInfo (z:=.agg (flC zFl).toArray) flC_info rfl
theorem run_load_fl {op:Oper} {a:Act} {w:World} {b o:Nat} {f:Fl} (x:Operand) (ho:op.op=.load 229 x) (hx:a.eval x=.pointer (some ⟨b,o,none⟩)) (hc:w.rangeAt b o (flC f)):(execOp a.eval op).run Tryz.prog w=.ok (.value (.agg (flC f).toArray)) w:=by
 unfold execOp;have h:=run_loadVar_mid (P:=Tryz.prog) w b o 229 (flC f) _ hc Tryz.underlying229 rfl (flC_size f);simp only[ho,hx,Instr.loadAt,Instr.sureAddr,Sem.run_bind,Sem.run_pure,Result.andThen_ok,h]
theorem contents22_any (I:WkIn w0 ns av un K us hs) (hNW:∀b,NW b=wordsK un (kidsN ns ns.length b)):∀(d b:Nat),ns.length-b≤d→b<ns.length→∀(x:Int) (w:World) (F:Nat),F≤b→WkS w0 w ns NW K F →
  Calls Tryz.prog 149 #[ptrV K.gW,.int .i64 b,.int .i64 x] w (ContIs w0 w ns NW K (endN ns b)):=by
 intro d
 induction d with
 |zero=>intro b h1 h2;omega
 |succ d ih=>
  intro b hd hb x w F hF S;have cRec:=fun (k:Nat) (hk1:b<k) (hk2:k<ns.length) x w F hF S=>AB (ih k (by omega) hk2 x w F hF S)
  clear ih hd;have hf:=I.lt.few;have HNW:=AB hNW;have cU:=fun (i:Nat) (hi:i<ns.length) w F S=>AB (used22_any (w:=w) (NW:=NW) (F:=F) I i (by omega) S)
  have cSt:=fun w F S=>AB (settle22_any (w0:=w0) (w:=w) (ns:=ns) (NW:=NW) (K:=K) (F:=F) (by omega) S)
  obtain⟨Ak,ck,hkv⟩:=S.kid hb;have hkn:(kidsN ns ns.length b).length≤1000000:=by have:=kidsN_len ns ns.length b;omega
  have HKV:=AB hkv;have hkl:=AB (kids_in (ns:=ns) b);have cL:=fun w h rk=>AB (show Calls Tryz.prog 75 #[.agg #[.slice K.t.na K.t.nl K.t.nc,.slice K.t.aa K.t.al K.t.ac,.int .i64 K.t.view],.int .i64 b,.slice Ak (kidsN ns ns.length b).length ck] w (SomeB w) from lines17_any K.t ns av un b hb Ak _ ck (kidsN ns ns.length b) w h rk (kids_in b) hkn)
  have cWs:=fun w h rk=>AB (show Calls Tryz.prog 76 #[.agg #[.slice K.t.na K.t.nl K.t.nc,.slice K.t.aa K.t.al K.t.ac,.int .i64 K.t.view],.slice Ak (kidsN ns ns.length b).length ck] w (Words17Is w un (kidsN ns ns.length b)) from words17_any K.t ns av un Ak _ ck (kidsN ns ns.length b) w h rk (kids_in b) (I.lt.words b) hkn)
  have HKL:=AB (kidsN_len ns ns.length b);obtain⟨kl,hkl2⟩:∃l,kidsN ns ns.length b=l:=⟨_,rfl⟩
  obtain⟨n,hn2⟩:∃n,ns.length=n:=⟨_,rfl⟩
  have HN:=AB hn2;have KS:=AB (KeepS.refl w);clear hkv hNW;go_enter Tryz.func149,Tryz.ntmps149;go_wp2_with fail
  with_reducible refine (AA (cU b hb _ _ S)).mono ?_
  rintro e w2 ⟨⟨uw,ul,ur⟩,rfl,hu,hx⟩;simp only[usC];have fU:=field_used uw ul ur;replace S:=S.step hx;replace KS:=AB ((AA KS).trans (KeepS.of hx));clear hx hu;obtain⟨lK,cK⟩:=S.kidCell hb (AA HKV);rw[hkl2] at cK;rw[hn2] at hb;have hiI:(0:Int)≤(b:Int)∧(b:Int)<(n:Int):=by omega
  have hlt2:=AB (I.lt.ext S.ext);have hrk2:=AB (S.kidRd (AA HKV));simp only[hkl2] at cL cWs hrk2;have HS:=AB S;obtain⟨a,m,l,fA,fc,fs,BW,OF⟩:=S.st;rw[AA HN] at BW;have c0:=(BW.cell 0).trans (rfl:_=some (Value.slice K.t.na K.t.nl K.t.nc));have c1:=(BW.cell 1).trans (rfl:_=some (Value.slice K.t.aa K.t.al K.t.ac));have c2:=(BW.cell 2).trans (rfl:_=some (Value.int .i64 K.t.view));have c4:=(BW.cell 4).trans (rfl:_=some (Value.slice (some ⟨K.gK,0,none⟩) n K.kc));have lW:=BW.lt;have fW:=BW.frozen;clear OF S;go_wp2_with fail
  with_reducible refine (AA (cL _ (AA hlt2) (AA hrk2))).mono ?_
  rintro e w3 ⟨bl,rfl,hx3⟩;clear lW fW BW c0 c1 c2 c4;replace S:=(AA HS).step hx3;replace KS:=AB ((AA KS).trans (KeepS.of hx3));have hlt3:=AB (I.lt.ext S.ext);have hrk3:=AB ((AA hrk2).ext hx3);clear HS hlt2 hrk2 hx3 lK cK;cases bl
  ·clear cWs hlt3 hrk3 cL;have hkl3:kl.length≤1000000:=by rw[←hkl2];exact hkn
   go_wp2_with fail;go_loopw [11] (fun v11 wq=>∃(q F:Nat),v11=.int .i64 q∧q≤kl.length∧F≤limN ns b q∧WkS w0 wq ns NW K F∧Hid (KeepS w wq)) (fun v11 _=>kl.length-(intOf v11).toNat)
   case atStart=>exact⟨0,F,rfl,by omega,Nat.le_trans hF (lim_0 b),S,KS⟩
   case round=>
    clear S KS hF F;obtain⟨q,F,rfl,hq,hF,S,KS⟩:=hrel;by_cases hqk:q<kl.length
    ·have hqI:(0:Int)≤(q:Int)∧(q:Int)<(kl.length:Int):=by omega
     have hrk:=S.kidRd (AA HKV);obtain⟨bk,ok,hAk,lbk,-⟩:=hrk.at_ (by rw[hkl2];omega);subst hAk;obtain⟨k,nd0,hz,hnd0,hk,q4,q5⟩:=kid_at hrk (AA hkl) (show q<(kidsN ns ns.length b).length by rw[hkl2];exact hqk);obtain⟨k',hkk,-,hpar⟩:=kids_at hz;obtain rfl:k=k':=by omega
     have hbk:=kids_par hpar;have hnp:=AB (show nP ns k=(b:Int) by unfold parN par at hpar;split at hpar<;>omega);have HLK:=AB (show F≤k by rw[lim_at hz] at hF;exact hF);have HLN:=AB (lim_next I.lt.ok hz);obtain⟨nd,bn,on,hnd,hna,hnl,lbn,hok,hcn⟩:=I.node S.ext hk;have HNA:=AB hna;have HC:=AB hcn;have HOK:=AB hok;have hkn:k<n:=by omega
     have hkI:(0:Int)≤(k:Int)∧(k:Int)<(n:Int):=by omega
     have hiN:(0:Int)≤(k:Int)∧(k:Int)<(K.t.nl:Int):=by omega
     have HK:=AB hk;have HBK:=AB hbk;clear hrk hz hnd0 nd0 hkk hpar hF hq hnd hna hok hcn hnl hk hbk;obtain⟨lK,cK⟩:=S.kidCell (by omega) (AA HKV);rw[hkl2] at cK;have HS:=AB S;obtain⟨a,m,l,fA,fc,fs,BW,OF⟩:=S.st;rw[AA HN] at BW;have c0:=(BW.cell 0).trans (rfl:_=some (Value.slice K.t.na K.t.nl K.t.nc));rw[AA HNA] at c0;have c4:=(BW.cell 4).trans (rfl:_=some (Value.slice (some ⟨K.gK,0,none⟩) n K.kc));have lW:=BW.lt;have fW:=BW.frozen;clear OF S;go_upto_region 12 with fail
     iterate 25 go_step
     refine wpList_load_sty (.tmp 108) rfl bn (on+k*44+1) rfl rfl nd.s (fun x v hv=>(by have h1:=(AA HC) (1+x) v (by rw[Nat.add_comm];exact hv);rwa [←Nat.add_assoc] at h1)) ?_;simp only[AC];refine wpList_var rfl rfl 65 rfl 13 rfl (.tmp 109) rfl rfl zsty.cells nd.s.cells zero_sty rfl rfl (info_style _) rfl (by kernel_rfl) ?_;intro w6 BS hx z2;simp only[AC];clear lW fW BW c0 c4;have S:=(AA HS).step hx;replace KS:=AB ((AA KS).trans (KeepS.of hx));clear hx HS;generalize wr.heap.size=gS at *;clear z2 lbn lK cK q4 q5 lbk HC;have cMg:=fun e w S he=>AB (margin22_any (w:=w) (NW:=NW) (F:=F) I k (AA HK) b (AA hnp) (by omega) S e he)
     go_wp2_with fail
     with_reducible refine (AA (cMg 0 _ S (by simp))).mono ?_
     rintro e w7 ⟨ab,rfl,hx⟩;replace S:=S.step hx;replace KS:=AB ((AA KS).trans (KeepS.of hx));replace BS:=BS.ext hx;clear hx;go_wp2_with fail
     with_reducible refine (AA (cMg 2 _ S (by simp))).mono ?_
     rintro e w8 ⟨be,rfl,hx⟩;replace S:=S.step hx;replace KS:=AB ((AA KS).trans (KeepS.of hx));replace BS:=BS.ext hx;clear hx;clear cMg;have kf:=(BS.cell 2).trans (rfl:_=some (Value.int .u8 nd.s.float));have lS:=BS.lt;obtain⟨t1,ht1⟩:∃t,(nd.s.float != 0)=t:=⟨_,rfl⟩
     go_upto_block 2 with fail
     focus
      cases t1
      ·as_aux_lemma=>
       go_upto_region 38 with fail;clear kf lS ht1;have cMk:=fun w S=>AB (mark22_any (w0:=w0) (w:=w) (ns:=ns) (NW:=NW) (K:=K) (F:=F) S)
       have cU1:=fun w S=>cU k (AA HK) w F S
       have cS1:=fun w S=>cSt w F S
       have cHi:=fun w S=>AB (high22_any (w:=w) (NW:=NW) (F:=F) I k (by omega) S)
       have cSd:=fun e w S he=>AB (side22_any (w:=w) (NW:=NW) (F:=F) I k (AA HK) S e he)
       have cJ:=fun m l x w=>AB (show Calls Tryz.prog 159 #[.agg #[.int .i64 m,.int .i64 l],.int .i64 x] w (StrutIs w) from join14_any ⟨m,l⟩ x w)
       have cRt:=fun w h=>AB (show Calls Tryz.prog 83 #[.agg #[.slice K.t.na K.t.nl K.t.nc,.slice K.t.aa K.t.al K.t.ac,.int .i64 K.t.view],.int .i64 k] w _ from refroot_in K.t ns k (AA HK) w h (by have:=I.lt.tr.nodes.nlen;have:=I.lt.few;unfold maxLen;omega))
       have hF6:F≤1000000:=by have:=AA HLK;omega
       have hlt:=AB (I.lt.tr.nodes.ext S.ext);have HS:=AB S;obtain⟨a,m,l,fA,fc,fs,BW,OF⟩:=S.st;rw[AA HN] at BW;have c0:=(BW.cell 0).trans (rfl:_=some (Value.slice K.t.na K.t.nl K.t.nc));have c1:=(BW.cell 1).trans (rfl:_=some (Value.slice K.t.aa K.t.al K.t.ac));have c2:=(BW.cell 2).trans (rfl:_=some (Value.int .i64 K.t.view));have lW:=BW.lt;have fW:=BW.frozen;clear OF S;go_wp2_with fail
       with_reducible refine (AA (cRt _ (AA hlt))).mono ?_
       rintro e w9 ⟨rfl,hx⟩;clear lW fW BW c0 c1 c2;have S:=(AA HS).step hx;replace KS:=AB ((AA KS).trans (KeepS.of hx));replace BS:=BS.ext hx;clear hx HS;clear cRt hlt;obtain⟨rb,hrb⟩:∃r,rootN ns k=r:=⟨_,rfl⟩
       rw[hrb];clear hrb;cases rb
       ·as_aux_lemma=>
        go_upto_region 15 with fail;have HS:=AB S;obtain⟨a,m,l,fA,fc,fs,BW,OF⟩:=S.st;rw[AA HN] at BW;have c8:=(BW.cell 8).trans (rfl:_=some (Value.int .i64 m));have c9:=(BW.cell 9).trans (rfl:_=some (Value.int .i64 l));have lW:=BW.lt;have fW:=BW.frozen;clear OF S;go_wp2_with fail
        with_reducible refine (AA (cJ m l ab _)).mono ?_
        rintro e w10 ⟨⟨sm,sl⟩,rfl,hx⟩;clear lW fW BW c8 c9;have S:=(AA HS).step hx;replace KS:=AB ((AA KS).trans (KeepS.of hx));replace BS:=BS.ext hx;clear hx HS;simp only[suC];have HS:=AB S;obtain⟨a,m,l,fA,fc,fs,BW,OF⟩:=S.st;rw[AA HN] at BW;have c8:=(BW.cell 8).trans (rfl:_=some (Value.int .i64 m));have c9:=(BW.cell 9).trans (rfl:_=some (Value.int .i64 l));have lW:=BW.lt;have fW:=BW.frozen;clear OF S;go_upto_region 16 with fail;clear lW fW BW c8 c9;have S:=((AA HS).setM sm).setL sl;have ks:=((AA HS).keepW 8 (.int .i64 sm)).trans (((AA HS).setM sm).keepW 9 (.int .i64 sl));replace BS:=ks _ _ BS;replace KS:=AB ((AA KS).trans ks);clear HS ks;generalize (w10.setCell ⟨K.gW,8,none⟩ (.int .i64 sm)).setCell ⟨K.gW,9,none⟩ (.int .i64 sl)=w11 at *;have HS:=AB S;obtain⟨a,m,l,fA,fc,fs,BW,OF⟩:=S.st;rw[AA HN] at BW;have c12:=(BW.cell 12).trans (rfl:_=some (Value.slice (some ⟨K.gX,0,none⟩) n n));obtain⟨lX,hlX,BX⟩:=S.xs;rw[AA HN] at hlX;obtain⟨vX,hvX⟩:∃v,lX[k]?=some v:=⟨_,AE (by omega)⟩
        have kX:=(BX.cell k).trans (show _=some (Value.int .i64 vX) by rw[List.getElem?_toArray,ints,List.getElem?_map,hvX];rfl);have qX:=BX.lt;have zX:=BX.frozen k;have lW:=BW.lt;have fW:=BW.frozen;clear OF S BX hvX;refine wp_region_ord [(1,0),(1,1),(1,2),(0,3),(1,4),(1,5),(1,6),(1,7),(2,8),(1,9),(1,10),(1,11),(3,12)] 12 (fun w'=>Ext w11 w') (by kernel_rfl) (by kernel_rfl) rfl (by kernel_rfl) ((Ext.refl _).drew) ?_;simp only[AD]
        iterate 8 ((first|refine ordQA ?_|refine ordQB ?_);simp only[AC])
        refine ord_keep ?_;go_wp2_with fail
        with_reducible refine (AA (cU1 _ ((AA HS).step (Ext.refl w11).drew))).mono ?_
        rintro e w12 ⟨⟨vw,vl,vr⟩,rfl,hu,hx⟩;have HX:=AB ((Ext.refl w11).drew.trans hx);clear hx;clear lW fW BW c12 kX qX zX hlX;have S:=(AA HS).step (AA HX);replace KS:=AB ((AA KS).trans (KeepS.of (AA HX)));replace BS:=BS.ext (AA HX);clear HS;clear hu;simp only[usC];have fV:=field_used1 vw vl vr;obtain⟨s1,hs1⟩:∃z,IntKind.i64.wrap (x+vl)=z:=⟨_,rfl⟩
        have HS:=AB S;obtain⟨a,m,l,fA,fc,fs,BW,OF⟩:=S.st;rw[AA HN] at BW;have c12:=(BW.cell 12).trans (rfl:_=some (Value.slice (some ⟨K.gX,0,none⟩) n n));obtain⟨lX,hlX,BX⟩:=S.xs;rw[AA HN] at hlX;obtain⟨vX,hvX⟩:∃v,lX[k]?=some v:=⟨_,AE (by omega)⟩
        have kX:=(BX.cell k).trans (show _=some (Value.int .i64 vX) by rw[List.getElem?_toArray,ints,List.getElem?_map,hvX];rfl);have qX:=BX.lt;have zX:=BX.frozen k;have lW:=BW.lt;have fW:=BW.frozen;clear OF S BX hvX;go_wp2_with fail;refine⟨AA HX,?_⟩
        iterate 3 ((first|refine ordQA ?_|refine ordQB ?_);simp only[AC])
        refine ord_last ?_;go_wp2_with fail;refine ord_nil ?_;clear fV hs1;clear lW fW BW c12 kX qX zX hlX;replace BS:=(AA HS).farI (.inl rfl) BS (by decide) k (.int .i64 s1);have S:=(AA HS).setI (q:=K.gX) (i:=k) (v:=s1) (.inl rfl);replace KS:=AB ((AA KS).trans ((AA HS).keepI (.inl rfl) k (.int .i64 s1)));clear HS HX;generalize World.setCell w12 ⟨K.gX,k,none⟩ (.int .i64 s1)=w13 at *;have kc:=(BS.cell 3).trans (rfl:_=some (Value.int .u8 nd.s.clear));have lS:=BS.lt;have HS:=AB S;obtain⟨a,m,l,fA,fc,fs,BW,OF⟩:=S.st;rw[AA HN] at BW;have c10:=(BW.cell 10).trans (rfl:_=some (Value.slice fA F fc));have RF:=Rd.of_own OF;have lW:=BW.lt;have fW:=BW.frozen;clear OF S;have cCl:=fun s y w rf=>AB (clear_any fA F fc s y fs w rf hF6)
        go_upto_region 17 with fail;refine wp_region_ord [(1,0),(1,1),(1,2),(0,3),(1,4),(0,5),(1,6),(2,7),(3,8),(1,9)] 8 (fun w'=>Ext w13 w') (by kernel_rfl) (by kernel_rfl) rfl (by kernel_rfl) ((Ext.refl _).drew) ?_;simp only[AD]
        iterate 7 ((first|refine ordQA ?_|refine ordQB ?_);simp only[AC])
        refine ord_keep ?_;go_wp2_with fail
        with_reducible refine (AA (cMk _ ((AA HS).step (Ext.refl w13).drew))).mono ?_
        rintro e w14 ⟨z1,rfl,hx⟩;have RF':=RF;clear kc lS BS;have HX:=AB ((Ext.refl w13).drew.trans hx);clear hx;clear lW fW BW c10 RF;have S:=(AA HS).step (AA HX);replace KS:=AB ((AA KS).trans (KeepS.of (AA HX)));clear HS;go_wp2_with fail;refine⟨AA HX,?_⟩;refine ord_last ?_;go_wp2_with fail
        with_reducible refine (AA (cCl _ _ _ (RF'.ext (AA HX)))).mono ?_
        rintro e w15 ⟨z2,rfl,hx⟩;replace S:=S.step hx;replace KS:=AB ((AA KS).trans (KeepS.of hx));clear hx;clear HX RF' cCl;go_wp2_with fail
        iterate 1 ((first|refine ordQA ?_|refine ordQB ?_);simp only[AC])
        refine ord_nil ?_
        go_upto_block 3 with fail
        go_cut [] from 91 to 390 (fun wx=>WkS w0 wx ns NW K F∧Hid (KeepS w wx))
        case first=>
         go_wp2_with fail
         with_reducible refine (AA (cMk _ S)).mono ?_
         rintro e w16 ⟨z3,rfl,hx⟩;replace S:=S.step hx;replace KS:=AB ((AA KS).trans (KeepS.of hx));clear hx;obtain⟨t2,ht2⟩:∃t,decide (z3<z2)=t:=⟨_,rfl⟩
         cases t2
         ·as_aux_lemma=>
          go_wp2_with fail
          with_reducible refine (AA (cSd 0 _ S (by simp))).mono ?_
          rintro e w17 ⟨sd,rfl,hx⟩;replace S:=S.step hx;replace KS:=AB ((AA KS).trans (KeepS.of hx));clear hx;clear ht2;obtain⟨t3,ht3⟩:∃t,decide (0<sd)=t:=⟨_,rfl⟩
          cases t3
          ·as_aux_lemma=>
           have HS:=AB S;obtain⟨a,m,l,fA,fc,fs,BW,OF⟩:=S.st;rw[AA HN] at BW;have c11:=(BW.cell 11).trans (rfl:_=some (Value.slice (some ⟨K.gO,0,none⟩) n n));obtain⟨lO,hlO,BO⟩:=S.op;rw[AA HN] at hlO;obtain⟨vO,hvO⟩:∃v,lO[k]?=some v:=⟨_,AE (by omega)⟩
           have kO:=(BO.cell k).trans (show _=some (Value.bool vO) by rw[List.getElem?_toArray,boolL,List.getElem?_map,hvO];rfl);have qO:=BO.lt;have zO:=BO.frozen k;have lW:=BW.lt;have fW:=BW.frozen;clear OF S BO hvO;go_wp2_with fail;clear lW fW BW c11 kO qO zO hlO;go_meet
           case rel=>exact⟨(AA HS).setO (i:=k) (v:=true),AB ((AA KS).trans ((AA HS).keepO k (.bool true)))⟩
          ·as_aux_lemma=>
           go_wp2_with fail
           with_reducible refine (AA (cS1 _ S)).mono ?_
           rintro e w18 ⟨⟨rfl,S,ks⟩,-⟩;replace KS:=AB ((AA KS).trans ks);clear ks ht3;have HS:=AB S;obtain⟨a,m,l,fA,fc,fs,BW,OF⟩:=S.st;rw[AA HN] at BW;have c7:=(BW.cell 7).trans (rfl:_=some (Value.int .i64 a));have c13:=(BW.cell 13).trans (rfl:_=some (Value.slice (some ⟨K.gY,0,none⟩) n n));obtain⟨lY,hlY,BY⟩:=S.ys;rw[AA HN] at hlY;obtain⟨vY,hvY⟩:∃v,lY[k]?=some v:=⟨_,AE (by omega)⟩
           have kY:=(BY.cell k).trans (show _=some (Value.int .i64 vY) by rw[List.getElem?_toArray,ints,List.getElem?_map,hvY];rfl);have qY:=BY.lt;have zY:=BY.frozen k;have lW:=BW.lt;have fW:=BW.frozen;clear OF S BY hvY;go_upto_region 25 with fail;refine wp_region_ord [(1,0),(1,1),(1,2),(0,3),(1,4),(1,5),(1,6),(1,7),(0,8),(1,9),(3,10)] 10 (fun w'=>Ext w18 w') (by kernel_rfl) (by kernel_rfl) rfl (by kernel_rfl) ((Ext.refl _).drew) ?_;simp only[AD]
           iterate 10 ((first|refine ordQA ?_|refine ordQB ?_);simp only[AC])
           refine ord_last ?_;go_wp2_with fail;refine ord_nil ?_;clear lW fW BW c7 c13 kY qY zY hlY;go_wp2_with fail;go_meet
           case rel=>exact⟨((AA HS).setI (q:=K.gY) (i:=k) (v:=a) (.inr (.inl rfl))).step (Ext.refl _).drew,AB (((AA KS).trans ((AA HS).keepI (.inr (.inl rfl)) k (.int .i64 a))).trans (KeepS.of (Ext.refl _).drew))⟩
         ·as_aux_lemma=>
          go_wp2_with fail
          with_reducible refine (AA (cS1 _ S)).mono ?_
          rintro e w17 ⟨⟨rfl,S,ks⟩,-⟩;replace KS:=AB ((AA KS).trans ks);clear ks ht2;have HS:=AB S;obtain⟨a,m,l,fA,fc,fs,BW,OF⟩:=S.st;rw[AA HN] at BW;have c7:=(BW.cell 7).trans (rfl:_=some (Value.int .i64 a));have lW:=BW.lt;have fW:=BW.frozen;clear OF S;go_upto_region 22 with fail;clear lW fW BW c7;have S:=(AA HS).setAt z2;replace KS:=AB ((AA KS).trans ((AA HS).keepW 7 (.int .i64 z2)));clear HS;generalize World.setCell w17 ⟨K.gW,7,none⟩ (.int .i64 z2)=w18 at *;have HS:=AB S;obtain⟨a,m,l,fA,fc,fs,BW,OF⟩:=S.st;rw[AA HN] at BW;have c7:=(BW.cell 7).trans (rfl:_=some (Value.int .i64 a));have c13:=(BW.cell 13).trans (rfl:_=some (Value.slice (some ⟨K.gY,0,none⟩) n n));obtain⟨lY,hlY,BY⟩:=S.ys;rw[AA HN] at hlY;obtain⟨vY,hvY⟩:∃v,lY[k]?=some v:=⟨_,AE (by omega)⟩
          have kY:=(BY.cell k).trans (show _=some (Value.int .i64 vY) by rw[List.getElem?_toArray,ints,List.getElem?_map,hvY];rfl);have qY:=BY.lt;have zY:=BY.frozen k;have lW:=BW.lt;have fW:=BW.frozen;clear OF S BY hvY;refine wp_region_ord [(1,0),(1,1),(1,2),(0,3),(1,4),(1,5),(1,6),(1,7),(0,8),(1,9),(3,10)] 10 (fun w'=>Ext w18 w') (by kernel_rfl) (by kernel_rfl) rfl (by kernel_rfl) ((Ext.refl _).drew) ?_;simp only[AD]
          iterate 10 ((first|refine ordQA ?_|refine ordQB ?_);simp only[AC])
          refine ord_last ?_;go_wp2_with fail;refine ord_nil ?_;clear lW fW BW c7 c13 kY qY zY hlY;go_wp2_with fail;go_meet
          case rel=>exact⟨((AA HS).setI (q:=K.gY) (i:=k) (v:=a) (.inr (.inl rfl))).step (Ext.refl _).drew,AB (((AA KS).trans ((AA HS).keepI (.inr (.inl rfl)) k (.int .i64 a))).trans (KeepS.of (Ext.refl _).drew))⟩
        case rest=>
         clear S KS;obtain⟨S,KS⟩:=hcut;have HS:=AB S;obtain⟨a,m,l,fA,fc,fs,BW,OF⟩:=S.st;rw[AA HN] at BW;have c11:=(BW.cell 11).trans (rfl:_=some (Value.slice (some ⟨K.gO,0,none⟩) n n));obtain⟨lO,hlO,BO⟩:=S.op;rw[AA HN] at hlO;obtain⟨vO,hvO⟩:∃v,lO[k]?=some v:=⟨_,AE (by omega)⟩
         have kO:=(BO.cell k).trans (show _=some (Value.bool vO) by rw[List.getElem?_toArray,boolL,List.getElem?_map,hvO];rfl);have qO:=BO.lt;have zO:=BO.frozen k;have lW:=BW.lt;have fW:=BW.frozen;clear OF S BO hvO;go_upto_if 197 with (fail);clear lW fW BW c11 kO qO zO hlO;have S:=AA HS;clear HS;go_cut [] from 91 to 390 (fun wx=>WkS w0 wx ns NW K F∧Hid (KeepS w wx))
         case first=>
          cases vO
          ·as_aux_lemma=>
           have HS:=AB S;obtain⟨a,m,l,fA,fc,fs,BW,OF⟩:=S.st;rw[AA HN] at BW;have c7:=(BW.cell 7).trans (rfl:_=some (Value.int .i64 a));have lW:=BW.lt;have fW:=BW.frozen;clear OF S;go_upto_region 27 with fail;refine wp_region_ord [(1,0),(1,1),(1,2),(1,3),(0,4),(1,5),(1,6),(2,7),(1,8),(1,9),(1,10),(3,11)] 11 (fun w'=>Ext wc w') (by kernel_rfl) (by kernel_rfl) rfl (by kernel_rfl) ((Ext.refl _).drew) ?_;simp only[AD]
           iterate 7 ((first|refine ordQA ?_|refine ordQB ?_);simp only[AC])
           refine ord_keep ?_;go_wp2_with fail
           with_reducible refine (AA (cSd 0 _ ((AA HS).step (Ext.refl wc).drew) (by simp))).mono ?_
           rintro e w17 ⟨sd,rfl,hx⟩;have HX:=AB ((Ext.refl wc).drew.trans hx);clear hx;clear lW fW BW c7;have S:=(AA HS).step (AA HX);replace KS:=AB ((AA KS).trans (KeepS.of (AA HX)));clear HS;have HS:=AB S;obtain⟨a,m,l,fA,fc,fs,BW,OF⟩:=S.st;rw[AA HN] at BW;have c7:=(BW.cell 7).trans (rfl:_=some (Value.int .i64 a));have lW:=BW.lt;have fW:=BW.frozen;clear OF S;go_wp2_with fail;refine⟨AA HX,?_⟩
           iterate 3 ((first|refine ordQA ?_|refine ordQB ?_);simp only[AC])
           refine ord_last ?_;go_wp2_with fail;refine ord_nil ?_;clear lW fW BW c7;go_wp2_with fail;go_meet
           case rel=>exact⟨(AA HS).setAt _,AB ((AA KS).trans ((AA HS).keepW 7 _))⟩
          ·as_aux_lemma=>
           go_wp2_with fail;go_meet
           case rel=>exact⟨S,KS⟩
         case rest=>
          clear S KS;obtain⟨S,KS⟩:=hcut;have HS:=AB S;obtain⟨a,m,l,fA,fc,fs,BW,OF⟩:=S.st;rw[AA HN] at BW;have c12:=(BW.cell 12).trans (rfl:_=some (Value.slice (some ⟨K.gX,0,none⟩) n n));obtain⟨lX,hlX,BX⟩:=S.xs;rw[AA HN] at hlX;obtain⟨vX,hvX⟩:∃v,lX[k]?=some v:=⟨_,AE (by omega)⟩
          have kX:=(BX.cell k).trans (show _=some (Value.int .i64 vX) by rw[List.getElem?_toArray,ints,List.getElem?_map,hvX];rfl);have qX:=BX.lt;have zX:=BX.frozen k;have lW:=BW.lt;have fW:=BW.frozen;clear OF S BX hvX;go_upto_region 28 with fail;refine wp_region_ord [(1,0),(1,1),(1,2),(1,3),(1,4),(0,5),(1,6),(1,7),(0,8),(1,9),(1,10),(2,11),(1,12),(3,13)] 13 (fun w'=>Ext wc w') (by kernel_rfl) (by kernel_rfl) rfl (by kernel_rfl) ((Ext.refl _).drew) ?_;simp only[AD]
          iterate 11 ((first|refine ordQA ?_|refine ordQB ?_);simp only[AC])
          refine ord_keep ?_;go_wp2_with fail
          with_reducible refine (AA (cSd 3 _ ((AA HS).step (Ext.refl wc).drew) (by simp))).mono ?_
          rintro e w17 ⟨sd,rfl,hx⟩;have HX:=AB ((Ext.refl wc).drew.trans hx);clear hx;clear lW fW BW c12 kX qX zX hlX;have S:=(AA HS).step (AA HX);replace KS:=AB ((AA KS).trans (KeepS.of (AA HX)));clear HS;go_wp2_with fail;refine⟨AA HX,?_⟩
          iterate 1 ((first|refine ordQA ?_|refine ordQB ?_);simp only[AC])
          refine ord_last ?_;go_wp2_with fail
          with_reducible refine (AA (cRec k (AA HBK) (AA HK) _ _ F (AA HLK) S)).mono ?_
          rintro e w18 ⟨rfl,⟨F2,hF2,S⟩,ks⟩;replace KS:=AB ((AA KS).trans ks);clear ks HX;have HF2:=AB hF2;clear hF2;go_wp2_with fail;refine ord_nil ?_;go_wp2_with fail
          with_reducible refine (AA (AB (leave22_any I k (AA HK) be S))).mono ?_
          rintro e w19 ⟨rfl,S,ks⟩;replace KS:=AB ((AA KS).trans ks);clear ks;go_wp2_with fail;go_roundw
          case rel=>exact⟨q+1,F2,by go_num,by omega,Nat.le_trans (AA HF2) (AA HLN),S,KS⟩
          case measure=>simp[intOf];omega
       ·as_aux_lemma=>
        clear BS;go_upto_region 39 with fail;have HS:=AB S;obtain⟨a,m,l,fA,fc,fs,BW,OF⟩:=S.st;rw[AA HN] at BW;have c8:=(BW.cell 8).trans (rfl:_=some (Value.int .i64 m));have c9:=(BW.cell 9).trans (rfl:_=some (Value.int .i64 l));have lW:=BW.lt;have fW:=BW.frozen;clear OF S;go_wp2_with fail
        with_reducible refine (AA (cJ m l ab _)).mono ?_
        rintro e w10 ⟨⟨sm,sl⟩,rfl,hx⟩;clear lW fW BW c8 c9;have S:=(AA HS).step hx;replace KS:=AB ((AA KS).trans (KeepS.of hx));clear hx HS;simp only[suC];have HS:=AB S;obtain⟨a,m,l,fA,fc,fs,BW,OF⟩:=S.st;rw[AA HN] at BW;have c8:=(BW.cell 8).trans (rfl:_=some (Value.int .i64 m));have c9:=(BW.cell 9).trans (rfl:_=some (Value.int .i64 l));have lW:=BW.lt;have fW:=BW.frozen;clear OF S;go_wp2_with fail;clear lW fW BW c8 c9;have S:=((AA HS).setM sm).setL sl;replace KS:=AB (((AA KS).trans ((AA HS).keepW 8 (.int .i64 sm))).trans (((AA HS).setM sm).keepW 9 (.int .i64 sl)));clear HS;generalize (w10.setCell ⟨K.gW,8,none⟩ (.int .i64 sm)).setCell ⟨K.gW,9,none⟩ (.int .i64 sl)=w11 at *
        with_reducible refine (AA (cS1 _ S)).mono ?_
        rintro e w12 ⟨⟨rfl,S,ks⟩,-⟩;replace KS:=AB ((AA KS).trans ks);clear ks;go_upto_region 41 with fail;have S':=S;have HS:=AB S;obtain⟨a,m,l,fA,fc,fs,BW,OF⟩:=S.st;rw[AA HN] at BW;have c7:=(BW.cell 7).trans (rfl:_=some (Value.int .i64 a));have c10:=(BW.cell 10).trans (rfl:_=some (Value.slice fA F fc));have RF:=Rd.of_own OF;have lW:=BW.lt;have fW:=BW.frozen;clear OF S;have cCl:=fun s y w rf=>AB (clear_any fA F fc s y fs w rf hF6)
        refine wp_region_ord [(1,0),(1,1),(1,2),(1,3),(0,4),(1,5),(1,6),(1,7),(0,8),(3,9),(1,10),(1,11),(3,12)] 9 (fun w'=>Ext w12 w') (by kernel_rfl) (by kernel_rfl) rfl (by kernel_rfl) ((Ext.refl _).drew) ?_;simp only[AD]
        iterate 9 ((first|refine ordQA ?_|refine ordQB ?_);simp only[AC])
        refine ord_last ?_;go_wp2_with fail
        with_reducible refine (AA (cCl _ _ _ (RF.ext (Ext.refl w12).drew))).mono ?_
        rintro e w13 ⟨z1,rfl,hx⟩;have HX:=AB ((Ext.refl w12).drew.trans hx);clear hx;clear lW fW BW c7 c10 RF;have S:=(AA HS).step (AA HX);replace KS:=AB ((AA KS).trans (KeepS.of (AA HX)));clear HS;clear cCl S';have HS:=AB S;obtain⟨a,m,l,fA,fc,fs,BW,OF⟩:=S.st;rw[AA HN] at BW;have c7:=(BW.cell 7).trans (rfl:_=some (Value.int .i64 a));have lW:=BW.lt;have fW:=BW.frozen;clear OF S;go_wp2_with fail
        iterate 2 ((first|refine ordQA ?_|refine ordQB ?_);simp only[AC])
        refine ord_last ?_;go_wp2_with fail;refine ord_nil ?_;clear lW fW BW c7;have S:=(AA HS).setAt z1;replace KS:=AB ((AA KS).trans ((AA HS).keepW 7 (.int .i64 z1)));clear HS HX;generalize World.setCell w13 ⟨K.gW,7,none⟩ (.int .i64 z1)=w14 at *;have HS:=AB S;obtain⟨a,m,l,fA,fc,fs,BW,OF⟩:=S.st;rw[AA HN] at BW;have c12:=(BW.cell 12).trans (rfl:_=some (Value.slice (some ⟨K.gX,0,none⟩) n n));obtain⟨lX,hlX,BX⟩:=S.xs;rw[AA HN] at hlX;obtain⟨vX,hvX⟩:∃v,lX[k]?=some v:=⟨_,AE (by omega)⟩
        have kX:=(BX.cell k).trans (show _=some (Value.int .i64 vX) by rw[List.getElem?_toArray,ints,List.getElem?_map,hvX];rfl);have qX:=BX.lt;have zX:=BX.frozen k;have lW:=BW.lt;have fW:=BW.frozen;clear OF S BX hvX;go_upto_region 42 with fail;refine wp_region_ord [(1,0),(1,1),(1,2),(0,3),(1,4),(1,5),(1,6),(1,7),(2,8),(1,9),(1,10),(1,11),(3,12)] 12 (fun w'=>Ext w14 w') (by kernel_rfl) (by kernel_rfl) rfl (by kernel_rfl) ((Ext.refl _).drew) ?_;simp only[AD]
        iterate 8 ((first|refine ordQA ?_|refine ordQB ?_);simp only[AC])
        refine ord_keep ?_;go_wp2_with fail
        with_reducible refine (AA (cU1 _ ((AA HS).step (Ext.refl w14).drew))).mono ?_
        rintro e w15 ⟨⟨vw,vl,vr⟩,rfl,hu,hx⟩;have HX:=AB ((Ext.refl w14).drew.trans hx);clear hx;clear lW fW BW c12 kX qX zX hlX;have S:=(AA HS).step (AA HX);replace KS:=AB ((AA KS).trans (KeepS.of (AA HX)));clear HS;clear hu;simp only[usC];have fV:=field_used1 vw vl vr;obtain⟨s1,hs1⟩:∃z,IntKind.i64.wrap (x+vl)=z:=⟨_,rfl⟩
        have HS:=AB S;obtain⟨a,m,l,fA,fc,fs,BW,OF⟩:=S.st;rw[AA HN] at BW;have c12:=(BW.cell 12).trans (rfl:_=some (Value.slice (some ⟨K.gX,0,none⟩) n n));obtain⟨lX,hlX,BX⟩:=S.xs;rw[AA HN] at hlX;obtain⟨vX,hvX⟩:∃v,lX[k]?=some v:=⟨_,AE (by omega)⟩
        have kX:=(BX.cell k).trans (show _=some (Value.int .i64 vX) by rw[List.getElem?_toArray,ints,List.getElem?_map,hvX];rfl);have qX:=BX.lt;have zX:=BX.frozen k;have lW:=BW.lt;have fW:=BW.frozen;clear OF S BX hvX;go_wp2_with fail;refine⟨AA HX,?_⟩
        iterate 3 ((first|refine ordQA ?_|refine ordQB ?_);simp only[AC])
        refine ord_last ?_;go_wp2_with fail;refine ord_nil ?_;clear fV hs1;clear lW fW BW c12 kX qX zX hlX;have S:=(AA HS).setI (q:=K.gX) (i:=k) (v:=s1) (.inl rfl);replace KS:=AB ((AA KS).trans ((AA HS).keepI (.inl rfl) k (.int .i64 s1)));clear HS HX;generalize World.setCell w15 ⟨K.gX,k,none⟩ (.int .i64 s1)=w16 at *;have HS:=AB S;obtain⟨a,m,l,fA,fc,fs,BW,OF⟩:=S.st;rw[AA HN] at BW;have c7:=(BW.cell 7).trans (rfl:_=some (Value.int .i64 a));have c13:=(BW.cell 13).trans (rfl:_=some (Value.slice (some ⟨K.gY,0,none⟩) n n));obtain⟨lY,hlY,BY⟩:=S.ys;rw[AA HN] at hlY;obtain⟨vY,hvY⟩:∃v,lY[k]?=some v:=⟨_,AE (by omega)⟩
        have kY:=(BY.cell k).trans (show _=some (Value.int .i64 vY) by rw[List.getElem?_toArray,ints,List.getElem?_map,hvY];rfl);have qY:=BY.lt;have zY:=BY.frozen k;have lW:=BW.lt;have fW:=BW.frozen;clear OF S BY hvY;go_upto_region 43 with fail;refine wp_region_ord [(1,0),(1,1),(1,2),(0,3),(1,4),(1,5),(1,6),(1,7),(0,8),(1,9),(3,10)] 10 (fun w'=>Ext w16 w') (by kernel_rfl) (by kernel_rfl) rfl (by kernel_rfl) ((Ext.refl _).drew) ?_;simp only[AD]
        iterate 10 ((first|refine ordQA ?_|refine ordQB ?_);simp only[AC])
        refine ord_last ?_;go_wp2_with fail;refine ord_nil ?_;clear lW fW BW c7 c13 kY qY zY hlY;have S:=((AA HS).setI (q:=K.gY) (i:=k) (v:=a) (.inr (.inl rfl))).step (Ext.refl _).drew;replace KS:=AB (((AA KS).trans ((AA HS).keepI (.inr (.inl rfl)) k (.int .i64 a))).trans (KeepS.of (Ext.refl _).drew));clear HS;generalize (w16.setCell ⟨K.gY,k,none⟩ (.int .i64 a)).drew=w17 at *;have HS:=AB S;obtain⟨a,m,l,fA,fc,fs,BW,OF⟩:=S.st;rw[AA HN] at BW;have c14:=(BW.cell 14).trans (rfl:_=some (Value.slice (some ⟨K.gH,0,none⟩) n n));obtain⟨lH,hlH,BH⟩:=S.hs;rw[AA HN] at hlH;obtain⟨vH,hvH⟩:∃v,lH[k]?=some v:=⟨_,AE (by omega)⟩
        have kH:=(BH.cell k).trans (show _=some (Value.int .i64 vH) by rw[List.getElem?_toArray,ints,List.getElem?_map,hvH];rfl);have qH:=BH.lt;have zH:=BH.frozen k;have lW:=BW.lt;have fW:=BW.frozen;clear OF S BH hvH;go_upto_region 44 with fail;refine wp_region_ord [(1,0),(1,1),(1,2),(0,3),(1,4),(1,5),(1,6),(2,7),(1,8),(3,9)] 9 (fun w'=>Ext w17 w') (by kernel_rfl) (by kernel_rfl) rfl (by kernel_rfl) ((Ext.refl _).drew) ?_;simp only[AD]
        iterate 7 ((first|refine ordQA ?_|refine ordQB ?_);simp only[AC])
        refine ord_keep ?_;go_wp2_with fail
        with_reducible refine (AA (cHi _ ((AA HS).step (Ext.refl w17).drew))).mono ?_
        rintro e w18 ⟨hv,rfl,hx⟩;have HX:=AB ((Ext.refl w17).drew.trans hx);clear hx;clear lW fW BW c14 kH qH zH hlH;have S:=(AA HS).step (AA HX);replace KS:=AB ((AA KS).trans (KeepS.of (AA HX)));clear HS;have HS:=AB S;obtain⟨a,m,l,fA,fc,fs,BW,OF⟩:=S.st;rw[AA HN] at BW;have c14:=(BW.cell 14).trans (rfl:_=some (Value.slice (some ⟨K.gH,0,none⟩) n n));obtain⟨lH,hlH,BH⟩:=S.hs;rw[AA HN] at hlH;obtain⟨vH,hvH⟩:∃v,lH[k]?=some v:=⟨_,AE (by omega)⟩
        have kH:=(BH.cell k).trans (show _=some (Value.int .i64 vH) by rw[List.getElem?_toArray,ints,List.getElem?_map,hvH];rfl);have qH:=BH.lt;have zH:=BH.frozen k;have lW:=BW.lt;have fW:=BW.frozen;clear OF S BH hvH;go_wp2_with fail;refine⟨AA HX,?_⟩
        iterate 1 ((first|refine ordQA ?_|refine ordQB ?_);simp only[AC])
        refine ord_last ?_;go_wp2_with fail;refine ord_nil ?_;clear lW fW BW c14 kH qH zH hlH;have S:=(AA HS).setI (q:=K.gH) (i:=k) (v:=hv) (.inr (.inr rfl));replace KS:=AB ((AA KS).trans ((AA HS).keepI (.inr (.inr rfl)) k (.int .i64 hv)));clear HS HX;generalize World.setCell w18 ⟨K.gH,k,none⟩ (.int .i64 hv)=w19 at *;have HS:=AB S;obtain⟨a,m,l,fA,fc,fs,BW,OF⟩:=S.st;rw[AA HN] at BW;have c7:=(BW.cell 7).trans (rfl:_=some (Value.int .i64 a));have c14:=(BW.cell 14).trans (rfl:_=some (Value.slice (some ⟨K.gH,0,none⟩) n n));obtain⟨lH,hlH,BH⟩:=S.hs;rw[AA HN] at hlH;obtain⟨vH,hvH⟩:∃v,lH[k]?=some v:=⟨_,AE (by omega)⟩
        have kH:=(BH.cell k).trans (show _=some (Value.int .i64 vH) by rw[List.getElem?_toArray,ints,List.getElem?_map,hvH];rfl);have qH:=BH.lt;have zH:=BH.frozen k;have lW:=BW.lt;have fW:=BW.frozen;clear OF S BH hvH;obtain⟨s2,hs2⟩:∃z,IntKind.i64.wrap (a+vH)=z:=⟨_,rfl⟩
        go_upto_region 45 with fail;refine wp_region_ord [(1,0),(1,1),(1,2),(1,3),(0,4),(1,5),(1,6),(1,7),(0,8),(1,9),(1,10),(0,11),(1,12),(1,13),(1,14),(3,15)] 15 (fun w'=>Ext w19 w') (by kernel_rfl) (by kernel_rfl) rfl (by kernel_rfl) ((Ext.refl _).drew) ?_;simp only[AD]
        iterate 15 ((first|refine ordQA ?_|refine ordQB ?_);simp only[AC])
        refine ord_last ?_;go_wp2_with fail;refine ord_nil ?_;clear hs2;clear lW fW BW c7 c14 kH qH zH hlH;have S:=((AA HS).setAt s2).step (Ext.refl _).drew;replace KS:=AB (((AA KS).trans ((AA HS).keepW 7 (.int .i64 s2))).trans (KeepS.of (Ext.refl _).drew));clear HS;generalize (w19.setCell ⟨K.gW,7,none⟩ (.int .i64 s2)).drew=w20 at *;have HS:=AB S;obtain⟨a,m,l,fA,fc,fs,BW,OF⟩:=S.st;rw[AA HN] at BW;have c8:=(BW.cell 8).trans (rfl:_=some (Value.int .i64 m));have c9:=(BW.cell 9).trans (rfl:_=some (Value.int .i64 l));have lW:=BW.lt;have fW:=BW.frozen;clear OF S;go_wp2_with fail
        with_reducible refine (AA (cJ 0 0 be _)).mono ?_
        rintro e w21 ⟨⟨tm,tl⟩,rfl,hx⟩;clear lW fW BW c8 c9;have S:=(AA HS).step hx;replace KS:=AB ((AA KS).trans (KeepS.of hx));clear hx HS;simp only[suC];have HS:=AB S;obtain⟨a,m,l,fA,fc,fs,BW,OF⟩:=S.st;rw[AA HN] at BW;have c8:=(BW.cell 8).trans (rfl:_=some (Value.int .i64 m));have c9:=(BW.cell 9).trans (rfl:_=some (Value.int .i64 l));have lW:=BW.lt;have fW:=BW.frozen;clear OF S;go_wp2_with fail;clear lW fW BW c8 c9;have S:=((AA HS).setM tm).setL tl;replace KS:=AB (((AA KS).trans ((AA HS).keepW 8 (.int .i64 tm))).trans (((AA HS).setM tm).keepW 9 (.int .i64 tl)));clear HS;generalize (w21.setCell ⟨K.gW,8,none⟩ (.int .i64 tm)).setCell ⟨K.gW,9,none⟩ (.int .i64 tl)=w22 at *;go_roundw
        case rel=>exact⟨q+1,F,by go_num,by omega,by have:=AA HLK;have:=AA HLN;have:=endN_gt ns k;omega,S,KS⟩
        case measure=>simp[intOf];omega
      ·as_aux_lemma=>
       go_upto_region 31 with fail;clear kf lS ht1;have cMk:=fun w S=>AB (mark22_any (w0:=w0) (w:=w) (ns:=ns) (NW:=NW) (K:=K) (F:=F) S)
       have cU1:=fun w S=>cU k (AA HK) w F S
       have cHi:=fun w S=>AB (high22_any (w:=w) (NW:=NW) (F:=F) I k (by omega) S)
       have cWi:=fun w S=>AB (wide22_any (w:=w) (NW:=NW) (F:=F) I k (AA HK) S)
       go_wp2_with fail
       with_reducible refine (AA (cU1 _ S)).mono ?_
       rintro e w9 ⟨⟨vw,vl,vr⟩,rfl,hu,hx⟩;dsimp only
       iterate 1 go_step
       refine wpList_var rfl rfl 120 rfl 16 rfl (.tmp 233) rfl rfl (usC ⟨0,0,0⟩).toArray (usC ⟨vw,vl,vr⟩).toArray (by kernel_rfl) rfl rfl (usC_sz _) rfl (by kernel_rfl) ?_;replace S:=S.step hx;replace KS:=AB ((AA KS).trans (KeepS.of hx));replace BS:=BS.ext hx;clear hx hu;intro w10 BU hx z10;simp only[AC];replace S:=S.step hx;replace KS:=AB ((AA KS).trans (KeepS.of hx));replace BS:=BS.ext hx;clear hx;generalize w9.heap.size=gU at *;clear z10;have hF6:F≤1000000:=by have:=AA HLK;omega
       have HS:=AB S;obtain⟨a,m,l,fA,fc,fs,BW,OF⟩:=S.st;rw[AA HN] at BW;clear S;have kc:=(BS.cell 3).trans (rfl:_=some (Value.int .u8 nd.s.clear));have lS:=BS.lt;have lW:=BW.lt;have c10:=(BW.cell 10).trans (rfl:_=some (Value.slice fA F fc));have cCl:=fun s y w rf=>AB (clear_any fA F fc s y fs w rf hF6)
       go_upto_region 32 with fail;refine wp_region_ord [(1,0),(1,1),(1,2),(0,3),(1,4),(0,5),(1,6),(2,7),(3,8),(1,9)] 8 (fun w'=>Ext w10 w') (by kernel_rfl) (by kernel_rfl) rfl (by kernel_rfl) ((Ext.refl _).drew) ?_;simp only[AD]
       iterate 7 ((first|refine ordQA ?_|refine ordQB ?_);simp only[AC])
       refine ord_keep ?_;go_wp2_with fail
       with_reducible refine (AA (cMk _ ((AA HS).step (Ext.refl w10).drew))).mono ?_
       rintro e w11 ⟨z1,rfl,hx⟩;have HX:=AB ((Ext.refl w10).drew.trans hx);clear hx kc lS lW c10;go_wp2_with fail;refine⟨AA HX,?_⟩;refine ord_last ?_;go_wp2_with fail
       with_reducible refine (AA (cCl _ _ _ ((Rd.of_own OF).ext (AA HX)))).mono ?_
       rintro e w12 ⟨z2,rfl,hx⟩;replace HX:=AB ((AA HX).trans hx);clear hx;go_wp2_with fail
       iterate 1 ((first|refine ordQA ?_|refine ordQB ?_);simp only[AC])
       refine ord_nil ?_;have S:=(AA HS).step (AA HX);replace KS:=AB ((AA KS).trans (KeepS.of (AA HX)));replace BS:=BS.ext (AA HX);replace BU:=BU.ext (AA HX);replace BW:=BW.ext (AA HX);replace OF:=own_ext OF (AA HX);clear HX HS;have HS:=AB S;clear S;have hOF:=AB (fun q e=>(OF.lt q e).2);have kf:=(BS.cell 2).trans (rfl:_=some (Value.int .u8 nd.s.float));have ku1:=(BU.cell 1).trans (rfl:_=some (Value.int .i64 vl));have ku2:=(BU.cell 2).trans (rfl:_=some (Value.int .i64 vr));have lU:=BU.lt;have lS:=BS.lt;have lW:=BW.lt;have c10:=(BW.cell 10).trans (rfl:_=some (Value.slice fA F fc));have cPl:=fun s x h a b y w rf=>AB (place15_any fA F fc s x h a b y fs w rf hF6)
       go_upto_region 33 with fail;refine wp_region_flt [(1,0),(1,1),(1,2),(0,3),(1,4),(0,5),(1,6),(0,7),(1,8),(1,9),(1,12),(0,13),(1,15),(1,16),(1,17),(1,20),(1,22),(1,23),(1,24)] [26] [(2,10),(1,11),(1,14),(2,18),(1,19),(1,21),(2,25)] [(2,27)] (fun _ v w'=>∃g,v=.pointer (some ⟨g,0,none⟩)∧w12.heap.size≤g∧Blk w' g 229 (flC ⟨0,0,0,0,0⟩).toArray) (by kernel_rfl) (by kernel_rfl) (by kernel_rfl) (fun j v w w' h hx=>by obtain⟨g,h1,h2,h3⟩:=h;exact⟨g,h1,h2,h3.ext hx⟩) ?_;simp only[AD]
       iterate 19 ((first|refine ordQA ?_|refine ordQB ?_);simp only[AC])
       refine ord_nil ?_;clear kf ku1 ku2 lU lS lW c10;refine⟨fun j hj=>?_,?_⟩
       ·obtain rfl:=List.mem_singleton.1 hj;refine⟨_,rfl,rfl,fun w' hx hW=>⟨.pointer (some ⟨w'.heap.size,0,none⟩),w'.alloc (.cells (flC ⟨0,0,0,0,0⟩).toArray 229),?_,(Ext.refl _).alloc _,_,rfl,hW.size,Blk.new _ _ _⟩⟩;go_simp;rfl
       ·refine flt_keep (fun w13 hT hW=>?_);have HW:=AB hW;clear hT hW;go_wp2_with fail
        with_reducible refine (AA (cWi _ ((AA HS).step (AA HW)))).mono ?_
        rintro e w14 ⟨z3,rfl,hx⟩;have HX:=AB hx;clear hx HW;go_wp2_with fail;refine⟨AA HX,?_⟩;clear HX
        iterate 2 (
         (first
          |(refine flt_pure (v:=?_) ?_ (fun w'=>?_) ?_;rotate_left;rfl;(focus (go_simp;rfl)))
          |(refine flt_hold (v:=?_) ?_ (fun w' hI=>?_) ?_;rotate_left;rfl;(focus (have hc:=hI.cells.1;go_simp;rfl))))
         simp only[AC])
        refine flt_keep (fun w15 hT hW=>?_);have HW:=AB hW;clear hT hW;go_wp2_with fail
        with_reducible refine (AA (cHi _ ((AA HS).step (AA HW)))).mono ?_
        rintro e w16 ⟨z4,rfl,hx⟩;have HX:=AB hx;clear hx HW;go_wp2_with fail;refine⟨AA HX,?_⟩;clear HX
        iterate 2 (
         (first
          |(refine flt_pure (v:=?_) ?_ (fun w'=>?_) ?_;rotate_left;rfl;(focus (go_simp;rfl)))
          |(refine flt_hold (v:=?_) ?_ (fun w' hI=>?_) ?_;rotate_left;rfl;(focus (have hc:=hI.cells.1;go_simp;rfl))))
         simp only[AC])
        refine flt_keep (fun w17 hT hW=>?_);have HW:=AB hW;clear hT hW;go_wp2_with fail
        with_reducible refine (AA (cPl _ _ _ _ _ _ _ ((Rd.of_own OF).ext (AA HW)))).mono ?_
        rintro e w18 ⟨⟨f0,f1,f2,f3,f4⟩,rfl,hx⟩;have HX:=AB hx;replace HW:=AB ((AA HW).trans hx);clear hx;go_wp2_with fail;refine⟨AA HX,?_⟩;clear HX;refine flt_nil ?_;intro w19 vs hT hR;obtain⟨gF,hv,hlo,BF⟩:=hR 26 (List.mem_singleton.2 rfl);replace HW:=AB ((AA HW).trans hT);clear hT hR
        show wpOrdL _ _ _ _ _ (Act.put _ (some 18) (vs 26)) _
        rw[hv];clear hv vs;simp only[AC];refine ord_keep ?_;refine wpList_store_blk rfl 229 (.tmp 18) (.tmp 268) rfl gF rfl (flC ⟨f0,f1,f2,f3,f4⟩).toArray rfl 229 (flC ⟨0,0,0,0,0⟩).toArray BF (flC_size _) rfl (by kernel_rfl) ?_;clear BF;intro w20 BF g20 z20;have hx:=(AA HW).grown g20 (fun q e=>by have:=Option.some.inj e;omega);clear g20 z20 HW;refine⟨rfl,hx,?_⟩;refine ord_nil ?_;have S:=(AA HS).step hx;replace KS:=AB ((AA KS).trans (KeepS.of hx));replace BS:=BS.ext hx;replace BU:=BU.ext hx;replace BW:=BW.ext hx;replace OF:=own_ext OF hx;clear hx HS cWi cPl cCl cMk;have HS:=AB S;have HIf:=AB float_row;clear S;have lW:=BW.lt;have lF:=BF.lt;have c10:=(BW.cell 10).trans (rfl:_=some (Value.slice fA F fc));go_upto_region 34 with fail;refine wp_region_ord [(1,0),(1,1),(1,2),(1,3),(0,4),(0,5),(2,6),(3,7),(1,8),(1,9),(3,10)] 7 (fun w'=>Ext w20 w') (by kernel_rfl) (by kernel_rfl) rfl (by kernel_rfl) ((Ext.refl _).drew) ?_;simp only[AD]
        iterate 5 ((first|refine ordQA ?_|refine ordQB ?_);simp only[AC])
        refine ord_hold (v:=.agg (flC ⟨f0,f1,f2,f3,f4⟩).toArray) rfl (fun w' hI=>run_load_fl (.tmp 18) rfl rfl (fun x v hv=>(hI.cells.1 gF _ lF).trans (by rw[Nat.zero_add,BF.cell,List.getElem?_toArray];exact hv))) ?_;simp only[AC];have hS:=(Ext.refl w20).drew;have S:=(AA HS).step hS;replace KS:=AB ((AA KS).trans (KeepS.of hS));replace BS:=BS.ext hS;replace BU:=BU.ext hS;replace BF:=BF.ext hS;replace BW:=BW.ext hS;replace OF:=own_ext OF hS;clear HS c10 lW lF;generalize w20.drew=w21 at *;refine ord_keep ?_;refine Go.Great.wpList_buildSliceTo rfl 188 229 1 _ rfl _ rfl _ rfl Tryz.underlying188 (flC ⟨f0,f1,f2,f3,f4⟩).toArray (by kernel_rfl) ?_;simp only[AC];have hx:Ext w21 (w21.alloc (.cells (flC ⟨f0,f1,f2,f3,f4⟩).toArray 229)):=(Ext.refl _).alloc _;have R5:Rd (w21.alloc (.cells (flC ⟨f0,f1,f2,f3,f4⟩).toArray 229)) 5 (some ⟨w21.heap.size,0,none⟩) 1 (flC ⟨f0,f1,f2,f3,f4⟩):=(Blk.new w21 229 (flC ⟨f0,f1,f2,f3,f4⟩).toArray).rdk (n:=1) (k:=5) rfl;replace S:=S.step hx;replace KS:=AB ((AA KS).trans (KeepS.of hx));replace BS:=BS.ext hx;replace BU:=BU.ext hx;replace BF:=BF.ext hx;replace BW:=BW.ext hx;replace OF:=own_ext OF hx;replace hS:=hS.trans hx;clear hx;generalize w21.alloc (.cells (flC ⟨f0,f1,f2,f3,f4⟩).toArray 229)=w22 at *;generalize w21.heap.size=gqw22 at *;refine⟨rfl,hS,?_⟩;clear hS;refine ord_last ?_;refine wpList_push (W:=w0) rfl (.tmp 273) (.tmp 275) 188 rfl K.B 229 5 Tryz.underlying188 HIf (by omega) _ F (recs flC fs) rfl OF _ 1 1 (flC ⟨f0,f1,f2,f3,f4⟩) rfl R5 (flC_one _) (by have:=AA HLK;omega) S.ext (by have:=S.lo.1;have:=S.hi.1;omega) S.bd ?_;intro A5 c5 w23 O5 E5 g5 at5;have PF:=S.pushF (f:=⟨f0,f1,f2,f3,f4⟩) (by rw[AA HN];exact BW) OF g5 E5 O5;have BW9:=BW.grownOwn g5 (own_blk_ne OF BW (by decide));have BU9:=BU.grownOwn g5 (own_blk_ne OF BU (by decide));have BF9:=BF.grownOwn g5 (fun q e=>by have:=(AA hOF) q e;omega);replace BU:=BU9.far (p:=⟨K.gW,10,none⟩) (blk_ne BU9 BW9 (by decide)) (.slice A5 (F+1) c5);replace BF:=BF9.far (p:=⟨K.gW,10,none⟩) (blk_ne BF9 BW9 (by decide)) (.slice A5 (F+1) c5);replace BS:=PF.2 _ _ BS;replace KS:=AB ((AA KS).trans PF.2);have HS:=AB PF.1;have lW:=BW9.lt;have fW:=BW9.frozen 10;have c10:=(BW9.cell 10).trans (rfl:_=some (Value.slice fA F fc));clear O5 E5 g5 at5 R5 PF BU9 BF9 BW9 BW S OF;refine⟨rfl,?_⟩;simp only[AC]
        iterate 2 ((first|refine ordQA ?_|refine ordQB ?_);simp only[AC])
        refine ord_last ?_;go_wp2_with fail;refine ord_nil ?_;clear lW fW c10 hOF;generalize World.setCell w23 ⟨K.gW,10,none⟩ (.slice A5 (F+1) c5)=w24 at *;have S:=AA HS;clear HS hlo;have kf1:=(BF.cell 1).trans (rfl:_=some (Value.int .i64 f1));have ku1:=(BU.cell 1).trans (rfl:_=some (Value.int .i64 vl));have lU:=BU.lt;have lF:=BF.lt;obtain⟨s1,hs1⟩:∃z,IntKind.i64.wrap (f1+vl)=z:=⟨_,rfl⟩
        have HS:=AB S;obtain⟨a,m,l,fA,fc,fs,BW,OF⟩:=S.st;rw[AA HN] at BW;have c12:=(BW.cell 12).trans (rfl:_=some (Value.slice (some ⟨K.gX,0,none⟩) n n));obtain⟨lX,hlX,BX⟩:=S.xs;rw[AA HN] at hlX;obtain⟨vX,hvX⟩:∃v,lX[k]?=some v:=⟨_,AE (by omega)⟩
        have kX:=(BX.cell k).trans (show _=some (Value.int .i64 vX) by rw[List.getElem?_toArray,ints,List.getElem?_map,hvX];rfl);have qX:=BX.lt;have zX:=BX.frozen k;have lW:=BW.lt;have fW:=BW.frozen;clear OF S BX hvX;go_upto_region 35 with fail;refine wp_region_ord [(1,0),(1,1),(1,2),(0,3),(1,4),(1,5),(0,6),(1,7),(0,8),(1,9),(1,10),(3,11)] 11 (fun w'=>Ext w24 w') (by kernel_rfl) (by kernel_rfl) rfl (by kernel_rfl) ((Ext.refl _).drew) ?_;simp only[AD]
        iterate 11 ((first|refine ordQA ?_|refine ordQB ?_);simp only[AC])
        refine ord_last ?_;go_wp2_with fail;refine ord_nil ?_;clear kf1 ku1 lU lF hs1;clear lW fW BW c12 kX qX zX hlX;replace BU:=((AA HS).farI (.inl rfl) BU (by decide) k (.int .i64 s1)).ext (Ext.refl _).drew;replace BF:=((AA HS).farI (.inl rfl) BF (by decide) k (.int .i64 s1)).ext (Ext.refl _).drew;have S:=((AA HS).setI (q:=K.gX) (i:=k) (v:=s1) (.inl rfl)).step (Ext.refl _).drew;replace KS:=AB (((AA KS).trans ((AA HS).keepI (.inl rfl) k (.int .i64 s1))).trans (KeepS.of (Ext.refl _).drew));clear HS BU BS;generalize (w24.setCell ⟨K.gX,k,none⟩ (.int .i64 s1)).drew=w25 at *;have kf2:=(BF.cell 2).trans (rfl:_=some (Value.int .i64 f2));have lF:=BF.lt;obtain⟨s2,hs2⟩:∃z,IntKind.i64.wrap (f2+ab)=z:=⟨_,rfl⟩
        have HS:=AB S;obtain⟨a,m,l,fA,fc,fs,BW,OF⟩:=S.st;rw[AA HN] at BW;have c13:=(BW.cell 13).trans (rfl:_=some (Value.slice (some ⟨K.gY,0,none⟩) n n));obtain⟨lY,hlY,BY⟩:=S.ys;rw[AA HN] at hlY;obtain⟨vY,hvY⟩:∃v,lY[k]?=some v:=⟨_,AE (by omega)⟩
        have kY:=(BY.cell k).trans (show _=some (Value.int .i64 vY) by rw[List.getElem?_toArray,ints,List.getElem?_map,hvY];rfl);have qY:=BY.lt;have zY:=BY.frozen k;have lW:=BW.lt;have fW:=BW.frozen;clear OF S BY hvY;go_upto_region 36 with fail;refine wp_region_ord [(1,0),(1,1),(1,2),(0,3),(1,4),(1,5),(0,6),(1,7),(1,8),(1,9),(3,10)] 10 (fun w'=>Ext w25 w') (by kernel_rfl) (by kernel_rfl) rfl (by kernel_rfl) ((Ext.refl _).drew) ?_;simp only[AD]
        iterate 10 ((first|refine ordQA ?_|refine ordQB ?_);simp only[AC])
        refine ord_last ?_;go_wp2_with fail;refine ord_nil ?_;clear kf2 lF hs2;clear lW fW BW c13 kY qY zY hlY;have S:=((AA HS).setI (q:=K.gY) (i:=k) (v:=s2) (.inr (.inl rfl))).step (Ext.refl _).drew;replace KS:=AB (((AA KS).trans ((AA HS).keepI (.inr (.inl rfl)) k (.int .i64 s2))).trans (KeepS.of (Ext.refl _).drew));clear HS BF;generalize (w25.setCell ⟨K.gY,k,none⟩ (.int .i64 s2)).drew=w26 at *;have cHi:=fun w S=>AB (high22_any (w:=w) (NW:=NW) (F:=F+1) I k (by omega) S)
        have HS:=AB S;obtain⟨a,m,l,fA,fc,fs,BW,OF⟩:=S.st;rw[AA HN] at BW;have c14:=(BW.cell 14).trans (rfl:_=some (Value.slice (some ⟨K.gH,0,none⟩) n n));obtain⟨lH,hlH,BH⟩:=S.hs;rw[AA HN] at hlH;obtain⟨vH,hvH⟩:∃v,lH[k]?=some v:=⟨_,AE (by omega)⟩
        have kH:=(BH.cell k).trans (show _=some (Value.int .i64 vH) by rw[List.getElem?_toArray,ints,List.getElem?_map,hvH];rfl);have qH:=BH.lt;have zH:=BH.frozen k;have lW:=BW.lt;have fW:=BW.frozen;clear OF S BH hvH;go_upto_region 37 with fail;refine wp_region_ord [(1,0),(1,1),(1,2),(0,3),(1,4),(1,5),(1,6),(2,7),(1,8),(3,9)] 9 (fun w'=>Ext w26 w') (by kernel_rfl) (by kernel_rfl) rfl (by kernel_rfl) ((Ext.refl _).drew) ?_;simp only[AD]
        iterate 7 ((first|refine ordQA ?_|refine ordQB ?_);simp only[AC])
        refine ord_keep ?_;go_wp2_with fail
        with_reducible refine (AA (cHi _ ((AA HS).step (Ext.refl w26).drew))).mono ?_
        rintro e w27 ⟨hv,rfl,hx⟩;have HX:=AB ((Ext.refl w26).drew.trans hx);clear hx;clear lW fW BW c14 kH qH zH hlH;have S:=(AA HS).step (AA HX);replace KS:=AB ((AA KS).trans (KeepS.of (AA HX)));clear HS;have HS:=AB S;obtain⟨a,m,l,fA,fc,fs,BW,OF⟩:=S.st;rw[AA HN] at BW;have c14:=(BW.cell 14).trans (rfl:_=some (Value.slice (some ⟨K.gH,0,none⟩) n n));obtain⟨lH,hlH,BH⟩:=S.hs;rw[AA HN] at hlH;obtain⟨vH,hvH⟩:∃v,lH[k]?=some v:=⟨_,AE (by omega)⟩
        have kH:=(BH.cell k).trans (show _=some (Value.int .i64 vH) by rw[List.getElem?_toArray,ints,List.getElem?_map,hvH];rfl);have qH:=BH.lt;have zH:=BH.frozen k;have lW:=BW.lt;have fW:=BW.frozen;clear OF S BH hvH;go_wp2_with fail;refine⟨AA HX,?_⟩
        iterate 1 ((first|refine ordQA ?_|refine ordQB ?_);simp only[AC])
        refine ord_last ?_;go_wp2_with fail;refine ord_nil ?_;clear lW fW BW c14 kH qH zH hlH;have S:=(AA HS).setI (q:=K.gH) (i:=k) (v:=hv) (.inr (.inr rfl));replace KS:=AB ((AA KS).trans ((AA HS).keepI (.inr (.inr rfl)) k (.int .i64 hv)));clear HS HX;generalize World.setCell w27 ⟨K.gH,k,none⟩ (.int .i64 hv)=w28 at *;go_wp2_with fail;go_roundw
        case rel=>exact⟨q+1,F+1,by go_num,by omega,by have:=AA HLK;have:=AA HLN;have:=endN_gt ns k;omega,S,KS⟩
        case measure=>simp[intOf];omega
    ·have hqI:¬(q:Int)<(kl.length:Int):=by omega
     have hFe:=AB (show F≤endN ns b by rw[lim_end (by rw[hkl2];omega)] at hF;exact hF);go_wp2_with fail
     go_end0
     exact⟨rfl,⟨F,AA hFe,S⟩,AA KS⟩
  ·have HS:=AB S;obtain⟨a,m,l,fA,fc,fs,BW,OF⟩:=S.st;rw[AA HN] at BW;have c0:=(BW.cell 0).trans (rfl:_=some (Value.slice K.t.na K.t.nl K.t.nc));have c1:=(BW.cell 1).trans (rfl:_=some (Value.slice K.t.aa K.t.al K.t.ac));have c2:=(BW.cell 2).trans (rfl:_=some (Value.int .i64 K.t.view));have lW:=BW.lt;have fW:=BW.frozen;clear OF S;go_wp2_with fail
   with_reducible refine (AA (cWs _ (AA hlt3) (AA hrk3))).mono ?_
   rintro e w4 ⟨Aw,A2,mw,cw,c2',ws,nl,rfl,hm,rW,rN,hWO,hx4⟩;clear lW fW BW c0 c1 c2;have S3b:=(AA HS).bd;replace S:=(AA HS).step hx4;replace KS:=AB ((AA KS).trans (KeepS.of hx4));have hlt4:=AB (I.lt.ext S.ext);have HWO:=AB hWO;have OW:=own_low rW (show K.B≤_ from S3b);have hb4:=AB (I.lt.words b);have hm':=AB hm;clear HS hlt3 hrk3 hx4 rN nl hm hWO rW S3b;by_cases hm0:0<mw
   ·have hmI:(0:Int)<(mw:Int):=by omega
    go_wp2_with fail
    with_reducible refine (AA (cSt _ _ S)).mono ?_
    rintro e w5 ⟨⟨rfl,S5,K5⟩,R5⟩;replace KS:=AB ((AA KS).trans K5);replace OW:=R5 _ _ _ _ _ OW;clear S K5 R5 hlt4;obtain⟨nd,bn,on,hnd,hna,hnl,lbn,hok,hcn⟩:=I.node S5.ext (show b<ns.length by have:=AA HN;omega);have HC:=AB hcn;have HOK:=AB hok;have HS:=AB S5;obtain⟨a0,m0,l0,fA,fc,fs,BW,OF⟩:=S5.st;have c0:=(BW.cell 0).trans (rfl:_=some (Value.slice K.t.na K.t.nl K.t.nc));rw[hna] at c0;have hiN:(0:Int)≤(b:Int)∧(b:Int)<(K.t.nl:Int):=by have:=AA HN;omega
    have lW:=BW.lt;clear OF S5 hna hnl hok hcn;go_upto_region 6 with fail
    iterate 25 go_step
    refine wpList_load_sty (.tmp 61) rfl bn (on+b*44+1) rfl rfl nd.s (fun x v hv=>(by have h1:=(AA HC) (1+x) v (by rw[Nat.add_comm];exact hv);rwa [←Nat.add_assoc] at h1)) ?_;simp only[AC];refine wpList_var rfl rfl 65 rfl 10 rfl (.tmp 62) rfl rfl zsty.cells nd.s.cells zero_sty rfl rfl (info_style _) rfl (by kernel_rfl) ?_;intro w6 BS hx z2;simp only[AC];have S:=(AA HS).step hx;replace KS:=AB ((AA KS).trans (KeepS.of hx));replace OW:=own_ext OW hx;generalize w5.heap.size=gS at *;clear HS c0 lW BW lbn z2 hx fs fc fA l0 m0 a0 HOK HC hnd;have k13:=(BS.cell 32).trans (rfl:_=some (Value.int .u8 nd.s.align));have k14:=(BS.cell 33).trans (rfl:_=some (Value.int .i64 nd.s.line));have lS:=BS.lt;have HB6:=AB S.bd;have HS:=AB S;obtain⟨a,m,l,fA,fc,fs,BW,OF⟩:=S.st;rw[AA HN] at BW;have c7:=(BW.cell 7).trans (rfl:_=some (Value.int .i64 a));have c10:=(BW.cell 10).trans (rfl:_=some (Value.slice fA F fc));have c15:=(BW.cell 15).trans (rfl:_=some (Value.slice (some ⟨K.gR,0,none⟩) n n));have RF:=Rd.of_own OF;have lW:=BW.lt;have fW:=BW.frozen;clear OF S;have cFl:=fun x2 w rw rf=>AB (fill16_any Aw fA mw cw F fc nd.s.line nd.s.align x x2 a ws fs w rw (by have h1:=AA hm';have h2:=AA hb4;rw[hkl2] at h2;omega) (AA HWO) rf (by omega))
    go_upto_region 7 with fail;refine wp_region_ord [(1,0),(1,1),(1,2),(0,3),(1,4),(1,5),(1,6),(1,7),(0,8),(1,9),(0,10),(1,11),(1,12),(1,13),(1,14),(1,15),(0,16),(1,17),(1,18),(1,19),(0,20),(2,21),(1,22),(1,23),(1,24),(1,25),(3,26),(1,27),(1,28),(3,29)] 26 (fun w'=>Ext w6 w') (by kernel_rfl) (by kernel_rfl) rfl (by kernel_rfl) ((Ext.refl _).drew) ?_;simp only[AD]
    iterate 21 ((first|refine ordQA ?_|refine ordQB ?_);simp only[AC])
    refine ord_keep ?_;go_wp2_with fail
    with_reducible refine (AA (cFl _ _ (Rd.of_own (own_ext OW (Ext.refl w6).drew)) (RF.ext (Ext.refl w6).drew))).mono ?_
    rintro e w7 ⟨A3,m3,c3,z3,rs,rfl,hm3,FS⟩;have hx:=FS.ext;have HX:=AB ((Ext.refl w6).drew.trans hx);clear hx;clear lW fW BW c7 c10 c15 RF;have S:=(AA HS).step (AA HX);replace KS:=AB ((AA KS).trans (KeepS.of (AA HX)));clear HS;go_wp2_with fail;refine⟨AA HX,?_⟩
    iterate 4 ((first|refine ordQA ?_|refine ordQB ?_);simp only[AC])
    refine ord_last ?_;obtain⟨rv,hrv,BR,-⟩:=S.rows;rw[AA HN] at hrv;obtain⟨vR,hvR⟩:∃v,rv[b]?=some v:=⟨_,AE (by omega)⟩
    have kR:=(BR.cell b).trans (show _=some vR by rw[List.getElem?_toArray,hvR]);have lR:=BR.lt;have zR:=BR.frozen b;clear hvR BR hrv;go_wp2_with fail;have RO:=FS.rowsO (B:=K.B) (AA HB6) hm3;have hnw:NW b=mw:=by have h1:=(AA HNW) b;have h2:=AA hm';rw[hkl2] at h1;omega
    rw[←hnw] at RO;have KS7:=S.keepR b (.slice A3 m3 c3);replace S:=S.setR (i:=b) RO;replace KS:=AB ((AA KS).trans KS7);clear kR lR zR RO hnw FS KS7 OW;generalize World.setCell w7 ⟨K.gR,b,none⟩ (.slice A3 m3 c3)=w8 at *;have HS:=AB S;obtain⟨a,m,l,fA,fc,fs,BW,OF⟩:=S.st;rw[AA HN] at BW;have c7:=(BW.cell 7).trans (rfl:_=some (Value.int .i64 a));have lW:=BW.lt;have fW:=BW.frozen;clear OF S
    iterate 2 ((first|refine ordQA ?_|refine ordQB ?_);simp only[AC])
    refine ord_last ?_;go_wp2_with fail;refine ord_nil ?_;have S:=(AA HS).setAt z3;replace KS:=AB ((AA KS).trans ((AA HS).keepW 7 (.int .i64 z3)));clear lW fW BW c7;clear HS;generalize World.setCell w8 ⟨K.gW,7,none⟩ (.int .i64 z3)=w9 at *;go_wp2_with fail;refine bodyPost_ret (v:=.tuple #[]) (by simp[results,Tryz.results149,go_sem]) rfl ?_;exact⟨rfl,⟨F,by have:=endN_gt ns b;omega,S⟩,AA KS⟩
   ·have hmI:¬(0:Int)<(mw:Int):=by omega
    go_wp2_with fail;refine bodyPost_ret (v:=.tuple #[]) (by simp[results,Tryz.results149,go_sem]) rfl ?_;exact⟨rfl,⟨F,by have:=endN_gt ns b;omega,S⟩,AA KS⟩
end
end Go.Proofs.YtamldoocjjdidaaGreat
