import Derived.Test.YtamldoocjjdidaaGreatMHuL
namespace Go.Proofs.YtamldoocjjdidaaGreat
open Go.RowKit
set_option maxRecDepth 100000
set_option maxHeartbeats 64000000
section
variable {w:World} {ns:List Nd} {av:List Int} {un:Nat→List Int} {us:List Us} {hs:List Int}
theorem block22_any (t:Tr) (root:Nat) (hr:root<ns.length) (uA hA:Option Addr) (nu uc nh hc:Nat) (h:LT w t ns av un) (ru:Rd w 3 uA nu (recs usC us)) (uok:∀u∈us,UsOk u) (rh:Rd w 1 hA nh (ints hs)) (few:nu≤1000000∧nh≤1000000) :
  Calls Tryz.prog 84 #[.agg t.cs,.int .i64 root,.slice uA nu uc,.slice hA nh hc] w (IsleIs w ns.length):=by
 have hf:=h.few;have hnl:=h.tr.nodes.nlen;have H:=AB h;have hm:t.nl≤1000000:=by omega
 have cN:=fun w h ru rh=>AB (new22_any (w:=w) (us:=us) (hs:=hs) (av:=av) (un:=un) t root hr uA hA nu uc nh hc h ru uok rh few)
 have hr':=AB hr;clear h hnl;go_enter Tryz.func84,Tryz.ntmps84;go_upto_region 1 with fail;generalize hw1:World.alloc (World.alloc w _) _=w1;obtain⟨gT,hgT⟩:∃g,w.heap.size=g:=⟨_,rfl⟩
 have BT:Blk w1 gT 25 t.cs:=by rw[←hw1,←hgT];exact (Blk.new _ _ _).alloc _
 have BZ:Blk w1 (gT+1) 117 (ilC zIl).toArray:=by rw[←hw1,←hgT];exact Blk.new1 _ _ _ _
 have E1:=AB (show Ext w w1 by rw[←hw1];exact ((Ext.refl _).alloc _).alloc _);rw[hgT];have HGT:=AB hgT;clear hgT hw1;have c0:=(BT.cell 0).trans (rfl:_=some (Value.slice t.na t.nl t.nc));have c1:=(BT.cell 1).trans (rfl:_=some (Value.slice t.aa t.al t.ac));have c2:=(BT.cell 2).trans (rfl:_=some (Value.int .i64 t.view));have lT:=BT.lt;go_wp2_with fail
 with_reducible refine (AA (cN _ ((AA H).ext (AA E1)) (ru.ext (AA E1)) (rh.ext (AA E1)))).mono ?_
 rintro e w2 ⟨K,F,rfl,hkt,hF,I,S⟩;have hF6:F≤1000000:=by omega
 clear cN c0 c1 c2 lT ru rh hF;subst hkt;replace BT:=BT.ext S.ext;replace BZ:=BZ.ext S.ext;obtain⟨zs,hzs⟩:∃l,insN ns (root:Int)=l:=⟨_,rfl⟩
 have HZ:=AB (fun z (hz:z∈zs)=>insN_mem (hzs▸hz));have hzl:zs.length≤ns.length:=by rw[←hzs];exact insN_len ns _
 have cI:=fun w h=>AB (refinside_any K.t ns I.lt.ok (root:Int) w h hm)
 rw[hzs] at cI;clear hzs;have c0:=(BT.cell 0).trans (rfl:_=some (Value.slice K.t.na K.t.nl K.t.nc));have c1:=(BT.cell 1).trans (rfl:_=some (Value.slice K.t.aa K.t.al K.t.ac));have c2:=(BT.cell 2).trans (rfl:_=some (Value.int .i64 K.t.view));have lT:=BT.lt;go_wp2_with fail
 with_reducible refine (AA (cI _ (I.lt.ext S.ext).tr.nodes)).mono ?_
 rintro e w3 ⟨An,cn,rfl,RN,hx,hfr⟩;have HFR:=AB (fun b off (e:An=some ⟨b,off,none⟩)=>show gT+1<b by have h1:=hfr b off e;have h2:=BZ.lt;omega);replace S:=S.step hx;replace BT:=BT.ext hx;replace BZ:=BZ.ext hx;clear hx cI c0 c1 c2 lT hfr;dsimp only
 iterate 4 go_step
 refine wpList_var rfl rfl 117 rfl 10 rfl (.tmp 34) rfl rfl (ilC zIl).toArray (ilC ⟨An,zs.length,cn,none,0,0,none,0,0,0,none,0,0,false⟩).toArray ilC_zero rfl rfl (ilC_size _) rfl (by kernel_rfl) ?_;intro w4 BI hx z4;simp only[AC];have L:BSt w3 w4 w3.heap.size ⟨An,zs.length,cn,none,0,0,none,0,0,0,none,0,0,false⟩ 0 [] []:=⟨hx,BI,own_nil _ _ _ _,by simp,own_nil _ _ _ _,rfl,Nat.le_refl _⟩
 generalize w3.heap.size=gI at *;clear BI hx z4;obtain⟨n,hn2⟩:∃n,ns.length=n:=⟨_,rfl⟩
 have HN:=AB hn2;rw[hn2] at hr hf hzl;have hN2:=AB hn2;clear hn2;have S3:=AB S;have BT3:=AB BT;have BZ3:=AB BZ;have RN3:=AB RN;have HF:=AB frag_row;have HB:=AB bool_row;clear S BT BZ RN;go_wp2_with fail;go_loopw [11] (fun v11 wq=>∃(i:Nat) (rA:Option Addr) (rc:Nat) (bA:Option Addr) (bc:Nat) (fgs:List Fg) (bl:List Bool),v11=.int .i64 i∧i≤zs.length∧BSt w3 wq gI ⟨An,zs.length,cn,rA,i,rc,bA,i,bc,0,none,0,0,false⟩ i fgs bl) (fun v11 _=>zs.length-(intOf v11).toNat)
 case atStart=>exact⟨0,none,0,none,0,[],[],rfl,by omega,L⟩
 case round=>
  clear L;obtain⟨i,rA,rc,bA,bc,fgs,bl,rfl,hi,L⟩:=hrel;have i0:=(L.bi.cell 0).trans (rfl:_=some (Value.slice An zs.length cn));have lI:=L.bi.lt;have S:=(AA S3).step L.ext;by_cases hiz:i<zs.length
  ·as_aux_lemma=>
   have hizI:(0:Int)≤(i:Int)∧(i:Int)<(zs.length:Int):=by omega
   have rn:=(AA RN3).ext L.ext;obtain⟨z,hz⟩:∃z,zs[i]?=some z:=⟨_,AE hiz⟩
   obtain⟨k,rfl,hk1,hk⟩:=(AA HZ) z (List.mem_of_getElem? hz);obtain⟨ba,oa,hAn,la,-⟩:=rn.at_ (by omega);subst hAn;have q1:=(rn.cellAt hiz (show (ints zs)[i]?=some (Value.int .i64 (k:Int)) by rw[ints,List.getElem?_map,hz];rfl)).2;obtain⟨p,hp,hpk⟩:=I.lt.ok.par (by omega:0<k) hk;obtain⟨nd,bn,on,hnd,hna,hnl,lbn,hok,hcn⟩:=I.node S.ext hk;have hndp:nd.p=(p:Int):=by rw[←hp,nP,hnd]
   have q2:=hcn 0 _ (show nd.cells[0]?=some (Value.int .i64 nd.p) from rfl);rw[hndp,Nat.add_zero] at q2;have BTr:=(AA BT3).ext L.ext;have t0:=(BTr.cell 0).trans (rfl:_=some (Value.slice K.t.na K.t.nl K.t.nc));rw[hna] at t0;have lT:=BTr.lt;have hiN:(0:Int)≤(k:Int)∧(k:Int)<(K.t.nl:Int):=by omega
   have HK:=AB hk;rw[AA HN] at hk;have hkI:(0:Int)≤(k:Int)∧(k:Int)<(n:Int):=by omega
   have hpI:(0:Int)≤(p:Int)∧(p:Int)<(n:Int):=by omega
   clear rn hz hp hnd hna hnl hok hcn hndp BTr;go_upto_region 8 with fail;clear q1 q2 t0 lT la lbn i0 lI;have HS:=AB S;obtain⟨a,m,l,gA,gc,gs,BW,OF⟩:=S.st;rw[AA HN] at BW;have c12:=(BW.cell 12).trans (rfl:_=some (Value.slice (some ⟨K.gX,0,none⟩) n n));have c13:=(BW.cell 13).trans (rfl:_=some (Value.slice (some ⟨K.gY,0,none⟩) n n));have c14:=(BW.cell 14).trans (rfl:_=some (Value.slice (some ⟨K.gH,0,none⟩) n n));have lW:=BW.lt;obtain⟨lX,hlX,BX⟩:=S.xs;obtain⟨lY,hlY,BY⟩:=S.ys;obtain⟨lH,hlH,BH⟩:=S.hs;rw[AA HN] at hlX hlY hlH;obtain⟨xk,hxk⟩:∃v,lX[k]?=some v:=⟨_,AE (by omega)⟩
   obtain⟨xp,hxp⟩:∃v,lX[p]?=some v:=⟨_,AE (by omega)⟩
   obtain⟨yk,hyk⟩:∃v,lY[k]?=some v:=⟨_,AE (by omega)⟩
   obtain⟨yp,hyp⟩:∃v,lY[p]?=some v:=⟨_,AE (by omega)⟩
   obtain⟨hk_,hhk⟩:∃v,lH[k]?=some v:=⟨_,AE (by omega)⟩
   have kXk:=(BX.cell k).trans (show _=some (Value.int .i64 xk) by rw[List.getElem?_toArray,ints,List.getElem?_map,hxk];rfl);have kXp:=(BX.cell p).trans (show _=some (Value.int .i64 xp) by rw[List.getElem?_toArray,ints,List.getElem?_map,hxp];rfl);have kYk:=(BY.cell k).trans (show _=some (Value.int .i64 yk) by rw[List.getElem?_toArray,ints,List.getElem?_map,hyk];rfl);have kYp:=(BY.cell p).trans (show _=some (Value.int .i64 yp) by rw[List.getElem?_toArray,ints,List.getElem?_map,hyp];rfl);have kHk:=(BH.cell k).trans (show _=some (Value.int .i64 hk_) by rw[List.getElem?_toArray,ints,List.getElem?_map,hhk];rfl);have qX:=BX.lt;have qY:=BY.lt;have qH:=BH.lt;have cWi:=fun w S=>AB (wide22_any (w:=w) (NW:=fun b=>wordsK un (kidsN ns ns.length b)) (F:=F) I k (AA HK) S)
   obtain⟨d1,hd1⟩:∃z,IntKind.i64.wrap (xk-xp)=z:=⟨_,rfl⟩
   obtain⟨d2,hd2⟩:∃z,IntKind.i64.wrap (yk-yp)=z:=⟨_,rfl⟩
   clear OF S hlX hlY hlH hxk hxp hyk hyp hhk BX BY BH BW;refine wp_region_flt [(1,0),(1,1),(1,2),(0,3),(1,4),(1,5),(0,6),(1,7),(1,8),(1,9),(0,10),(1,11),(1,12),(0,13),(1,14),(1,15),(1,16),(1,17),(0,18),(1,19),(1,20),(0,21),(1,22),(1,23),(1,24),(0,25),(1,26),(1,27),(0,28),(1,29),(1,30),(1,31),(1,33),(1,34),(1,35),(0,36),(1,37),(1,38),(0,39)] [45] [(2,32),(1,40),(2,41),(1,42),(1,43),(1,44)] [(2,46),(1,47)] (fun _ v w'=>∃g,v=.pointer (some ⟨g,0,none⟩)∧wr.heap.size≤g∧Blk w' g 58 (fgC zFg).toArray) (by kernel_rfl) (by kernel_rfl) (by kernel_rfl) (fun j v w w' h hx=>by obtain⟨g,h1,h2,h3⟩:=h;exact⟨g,h1,h2,h3.ext hx⟩) ?_;simp only[AD]
   iterate 39 ((first|refine ordQA ?_|refine ordQB ?_);simp only[AC])
   refine ord_nil ?_;clear c12 c13 c14 lW kXk kXp kYk kYp kHk qX qY qH hd1 hd2;refine⟨fun j hj=>?_,?_⟩
   ·obtain rfl:=List.mem_singleton.1 hj;refine⟨_,rfl,rfl,fun w' hx hW=>⟨.pointer (some ⟨w'.heap.size,0,none⟩),w'.alloc (.cells (fgC zFg).toArray 58),?_,(Ext.refl _).alloc _,_,rfl,hW.size,Blk.new _ _ _⟩⟩;go_simp;rfl
   ·refine flt_keep (fun w13 hT hW=>?_);have HW:=AB hW;clear hT hW;go_wp2_with fail
    with_reducible refine (AA (cWi _ ((AA HS).step (AA HW)))).mono ?_
    rintro e w14 ⟨z3,rfl,hx⟩;have HX:=AB hx;clear hx HW;go_wp2_with fail;refine⟨AA HX,?_⟩;clear HX
    iterate 1 (
     (first
      |(refine flt_pure (v:=?_) ?_ (fun w'=>?_) ?_;rotate_left;rfl;(focus (go_simp;rfl)))
      |(refine flt_hold (v:=?_) ?_ (fun w' hI=>?_) ?_;rotate_left;rfl;(focus (have hc:=hI.cells.1;go_simp;rfl))))
     simp only[AC])
    refine flt_keep (fun w15 hT hW=>?_);have HW:=AB hW;clear hT hW;go_wp2_with fail
    with_reducible refine (cut_fg _ _ _ _ _ _ _ _).mono ?_
    rintro e w16 ⟨⟨f0,f1,f2,f3,fl,fm,fv⟩,cb,rfl,hfo,⟨rfl,rfl,rfl⟩,hx⟩;have HX:=AB hx;have HFO:=AB hfo;replace HW:=AB ((AA HW).trans hx);clear hx hfo;go_wp2_with fail;refine⟨AA HX,?_⟩;clear HX
    iterate 3 (
     (first
      |(refine flt_pure (v:=?_) ?_ (fun w'=>?_) ?_;rotate_left;rfl;(focus (go_simp;rfl)))
      |(refine flt_hold (v:=?_) ?_ (fun w' hI=>?_) ?_;rotate_left;rfl;(focus (have hc:=hI.cells.1;go_simp;rfl))))
     simp only[AC])
    refine flt_nil ?_;intro w17 vs hT hR;obtain⟨gF,hv,hlo,BF⟩:=hR 45 (List.mem_singleton.2 rfl);replace HW:=AB ((AA HW).trans hT);clear hT hR
    show wpOrdL _ _ _ _ _ (Act.put _ (some 14) (vs 45)) _
    rw[hv];clear hv vs;simp only[AC];refine ord_keep ?_;refine wpList_store_blk rfl 58 (.tmp 14) (.tmp 96) rfl gF rfl (fgC ⟨f0,f1,f2,f3,none,0,0⟩).toArray rfl 58 (fgC zFg).toArray BF (fgC_size _) rfl (by kernel_rfl) ?_;clear BF;intro w18 BF g18 z18;have hx:=(AA HW).grown g18 (fun q e=>by have:=Option.some.inj e;omega);clear g18 z18 HW;refine⟨rfl,hx,?_⟩;simp only[Act.put]
    iterate 1 ((first|refine ordQA ?_|refine ordQB ?_);simp only[AC])
    refine ord_nil ?_;have hne:=AB (show ∀q,(Value.slice rA i rc).ownBlock=some q→q≠gF from fun q e=>by have:=(L.of.lt q e).2;omega);have hlF:=AB (show w3.heap.size≤gF by have:=L.ext.size;omega);have S:=(AA HS).step hx;replace L:=L.step hx;clear hx HS hlo;have HS:=AB S;obtain⟨a,m,l,fA,fc,fs,BW,OF⟩:=S.st;rw[AA HN] at BW;have c12:=(BW.cell 12).trans (rfl:_=some (Value.slice (some ⟨K.gX,0,none⟩) n n));have c13:=(BW.cell 13).trans (rfl:_=some (Value.slice (some ⟨K.gY,0,none⟩) n n));obtain⟨lX,hlX,BX⟩:=S.xs;rw[AA HN] at hlX;obtain⟨vX,hvX⟩:∃v,lX[k]?=some v:=⟨_,AE (by omega)⟩
    have kX:=(BX.cell k).trans (show _=some (Value.int .i64 vX) by rw[List.getElem?_toArray,ints,List.getElem?_map,hvX];rfl);have qX:=BX.lt;have zX:=BX.frozen k;obtain⟨lY,hlY,BY⟩:=S.ys;rw[AA HN] at hlY;obtain⟨vY,hvY⟩:∃v,lY[k]?=some v:=⟨_,AE (by omega)⟩
    have kY:=(BY.cell k).trans (show _=some (Value.int .i64 vY) by rw[List.getElem?_toArray,ints,List.getElem?_map,hvY];rfl);have qY:=BY.lt;have zY:=BY.frozen k;have lW:=BW.lt;have fW:=BW.frozen;clear OF S BX hvX BY hvY;have cLn:=fun x y w (S:WkS w1 w ns (fun b=>wordsK un (kidsN ns ns.length b)) K F)=>AB (lines22_any I (fun b=>rfl) k (AA HK) x y S)
    go_upto_region 9 with fail;refine wp_region_ord [(1,0),(1,1),(1,2),(1,3),(1,4),(0,5),(1,6),(1,7),(0,8),(1,9),(1,10),(1,11),(0,12),(1,13),(1,14),(0,15),(3,16),(1,17),(1,18),(1,19),(1,20),(1,21)] 16 (fun w'=>Ext w18 w') (by kernel_rfl) (by kernel_rfl) rfl (by kernel_rfl) ((Ext.refl _).drew) ?_;simp only[AD]
    iterate 16 ((first|refine ordQA ?_|refine ordQB ?_);simp only[AC])
    refine ord_last ?_;go_wp2_with fail
    with_reducible refine (AA (cLn _ _ _ ((AA HS).step (Ext.refl w18).drew))).mono ?_
    rintro e w19 ⟨Al,ml,cl,mb,rfl,hLO,hx⟩;have HX:=AB ((Ext.refl w18).drew.trans hx);have HLO:=AB (hLO.mono (show w3.heap.size≤_ from L.ext.size));clear hx hLO cLn;clear lW fW BW c12 c13 kX qX zX hlX kY qY zY hlY;go_wp2_with fail
    iterate 5 ((first|refine ordQA ?_|refine ordQB ?_);simp only[AC])
    refine ord_nil ?_;replace L:=L.step (AA HX);replace BF:=BF.ext (AA HX);clear HX HS;have lF:=BF.lt;have fF:=BF.frozen;have k4:=(BF.cell 4).trans (rfl:_=some (Value.slice none 0 0));go_upto_region 11 with fail;clear lF fF k4;have gF4:=gsCell (w:=w19) gF 4 (u:=.slice Al ml cl);replace L:=L.varF BF gF4 (AA hlF) (AA hne);replace HLO:=AB ((AA HLO).far gF4 BF (by decide) (by decide));replace BF:=BF.set_ 4 (.slice Al ml cl);rw[show (fgC ⟨f0,f1,f2,f3,none,0,0⟩).toArray.setIfInBounds 4 (.slice Al ml cl)=(fgC ⟨f0,f1,f2,f3,Al,ml,cl⟩).toArray from rfl] at BF;clear gF4 hne hlF;generalize World.setCell w19 ⟨gF,4,none⟩ (.slice Al ml cl)=w20 at *;have i1:=(L.bi.cell 1).trans (rfl:_=some (Value.slice rA i rc));have lI:=L.bi.lt
    iterate 7 go_step
    refine wpList_load_blk rfl 58 (.tmp 14) rfl gF rfl 58 (fgC ⟨f0,f1,f2,f3,Al,ml,cl⟩).toArray _ BF Tryz.underlying58 rfl (fgC_size _) ?_;simp only[AC];clear BF i1 lI;refine Go.Great.wpList_buildSliceTo rfl 28 58 1 _ rfl _ rfl _ rfl Tryz.underlying28 (fgC ⟨f0,f1,f2,f3,Al,ml,cl⟩).toArray (by kernel_rfl) ?_;simp only[AC];have hx:Ext w20 (w20.alloc (.cells (fgC ⟨f0,f1,f2,f3,Al,ml,cl⟩).toArray 58)):=(Ext.refl _).alloc _;have R5:Rd (w20.alloc (.cells (fgC ⟨f0,f1,f2,f3,Al,ml,cl⟩).toArray 58)) 5 (some ⟨w20.heap.size,0,none⟩) 1 (fgC ⟨f0,f1,f2,f3,Al,ml,cl⟩):=(Blk.new w20 58 (fgC ⟨f0,f1,f2,f3,Al,ml,cl⟩).toArray).rdk (n:=1) (k:=5) rfl;replace L:=L.step hx;replace HLO:=AB ((AA HLO).ext hx);clear hx;generalize w20.alloc (.cells (fgC ⟨f0,f1,f2,f3,Al,ml,cl⟩).toArray 58)=w21 at *;generalize w20.heap.size=gqw21 at *;refine wpList_pushL (W:=w3) rfl (.tmp 121) (.tmp 123) 28 rfl w3.heap.size 58 5 Tryz.underlying28 HF (by omega) _ i (recs fgC fgs) rfl L.of _ 1 1 (fgC ⟨f0,f1,f2,f3,Al,ml,cl⟩) rfl R5 (fgC_one _) (by omega) L.ext (Nat.le_refl _) L.ext.size ?_;intro A5 c5 w22 O5 E5 g5 at5;have L2:BSt w3 (w22.setCell ⟨gI,1,none⟩ (.slice A5 (i+1) c5)) gI ⟨some ⟨ba,oa,none⟩,zs.length,cn,A5,i+1,c5,bA,i,bc,0,none,0,0,false⟩ (i+1) (fgs++[⟨f0,f1,f2,f3,Al,ml,cl⟩]) bl:=L.pushF ⟨(AA HFO).1,(AA HFO).2.1,(AA HFO).2.2.1,(AA HFO).2.2.2,AA HLO⟩ g5 E5 O5;have BI9:=L.bi.grownOwn g5 (own_blk_ne L.of L.bi (by decide));have lI:=BI9.lt;have fI:=BI9.frozen 1;have i1:=(BI9.cell 1).trans (rfl:_=some (Value.slice rA i rc));clear O5 E5 g5 at5 R5 L HLO BI9;simp only[AC];go_upto_region 12 with fail;clear lI fI i1;generalize World.setCell w22 ⟨gI,1,none⟩ (.slice A5 (i+1) c5)=w23 at *;have i2:=(L2.bi.cell 2).trans (rfl:_=some (Value.slice bA i bc));have lI:=L2.bi.lt;cases cb
    ·iterate 13 go_step
     go_guarded
     iterate 5 go_step
     clear i2 lI;refine Go.Great.wpList_buildSliceTo rfl 106 4 1 _ rfl _ rfl _ rfl Tryz.underlying106 ([.bool mb]).toArray (by kernel_rfl) ?_;simp only[AC];have hx:Ext w23 (w23.alloc (.cells ([.bool mb]).toArray 4)):=(Ext.refl _).alloc _;have R5:Rd (w23.alloc (.cells ([.bool mb]).toArray 4)) 1 (some ⟨w23.heap.size,0,none⟩) 1 ([.bool mb]):=(Blk.new w23 4 ([.bool mb]).toArray).rdk (n:=1) (k:=1) rfl;replace L2:=L2.step hx;clear hx;generalize w23.alloc (.cells ([.bool mb]).toArray 4)=w24 at *;generalize w23.heap.size=gqw24 at *;refine wpList_pushL (W:=w3) rfl (.tmp 127) (.tmp 132) 106 rfl w3.heap.size 4 1 Tryz.underlying106 HB (by omega) _ i (boolL bl) rfl L2.ob _ 1 1 [.bool mb] rfl R5 (by simp[Value.oneCell']) (by omega) L2.ext (Nat.le_refl _) L2.ext.size ?_;intro A6 c6 w25 O6 E6 g6 at6;have L3:BSt w3 (w25.setCell ⟨gI,2,none⟩ (.slice A6 (i+1) c6)) gI ⟨some ⟨ba,oa,none⟩,zs.length,cn,A5,i+1,c5,A6,i+1,c6,0,none,0,0,false⟩ (i+1) _ (bl++[mb]):=L2.pushB g6 E6 O6;have BI9:=L2.bi.grownOwn g6 (own_blk_ne L2.ob L2.bi (by decide));have lI:=BI9.lt;have fI:=BI9.frozen 2;have i2:=(BI9.cell 2).trans (rfl:_=some (Value.slice bA i bc));clear O6 E6 g6 at6 R5 L2 BI9;simp only[AC];go_wp2_with fail;go_roundw
     case rel=>exact⟨i+1,A5,c5,A6,c6,_,_,by go_num,by omega,L3⟩
     case measure=>simp[intOf];omega
    ·iterate 13 go_step
     first
      |go_skip
      |go_guarded
     iterate 3 go_step
     clear i2 lI;refine Go.Great.wpList_buildSliceTo rfl 106 4 1 _ rfl _ rfl _ rfl Tryz.underlying106 ([.bool true]).toArray (by kernel_rfl) ?_;simp only[AC];have hx:Ext w23 (w23.alloc (.cells ([.bool true]).toArray 4)):=(Ext.refl _).alloc _;have R5:Rd (w23.alloc (.cells ([.bool true]).toArray 4)) 1 (some ⟨w23.heap.size,0,none⟩) 1 ([.bool true]):=(Blk.new w23 4 ([.bool true]).toArray).rdk (n:=1) (k:=1) rfl;replace L2:=L2.step hx;clear hx;generalize w23.alloc (.cells ([.bool true]).toArray 4)=w24 at *;generalize w23.heap.size=gqw24 at *;refine wpList_pushL (W:=w3) rfl (.tmp 127) (.tmp 132) 106 rfl w3.heap.size 4 1 Tryz.underlying106 HB (by omega) _ i (boolL bl) rfl L2.ob _ 1 1 [.bool true] rfl R5 (by simp[Value.oneCell']) (by omega) L2.ext (Nat.le_refl _) L2.ext.size ?_;intro A6 c6 w25 O6 E6 g6 at6;have L3:BSt w3 (w25.setCell ⟨gI,2,none⟩ (.slice A6 (i+1) c6)) gI ⟨some ⟨ba,oa,none⟩,zs.length,cn,A5,i+1,c5,A6,i+1,c6,0,none,0,0,false⟩ (i+1) _ (bl++[true]):=L2.pushB g6 E6 O6;have BI9:=L2.bi.grownOwn g6 (own_blk_ne L2.ob L2.bi (by decide));have lI:=BI9.lt;have fI:=BI9.frozen 2;have i2:=(BI9.cell 2).trans (rfl:_=some (Value.slice bA i bc));clear O6 E6 g6 at6 R5 L2 BI9;simp only[AC];go_wp2_with fail;go_roundw
     case rel=>exact⟨i+1,A5,c5,A6,c6,_,_,by go_num,by omega,L3⟩
     case measure=>simp[intOf];omega
  ·as_aux_lemma=>
   have hizI:¬(i:Int)<(zs.length:Int):=by omega
   obtain⟨nd,bn,on,hnd,hna,hnl,lbn,hok,hcn⟩:=I.node S.ext (AA hr');have HC:=AB hcn;have HOK:=AB hok;have hiN:(0:Int)≤(root:Int)∧(root:Int)<(K.t.nl:Int):=by have:=AA HN;omega
   have hiI:(0:Int)≤(root:Int)∧(root:Int)<(n:Int):=by omega
   have BTr:=(AA BT3).ext L.ext;have t0:=(BTr.cell 0).trans (rfl:_=some (Value.slice K.t.na K.t.nl K.t.nc));rw[hna] at t0;have lT:=BTr.lt;clear hnd hna hnl hok hcn BTr;go_upto_region 13 with fail
   iterate 16 go_step
   refine wpList_load_sty (.tmp 139) rfl bn (on+root*44+1) rfl rfl nd.s (fun x v hv=>(by have h1:=(AA HC) (1+x) v (by rw[Nat.add_comm];exact hv);rwa [←Nat.add_assoc] at h1)) ?_;simp only[AC];refine wpList_var rfl rfl 65 rfl 18 rfl (.tmp 140) rfl rfl zsty.cells nd.s.cells zero_sty rfl rfl (info_style _) rfl (by kernel_rfl) ?_;intro w5 BS hx z5;simp only[AC];replace L:=L.step hx;replace S:=S.step hx;generalize wr.heap.size=gS at *;clear hx z5 HC t0 lT lbn i0 lI;have cM:=fun w (S:WkS w1 w ns (fun b=>wordsK un (kidsN ns ns.length b)) K F)=>AB (mark22_any S)
   have HS:=AB S;obtain⟨a,m,l,fA,fc,fs,BW,OF⟩:=S.st;rw[AA HN] at BW;have c10:=(BW.cell 10).trans (rfl:_=some (Value.slice fA F fc));have RF:=Rd.of_own OF;have lW:=BW.lt;have fW:=BW.frozen;clear OF S;have cCl:=fun s y w rf=>AB (clear_any fA F fc s y fs w rf hF6)
   go_upto_region 14 with fail;refine wp_region_ord [(1,0),(1,1),(1,2),(0,3),(1,4),(2,5),(3,6),(1,7),(1,8)] 6 (fun w'=>Ext w5 w') (by kernel_rfl) (by kernel_rfl) rfl (by kernel_rfl) ((Ext.refl _).drew) ?_;simp only[AD]
   iterate 5 ((first|refine ordQA ?_|refine ordQB ?_);simp only[AC])
   refine ord_keep ?_;go_wp2_with fail
   with_reducible refine (AA (cM _ ((AA HS).step (Ext.refl w5).drew))).mono ?_
   rintro e w6 ⟨z1,rfl,hx⟩;have HX:=AB ((Ext.refl w5).drew.trans hx);have RF':=RF;clear hx;clear lW fW BW c10 RF;go_wp2_with fail;refine⟨AA HX,?_⟩;refine ord_last ?_;go_wp2_with fail
   with_reducible refine (AA (cCl _ _ _ (RF'.ext (AA HX)))).mono ?_
   rintro e w7 ⟨z2,rfl,hx⟩;replace HX:=AB ((AA HX).trans hx);clear hx RF' cCl cM;obtain⟨av_,hav⟩:∃z,max 0 z2=z:=⟨_,rfl⟩
   go_wp2_with fail
   iterate 2 ((first|refine ordQA ?_|refine ordQB ?_);simp only[AC])
   refine ord_nil ?_;clear hav;have S:=(AA HS).step (AA HX);replace L:=L.step (AA HX);replace BS:=BS.ext (AA HX);clear HX HS;have cFr:=fun w=>AB (ref_frame nd.s (AA HOK).thin w)
   obtain⟨xA,hxA⟩:∃z,nd.s.b3+nd.s.b1+nd.s.p3+nd.s.p1=z:=⟨_,rfl⟩
   obtain⟨xD,hxD⟩:∃z,nd.s.b0+nd.s.b2+nd.s.p0+nd.s.p2=z:=⟨_,rfl⟩
   rw[hxA,hxD] at cFr;clear hxA hxD;go_upto_region 15 with fail;go_step;refine wpList_load_blk rfl 65 (.tmp 18) rfl gS rfl 65 nd.s.cells _ BS Tryz.underlying65 rfl (info_style _) ?_;simp only[AC];go_wp2_with fail
   with_reducible refine (AA (cFr _)).mono ?_
   rintro e w8 ⟨rfl,hx⟩;replace S:=S.step hx;replace L:=L.step hx;replace BS:=BS.ext hx;clear hx cFr;have cH:=fun w=>AB (ref_high nd.s av_ w)
   obtain⟨hv,hhv⟩:∃z,highV nd.s av_=z:=⟨_,rfl⟩
   rw[hhv] at cH;clear hhv;go_upto_region 16 with fail;go_step;refine wpList_load_blk rfl 65 (.tmp 18) rfl gS rfl 65 nd.s.cells _ BS Tryz.underlying65 rfl (info_style _) ?_;simp only[AC];go_wp2_with fail
   with_reducible refine (AA (cH _)).mono ?_
   rintro e w9 ⟨rfl,hx⟩;replace S:=S.step hx;replace L:=L.step hx;clear hx cH BS;obtain⟨s1,hs1⟩:∃z,IntKind.i64.wrap (hv+xD)=z:=⟨_,rfl⟩
   have cC:=fun w=>AB (ref_cut s1 w)
   obtain⟨hi_,hhi⟩:∃z,cutV s1=z:=⟨_,rfl⟩
   obtain⟨cb,hcb⟩:∃z,cutB s1=z:=⟨_,rfl⟩
   have HHi:=AB (show InM hi_ by rw[←hhi];exact cutV_in s1);simp only[hhi,hcb] at cC;clear hhi hcb;go_wp2_with fail
   with_reducible refine (AA (cC _)).mono ?_
   rintro e w10 ⟨rfl,hw10⟩;subst hw10;clear hs1 cC;have i3:=(L.bi.cell 3).trans (rfl:_=some (Value.int .i64 0));have lI:=L.bi.lt;have fI:=L.bi.frozen 3;go_upto_region 18 with fail;clear i3 lI fI;replace L:=L.cell (il':=⟨An,zs.length,cn,rA,i,rc,bA,i,bc,hi_,none,0,0,false⟩) 3 (.int .i64 hi_) rfl ⟨rfl,rfl,rfl⟩ ⟨rfl,rfl,rfl⟩;clear S;generalize World.setCell w9 ⟨gI,3,none⟩ (.int .i64 hi_)=w11 at *;have S:=(AA S3).step L.ext;have HS:=AB S;obtain⟨a,m,l,fA,fc,fs,BW,OF⟩:=S.st;rw[AA HN] at BW;have c12:=(BW.cell 12).trans (rfl:_=some (Value.slice (some ⟨K.gX,0,none⟩) n n));have c13:=(BW.cell 13).trans (rfl:_=some (Value.slice (some ⟨K.gY,0,none⟩) n n));obtain⟨lX,hlX,BX⟩:=S.xs;rw[AA HN] at hlX;obtain⟨vX,hvX⟩:∃v,lX[root]?=some v:=⟨_,AE (by omega)⟩
   have kX:=(BX.cell root).trans (show _=some (Value.int .i64 vX) by rw[List.getElem?_toArray,ints,List.getElem?_map,hvX];rfl);have qX:=BX.lt;have zX:=BX.frozen root;obtain⟨lY,hlY,BY⟩:=S.ys;rw[AA HN] at hlY;obtain⟨vY,hvY⟩:∃v,lY[root]?=some v:=⟨_,AE (by omega)⟩
   have kY:=(BY.cell root).trans (show _=some (Value.int .i64 vY) by rw[List.getElem?_toArray,ints,List.getElem?_map,hvY];rfl);have qY:=BY.lt;have zY:=BY.frozen root;have lW:=BW.lt;have fW:=BW.frozen;clear OF S BX hvX BY hvY;have cLn:=fun x y w (S:WkS w1 w ns (fun b=>wordsK un (kidsN ns ns.length b)) K F)=>AB (lines22_any I (fun b=>rfl) root (AA hr') x y S)
   refine wp_region_ord [(1,0),(1,1),(1,2),(1,3),(1,4),(0,5),(1,6),(1,7),(0,8),(1,9),(1,10),(1,11),(0,12),(1,13),(1,14),(0,15),(3,16),(1,17),(1,18),(1,19),(1,20),(1,21)] 16 (fun w'=>Ext w11 w') (by kernel_rfl) (by kernel_rfl) rfl (by kernel_rfl) ((Ext.refl _).drew) ?_;simp only[AD]
   iterate 16 ((first|refine ordQA ?_|refine ordQB ?_);simp only[AC])
   refine ord_last ?_;go_wp2_with fail
   with_reducible refine (AA (cLn _ _ _ ((AA HS).step (Ext.refl w11).drew))).mono ?_
   rintro e w12 ⟨Al,ml,cl,mb,rfl,hLO,hx⟩;have HX:=AB ((Ext.refl w11).drew.trans hx);have HLO:=AB (hLO.mono (show w3.heap.size≤_ from L.ext.size));clear hx hLO cLn;clear lW fW BW c12 c13 kX qX zX hlX kY qY zY hlY;go_wp2_with fail
   iterate 5 ((first|refine ordQA ?_|refine ordQB ?_);simp only[AC])
   refine ord_nil ?_;replace L:=L.step (AA HX);clear HX HS;have i4:=(L.bi.cell 4).trans (rfl:_=some (Value.slice none 0 0));have lI:=L.bi.lt;have fI:=L.bi.frozen 4;go_upto_region 20 with fail;clear i4 lI fI;replace HLO:=AB ((AA HLO).far (gsCell (w:=w12) gI 4 (u:=.slice Al ml cl)) L.bi (by decide) (by decide));replace L:=L.cell (il':=⟨An,zs.length,cn,rA,i,rc,bA,i,bc,hi_,Al,ml,cl,false⟩) 4 (.slice Al ml cl) rfl ⟨rfl,rfl,rfl⟩ ⟨rfl,rfl,rfl⟩;generalize World.setCell w12 ⟨gI,4,none⟩ (.slice Al ml cl)=w13 at *;go_cut [] from 135 to 192 (fun wx=>∃ov:Bool,LinesO wx w3.heap.size (.slice Al ml cl)∧BSt w3 wx gI ⟨An,zs.length,cn,rA,i,rc,bA,i,bc,hi_,Al,ml,cl,ov⟩ i fgs bl)
   case first=>
    have i5:=(L.bi.cell 5).trans (rfl:_=some (Value.bool false));have lI:=L.bi.lt;have fI:=L.bi.frozen 5;cases cb
    all_goals
     go_wp2_with fail;go_meet
     case rel=>first
      |exact⟨mb,(AA HLO).far (gsCell gI 5) L.bi (by decide) (by decide),L.cell (il':=⟨An,zs.length,cn,rA,i,rc,bA,i,bc,hi_,Al,ml,cl,mb⟩) 5 (.bool mb) rfl ⟨rfl,rfl,rfl⟩ ⟨rfl,rfl,rfl⟩⟩
      |exact⟨true,(AA HLO).far (gsCell gI 5) L.bi (by decide) (by decide),L.cell (il':=⟨An,zs.length,cn,rA,i,rc,bA,i,bc,hi_,Al,ml,cl,true⟩) 5 (.bool true) rfl ⟨rfl,rfl,rfl⟩ ⟨rfl,rfl,rfl⟩⟩
   case rest=>
    clear L HLO;obtain⟨ov,HLO,L⟩:=hcut;go_upto_region 21 with fail;have BZr:=(AA BZ3).ext L.ext
    iterate 1 go_step
    refine wpList_load_blk rfl 117 (.tmp 10) rfl gI rfl 117 (ilC ⟨An,zs.length,cn,rA,i,rc,bA,i,bc,hi_,Al,ml,cl,ov⟩).toArray _ L.bi Tryz.underlying117 rfl (ilC_size _) ?_;simp only[AC];refine wpList_store_blk rfl 117 (.tmp 8) (.tmp 192) rfl (gT+1) rfl (ilC ⟨An,zs.length,cn,rA,i,rc,bA,i,bc,hi_,Al,ml,cl,ov⟩).toArray rfl 117 (ilC zIl).toArray BZr (ilC_size _) rfl (by kernel_rfl) ?_;intro w14 B14 g14 z14;simp only[Act.put];go_wp2_with fail;refine bodyPost_ret (results_cellH rfl _ _ (gT+1) 117 _ _ rfl B14 Tryz.underlying117 rfl (ilC_size _)) rfl ?_;have hE:Ext w wc:=((AA E1).trans (AA S3).ext).trans L.ext;have hB3:gT+1<w3.heap.size:=(AA BZ3).lt;have hwB:w.heap.size≤w3.heap.size:=by have:=AA HGT;omega
    refine⟨_,rfl,⟨⟨zs,((AA RN3).ext L.ext).grown g14 (fun b off e e2=>?_),fun z hz=>?_⟩,fun b off e=>?_,?_,?_,?_,⟨fgs,?_,fun f hf=>?_⟩,⟨bl,?_⟩,AA HHi,?_⟩,hE.grown g14 (fun q e=>?_)⟩
    ·have h1:=(AA HFR) b off e;have h2:=Option.some.inj e2;omega
    ·obtain⟨m,rfl,h1,h2⟩:=(AA HZ) z hz;omega
    ·have h1:=(AA HFR) b off e;have:=AA HGT;omega
    ·show zs.length≤ns.length
     rw[AA HN];exact hzl
    ·show i=zs.length
     omega
    ·show i=zs.length
     omega
    ·exact own_mono (own_grown L.of g14 (own_apart L.of hB3)) hwB
    ·exact (((L.fok f hf).keep fun k=>k.far g14 BZr (by decide) (by decide))).mono hwB
    ·exact own_mono (own_grown L.ob g14 (own_apart L.ob hB3)) hwB
    ·exact (HLO.far g14 BZr (by decide) (by decide)).mono hwB
    ·have:=Option.some.inj e;have:=AA HGT;omega
end
end Go.Proofs.YtamldoocjjdidaaGreat
