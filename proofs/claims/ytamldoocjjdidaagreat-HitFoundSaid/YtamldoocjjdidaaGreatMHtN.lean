import Derived.Test.YtamldoocjjdidaaGreatMHtT
namespace Go.Proofs.YtamldoocjjdidaaGreat
open Go.RowKit
set_option maxRecDepth 100000
set_option maxHeartbeats 64000000
def SomeB (w:World) (e:Ending) (w':World):Prop:=∃b:Bool,e=.returned (.bool b)∧Ext w w'
theorem kid_at {w:World} {b off n k:Nat} {kl:List Int} {ns:List Nd} (rk:Rd w 1 (some ⟨b,off,none⟩) n (ints kl)) (hk:KidsIn ns kl) (hkn:k<n):∃(i:Nat) (nd:Nd),kl[k]?=some (i:Int)∧ns[i]?=some nd∧i<ns.length∧b<w.heap.size∧w.cell? ⟨b,off+k,none⟩=some (.int .i64 (i:Int)):=by
 have hN:kl.length=n:=by have:=rk.len;rw[ints_len] at this;omega
 obtain⟨z,hz⟩:∃u,kl[k]?=some u:=⟨_,AE (by omega)⟩
 have hzb:=hk z (List.mem_of_getElem? hz);obtain⟨i,rfl⟩:∃i:Nat,z=(i:Int):=⟨z.toNat,by omega⟩
 obtain⟨nd,hnd⟩:∃nd,ns[i]?=some nd:=⟨_,AE (by omega)⟩
 have cl0:=rk.cellAt hkn (show (ints kl)[k]?=some (Value.int .i64 (i:Int)) by rw[ints,List.getElem?_map,hz];rfl);exact⟨i,nd,hz,hnd,by omega,cl0.1,cl0.2⟩
section
variable (t:Tr) (ns:List Nd) (av:List Int) (un:Nat→List Int)
theorem lines17_any (i:Nat) (hi:i<ns.length) (A:Option Addr) (n c:Nat) (kl:List Int) (w:World) (h:LT w t ns av un) (rk:Rd w 1 A n (ints kl)) (hk:KidsIn ns kl) (hn:n≤1000000) :
  Calls Tryz.prog 75 #[.agg t.cs,.int .i64 i,.slice A n c] w (SomeB w):=by
 obtain⟨na,nl,nc,aa,al,ac,view⟩:=t;obtain⟨nd,hnd⟩:∃nd,ns[i]?=some nd:=⟨_,AE hi⟩
 obtain⟨bn,on,hna,lbn,hcn⟩:=h.tr.nodes.node hnd;have hnl:=h.tr.nodes.nlen;simp only at hna hnl;subst hna;have HLB:=AB lbn;have ck:=hcn 1 _ (show nd.cells[1]?=some (Value.int .u8 nd.s.kind) from rfl);have hiI:(0:Int)≤(i:Int)∧(i:Int)<(nl:Int):=by omega
 have HND:=AB h.tr.nodes;have HK:=AB hk;have hkid:0<n→∃(j:Nat) (b off:Nat) (kd2:Int),A=some ⟨b,off,none⟩∧b<w.heap.size∧w.cell? ⟨b,off+0,none⟩=some (.int .i64 (j:Int))∧j<ns.length∧w.cell? ⟨bn,on+j*44+1,none⟩=some (.int .u8 kd2):=fun h0=>by
  obtain⟨b,off,rfl,_,_⟩:=rk.at_ h0;obtain⟨j,nd2,h1,h2,h3,h4,h5⟩:=kid_at rk hk h0;obtain⟨b',o',e1,_,hc2⟩:=h.tr.nodes.node h2;injection e1 with e1;injection e1 with e1 e2;subst e1 e2;exact⟨j,b,off,_,rfl,h4,h5,h3,hc2 1 _ (show nd2.cells[1]?=some (Value.int .u8 nd2.s.kind) from rfl)⟩
 have HKD:=AB hkid;clear hcn h hkid hk;obtain⟨kd,hkd⟩:∃k,nd.s.kind=k:=⟨_,rfl⟩
 rw[hkd] at ck;clear hkd;obtain⟨b1,hb1⟩:∃b,(kd==1)=b:=⟨_,rfl⟩
 go_enter Tryz.func75,Tryz.ntmps75;go_upto_region 1 with fail;have BT:Blk (w.alloc (.cells (Tr.cs ⟨some ⟨bn,on,none⟩,nl,nc,aa,al,ac,view⟩) 25)) w.heap.size 25 (Tr.cs ⟨some ⟨bn,on,none⟩,nl,nc,aa,al,ac,view⟩):=Blk.new _ _ _;have E:Ext w (w.alloc (.cells (Tr.cs ⟨some ⟨bn,on,none⟩,nl,nc,aa,al,ac,view⟩) 25)):=(Ext.refl _).alloc _;generalize w.alloc (.cells (Tr.cs ⟨some ⟨bn,on,none⟩,nl,nc,aa,al,ac,view⟩) 25)=w1 at *;generalize hgg:w.heap.size=g at *;have HG:=AB hgg;clear hgg;have ct0:=(BT.cell 0).trans (rfl:_=some (Value.slice (some ⟨bn,on,none⟩) nl nc));have lT:=BT.lt;replace ck:=(E.cells.1 bn _ (by have:=AA HG;omega)).trans ck;replace lbn:bn<w1.heap.size:=by have:=E.size;have:=AA HG;omega
 cases b1
 ·refine wp_region_ord [(1,0),(0,1),(1,2),(1,3),(1,4),(1,5),(0,6),(1,7),(1,8),(1,9),(1,10),(1,11),(1,12),(1,13),(1,14),(0,15),(1,16),(1,17),(0,18),(1,19),(1,20),(1,21),(0,22),(1,23),(1,24),(1,25)] 26 (fun w'=>Ext w1 w') (by kernel_rfl) (by kernel_rfl) rfl (by kernel_rfl) ((Ext.refl _).drew) ?_;simp only[AD]
  iterate 26 ((first|refine ordQE ?_|refine ordQF ?_|refine ordQC ?_|refine ordQD ?_);simp only[AC])
  refine ord_nil ?_;go_wp2_with fail;go_ret;exact⟨_,rfl,E.trans (Ext.refl _).drew⟩
 ·by_cases hn0:0<n
  ·have hn0I:(0:Int)<(n:Int):=by omega
   obtain⟨j,b,off,kd2,rfl,q1,q2,q3,q4⟩:=(AA HKD) hn0;have ck1:=(E.cells.1 b _ (by have:=AA HG;omega)).trans q2;have ck2:=(E.cells.1 bn _ (by have:=AA HG;have:=AA HLB;omega)).trans q4;have lb:b<w1.heap.size:=by have:=E.size;have:=AA HG;omega
   rw[Nat.add_zero] at ck1;have hjI:(0:Int)≤(j:Int)∧(j:Int)<(nl:Int):=by omega
   clear q1 q2 q3 q4;obtain⟨b2,hb2⟩:∃b,(kd2==3)=b:=⟨_,rfl⟩
   refine wp_region_ord [(1,0),(0,1),(1,2),(1,3),(1,4),(1,5),(0,6),(1,7),(1,8),(1,9),(1,10),(1,11),(1,12),(1,13),(1,14),(0,15),(1,16),(1,17),(0,18),(1,19),(1,20),(1,21),(0,22),(1,23),(1,24),(1,25)] 26 (fun w'=>Ext w1 w') (by kernel_rfl) (by kernel_rfl) rfl (by kernel_rfl) ((Ext.refl _).drew) ?_;simp only[AD]
   iterate 26 ((first|refine ordQE ?_|refine ordQF ?_|refine ordQC ?_|refine ordQD ?_);simp only[AC])
   refine ord_nil ?_;go_wp2_with fail;go_ret;exact⟨_,rfl,E.trans (Ext.refl _).drew⟩
  ·have hn0b:decide (0<n)=false:=by simp;omega
   have hn0I:¬(0:Int)<(n:Int):=by omega
   refine wp_region_ord [(1,0),(0,1),(1,2),(1,3),(1,4),(1,5),(0,6),(1,7),(1,8),(1,9),(1,10),(1,11),(1,12),(1,13),(1,14),(0,15),(1,16),(1,17),(0,18),(1,19),(1,20),(1,21),(0,22),(1,23),(1,24),(1,25)] 26 (fun w'=>Ext w1 w') (by kernel_rfl) (by kernel_rfl) rfl (by kernel_rfl) ((Ext.refl _).drew) ?_;simp only[AD]
   iterate 26 ((first|refine ordQE ?_|refine ordQF ?_|refine ordQC ?_|refine ordQD ?_);simp only[AC])
   refine ord_nil ?_;go_wp2_with fail;go_ret;exact⟨_,rfl,E.trans (Ext.refl _).drew⟩
end
def SomeN (w:World) (e:Ending) (w':World):Prop:=∃z:Int,e=.returned (.int .i64 z)∧0≤z∧Ext w w'
theorem outer17_any (s:Sty) (v:Int) (hs:s.thin) (w:World):Calls Tryz.prog 79 #[.agg s.cells,.int .i64 v] w (SomeN w):=by
 have cF:=fun w=>AB (ref_frame s hs w)
 have cB:=fun l w=>AB (bare17_any l w)
 clear hs;go_enter Tryz.func79,Tryz.ntmps79;go_upto_region 1 with fail;have BS:Blk (w.alloc (.cells s.cells 65)) w.heap.size 65 s.cells:=Blk.new _ _ _;have E:Ext w (w.alloc (.cells s.cells 65)):=(Ext.refl _).alloc _;generalize w.alloc (.cells s.cells 65)=w1 at *;generalize hgg:w.heap.size=g at *;clear hgg;have c4:=(BS.cell 4).trans (rfl:_=some (Value.int .u8 s.w.k));have c5:=(BS.cell 5).trans (rfl:_=some (Value.int .i64 s.w.n));have c8:=(BS.cell 8).trans (rfl:_=some (Value.int .u8 s.minw.k));have c9:=(BS.cell 9).trans (rfl:_=some (Value.int .i64 s.minw.n));have c10:=(BS.cell 10).trans (rfl:_=some (Value.int .u8 s.maxw.k));have c11:=(BS.cell 11).trans (rfl:_=some (Value.int .i64 s.maxw.n));have c22:=(BS.cell 22).trans (rfl:_=some (Value.int .u8 s.m3.k));have c23:=(BS.cell 23).trans (rfl:_=some (Value.int .i64 s.m3.n));have c18:=(BS.cell 18).trans (rfl:_=some (Value.int .u8 s.m1.k));have c19:=(BS.cell 19).trans (rfl:_=some (Value.int .i64 s.m1.n));have lS:=BS.lt;obtain⟨b1,hb1⟩:∃b,(s.w.k==1)=b:=⟨_,rfl⟩
 obtain⟨b2,hb2⟩:∃b,(s.maxw.k==1)=b:=⟨_,rfl⟩
 obtain⟨b3,hb3⟩:∃b,(s.minw.k==1)=b:=⟨_,rfl⟩
 go_upto_if 10 with (fail);go_cut [1] from 7 to 50 (fun v1 wx=>∃z,v1=.int .i64 z∧wx=w1)
 case first=>
  cases b1
  all_goals
   go_wp2_with fail;go_meet
   case rel=>exact⟨_,rfl,rfl⟩
 case rest=>
  obtain⟨z1,rfl,rfl⟩:=hcut;obtain⟨m1,hm1⟩:∃m,min z1 s.maxw.n=m:=⟨_,rfl⟩
  go_upto_if 17 with (fail);go_cut [1] from 7 to 50 (fun v1 wx=>∃z,v1=.int .i64 z∧wx=wc)
  case first=>
   cases b2
   all_goals
    go_wp2_with fail;go_meet
    case rel=>exact⟨_,rfl,rfl⟩
  case rest=>
   clear hm1;obtain⟨z2,rfl,rfl⟩:=hcut;obtain⟨m2,hm2⟩:∃m,max z2 s.minw.n=m:=⟨_,rfl⟩
   go_upto_if 26 with (fail);go_cut [1] from 7 to 50 (fun v1 wx=>∃z,v1=.int .i64 z∧wx=wc)
   case first=>
    cases b3
    all_goals
     go_wp2_with fail;go_meet
     case rel=>exact⟨_,rfl,rfl⟩
   case rest=>
    clear hm2 hb1 hb2 hb3 c4 c5 c8 c9 c10 c11;obtain⟨z3,rfl,rfl⟩:=hcut;obtain⟨fA,hfA⟩:∃m,s.b3+s.b1+s.p3+s.p1=m:=⟨_,rfl⟩
    obtain⟨fD,hfD⟩:∃m,s.b0+s.b2+s.p0+s.p2=m:=⟨_,rfl⟩
    rw[hfA,hfD] at cF;clear hfA hfD;go_upto_region 7 with fail;go_step;refine wpList_load_blk rfl 65 (.tmp 2) rfl g rfl 65 s.cells _ BS Tryz.underlying65 rfl (info_style s) ?_;simp only[AC];go_wp2_with fail
    with_reducible refine (AA (cF _)).mono ?_
    rintro e w2 ⟨rfl,hx⟩;go_upto_region 8 with fail;replace c22:=(hx.cells.1 g _ lS).trans c22;replace c23:=(hx.cells.1 g _ lS).trans c23;replace c18:=(hx.cells.1 g _ lS).trans c18;replace c19:=(hx.cells.1 g _ lS).trans c19;replace lS:=Nat.lt_of_lt_of_le lS hx.size;replace E:=E.trans hx;clear hx BS cF;refine wp_region_ord [(1,0),(1,1),(1,2),(1,3),(1,4),(0,5),(1,8),(1,9),(0,10),(2,6),(1,7),(3,11),(1,12),(1,13),(1,14)] 11 (fun w'=>Ext w2 w') (by kernel_rfl) (by kernel_rfl) rfl (by kernel_rfl) ((Ext.refl _).drew) ?_;simp only[AD]
    iterate 9 ((first|refine ordQA ?_|refine ordQB ?_);simp only[AC])
    refine ord_keep ?_;go_wp2_with fail
    with_reducible refine (AA (cB s.m3 _)).mono ?_
    rintro e w3 ⟨y3,rfl,hx⟩;go_wp2_with fail;refine⟨(Ext.refl _).drew.trans hx,?_⟩
    iterate 1 ((first|refine ordQA ?_|refine ordQB ?_);simp only[AC])
    refine ord_last ?_;go_wp2_with fail
    with_reducible refine (AA (cB s.m1 _)).mono ?_
    rintro e w4 ⟨y4,rfl,hx4⟩;go_wp2_with fail
    iterate 3 ((first|refine ordQA ?_|refine ordQB ?_);simp only[AC])
    refine ord_nil ?_;go_wp2_with fail;go_ret;refine⟨_,rfl,?_,(E.trans ((Ext.refl _).drew.trans hx)).trans hx4⟩
    first|exact Int.le_max_right _ _|exact Int.le_max_left _ _|omega
structure CtOk (x:Ct):Prop where
 (l:InM x.l) (g:InM x.g) (ol:InM x.ol) (og:InM x.og) (g0:0≤x.g) (og0:0≤x.og)
theorem CtOk.zero:CtOk zCt:=⟨InM0,InM0,InM0,InM0,by decide,by decide⟩
def CtsOk (cs:List Ct):Prop:=∀x∈cs,CtOk x
def NodeIs (w:World) (e:Ending) (w':World):Prop:=∃(x:Ct) (b:Bool),e=.returned (.tuple #[.agg (ctC x).toArray,.bool b])∧CtOk x∧Ext w w'
structure NdSt (w0 w:World) (gT gR gC gS:Nat) (t:Tr) (s:Sty) (x:Ct):Prop where
 ext:Ext w0 w
 bt:Blk w gT 25 t.cs
 br:Blk w gR 108 (ctC zCt).toArray
 bc:Blk w gC 108 (ctC x).toArray
 bs:Blk w gS 65 s.cells
 lo:w0.heap.size≤gT∧gT<gR∧gR<gC∧gC<gS
section
variable {w0 w w':World} {gT gR gC gS:Nat} {t:Tr} {s:Sty} {x y:Ct}
theorem NdSt.step (h:NdSt w0 w gT gR gC gS t s x) (hx:Ext w w'):NdSt w0 w' gT gR gC gS t s x:=⟨h.ext.trans hx,h.bt.ext hx,h.br.ext hx,h.bc.ext hx,h.bs.ext hx,h.lo⟩
theorem NdSt.put (h:NdSt w0 w gT gR gC gS t s x) (i:Nat) (v:Value) (hv:(ctC x).toArray.setIfInBounds i v=(ctC y).toArray):NdSt w0 (w.setCell ⟨gC,i,none⟩ v) gT gR gC gS t s y:=
 ⟨h.ext.set (by have:=h.lo;simp;omega) _,h.bt.far (by have:=h.lo;simp;omega) _,h.br.far (by have:=h.lo;simp;omega) _,hv▸h.bc.set_ i v,h.bs.far (by have:=h.lo;simp;omega) _,h.lo⟩
end
structure CutTo (k:Nat) (x:Ct):Prop where
 (l:0<k→InM x.l) (g:1<k→InM x.g) (ol:2<k→InM x.ol) (og:3<k→InM x.og) (g0:0≤x.g) (og0:0≤x.og)
theorem cutV_nn {x:Int} (h:0≤x):0≤cutV x:=by unfold cutV;split<;>(try split)<;>omega
section
variable (t:Tr) (ns:List Nd) (av:List Int) (un:Nat→List Int)
theorem node17_any (i:Nat) (hi:i<ns.length) (A Ag:Option Addr) (n c m cg:Nat) (kl:List Int) (cs:List Ct) (w:World) (h:LT w t ns av un) (rk:Rd w 1 A n (ints kl)) (hk:KidsIn ns kl) (hn:n≤300) (hb:wordsK un kl≤4000) (rg:Rd w 4 Ag m (recs ctC cs)) (hcs:CtsOk cs) (_hm:m≤300) :
  Calls Tryz.prog 52 #[.agg t.cs,.int .i64 i,.slice A n c,.slice Ag m cg] w (NodeIs w):=by
 have cL:=fun w h rk=>AB (lines17_any t ns av un i hi A n c kl w h rk hk (by omega))
 have cWs:=fun w h rk=>AB (words17_any t ns av un A n c kl w h rk hk hb (by omega))
 have HL:=AB h;have HK:=AB hk;have HCS:=AB hcs;obtain⟨na,nl,nc,aa,al,ac,view⟩:=t;obtain⟨nd,hnd⟩:∃nd,ns[i]?=some nd:=⟨_,AE hi⟩
 obtain⟨bn,on,hna,lbn,hcn⟩:=h.tr.nodes.node hnd;have hnl:=h.tr.nodes.nlen;simp only at hna hnl;subst hna;have ck:=hcn 1 _ (show nd.cells[1]?=some (Value.int .u8 nd.s.kind) from rfl);have HC:=AB hcn;have hiI:(0:Int)≤(i:Int)∧(i:Int)<(nl:Int):=by omega
 have hi2:i<nl:=by omega
 have hilo:¬(i:Int)<0:=by omega
 have HNO:=AB (h.ok.nd hnd);have HFW:=AB h.few;clear hcn h hcs hk;obtain⟨kd,hkd⟩:∃k,nd.s.kind=k:=⟨_,rfl⟩
 rw[hkd] at ck;have HKD:=AB hkd;clear hkd;go_enter Tryz.func52,Tryz.ntmps52;go_upto_region 2 with fail;have BT:Blk (((w.alloc (.cells (Tr.cs ⟨some ⟨bn,on,none⟩,nl,nc,aa,al,ac,view⟩) 25)).alloc (.cells #[.int .i64 0,.int .i64 0,.int .i64 0,.int .i64 0] 108)).alloc (.cells #[.int .i64 0,.int .i64 0,.int .i64 0,.int .i64 0] 108)) w.heap.size 25 (Tr.cs ⟨some ⟨bn,on,none⟩,nl,nc,aa,al,ac,view⟩):=((Blk.new _ _ _).alloc _).alloc _;have BR:Blk (((w.alloc (.cells (Tr.cs ⟨some ⟨bn,on,none⟩,nl,nc,aa,al,ac,view⟩) 25)).alloc (.cells #[.int .i64 0,.int .i64 0,.int .i64 0,.int .i64 0] 108)).alloc (.cells #[.int .i64 0,.int .i64 0,.int .i64 0,.int .i64 0] 108)) (w.heap.size+1) 108 (ctC zCt).toArray:=(Blk.new1 _ _ _ _).alloc _;have BC:Blk (((w.alloc (.cells (Tr.cs ⟨some ⟨bn,on,none⟩,nl,nc,aa,al,ac,view⟩) 25)).alloc (.cells #[.int .i64 0,.int .i64 0,.int .i64 0,.int .i64 0] 108)).alloc (.cells #[.int .i64 0,.int .i64 0,.int .i64 0,.int .i64 0] 108)) (w.heap.size+1+1) 108 (ctC zCt).toArray:=Blk.new2 _ _ _ _ _;have E:Ext w (((w.alloc (.cells (Tr.cs ⟨some ⟨bn,on,none⟩,nl,nc,aa,al,ac,view⟩) 25)).alloc (.cells #[.int .i64 0,.int .i64 0,.int .i64 0,.int .i64 0] 108)).alloc (.cells #[.int .i64 0,.int .i64 0,.int .i64 0,.int .i64 0] 108)):=(((Ext.refl _).alloc _).alloc _).alloc _;generalize ((w.alloc (.cells (Tr.cs ⟨some ⟨bn,on,none⟩,nl,nc,aa,al,ac,view⟩) 25)).alloc (.cells #[.int .i64 0,.int .i64 0,.int .i64 0,.int .i64 0] 108)).alloc (.cells #[.int .i64 0,.int .i64 0,.int .i64 0,.int .i64 0] 108)=w1 at *;obtain⟨gT,hgT⟩:∃g,w.heap.size=g:=⟨_,rfl⟩
 rw[hgT] at BT BR BC lbn ⊢;have HGT:=AB hgT;obtain⟨gC,hgC⟩:∃g,gT+1+1=g:=⟨_,rfl⟩
 obtain⟨gR,hgR⟩:∃g,gT+1=g:=⟨_,rfl⟩
 rw[hgC] at BC ⊢;rw[hgR] at BR ⊢;have hord:gT<gR∧gR<gC:=by omega
 clear hgT hgC hgR;have ct0:=(BT.cell 0).trans (rfl:_=some (Value.slice (some ⟨bn,on,none⟩) nl nc));have lT:=BT.lt;have ck1:=(E.cells.1 bn _ (by have:=AA HGT;omega)).trans ck;have lbn1:bn<w1.heap.size:=by omega
 by_cases hk3:kd=3
 ·subst hk3;go_upto_region 3 with fail;go_step;refine wpList_load_blk rfl 108 (.tmp 10) rfl gC rfl 108 (ctC zCt).toArray _ BC Tryz.underlying108 rfl (ctC_size _) ?_;simp only[AC];refine wpList_store_blk rfl 108 (.tmp 8) (.tmp 49) rfl gR rfl (ctC zCt).toArray rfl 108 (ctC zCt).toArray BR (ctC_size _) rfl (by kernel_rfl) ?_;intro w2 B2 g2 z2;simp only[Act.put];go_wp2_with fail;refine bodyPost_ret (results_cell_tmp rfl _ _ gR 108 _ _ rfl B2 Tryz.underlying108 rfl (ctC_size _)) rfl ?_;exact⟨zCt,false,rfl,CtOk.zero,E.grown g2 (fun q e=>by have:=Option.some.inj e;have:=AA HGT;omega)⟩
 ·have zk3:(kd==3)=false:=by simp;exact hk3
  clear hk3;go_upto_region 4 with fail
  iterate 16 go_step
  refine wpList_load_midg 65 (.tmp 54) rfl bn (on+i*44+1) rfl rfl (styC nd.s) _ (fun x v hv=>(E.cells.1 bn _ (by have:=AA HGT;omega)).trans (by have h1:=(AA HC) (1+x) v (by rw[Nat.add_comm];exact hv);rwa [←Nat.add_assoc] at h1)) Tryz.underlying65 rfl (info_style _) ?_;simp only[AC];refine wpList_var rfl rfl 65 rfl 11 rfl (.tmp 55) rfl rfl zsty.cells nd.s.cells zero_sty rfl rfl (info_style _) rfl (by kernel_rfl) ?_;intro w2 BS hx z2;simp only[AC];have N:NdSt w w2 gT gR gC w1.heap.size ⟨some ⟨bn,on,none⟩,nl,nc,aa,al,ac,view⟩ nd.s zCt:=⟨E.trans hx,BT.ext hx,BR.ext hx,BC.ext hx,BS,by have:=BC.lt;have:=AA HGT;omega⟩
  generalize w1.heap.size=gS at *;clear BS hx z2 BT BR BC E ct0 lT ck1 lbn1 zk3 ck lbn;go_upto_region 6 with fail;go_step;refine wpList_load_blk rfl 25 (.tmp 4) rfl gT rfl 25 (Tr.cs ⟨some ⟨bn,on,none⟩,nl,nc,aa,al,ac,view⟩) _ N.bt Tryz.underlying25 rfl (info_tree _) ?_;simp only[AC];go_wp2_with fail
  with_reducible refine (AA (cL _ ((AA HL).ext N.ext) (rk.ext N.ext))).mono ?_
  rintro e w3 ⟨bl,rfl,hx⟩;replace N:=N.step hx;clear hx cL;go_upto_if 59 with (fail);go_cut [12] from 13 to 169 (fun v12 wx=>∃(x:Ct) (b:Bool),v12=.bool b∧0≤x.g∧NdSt w wx gT gR gC gS ⟨some ⟨bn,on,none⟩,nl,nc,aa,al,ac,view⟩ nd.s x)
  case first=>
   cases bl
   ·as_aux_lemma=>
    go_wp2_with fail;go_loopw [21,22,23,24] (fun v21 v22 v23 v24 wq=>∃(k:Nat) (z1 z2 z3:Int) (x:Ct),v24=.int .i64 k∧v21=.int .i64 z1∧v22=.int .i64 z2∧v23=.int .i64 z3∧k≤n∧0≤z2∧z2≤1099511627776*(k:Int)∧0≤x.g∧NdSt w wq gT gR gC gS ⟨some ⟨bn,on,none⟩,nl,nc,aa,al,ac,view⟩ nd.s x) (fun _ _ _ v24 _=>n-(intOf v24).toNat)
    case atStart=>exact⟨0,0,0,0,zCt,rfl,rfl,rfl,rfl,by omega,by omega,by simp,by decide,N⟩
    case round=>
     clear N;obtain⟨k,z1,z2,z3,x,rfl,rfl,rfl,rfl,hkn',hz20,hz21,hg0,N⟩:=hrel;by_cases hkn:k<n
     ·have hkI:(0:Int)≤(k:Int)∧(k:Int)<(n:Int):=by omega
      go_upto_if 115 with (fail);have BX:Blk (wr.alloc (.cells #[.int .i64 0,.int .i64 0,.int .i64 0,.int .i64 0] 108)) wr.heap.size 108 (ctC zCt).toArray:=Blk.new _ _ _;have hgx:=N.bs.lt;have N1:=N.step ((Ext.refl wr).alloc (.cells #[.int .i64 0,.int .i64 0,.int .i64 0,.int .i64 0] 108));clear N;generalize wr.alloc (.cells #[.int .i64 0,.int .i64 0,.int .i64 0,.int .i64 0] 108)=w4 at *;generalize wr.heap.size=gX at *;go_cut [25] from 106 to 154 (fun v25 wx=>v25=.pointer (some ⟨gX,0,none⟩)∧∃y:Ct,CtOk y∧Blk wx gX 108 (ctC y).toArray∧NdSt w wx gT gR gC gS ⟨some ⟨bn,on,none⟩,nl,nc,aa,al,ac,view⟩ nd.s x)
      case first=>
       by_cases hkm:k<m
       ·have hkmI:(0:Int)≤(k:Int)∧(k:Int)<(m:Int):=by omega
        obtain⟨y,hy⟩:∃y,cs[k]?=some y:=⟨_,AE (by have:=rg.recN ctC_len (by omega);omega)⟩
        have HY:=AB ((AA HCS) y (List.mem_of_getElem? hy));obtain⟨bg,og,hAg,lbg,hmg⟩:=(rg.ext N1.ext).rec_ ctC_len hy (by omega);subst hAg;go_upto_region 25 with fail
        iterate 10 go_step
        refine wpList_load_midg 108 (.tmp 118) rfl bg (og+k*4) rfl rfl (ctC y) _ (fun x v hv=>hmg x v hv) Tryz.underlying108 rfl (ctC_size _) ?_;simp only[AC];refine wpList_store_blk rfl 108 (.tmp 25) (.tmp 119) rfl gX rfl (ctC y).toArray rfl 108 (ctC zCt).toArray BX (ctC_size _) rfl (by kernel_rfl) ?_;intro w5 B5 g5 z5;simp only[Act.put];have N2:NdSt w w5 gT gR gC gS ⟨some ⟨bn,on,none⟩,nl,nc,aa,al,ac,view⟩ nd.s x:=⟨N1.ext.grown g5 (fun q e=>by have:=Option.some.inj e;have:=N1.lo;omega),N1.bt.grown g5 (fun e=>by have:=Option.some.inj e;have:=N1.lo;omega),N1.br.grown g5 (fun e=>by have:=Option.some.inj e;have:=N1.lo;omega),N1.bc.grown g5 (fun e=>by have:=Option.some.inj e;have:=N1.lo;omega),N1.bs.grown g5 (fun e=>by have:=Option.some.inj e;have:=N1.lo;omega),N1.lo⟩
        go_wp2_with fail;go_meet
        case rel=>exact⟨rfl,y,AA HY,B5,N2⟩
       ·have hkmI:¬(k:Int)<(m:Int):=by omega
        go_wp2_with fail;go_meet
        case rel=>exact⟨rfl,zCt,CtOk.zero,BX,N1⟩
      case rest=>
       clear N1 BX;obtain⟨rfl,y,hy,BX,N⟩:=hcut;obtain⟨bk,ok,rfl,lbk,_⟩:=rk.at_ (by omega);obtain⟨j,nd2,hz,hnd2,hj,q4,q5⟩:=kid_at (rk.ext N.ext) (AA HK) hkn;clear q4 q5;have HZ:=AB hz;clear hz;have hy1:=hy.og;have hy0:=hy.og0;have HY:=AB hy;obtain⟨x0,x1,x2,x3⟩:=x;obtain⟨y0,y1,y2,y3⟩:=y;simp only at hy1 hy0 hg0;unfold InM at hy1;have c0:=(N.bc.cell 0).trans (rfl:_=some (Value.int .i64 x0));have lC:=N.bc.lt;have fC:=N.bc.frozen;have d2:=(BX.cell 2).trans (rfl:_=some (Value.int .i64 y2));have d3:=(BX.cell 3).trans (rfl:_=some (Value.int .i64 y3));have lX:=BX.lt;obtain⟨m0,hm0⟩:∃m,max x0 y2=m:=⟨_,rfl⟩
       go_upto_region 29 with fail;clear hm0;have hlo:=N.lo;replace N:=N.put (y:=⟨m0,x1,x2,x3⟩) 0 (.int .i64 m0) rfl;replace BX:=BX.far (p:=⟨gC,0,none⟩) (by simp;omega) (.int .i64 m0);clear c0 lC fC d2 d3 lX;generalize World.setCell _ ⟨gC,0,none⟩ (.int .i64 m0)=w6 at *;obtain⟨bn',on',hna',lbn',hcn'⟩:=((AA HL).tr.nodes.ext N.ext).node hnd2;injection hna' with hna';injection hna' with h1 h2;subst h1 h2;have cfl:=hcn' 3 _ (show nd2.cells[3]?=some (Value.int .u8 nd2.s.float) from rfl);have q0:=(rk.ext N.ext).cellAt hkn (show (ints kl)[k]?=some (Value.int .i64 (j:Int)) by rw[ints,List.getElem?_map,AA HZ];rfl);have q4:=q0.1;have q5:=q0.2;have ct0:=(N.bt.cell 0).trans (rfl:_=some (Value.slice (some ⟨bn,on,none⟩) nl nc));have lT:=N.bt.lt;have hjI:(0:Int)≤(j:Int)∧(j:Int)<(nl:Int):=by omega
       obtain⟨bf,hbf⟩:∃b,(nd2.s.float != 0)=b:=⟨_,rfl⟩
       clear hcn' q0;refine wp_region_ord [(1,0),(0,1),(1,2),(1,3),(1,4),(0,5),(1,6),(1,7),(1,8),(0,9),(1,10)] 11 (fun w'=>Ext w6 w') (by kernel_rfl) (by kernel_rfl) rfl (by kernel_rfl) ((Ext.refl _).drew) ?_;simp only[AD]
       iterate 11 ((first|refine ordQA ?_|refine ordQB ?_);simp only[AC])
       refine ord_nil ?_;replace N:=N.step (Ext.refl w6).drew;replace BX:=BX.ext (Ext.refl w6).drew;clear ct0 lT q4 q5 cfl lbn' hbf;generalize w6.drew=w7 at *;have c1:=(N.bc.cell 1).trans (rfl:_=some (Value.int .i64 x1));have lC:=N.bc.lt;have fC:=N.bc.frozen;have d3:=(BX.cell 3).trans (rfl:_=some (Value.int .i64 y3));have lX:=BX.lt;cases bf
       ·obtain⟨m1,hm1⟩:∃m,max x1 y3=m:=⟨_,rfl⟩
        have HM1:=AB (show 0≤m1 by omega);go_wp2_with fail;go_roundw
        case rel=>exact⟨k+1,_,_,z3,⟨m0,m1,x2,x3⟩,by go_num,rfl,rfl,rfl,by omega,by omega,by omega,AA HM1,N.put 1 (.int .i64 m1) rfl⟩
        case measure=>simp[intOf];omega
       ·go_wp2_with fail;go_roundw
        case rel=>exact⟨k+1,_,_,_,⟨m0,x1,x2,x3⟩,by go_num,rfl,rfl,rfl,by omega,by omega,by omega,hg0,N⟩
        case measure=>simp[intOf];omega
     ·have hkI:¬(k:Int)<(n:Int):=by omega
      obtain⟨x0,x1,x2,x3⟩:=x;simp only at hg0;have c0:=(N.bc.cell 0).trans (rfl:_=some (Value.int .i64 x0));have c1:=(N.bc.cell 1).trans (rfl:_=some (Value.int .i64 x1));have lC:=N.bc.lt;have fC:=N.bc.frozen;have ks:=(N.bs.cell 0).trans (rfl:_=some (Value.int .u8 nd.s.kind));have kw:=(N.bs.cell 34).trans (rfl:_=some (Value.bool nd.s.wrap));have lS:=N.bs.lt;have hlo:=N.lo;obtain⟨m1,hm1⟩:∃m,max x1 z3=m:=⟨_,rfl⟩
      have hm10:0≤m1:=by omega
      obtain⟨bk2,hbk2⟩:∃b,(nd.s.kind==2)=b:=⟨_,rfl⟩
      obtain⟨bw,hbw⟩:∃b,nd.s.wrap=b:=⟨_,rfl⟩
      cases bk2
      ·go_wp2_with fail;go_meet
       case rel=>exact⟨⟨x0,m1,x2,x3⟩,_,rfl,hm10,N.put 1 (.int .i64 m1) rfl⟩
      ·cases bw
       all_goals
        go_wp2_with fail;go_meet
        case rel=>first
         |exact⟨⟨x0,z2,x2,x3⟩,_,rfl,hz20,(N.put (y:=⟨x0,m1,x2,x3⟩) 1 (.int .i64 m1) rfl).put 1 (.int .i64 z2) rfl⟩
         |exact⟨⟨z1,z2,x2,x3⟩,_,rfl,hz20,((N.put (y:=⟨x0,m1,x2,x3⟩) 1 (.int .i64 m1) rfl).put (y:=⟨x0,z2,x2,x3⟩) 1 (.int .i64 z2) rfl).put 0 (.int .i64 z1) rfl⟩
   ·as_aux_lemma=>
    go_upto_region 7 with fail;go_step;refine wpList_load_blk rfl 25 (.tmp 4) rfl gT rfl 25 (Tr.cs ⟨some ⟨bn,on,none⟩,nl,nc,aa,al,ac,view⟩) _ N.bt Tryz.underlying25 rfl (info_tree _) ?_;simp only[AC];go_wp2_with fail
    with_reducible refine (AA (cWs _ ((AA HL).ext N.ext) (rk.ext N.ext))).mono ?_
    rintro e w4 ⟨A3,A4,m3,c3,c4,ws,nl',rfl,hm3,R3,R4,hw3,hx⟩;replace N:=N.step hx;have HW3:=AB hw3;have hm4:m3≤4000:=by omega
    clear hx R4 hw3 cWs hm3;go_wp2_with fail;go_loopw [12,15] (fun v12 v15 wq=>∃(k:Nat) (b:Bool),v15=.int .i64 k∧v12=.bool b∧k≤n∧NdSt w wq gT gR gC gS ⟨some ⟨bn,on,none⟩,nl,nc,aa,al,ac,view⟩ nd.s zCt∧Rd wq 5 A3 m3 (recs wrdC ws)) (fun _ v15 _=>n-(intOf v15).toNat)
    case atStart=>exact⟨0,false,rfl,rfl,by omega,N,Rd.of_own R3⟩
    case round=>
     clear N R3;obtain⟨k,b,rfl,rfl,hkn',N,R3⟩:=hrel;by_cases hkn:k<n
     ·have hkI:(0:Int)≤(k:Int)∧(k:Int)<(n:Int):=by omega
      obtain⟨bk,ok,rfl,lbk,_⟩:=rk.at_ (by omega);obtain⟨j,nd2,hz,hnd2,hj,q4,q5⟩:=kid_at (rk.ext N.ext) (AA HK) hkn;have HU:=AB ((AA HL).units j nd2 hnd2);have HS:=AB (LT.short (AA HL) hnd2);obtain⟨bn',on',hna',lbn',hcn'⟩:=((AA HL).tr.nodes.ext N.ext).node hnd2;injection hna' with hna';injection hna' with h1 h2;subst h1 h2;have cu:=hcn' 43 _ (show nd2.cells[43]?=some (Value.slice nd2.s.ua nd2.s.ul nd2.s.uc) from rfl);have ct0:=(N.bt.cell 0).trans (rfl:_=some (Value.slice (some ⟨bn,on,none⟩) nl nc));have ct1:=(N.bt.cell 1).trans (rfl:_=some (Value.slice aa al ac));have lT:=N.bt.lt;have hjI:(0:Int)≤(j:Int)∧(j:Int)<(nl:Int):=by omega
      clear hcn' hz;go_upto_region 11 with fail;refine wp_region_ord [(1,0),(0,1),(1,2),(1,3),(1,4),(0,5),(1,6),(1,7),(1,8),(0,9),(1,10),(0,11),(3,12),(1,13),(1,14),(1,15),(1,16),(1,17)] 12 (fun w'=>Ext wr w') (by kernel_rfl) (by kernel_rfl) rfl (by kernel_rfl) ((Ext.refl _).drew) ?_;simp only[AD]
      iterate 12 ((first|refine ordQA ?_|refine ordQB ?_);simp only[AC])
      have cW:=AB (words06_any nd2.s.ua aa nd2.s.ul nd2.s.uc al ac (un j) av wr.drew (((AA HU).1.ext N.ext).ext (Ext.refl _).drew) (by have:=(AA HS).1;omega) (AA HU).2.2.1 (AA HU).2.2.2 (((AA HL).tr.advs.ext N.ext).ext (Ext.refl _).drew) (AA HU).2.1 (AA HL).av);refine ord_last ?_;go_wp2_with fail
      with_reducible refine (AA cW).mono ?_
      rintro e w5 ⟨A6,m6,c6,ws6,b6,rfl,_,_,_,_,hx⟩;replace hx:=(Ext.refl wr).drew.trans hx;replace N:=N.step hx;replace R3:=R3.ext hx;clear hx cW ct0 ct1 lT cu;go_wp2_with fail
      iterate 5 ((first|refine ordQA ?_|refine ordQB ?_);simp only[AC])
      refine ord_nil ?_;cases b
      all_goals
       go_wp2_with fail;go_roundw
       case rel=>exact⟨k+1,_,by go_num,rfl,by omega,N,R3⟩
       case measure=>simp[intOf];omega
     ·have hkI:¬(k:Int)<(n:Int):=by omega
      have cE:=AB (extent_any A3 m3 c3 ws wr R3 (by omega) (fun x hx=>⟨((AA HW3) x hx).w,((AA HW3) x hx).g⟩));go_wp2_with fail
      with_reducible refine (AA cE).mono ?_
      rintro e w5 ⟨ea,eg,eb,rfl,ha,hg,hg0,hx⟩;replace N:=N.step hx;have HA:=AB ha;have HG:=AB hg;clear hx cE R3 ha hg;have c0:=(N.bc.cell 0).trans (rfl:_=some (Value.int .i64 0));have c1:=(N.bc.cell 1).trans (rfl:_=some (Value.int .i64 0));have lC:=N.bc.lt;have fC:=N.bc.frozen;cases b
      all_goals
       go_wp2_with fail;go_meet
       case rel=>exact⟨⟨ea,eg,0,0⟩,_,rfl,hg0,(N.put (y:=⟨ea,0,0,0⟩) 0 (.int .i64 ea) rfl).put 1 (.int .i64 eg) rfl⟩
  case rest=>
   as_aux_lemma=>
   clear N;obtain⟨x,b,rfl,hg0,N⟩:=hcut;obtain⟨x0,x1,x2,x3⟩:=x;simp only at hg0;have cO:=fun v w=>AB (outer17_any nd.s v (AA HNO).thin w)
   have c0:=(N.bc.cell 0).trans (rfl:_=some (Value.int .i64 x0));have lC:=N.bc.lt;go_upto_region 37 with fail;go_step;refine wpList_load_blk rfl 65 (.tmp 11) rfl gS rfl 65 nd.s.cells _ N.bs Tryz.underlying65 rfl (info_style _) ?_;simp only[AC];go_wp2_with fail
   with_reducible refine (AA (cO x0 _)).mono ?_
   rintro e w3 ⟨o1,rfl,ho1,hx⟩;replace N:=N.step hx;clear hx c0 lC;have c2:=(N.bc.cell 2).trans (rfl:_=some (Value.int .i64 x2));have lC:=N.bc.lt;have fC:=N.bc.frozen;go_upto_region 38 with fail;clear c2 lC fC;replace N:=N.put (y:=⟨x0,x1,o1,x3⟩) 2 (.int .i64 o1) rfl;generalize World.setCell _ ⟨gC,2,none⟩ (.int .i64 o1)=w4 at *;have c1:=(N.bc.cell 1).trans (rfl:_=some (Value.int .i64 x1));have lC:=N.bc.lt;go_step;refine wpList_load_blk rfl 65 (.tmp 11) rfl gS rfl 65 nd.s.cells _ N.bs Tryz.underlying65 rfl (info_style _) ?_;simp only[AC];go_wp2_with fail
   with_reducible refine (AA (cO x1 _)).mono ?_
   rintro e w5 ⟨o2,rfl,ho2,hx⟩;replace N:=N.step hx;clear hx c1 lC cO;have c3:=(N.bc.cell 3).trans (rfl:_=some (Value.int .i64 x3));have lC:=N.bc.lt;have fC:=N.bc.frozen;go_upto_region 39 with fail;clear c3 lC fC;replace N:=N.put (y:=⟨x0,x1,o1,o2⟩) 3 (.int .i64 o2) rfl;generalize World.setCell _ ⟨gC,3,none⟩ (.int .i64 o2)=w6 at *;go_wp2_with fail;have BP:Blk (w6.alloc (.cells #[.pointer (some ⟨gC,0,none⟩),.pointer (some ⟨gC,1,none⟩),.pointer (some ⟨gC,2,none⟩),.pointer (some ⟨gC,3,none⟩)] 149)) w6.heap.size 149 #[.pointer (some ⟨gC,0,none⟩),.pointer (some ⟨gC,1,none⟩),.pointer (some ⟨gC,2,none⟩),.pointer (some ⟨gC,3,none⟩)]:=Blk.new _ _ _;have hgp:=N.bc.lt;replace N:=N.step ((Ext.refl w6).alloc (.cells #[.pointer (some ⟨gC,0,none⟩),.pointer (some ⟨gC,1,none⟩),.pointer (some ⟨gC,2,none⟩),.pointer (some ⟨gC,3,none⟩)] 149));generalize w6.alloc (.cells #[.pointer (some ⟨gC,0,none⟩),.pointer (some ⟨gC,1,none⟩),.pointer (some ⟨gC,2,none⟩),.pointer (some ⟨gC,3,none⟩)] 149)=w7 at *;generalize w6.heap.size=gP at *;have cC:=fun x w=>AB (ref_cut x w)
   go_loopw [12,27] (fun v12 v27 wq=>∃(k:Nat) (b:Bool) (x:Ct),v27=.int .i64 k∧v12=.bool b∧k≤4∧NdSt w wq gT gR gC gS ⟨some ⟨bn,on,none⟩,nl,nc,aa,al,ac,view⟩ nd.s x∧Blk wq gP 149 #[.pointer (some ⟨gC,0,none⟩),.pointer (some ⟨gC,1,none⟩),.pointer (some ⟨gC,2,none⟩),.pointer (some ⟨gC,3,none⟩)]∧Hid (CutTo k x)) (fun _ v27 _=>4-(intOf v27).toNat)
   case atStart=>exact⟨0,b,_,rfl,rfl,by omega,N,BP,AB ⟨by simp,by simp,by simp,by simp,hg0,ho2⟩⟩
   case round=>
    clear N BP hg0;obtain⟨k,b,x,rfl,rfl,hk4,N,BP,HX⟩:=hrel;obtain⟨x0,x1,x2,x3⟩:=x;by_cases hkk:k<4
    ·have hk':k=0∨k=1∨k=2∨k=3:=by omega
     have lC:=N.bc.lt;have fC:=N.bc.frozen;have lP:=BP.lt;have hlo:=N.lo;clear hkk hk4
     rcases hk' with rfl|rfl|rfl|rfl
     ·have c:=(N.bc.cell 0).trans (rfl:_=some (Value.int .i64 x0));have p:=(BP.cell 0).trans (rfl:_=some (Value.pointer (some ⟨gC,0,none⟩)));obtain⟨y,hy⟩:∃y,cutV x0=y:=⟨_,rfl⟩
      obtain⟨cb,hcb⟩:∃y,cutB x0=y:=⟨_,rfl⟩
      have cc:=fun w=>cC x0 w
      rw[hy,hcb] at cc;have HY:=AB hy;clear hy hcb;go_wp2_with fail
      with_reducible refine (AA (cc _)).mono ?_
      rintro e wz ⟨rfl,rfl⟩;cases b
      all_goals
       go_wp2_with fail;go_roundw
       case rel=>exact⟨1,_,⟨y,x1,x2,x3⟩,by first|rfl|go_num,rfl,by omega,N.put 0 (.int .i64 y) rfl,BP.far (by simp;omega) _,AB (by
        have h:=AA HX;have h2:=AA HY;have h3:=cutV_in x0;have h4:=cutV_nn (x:=x0);rw[h2] at h3 h4;exact⟨fun _=>h3,fun hh=>by omega,fun hh=>by omega,fun hh=>by omega,h.g0,h.og0⟩)⟩
       case measure=>simp[intOf]
     ·have c:=(N.bc.cell 1).trans (rfl:_=some (Value.int .i64 x1));have p:=(BP.cell 1).trans (rfl:_=some (Value.pointer (some ⟨gC,1,none⟩)));obtain⟨y,hy⟩:∃y,cutV x1=y:=⟨_,rfl⟩
      obtain⟨cb,hcb⟩:∃y,cutB x1=y:=⟨_,rfl⟩
      have cc:=fun w=>cC x1 w
      rw[hy,hcb] at cc;have HY:=AB hy;clear hy hcb;go_wp2_with fail
      with_reducible refine (AA (cc _)).mono ?_
      rintro e wz ⟨rfl,rfl⟩;cases b
      all_goals
       go_wp2_with fail;go_roundw
       case rel=>exact⟨2,_,⟨x0,y,x2,x3⟩,by first|rfl|go_num,rfl,by omega,N.put 1 (.int .i64 y) rfl,BP.far (by simp;omega) _,AB (by
        have h:=AA HX;have h2:=AA HY;have h3:=cutV_in x1;have h4:=cutV_nn (x:=x1);rw[h2] at h3 h4;exact⟨fun _=>h.l (by omega),fun _=>h3,fun hh=>by omega,fun hh=>by omega,h4 h.g0,h.og0⟩)⟩
       case measure=>simp[intOf]
     ·have c:=(N.bc.cell 2).trans (rfl:_=some (Value.int .i64 x2));have p:=(BP.cell 2).trans (rfl:_=some (Value.pointer (some ⟨gC,2,none⟩)));obtain⟨y,hy⟩:∃y,cutV x2=y:=⟨_,rfl⟩
      obtain⟨cb,hcb⟩:∃y,cutB x2=y:=⟨_,rfl⟩
      have cc:=fun w=>cC x2 w
      rw[hy,hcb] at cc;have HY:=AB hy;clear hy hcb;go_wp2_with fail
      with_reducible refine (AA (cc _)).mono ?_
      rintro e wz ⟨rfl,rfl⟩;cases b
      all_goals
       go_wp2_with fail;go_roundw
       case rel=>exact⟨3,_,⟨x0,x1,y,x3⟩,by first|rfl|go_num,rfl,by omega,N.put 2 (.int .i64 y) rfl,BP.far (by simp;omega) _,AB (by
        have h:=AA HX;have h2:=AA HY;have h3:=cutV_in x2;have h4:=cutV_nn (x:=x2);rw[h2] at h3 h4;exact⟨fun _=>h.l (by omega),fun _=>h.g (by omega),fun _=>h3,fun hh=>by omega,h.g0,h.og0⟩)⟩
       case measure=>simp[intOf]
     ·have c:=(N.bc.cell 3).trans (rfl:_=some (Value.int .i64 x3));have p:=(BP.cell 3).trans (rfl:_=some (Value.pointer (some ⟨gC,3,none⟩)));obtain⟨y,hy⟩:∃y,cutV x3=y:=⟨_,rfl⟩
      obtain⟨cb,hcb⟩:∃y,cutB x3=y:=⟨_,rfl⟩
      have cc:=fun w=>cC x3 w
      rw[hy,hcb] at cc;have HY:=AB hy;clear hy hcb;go_wp2_with fail
      with_reducible refine (AA (cc _)).mono ?_
      rintro e wz ⟨rfl,rfl⟩;cases b
      all_goals
       go_wp2_with fail;go_roundw
       case rel=>exact⟨4,_,⟨x0,x1,x2,y⟩,by first|rfl|go_num,rfl,by omega,N.put 3 (.int .i64 y) rfl,BP.far (by simp;omega) _,AB (by
        have h:=AA HX;have h2:=AA HY;have h3:=cutV_in x3;have h4:=cutV_nn (x:=x3);rw[h2] at h3 h4;exact⟨fun _=>h.l (by omega),fun _=>h.g (by omega),fun _=>h.ol (by omega),fun _=>h3,h.g0,h4 h.og0⟩)⟩
       case measure=>simp[intOf]
    ·obtain rfl:k=4:=by omega
     have hx:=AA HX;go_upto_region 46 with fail;go_step;refine wpList_load_blk rfl 108 (.tmp 10) rfl gC rfl 108 (ctC ⟨x0,x1,x2,x3⟩).toArray _ N.bc Tryz.underlying108 rfl (ctC_size _) ?_;simp only[AC]
     iterate 3 go_step
     refine wpList_store_blk rfl 108 (.tmp 8) (.tmp 211) rfl gR rfl (ctC ⟨x0,x1,x2,x3⟩).toArray rfl 108 (ctC zCt).toArray N.br (ctC_size _) rfl (by kernel_rfl) ?_;intro w8 B8 g8 z8;simp only[Act.put];go_wp2_with fail;refine bodyPost_ret (results_cell_tmp rfl _ _ gR 108 _ _ rfl B8 Tryz.underlying108 rfl (ctC_size _)) rfl ?_;exact⟨_,b,rfl,⟨hx.l (by omega),hx.g (by omega),hx.ol (by omega),hx.og (by omega),hx.g0,hx.og0⟩,N.ext.grown g8 (fun q e=>by have:=Option.some.inj e;have:=N.lo;omega)⟩
end
theorem row_row:RowInfo 227 4:=rowInfo (z:=.agg (rwC zRw).toArray) rwC_info rfl
def RwO (w:World) (B N:Nat) (r:Rw):Prop:=(0≤r.f∧r.f+(r.xn:Int)≤(N:Int))∧∃zs:List Int,w.ownsRow B 2 1 (.slice r.xA r.xn r.xc) r.xn (ints zs)
structure FSt (w0 w:World) (N:Nat) (A:Option Addr) (m c:Nat) (rs:List Rw):Prop where
 ext:Ext w0 w
 own:w.ownsRow w0.heap.size 227 4 (.slice A m c) m (recs rwC rs)
 xs:∀r∈rs,RwO w w0.heap.size N r
def Away (rs:List Rw) (u:Value):Prop:=∀r∈rs,(Value.slice r.xA r.xn r.xc).ownBlock=none∨(Value.slice r.xA r.xn r.xc).ownBlock≠u.ownBlock
section
variable {w0 w w':World} {N:Nat} {A A':Option Addr} {m c c':Nat} {rs:List Rw} {u v:Value}
theorem FSt.step (h:FSt w0 w N A m c rs) (hx:Ext w w'):FSt w0 w' N A m c rs:=
 ⟨h.ext.trans hx,own_ext h.own hx,fun r hr=>⟨(h.xs r hr).1,(h.xs r hr).2.imp fun _ k=>own_ext k hx⟩⟩
theorem FSt.grown {xs:List Value} {k:Nat} (h:FSt w0 w N A m c rs) (hg:w.grownBy w' u.ownBlock) (hu:w.ownsRow w0.heap.size 2 1 u k xs) (ha:Away rs u):FSt w0 w' N A m c rs:=
 ⟨h.ext.grown hg (fun q hq=>(hu.lt q hq).1),h.own.kept hg (own_ne h.own hu (by decide)),fun r hr=>⟨(h.xs r hr).1,(h.xs r hr).2.imp fun _ k=>k.kept hg (ha r hr)⟩⟩
theorem FSt.var {g:Nat} (h:FSt w0 w N A m c rs) (hg:w.grownBy w' (some g)) (hlo:w0.heap.size≤g) (h1:∀q,(Value.slice A m c).ownBlock=some q→q≠g) (h2:∀r∈rs,∀q,(Value.slice r.xA r.xn r.xc).ownBlock=some q→q≠g):FSt w0 w' N A m c rs:=
 ⟨h.ext.grownBlk hg hlo,own_grown h.own hg h1,fun r hr=>⟨(h.xs r hr).1,(h.xs r hr).2.imp fun _ k=>own_grown k hg (h2 r hr)⟩⟩
theorem FSt.push {r:Rw} {xs:List Value} (h:FSt w0 w N A m c rs) (hr:RwO w w0.heap.size N r) (hx:Ext w0 w') (hg:w.grownBy w' (Value.ownBlock (.slice A m c))) (ho:w'.ownsRow w0.heap.size 227 4 (.slice A' (m+1) c') (m+1) (recs rwC rs++xs)) (hxs:xs=rwC r):FSt w0 w' N A' (m+1) c' (rs++[r]):=
 ⟨hx,by rw[recs_append,recs_one,←hxs];exact ho,fun q hq=>by
  have hk:∀r',RwO w w0.heap.size N r'→RwO w' w0.heap.size N r':=fun r' k=>⟨k.1,k.2.imp fun _ k2=>k2.kept hg (own_ne k2 h.own (by decide))⟩
  rcases List.mem_append.1 hq with hq|hq
  ·exact hk q (h.xs q hq)
  ·obtain rfl:=List.mem_singleton.1 hq;exact hk q hr⟩
theorem FSt.rows (h:FSt w0 w N A m c rs):RowsW w N A m:=⟨rs,Rd.of_own h.own,fun r hr=>⟨(h.xs r hr).1,(h.xs r hr).2.imp fun _ k=>Rd.of_own k⟩⟩
theorem FSt.zero (w:World) (N:Nat):FSt w w N none 0 0 []:=⟨Ext.refl _,own_nil _ _ _ _,by simp⟩
theorem Away.new (h:FSt w0 w N A m c rs) (hu:u.ownBlock=some w.heap.size):Away rs u:=fun r hr=>by
 right
 intro hq;obtain⟨zs,k⟩:=(h.xs r hr).2;have:=(k.lt _ (hq.trans hu)).2;omega
theorem Away.moved (h:FSt w0 w N A m c rs) (ha:Away rs u) (hu:v.ownBlock=u.ownBlock∨v.ownBlock=some w.heap.size):Away rs v:=by
 rcases hu with hu|hu
 ·intro r hr;rw[hu];exact ha r hr
 ·exact Away.new h hu
theorem ints_set (zs:List Int) (i:Nat) (x:Int):ints (zs.set i x)=(ints zs).set i (.int .i64 x):=by simp[ints,List.map_set]
theorem own_setAt {w:World} {B e n c b i:Nat} {A:Option Addr} {v:Value} {xs:List Value} (h:w.ownsRow B e 1 (.slice A n c) n xs) (hA:A=some ⟨b,0,none⟩) (_hi:i<n):(w.setCell ⟨b,i,none⟩ v).ownsRow B e 1 (.slice A n c) n (xs.set i v):=by
 subst hA
 rcases h.2 with ⟨hv,h0⟩|⟨g,cap,cur,hv,hb,hg,hnc,hm,hs,hx⟩
 ·cases hv
 ·have hv':=hv;injection hv with h1;injection h1 with h1;injection h1 with h1;subst h1;refine⟨by rw[List.length_set];exact h.1,.inr ⟨b,cap,cur.setIfInBounds i v,hv',hb,(show Blk w b e cur from hg).set_ i v,hnc,hm,by simpa using hs,?_⟩⟩;rw[←hx,Array.toList_setIfInBounds,List.take_set]
theorem own_thaw {w:World} {B e k n c b:Nat} {xs:List Value} (h:w.ownsRow B e k (.slice (some ⟨b,0,none⟩) n c) n xs) (i:Nat):w.frozen? ⟨b,i,none⟩=false:=by
 rcases h.2 with ⟨hv,h0⟩|⟨g,cap,cur,hv,hb,hg,_⟩
 ·cases hv
 ·injection hv with h1;injection h1 with h1;injection h1 with h1;subst h1;exact (show Blk w b e cur from hg).frozen i
structure XSt (w0 w:World) (N:Nat) (A:Option Addr) (m c:Nat) (rs:List Rw) (gR:Nat) (r:Rw) (zs:List Int):Prop where
 f:FSt w0 w N A m c rs
 br:Blk w gR 227 (rwC r).toArray
 ox:w.ownsRow w0.heap.size 2 1 (.slice r.xA r.xn r.xc) r.xn (ints zs)
 aw:Away rs (.slice r.xA r.xn r.xc)
 p1:∀q,(Value.slice A m c).ownBlock=some q→q≠gR
 p2:∀r∈rs,∀q,(Value.slice r.xA r.xn r.xc).ownBlock=some q→q≠gR
 p3:∀q,(Value.slice r.xA r.xn r.xc).ownBlock=some q→q≠gR
 lo:w0.heap.size≤gR
theorem XSt.step {gR:Nat} {r:Rw} {zs:List Int} (h:XSt w0 w N A m c rs gR r zs) (hx:Ext w w'):XSt w0 w' N A m c rs gR r zs:=
 ⟨h.f.step hx,h.br.ext hx,own_ext h.ox hx,h.aw,h.p1,h.p2,h.p3,h.lo⟩
theorem XSt.put {gR:Nat} {r r':Rw} {zs:List Int} (h:XSt w0 w N A m c rs gR r zs) (i:Nat) (v:Value) (hv:(rwC r).toArray.setIfInBounds i v=(rwC r').toArray) (h1:r'.xA=r.xA∧r'.xn=r.xn∧r'.xc=r.xc):XSt w0 (w.setCell ⟨gR,i,none⟩ v) N A m c rs gR r' zs:=by
 have hg:=gsCell (w:=w) gR i (u:=v);obtain⟨e1,e2,e3⟩:=h1;refine⟨h.f.var hg h.lo h.p1 h.p2,hv▸h.br.set_ i v,?_,?_,h.p1,h.p2,?_,h.lo⟩
 ·rw[e1,e2,e3];exact own_grown h.ox hg h.p3
 ·rw[e1,e2,e3];exact h.aw
 ·rw[e1,e2,e3];exact h.p3
theorem XSt.more {gR:Nat} {r:Rw} {zs xs:List Int} {A5:Option Addr} {c5:Nat} (h:XSt w0 w N A m c rs gR r zs) (_hx:Ext w0 w') (hg:w.grownBy w' (Value.ownBlock (.slice r.xA r.xn r.xc))) (ho:w'.ownsRow w0.heap.size 2 1 (.slice A5 (r.xn+1) c5) (r.xn+1) (ints zs++ints xs)) (hat:Value.ownBlock (.slice A5 (r.xn+1) c5)=Value.ownBlock (.slice r.xA r.xn r.xc)∨Value.ownBlock (.slice A5 (r.xn+1) c5)=some w.heap.size) :
  XSt w0 (w'.setCell ⟨gR,3,none⟩ (.slice A5 (r.xn+1) c5)) N A m c rs gR ⟨r.y,r.f,r.t,A5,r.xn+1,c5⟩ (zs++xs):=by
 have hp3:=own_moved h.p3 hat h.br.lt;have F1:=h.f.grown hg h.ox h.aw;have B1:=h.br.grownOwn hg h.p3;have hs:=gsCell (w:=w') gR 3 (u:=.slice A5 (r.xn+1) c5);refine⟨F1.var hs h.lo h.p1 h.p2,B1.set_ 3 _,?_,Away.moved h.f h.aw hat,h.p1,h.p2,hp3,h.lo⟩
 show World.ownsRow _ _ _ 1 (.slice A5 (r.xn+1) c5) (r.xn+1) (ints (zs++xs))
 rw[ints_append];exact own_grown ho hs hp3
theorem XSt.cell {gR b i:Nat} {r:Rw} {zs:List Int} {x:Int} (h:XSt w0 w N A m c rs gR r zs) (hA:r.xA=some ⟨b,0,none⟩) (hi:i<r.xn):XSt w0 (w.setCell ⟨b,i,none⟩ (.int .i64 x)) N A m c rs gR r (zs.set i x):=by
 have hq:(Value.slice r.xA r.xn r.xc).ownBlock=some b:=by rw[hA];rfl
 have hg:w.grownBy (w.setCell ⟨b,i,none⟩ (.int .i64 x)) (Value.slice r.xA r.xn r.xc).ownBlock:=by rw[hq];exact gsCell b i
 have hne:gR≠b:=fun e=>h.p3 b hq e.symm
 refine⟨h.f.grown hg h.ox h.aw,h.br.grownOwn hg h.p3,?_,h.aw,h.p1,h.p2,h.p3,h.lo⟩;have:=h.ox;rw[ints_set];exact own_setAt this hA hi
def FillIs (w:World) (N:Nat) (e:Ending) (w':World):Prop:=∃(A:Option Addr) (m c:Nat) (z:Int) (rs:List Rw),e=.returned (.tuple #[.slice A m c,.int .i64 z])∧m≤20000000∧FSt w w' N A m c rs
theorem XSt.new (h:FSt w0 w N A m c rs) (y f x:Int):XSt w0 ((w.alloc (.cells #[.int .i64 x] 2)).alloc (.cells #[.int .i64 y,.int .i64 f,.int .i64 0,.slice (some ⟨w.heap.size,0,none⟩) 1 1] 227)) N A m c rs (w.heap.size+1) ⟨y,f,0,some ⟨w.heap.size,0,none⟩,1,1⟩ [x]:=
 ⟨h.step (((Ext.refl _).alloc _).alloc _),Blk.new1 _ _ _ _,own_ext ((Blk.new w 2 #[.int .i64 x]).own (n:=1) h.ext.size rfl (by unfold maxLen;omega)) ((Ext.refl _).alloc _),Away.new h rfl,own_under h.own (by omega),
  fun r hr=>by
   obtain⟨zs,k⟩:=(h.xs r hr).2;exact own_under k (by omega),fun q hq=>by
   have h1:some w.heap.size=some q:=hq;injection h1 with h1;omega,by have:=h.ext.size;omega⟩
theorem own_addr {w:World} {B e k n c:Nat} {A:Option Addr} {xs:List Value} (h:w.ownsRow B e k (.slice A n c) n xs) (hn:0<n):∃b,A=some ⟨b,0,none⟩∧b<w.heap.size:=by
 rcases h.2 with ⟨hv,h0⟩|⟨g,cap,cur,hv,hb,hg,_⟩
 ·omega
 ·injection hv with h1;exact⟨g,h1,(Array.getElem?_eq_some_iff.1 hg).1⟩
theorem RwO.nil (w:World) (B N:Nat) (y:Int) {k:Nat} (hk:k≤N):RwO w B N ⟨y,k,k,none,0,0⟩:=⟨by simp;omega,[],own_nil _ _ _ _⟩
end
theorem fill16_any (A Af:Option Addr) (n c nf cf:Nat) (h al x1 x2 y:Int) (ws:List Wd) (fs:List Fl) (w:World) (rw_:Rd w 5 A n (recs wrdC ws)) (hn:n≤4000) (hw:∀x∈ws,WdOk 4000 x) (rf:Rd w 5 Af nf (recs flC fs)) (hnf:nf≤1000000) :
  Calls Tryz.prog 155 #[.slice A n c,.int .i64 h,.int .u8 al,.int .i64 x1,.int .i64 x2,.int .i64 y,.slice Af nf cf] w (FillIs w n):=by
 have HN:=AB (rw_.recN wrdC_len (by omega));have HWO:=AB hw;have HI:=AB row_row;have HIi:=AB int_row;obtain⟨h1,hh1⟩:∃z,max h 0=z:=⟨_,rfl⟩
 have cD:=fun x y w h=>AB (down16_any Af nf cf x h1 x1 x2 y fs w h hnf)
 clear hw;go_enter Tryz.func155,Tryz.ntmps155;go_wp2_with fail;clear hh1;go_loopw [5,16,17] (fun v5 v16 v17 wr=>∃(k m:Nat) (z:Int) (A1:Option Addr) (c1:Nat) (rs:List Rw),v17=.int .i64 k∧v5=.int .i64 z∧v16=.slice A1 m c1∧k≤n∧m≤4001*k∧FSt w wr n A1 m c1 rs) (fun _ _ v17 _=>n-(intOf v17).toNat)
 case atStart=>exact⟨0,0,y,none,0,[],rfl,rfl,rfl,by omega,by omega,FSt.zero _ _⟩
 case round=>
  obtain⟨k,m,z,A1,c1,rs,rfl,rfl,rfl,hk,hm,F⟩:=hrel;by_cases hkn:k<n
  ·have hkI:(0:Int)≤(k:Int)∧(k:Int)<(n:Int):=by omega
   obtain⟨f,hf⟩:∃f,ws[k]?=some f:=⟨_,AE (by have:=AA HN;omega)⟩
   have HF:=AB ((AA HWO) f (List.mem_of_getElem? hf));obtain⟨b,off,hA,lb,hmm⟩:=(rw_.ext F.ext).rec_ wrdC_len hf (by omega);have c4:=hmm 4 _ (show (wrdC f)[4]?=some (Value.int .i64 f.forced) from rfl);have HF4:=AB hf;have hfo:=(AA HF).fo;obtain⟨em,hem⟩:∃e:Int,(if 0<k then f.forced-1 else f.forced)=e:=⟨_,rfl⟩
   have hemb:-1≤em∧em≤4000:=by rw[←hem];split<;>omega
   have HEM:=AB hem;subst hA;obtain⟨x1',x2',fw,fg,ff⟩:=f;simp only at c4 hfo;clear hmm hf hem;go_upto_if 39 with (fail);go_cut [18] from 29 to 189 (fun v18 wx=>v18=.int .i64 em∧wx=wr)
   case first=>
    by_cases h0:0<k
    ·have h0I:(0:Int)<(k:Int):=by omega
     have hv:=AB (show ff-1=em by have:=AA HEM;rw[if_pos h0] at this;exact this);go_wp2_with fail;go_meet
     case rel=>exact⟨by rw[←AA hv],rfl⟩
    ·have h0I:¬(0:Int)<(k:Int):=by omega
     have hv:=AB (show ff=em by have:=AA HEM;rw[if_neg h0] at this;exact this);clear h0;go_wp2_with fail;go_meet
     case rel=>exact⟨by rw[←AA hv],rfl⟩
   case rest=>
    obtain⟨rfl,rfl⟩:=hcut;clear c4 hfo HEM
    go_upto_block 2 with fail
    go_cut [5,16,19] from 29 to 189 (fun v5 v16 v19 wx=>∃(z:Int) (m:Nat) (A1:Option Addr) (c1:Nat) (rs:List Rw),v5=.int .i64 z∧v16=.slice A1 m c1∧m≤4001*k+4000∧FSt w wx n A1 m c1 rs)
    case first=>
     go_wp2_with fail;go_loopw [5,16,19] (fun v5 v16 v19 wq=>∃(i:Nat) (z:Int) (m:Nat) (A1:Option Addr) (c1:Nat) (rs:List Rw),v19=.int .i64 i∧v5=.int .i64 z∧v16=.slice A1 m c1∧i≤4000∧m≤4001*k+i∧FSt w wq n A1 m c1 rs) (fun _ _ v19 _=>4000-(intOf v19).toNat)
     case atStart=>exact⟨0,z,m,A1,c1,rs,rfl,rfl,rfl,by omega,by omega,F⟩
     case round=>
      clear F;obtain⟨i,z,m,A1,c1,rs,rfl,rfl,rfl,hi,hm,F⟩:=hrel;by_cases hie:(i:Int)<em
      ·go_upto_region 11 with fail
       iterate 16 go_step
       refine Go.Great.wpList_buildSliceTo rfl 225 227 1 _ rfl _ rfl _ rfl Tryz.underlying225 (rwC ⟨z,(k:Int),(k:Int),none,0,0⟩).toArray (by kernel_rfl) ?_;simp only[AC];have hx:Ext wr (wr.alloc (.cells (rwC ⟨z,(k:Int),(k:Int),none,0,0⟩).toArray 227)):=(Ext.refl _).alloc _;have R5:Rd (wr.alloc (.cells (rwC ⟨z,(k:Int),(k:Int),none,0,0⟩).toArray 227)) 4 (some ⟨wr.heap.size,0,none⟩) 1 (rwC ⟨z,(k:Int),(k:Int),none,0,0⟩):=(Blk.new wr 227 (rwC ⟨z,(k:Int),(k:Int),none,0,0⟩).toArray).rdk (n:=1) (k:=4) rfl;replace F:=F.step hx;clear hx;generalize wr.alloc (.cells (rwC ⟨z,(k:Int),(k:Int),none,0,0⟩).toArray 227)=w8 at *;generalize wr.heap.size=gqw8 at *;refine wpList_pushL (W:=w) rfl (.tmp 47) (.tmp 52) 225 rfl w.heap.size 227 4 Tryz.underlying225 HI (by omega) _ m (recs rwC rs) rfl F.own _ 1 1 (rwC ⟨z,(k:Int),(k:Int),none,0,0⟩) rfl R5 (rwC_one _) (by omega) F.ext (Nat.le_refl _) F.ext.size ?_;intro A4 c4 w9 O4 E4 g4 at4;have F2:=F.push (RwO.nil w8 w.heap.size n z (by omega)) E4 g4 O4 rfl;clear R5 O4 E4 g4 at4 F;simp only[AC];go_wp2_with fail;go_roundw
       case rel=>exact⟨i+1,_,m+1,A4,c4,_,by go_num,rfl,rfl,by omega,by omega,F2⟩
       case measure=>simp[intOf];omega
      ·go_wp2_with fail;go_meet
       case rel=>exact⟨z,m,A1,c1,rs,rfl,rfl,by omega,F⟩
    case rest=>
     clear F;obtain⟨z,m,A1,c1,rs,rfl,rfl,hm,F⟩:=hcut;obtain⟨b',off',hA',lb',hmm⟩:=(rw_.ext F.ext).rec_ wrdC_len (AA HF4) (by omega);injection hA' with hA';injection hA' with h1' h2';subst h1' h2';have c2:=hmm 2 _ (show (wrdC ⟨x1',x2',fw,fg,ff⟩)[2]?=some (Value.int .i64 fw) from rfl);clear hmm;go_wp2_with fail
     with_reducible refine (AA (cD fw z _ (rf.ext F.ext))).mono ?_
     rintro e w3 ⟨d1,d2,d3,rfl,hx⟩;replace F:=F.step hx;clear hx c2;go_upto_region 15 with fail;have X:=XSt.new F d1 (k:Int) d2;clear F;generalize (w3.alloc (.cells #[.int .i64 d2] 2)).alloc (.cells #[.int .i64 d1,.int .i64 (k:Int),.int .i64 0,.slice (some ⟨w3.heap.size,0,none⟩) 1 1] 227)=w4 at *;generalize w3.heap.size+1=gR at *;obtain⟨b',off',hA',lb',hmm⟩:=(rw_.ext X.f.ext).rec_ wrdC_len (AA HF4) (by omega);injection hA' with hA';injection hA' with h1' h2';subst h1' h2';have c2:=hmm 2 _ (show (wrdC ⟨x1',x2',fw,fg,ff⟩)[2]?=some (Value.int .i64 fw) from rfl);clear hmm;go_wp2_with fail;clear c2;go_loopw [17,24] (fun v17 v24 wq=>∃(q p:Nat) (xx:Int) (A4:Option Addr) (c4:Nat) (zs:List Int),v17=.int .i64 q∧v24=.int .i64 xx∧q≤n∧0<p∧Hid (q=k+p)∧XSt w wq n A1 m c1 rs gR ⟨d1,(k:Int),0,A4,p,c4⟩ zs) (fun v17 _ _=>n-(intOf v17).toNat)
     case atStart=>exact⟨k+1,1,_,_,1,[d2],by go_num,rfl,by omega,by omega,AB rfl,X⟩
     case round=>
      clear X;obtain⟨q,p,xx,A4,c4,zs,rfl,rfl,hq,hp,HQ,X⟩:=hrel;go_upto_region 17 with fail;go_cut [114] from 86 to 141 (fun v114 wx=>∃b:Bool,v114=.bool b∧Hid (b=true→q<n)∧XSt w wx n A1 m c1 rs gR ⟨d1,(k:Int),0,A4,p,c4⟩ zs)
      case first=>
       by_cases hqn:q<n
       ·have hqI:(0:Int)≤(q:Int)∧(q:Int)<(n:Int):=by omega
        obtain⟨f2,hf2⟩:∃f,ws[q]?=some f:=⟨_,AE (by have:=AA HN;omega)⟩
        obtain⟨b',off',hA',lb2,hmm⟩:=(rw_.ext X.f.ext).rec_ wrdC_len hf2 (by omega);injection hA' with hA';injection hA' with h1' h2';subst h1' h2';have d2':=hmm 2 _ (show (wrdC f2)[2]?=some (Value.int .i64 f2.w) from rfl);have d3':=hmm 3 _ (show (wrdC f2)[3]?=some (Value.int .i64 f2.gap) from rfl);have d4':=hmm 4 _ (show (wrdC f2)[4]?=some (Value.int .i64 f2.forced) from rfl);obtain⟨e1,e2,gw,gg,gf⟩:=f2;simp only at d2' d3' d4';clear hmm hf2;obtain⟨s1,hs1⟩:∃z,IntKind.i64.wrap (xx+gg)=z:=⟨_,rfl⟩
        obtain⟨s2,hs2⟩:∃z,IntKind.i64.wrap (s1+gw)=z:=⟨_,rfl⟩
        obtain⟨t,ht⟩:∃t,decide (s2≤d3)=t:=⟨_,rfl⟩
        by_cases hgf:gf=0
        ·have zg:(gf==0)=true:=by simp;exact hgf
         clear hgf
         go_quiet (fail)
         go_wp2_with fail;go_meet
         case rel=>exact⟨t,rfl,AB (fun _=>hqn),X.step ((Ext.refl _).drewN nq)⟩
        ·have zg:(gf==0)=false:=by simp;exact hgf
         clear hgf
         go_quiet (fail)
         go_wp2_with fail;go_meet
         case rel=>exact⟨_,rfl,AB (fun _=>hqn),X.step ((Ext.refl _).drewN nq)⟩
       ·have hqI:decide ((q:Int)<(n:Int))=false:=by simp;omega
        have hqI2:decide (q<n)=false:=by simp;omega
        go_quiet (fail)
        go_wp2_with fail;go_meet
        case rel=>exact⟨false,rfl,AB (fun h=>by cases h),X.step ((Ext.refl _).drewN nq)⟩
      case rest=>
       clear X;obtain⟨b114,rfl,HB,X⟩:=hcut;cases b114
       ·clear HB;have c2:=(X.br.cell 2).trans (rfl:_=some (Value.int .i64 0));have lR:=X.br.lt;have fR:=X.br.frozen;obtain⟨dd,hdd⟩:∃z,IntKind.i64.wrap (d3-xx)=z:=⟨_,rfl⟩
        obtain⟨fr,hfr⟩:∃z,max dd 0=z:=⟨_,rfl⟩
        have hfr0:0≤fr:=by omega
        go_upto_region 22 with fail;clear c2 lR fR;replace X:=X.put (r':=⟨d1,(k:Int),(q:Int),A4,p,c4⟩) 2 (.int .i64 (q:Int)) rfl ⟨rfl,rfl,rfl⟩;generalize wc.setCell ⟨gR,2,none⟩ (.int .i64 (q:Int))=w5 at *;go_wp2_with fail;clear hdd hfr;go_loopw [26] (fun v26 wq=>∃(i:Nat) (zs:List Int),v26=.int .i64 i∧i≤p∧XSt w wq n A1 m c1 rs gR ⟨d1,(k:Int),(q:Int),A4,p,c4⟩ zs) (fun v26 _=>p-(intOf v26).toNat)
        case atStart=>exact⟨0,zs,rfl,by omega,X⟩
        case round=>
         clear X;obtain⟨i,zs,rfl,hi,X⟩:=hrel;have hpn:=AB (show k+p≤n by have:=AA HQ;omega);have hpq:p≤q:=by have:=AA HQ;omega
         have cx:=(X.br.cell 3).trans (rfl:_=some (Value.slice A4 p c4));have lR:=X.br.lt;by_cases hip:i<p
         ·have hipI:(0:Int)≤(i:Int)∧(i:Int)<(p:Int):=by omega
          have hip0:0<p:=by omega
          obtain⟨bX,hbX,lbX⟩:=own_addr X.ox hip0;simp only at hbX;subst hbX;have hzl:=X.ox.1;rw[ints_len] at hzl;simp only at hzl;obtain⟨zv,hzv⟩:∃z,zs[i]?=some z:=⟨_,AE (by omega)⟩
          have HZV:=AB hzv;have cB:=(Rd.of_own X.ox).cellAt hip (show (ints zs)[i]?=some (Value.int .i64 zv) by rw[ints,List.getElem?_map,hzv];rfl);have cB2:=cB.2;rw[Nat.zero_add] at cB2;have fB:=own_thaw X.ox i;clear hzl hzv cB;by_cases ha1:al=1
          ·subst ha1;go_upto_region 28 with fail;refine wp_region_ord [(1,0),(0,1),(1,2),(1,3),(0,4),(1,5),(1,6),(0,7),(1,8),(1,9),(1,10),(3,11)] 11 (fun w'=>Ext wr w') (by kernel_rfl) (by kernel_rfl) rfl (by kernel_rfl) ((Ext.refl _).drew) ?_;simp only[AD]
           iterate 11 ((first|refine ordQA ?_|refine ordQB ?_);simp only[AC])
           replace X:=X.step (Ext.refl wr).drew;clear cx lR cB2 fB lbX;generalize wr.drew=w7 at *;obtain⟨bY,hbY,lbX⟩:=own_addr X.ox hip0;injection hbY with hbY;injection hbY with hbY;subst hbY;have cB:=(Rd.of_own X.ox).cellAt hip (show (ints zs)[i]?=some (Value.int .i64 zv) by rw[ints,List.getElem?_map,AA HZV];rfl);have cB2:=cB.2;rw[Nat.zero_add] at cB2;have fB:=own_thaw X.ox i;clear cB;refine ord_last ?_;go_wp2_with fail;refine ord_nil ?_;have X2:=fun y=>X.cell (x:=y) rfl hip
           clear X cB2 fB lbX;go_wp2_with fail;go_roundw
           case rel=>exact⟨i+1,_,by go_num,by omega,X2 _⟩
           case measure=>simp[intOf];omega
          ·have za1:(al==1)=false:=by simp;exact ha1
           clear ha1;by_cases ha2:al=2
           ·subst ha2;go_upto_region 30 with fail;refine wp_region_ord [(1,0),(0,1),(1,2),(1,3),(0,4),(1,5),(1,6),(0,7),(1,8),(1,9),(1,10),(1,11),(3,12)] 12 (fun w'=>Ext wr w') (by kernel_rfl) (by kernel_rfl) rfl (by kernel_rfl) ((Ext.refl _).drew) ?_;simp only[AD]
            iterate 12 ((first|refine ordQA ?_|refine ordQB ?_);simp only[AC])
            replace X:=X.step (Ext.refl wr).drew;clear cx lR cB2 fB lbX;generalize wr.drew=w7 at *;obtain⟨bY,hbY,lbX⟩:=own_addr X.ox hip0;injection hbY with hbY;injection hbY with hbY;subst hbY;have cB:=(Rd.of_own X.ox).cellAt hip (show (ints zs)[i]?=some (Value.int .i64 zv) by rw[ints,List.getElem?_map,AA HZV];rfl);have cB2:=cB.2;rw[Nat.zero_add] at cB2;have fB:=own_thaw X.ox i;clear cB;refine ord_last ?_;go_wp2_with fail;refine ord_nil ?_;have X2:=fun y=>X.cell (x:=y) rfl hip
            clear X cB2 fB lbX;go_wp2_with fail;go_roundw
            case rel=>exact⟨i+1,_,by go_num,by omega,X2 _⟩
            case measure=>simp[intOf];omega
           ·have za2:(al==2)=false:=by simp;exact ha2
            clear ha2;go_wp2_with fail;go_roundw
            case rel=>exact⟨i+1,zs,by go_num,by omega,X⟩
            case measure=>simp[intOf];omega
         ·have hipI:¬(i:Int)<(p:Int):=by omega
          have hipb:decide (i<p)=false:=by simp;omega
          go_upto_region 31 with fail;clear cx lR
          iterate 4 go_step
          refine wpList_load_blk rfl 227 (.tmp 23) rfl gR rfl 227 (rwC ⟨d1,(k:Int),(q:Int),A4,p,c4⟩).toArray _ X.br Tryz.underlying227 rfl (rwC_size _) ?_;simp only[AC];refine Go.Great.wpList_buildSliceTo rfl 225 227 1 _ rfl _ rfl _ rfl Tryz.underlying225 (rwC ⟨d1,(k:Int),(q:Int),A4,p,c4⟩).toArray (by kernel_rfl) ?_;simp only[AC];have hx:Ext wr (wr.alloc (.cells (rwC ⟨d1,(k:Int),(q:Int),A4,p,c4⟩).toArray 227)):=(Ext.refl _).alloc _;have R5:Rd (wr.alloc (.cells (rwC ⟨d1,(k:Int),(q:Int),A4,p,c4⟩).toArray 227)) 4 (some ⟨wr.heap.size,0,none⟩) 1 (rwC ⟨d1,(k:Int),(q:Int),A4,p,c4⟩):=(Blk.new wr 227 (rwC ⟨d1,(k:Int),(q:Int),A4,p,c4⟩).toArray).rdk (n:=1) (k:=4) rfl;replace X:=X.step hx;clear hx;generalize wr.alloc (.cells (rwC ⟨d1,(k:Int),(q:Int),A4,p,c4⟩).toArray 227)=w8 at *;generalize wr.heap.size=gqw8 at *;refine wpList_pushL (W:=w) rfl (.tmp 183) (.tmp 185) 225 rfl w.heap.size 227 4 Tryz.underlying225 HI (by omega) _ m (recs rwC rs) rfl X.f.own _ 1 1 (rwC ⟨d1,(k:Int),(q:Int),A4,p,c4⟩) rfl R5 (rwC_one _) (by omega) X.f.ext (Nat.le_refl _) X.f.ext.size ?_;intro A9 c9 w9 O9 E9 g9 at9;have F2:=X.f.push (r:=⟨d1,(k:Int),(q:Int),A4,p,c4⟩) ⟨by have:=AA hpn;simp;omega,zs,X.ox⟩ E9 g9 O9 rfl;clear R5 O9 E9 g9 at9 X;simp only[AC];go_wp2_with fail;go_roundw
          case rel=>exact⟨q,m+1,_,A9,c9,_,rfl,rfl,rfl,hq,by have:=AA HQ;omega,F2⟩
          case measure=>have:=AA HQ;simp[intOf];omega
       ·have hqn:=(AA HB) rfl;clear HB;have hqI:(0:Int)≤(q:Int)∧(q:Int)<(n:Int):=by omega
        obtain⟨f2,hf2⟩:∃f,ws[q]?=some f:=⟨_,AE (by have:=AA HN;omega)⟩
        have HF2:=AB hf2;obtain⟨b',off',hA',lb2,hmm⟩:=(rw_.ext X.f.ext).rec_ wrdC_len hf2 (by omega);injection hA' with hA';injection hA' with h1' h2';subst h1' h2';have d3':=hmm 3 _ (show (wrdC f2)[3]?=some (Value.int .i64 f2.gap) from rfl);obtain⟨e1,e2,gw,gg,gf⟩:=f2;simp only at d3';clear hmm hf2;have cx:=(X.br.cell 3).trans (rfl:_=some (Value.slice A4 p c4));have lR:=X.br.lt;obtain⟨s1,hs1⟩:∃z,IntKind.i64.wrap (xx+gg)=z:=⟨_,rfl⟩
        go_upto_region 18 with fail;refine wp_region_ord [(1,0),(0,1),(1,2),(1,3),(1,4),(1,5),(1,6),(0,7),(1,8),(2,9),(3,10),(1,11),(3,12)] 10 (fun w'=>Ext wc w') (by kernel_rfl) (by kernel_rfl) rfl (by kernel_rfl) ((Ext.refl _).drew) ?_;simp only[AD]
        iterate 9 ((first|refine ordQA ?_|refine ordQB ?_);simp only[AC])
        replace X:=X.step (Ext.refl wc).drew;have hS:=(Ext.refl wc).drew;clear cx d3' lR hs1 lb2;generalize wc.drew=w5 at *;refine ord_keep ?_;refine Go.Great.wpList_buildSliceTo rfl 23 2 1 _ rfl _ rfl _ rfl Tryz.underlying23 ([.int .i64 s1]).toArray (by kernel_rfl) ?_;simp only[AC];have hx:Ext w5 (w5.alloc (.cells ([.int .i64 s1]).toArray 2)):=(Ext.refl _).alloc _;have R5:Rd (w5.alloc (.cells ([.int .i64 s1]).toArray 2)) 1 (some ⟨w5.heap.size,0,none⟩) 1 ([.int .i64 s1]):=(Blk.new w5 2 ([.int .i64 s1]).toArray).rdk (n:=1) (k:=1) rfl;replace X:=X.step hx;replace hS:=hS.trans hx;clear hx;generalize w5.alloc (.cells ([.int .i64 s1]).toArray 2)=w8 at *;generalize w5.heap.size=gqw8 at *;refine⟨rfl,hS,?_⟩;clear hS;refine ord_last ?_;refine wpList_push (W:=w) rfl (.tmp 116) (.tmp 124) 23 rfl w.heap.size 2 1 Tryz.underlying23 HIi (by omega) _ p (ints zs) rfl X.ox _ 1 1 [.int .i64 s1] rfl R5 (by simp[Value.oneCell']) (by have:=AA HQ;omega) X.f.ext (Nat.le_refl _) X.f.ext.size ?_;intro A5 c5 w9 O5 E5 g5 at5;have hR9:=(X.br.grownOwn g5 X.p3).lt;have cR9:=((X.br.grownOwn g5 X.p3).cell 3).trans (rfl:_=some (Value.slice A4 p c4));have fR9:=(X.br.grownOwn g5 X.p3).frozen 3;have X2:=X.more (xs:=[s1]) E5 g5 O5 at5;clear O5 E5 g5 at5 R5;refine⟨rfl,?_⟩;simp only[AC]
        iterate 1 ((first|refine ordQA ?_|refine ordQB ?_);simp only[AC])
        refine ord_last ?_;go_wp2_with fail;refine ord_nil ?_;clear hR9 cR9 fR9 X;generalize World.setCell _ ⟨gR,3,none⟩ _=w6 at *;obtain⟨b',off',hA',lb2,hmm⟩:=(rw_.ext X2.f.ext).rec_ wrdC_len (AA HF2) (by omega);injection hA' with hA';injection hA' with h1' h2';subst h1' h2';have d2':=hmm 2 _ (show (wrdC ⟨e1,e2,gw,gg,gf⟩)[2]?=some (Value.int .i64 gw) from rfl);have d3':=hmm 3 _ (show (wrdC ⟨e1,e2,gw,gg,gf⟩)[3]?=some (Value.int .i64 gg) from rfl);clear hmm;go_upto_region 19 with fail;refine wp_region_ord [(1,0),(1,1),(1,2),(1,3),(1,4),(0,5),(1,6),(1,7),(1,8),(1,9),(1,10),(0,11),(1,12),(1,13)] 14 (fun w'=>Ext w6 w') (by kernel_rfl) (by kernel_rfl) rfl (by kernel_rfl) ((Ext.refl _).drew) ?_;simp only[AD]
        iterate 14 ((first|refine ordQA ?_|refine ordQB ?_);simp only[AC])
        refine ord_nil ?_;replace X2:=X2.step (Ext.refl w6).drew;clear d2' d3' lb2;generalize w6.drew=w7 at *;go_wp2_with fail;go_roundw
        case rel=>exact⟨q+1,p+1,_,A5,c5,zs++[s1],by go_num,rfl,by omega,by omega,AB (by have:=AA HQ;omega),X2⟩
        case measure=>simp[intOf];omega
  ·have hkI:¬(k:Int)<(n:Int):=by omega
   go_wp2_with fail;go_ret2;exact⟨A1,m,c1,z,rs,rfl,by omega,F⟩
end Go.Proofs.YtamldoocjjdidaaGreat
