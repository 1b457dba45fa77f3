import Derived.Test.YtamldoocjjdidaaGreatMWidF
import Derived.Test.YtamldoocjjdidaaGreatMHtN
namespace Go.Proofs.YtamldoocjjdidaaGreat
open Go.RowKit
set_option maxRecDepth 100000
set_option maxHeartbeats 64000000
structure Im where
 (s:Sty) (l r sd b g fa:Int) (hd:Bool) (w:Int)
def imC (x:Im):List Value:=styC x.s++[.int .i64 x.l,.int .i64 x.r,.int .i64 x.sd,.int .i64 x.b,.int .i64 x.g,.int .i64 x.fa,.bool x.hd,.int .i64 x.w]
theorem imC_len (x:Im):(imC x).length=51:=rfl
def zim:Im:=⟨zsty,0,0,0,0,0,0,false,0⟩
theorem zero_im:(Tryz.prog.info? 201).bind (·.zero)=some (.agg (imC zim).toArray):=by kernel_rfl
theorem size_im (x:Im):(Tryz.prog.info? 201).map (·.size)=some (imC x).toArray.size:=by kernel_rfl
theorem im_info:(Tryz.prog.info? 201).map (fun i=>(i.zero,i.size,decide (i.bytes≤100000)))=some (some (.agg (imC zim).toArray),51,true):=by kernel_rfl
theorem item_row:RowInfo 201 51:=rowInfo (z:=.agg (imC zim).toArray) im_info rfl
theorem built_im (x:Im):Tryz.prog.builtSlice 201 1 [(0,.agg (imC x).toArray)]=some (imC x).toArray:=by kernel_rfl
theorem i64_sz1':(Tryz.prog.info? 2).map (·.size)=some 1:=by kernel_rfl
theorem imC_one (x:Im):∀v∈imC x,v.oneCell'=true:=by
 intro v hv
 rcases List.mem_append.1 hv with hv|hv
 ·exact (show ∀v∈styC x.s,v.oneCell'=true from fun v hv=>by
   simp only[styC,List.mem_cons,List.not_mem_nil,or_false] at hv
   rcases hv with rfl|rfl|rfl|rfl|rfl|rfl|rfl|rfl|rfl|rfl|rfl|rfl|rfl|rfl|rfl|rfl|rfl|rfl|rfl|rfl|rfl|rfl|rfl|rfl|rfl|rfl|rfl|rfl|rfl|rfl|rfl|rfl|rfl|rfl|rfl|rfl|rfl|rfl|rfl|rfl|rfl|rfl|rfl<;>rfl) v hv
 ·simp only[List.mem_cons,List.not_mem_nil,or_false] at hv
  rcases hv with rfl|rfl|rfl|rfl|rfl|rfl|rfl|rfl<;>rfl
theorem len0_bd {l:Ln} {c:Int} (h:lenMayB l 0 0=true) (hc:0≤c∧c≤1099511627776):0≤resV l c∧resV l c≤12000000000000:=by
 have hp:=may_part0 h;unfold resV
 split
 ·rename_i hk
  rw[lenMayB,if_neg (by omega),if_pos hk] at h;simp at h;omega
 ·split
  ·rename_i hk
   have hb:=hp hk;have h0:0≤l.n:=by
    rw[lenMayB,if_neg (by omega),if_neg (by omega),if_pos hk] at h;simp at h;omega
   rw[Int.max_eq_left hc.1];have hh:=part_hi c l.n hc.1 hc.2 hb.1 hb.2;have hl:=part_lo c l.n hb.1 hb.2;have hs:=part_split c l.n;have h1:0≤c*l.n:=Int.mul_nonneg hc.1 h0;omega
  ·omega
structure ImOk (x:Im):Prop where
 (kid:KidOk x.s) (sd:-30000000000000≤x.sd∧x.sd≤30000000000000) (b:0≤x.b∧x.b≤12000000000000) (g:0≤x.g∧x.g≤50000000000000)
def ItemsIs (w:World) (n:Nat) (e:Ending) (w':World):Prop:=∃(A:Option Addr) (c:Nat) (its:List Im),e=.returned (.slice A n c)∧w'.ownsRow w.heap.size 201 51 (.slice A n c) n (recs imC its)∧(∀x∈its,ImOk x∧x.hd=false∧x.w=0)∧Ext w w'
theorem im_range {w:World} {g:Nat} {x:Im} (h:Blk w g 201 (imC x).toArray):w.rangeAt g 0 (styC x.s):=fun j v hv=>by
 rw[Nat.zero_add,h.cell,List.getElem?_toArray];unfold imC;rw[List.getElem?_append_left (show j<43 from (List.getElem?_eq_some_iff.1 hv).1)];exact hv
theorem items19_any (A Ag:Option Addr) (n cap m cg:Nat) (c:Int) (ks:List Sty) (cs:List Ct) (w:World) (rk:Rd w 43 A n (recs styC ks)) (rg:Rd w 4 Ag m (recs ctC cs)) (hn:n≤300) (_hm:m≤1000000) (hks:∀s∈ks,KidOk s) (hcs:CtsOk cs) (hc:0≤c∧c≤1099511627776) :
  Calls Tryz.prog 117 #[.int .i64 c,.slice A n cap,.slice Ag m cg] w (ItemsIs w n):=by
 have hkl:=AB (rk.recN styC_len (by omega));have HKS:=AB hks;have HCS:=AB hcs;have HC:=AB hc;have HI:=AB item_row;clear hks hcs hc;go_enter Tryz.func117,Tryz.ntmps117;go_wp2_with fail;go_loopw [7,8] (fun v7 v8 wq=>∃(k:Nat) (B:Option Addr) (d:Nat) (its:List Im),v8=.int .i64 k∧k≤n∧v7=.slice B k d∧Hid (∀x∈its,ImOk x∧x.hd=false∧x.w=0)∧wq.ownsRow w.heap.size 201 51 (.slice B k d) k (recs imC its)∧Hid (Ext w wq)) (fun _ v8 _=>n-(intOf v8).toNat)
 case atStart=>exact⟨0,none,0,[],rfl,by omega,rfl,AB (by simp),own_nil _ _ _ _,AB (Ext.refl _)⟩
 case round=>
  obtain⟨k,B,d,its,rfl,hk,rfl,HO,OW,E⟩:=hrel;by_cases hkn:k<n
  ·as_aux_lemma=>
   have hkI:(0:Int)≤(k:Int)∧(k:Int)<(n:Int):=by omega
   obtain⟨t,ht⟩:∃t,ks[k]?=some t:=⟨_,AE (by have:=AA hkl;omega)⟩
   have hok:=(AA HKS) t (List.mem_of_getElem? ht);obtain⟨bk,ok,hA,lbk,hmk⟩:=(rk.ext (AA E)).rec_ styC_len ht (by omega);subst hA;have HMK:=AB hmk;have hcc:=AA HC;obtain⟨hed,hwm,hmin,hmax⟩:=may_facts hok.may;have HOKt:=AB hok;have r3:=fun w=>AB (ref_resolve t.m3 c (may_part hed.m3) hcc.2 w)
   have r1:=fun w=>AB (ref_resolve t.m1 c (may_part hed.m1) hcc.2 w)
   have rb:=fun w=>AB (ref_resolve t.basis c (may_part0 hok.basis) hcc.2 w)
   have rw_:=fun w=>AB (ref_resolve t.w c (may_part0 hwm) hcc.2 w)
   have fr:=fun w=>AB (ref_frame t hed.thin w)
   have clp:=fun x w=>AB (ref_clamp t c x (may_part0 hmax) (may_part0 hmin) hcc.2 w)
   have bl3:=lenM_bd hed.m3 hcc;have bl1:=lenM_bd hed.m1 hcc;have blb:=len0_bd hok.basis hcc;have blw:=len0_bd hwm hcc;have hx1:=len0_bd hmax hcc;have hx2:=len0_bd hmin hcc;have HCB:=AB (fun x (hx:x≤50000000000000)=>clamp_bd (s:=t) (c:=c) (x:=x) (by omega) (by omega) hx);have hfr:0≤t.b3+t.b1+t.p3+t.p1∧t.b3+t.b1+t.p3+t.p1≤4398046511104:=by
    obtain⟨a1,a2,a3,a4,a5,a6,a7,a8⟩:=hed.thin;omega
   simp only[Ln.v] at r3 r1 rb rw_;obtain⟨x3,hx3⟩:∃x,resV t.m3 c=x:=⟨_,rfl⟩
   obtain⟨x1,hx1'⟩:∃x,resV t.m1 c=x:=⟨_,rfl⟩
   obtain⟨xb,hxb⟩:∃x,resV t.basis c=x:=⟨_,rfl⟩
   obtain⟨xw,hxw⟩:∃x,resV t.w c=x:=⟨_,rfl⟩
   obtain⟨fx,hfx⟩:∃x,t.b3+t.b1+t.p3+t.p1=x:=⟨_,rfl⟩
   obtain⟨fy,hfy⟩:∃x,t.b0+t.b2+t.p0+t.p2=x:=⟨_,rfl⟩
   obtain⟨q3,hq3⟩:∃q,resB t.m3=q:=⟨_,rfl⟩
   obtain⟨q1,hq1⟩:∃q,resB t.m1=q:=⟨_,rfl⟩
   obtain⟨qb,hqb⟩:∃q,resB t.basis=q:=⟨_,rfl⟩
   obtain⟨qw,hqw⟩:∃q,resB t.w=q:=⟨_,rfl⟩
   rw[hx3] at bl3;rw[hx1'] at bl1;rw[hxb] at blb;rw[hxw] at blw;rw[hfx] at hfr;simp only[hx3,hq3] at r3;simp only[hx1',hq1] at r1;simp only[hxb,hqb] at rb;simp only[hxw,hqw] at rw_;simp only[hfx,hfy] at fr;have HB:=AB (And.intro blb blw);obtain⟨e1,he⟩:∃e,x3+x1=e:=⟨_,rfl⟩
   obtain⟨sd,hsd⟩:∃e,e1+fx=e:=⟨_,rfl⟩
   have HSD:=AB (show -30000000000000≤sd∧sd≤30000000000000 by omega);have he1':IntKind.i64.wrap (x3+x1)=e1:=by rw[IntWalk.i64_in _ (by omega)];exact he
   have he2:IntKind.i64.wrap (e1+fx)=sd:=by rw[IntWalk.i64_in _ (by omega)];exact hsd
   clear hx3 hx1' hxb hxw hfx hfy hq3 hq1 hqb hqw hok hed hwm hmin hmax hcc ht hmk bl3 bl1 blb blw hx1 hx2 hfr he hsd;go_upto_region 5 with fail;go_step;refine wpList_alloc_var rfl 201 rfl (imC zim).toArray zero_im ?_;intro wa Ba Ea za;simp only[AC];generalize hgI:wr.heap.size=gI at *;have HE0:=AB Ea;have HL:=AB lbk;clear Ea za lbk;go_upto_region 6 with fail
   iterate 10 go_step
   refine wpList_load_sty (.tmp 22) rfl bk (ok+k*43) rfl rfl t (fun x v hv=>((AA HE0).cells.1 bk _ (by rw[hgI];exact AA HL)).trans ((AA HMK) x v hv)) ?_;simp only[AC]
   iterate 3 go_step
   refine wpList_store_in rfl 65 (.tmp 24) (.tmp 23) rfl gI 0 rfl t.cells rfl 201 (imC zim) Ba (by show 0+43≤51;decide) (info_style t) (by kernel_rfl) (imC ⟨t,0,0,0,0,0,0,false,0⟩) rfl ?_;intro w1 BI gs zs;simp only[Act.put];have HE:=AB ((AA HE0).grownBlk gs (by omega));clear Ba gs zs HE0 HMK HL;have k1:=(BI.cell 22).trans (rfl:_=some (Value.int .u8 t.m3.k));have k2:=(BI.cell 23).trans (rfl:_=some (Value.int .i64 t.m3.n));have lI:=BI.lt;go_wp2_with fail
   with_reducible refine (AA (r3 _)).mono ?_
   rintro e w2 ⟨rfl,hx⟩;replace BI:=BI.ext hx;replace HE:=AB ((AA HE).trans hx);clear hx r3 k1 k2 lI;dsimp only
   iterate 13 go_step
   refine wpList_store_one rfl 2 (.tmp 34) (.tmp 32) rfl gI 43 rfl (.int .i64 x3) rfl rfl 201 (imC ⟨t,0,0,0,0,0,0,false,0⟩) BI (by show 43<51;decide) i64_sz1' (imC ⟨t,x3,0,0,0,0,0,false,0⟩) rfl ?_;clear BI;intro w3 BI gs zs;simp only[Act.put];replace HE:=AB ((AA HE).grownBlk gs (by omega));clear gs zs;have k1:=(BI.cell 18).trans (rfl:_=some (Value.int .u8 t.m1.k));have k2:=(BI.cell 19).trans (rfl:_=some (Value.int .i64 t.m1.n));have lI:=BI.lt;go_wp2_with fail
   with_reducible refine (AA (r1 _)).mono ?_
   rintro e w4 ⟨rfl,hx⟩;replace BI:=BI.ext hx;replace HE:=AB ((AA HE).trans hx);clear hx r1 k1 k2 lI;dsimp only
   iterate 13 go_step
   refine wpList_store_one rfl 2 (.tmp 44) (.tmp 42) rfl gI 44 rfl (.int .i64 x1) rfl rfl 201 (imC ⟨t,x3,0,0,0,0,0,false,0⟩) BI (by show 44<51;decide) i64_sz1' (imC ⟨t,x3,x1,0,0,0,0,false,0⟩) rfl ?_;clear BI;intro w5 BI gs zs;simp only[Act.put];replace HE:=AB ((AA HE).grownBlk gs (by omega));clear gs zs;go_upto_region 9 with fail
   iterate 4 go_step
   refine wpList_load_sty (.tmp 46) rfl gI 0 rfl rfl t (im_range BI) ?_;simp only[AC];go_wp2_with fail
   with_reducible refine (AA (fr _)).mono ?_
   rintro e w6 ⟨rfl,hx⟩;replace BI:=BI.ext hx;replace HE:=AB ((AA HE).trans hx);clear hx fr;have k1:=(BI.cell 43).trans (rfl:_=some (Value.int .i64 x3));have k2:=(BI.cell 44).trans (rfl:_=some (Value.int .i64 x1));have lI:=BI.lt;go_upto_region 10 with fail
   iterate 25 go_step
   refine wpList_store_one rfl 2 (.tmp 58) (.tmp 57) rfl gI 45 rfl (.int .i64 sd) rfl rfl 201 (imC ⟨t,x3,x1,0,0,0,0,false,0⟩) BI (by show 45<51;decide) i64_sz1' (imC ⟨t,x3,x1,sd,0,0,0,false,0⟩) rfl ?_;clear BI;intro w7 BI gs zs;simp only[Act.put];replace HE:=AB ((AA HE).grownBlk gs (by omega));clear gs zs;clear k1 k2 lI he1' he2;have k1:=(BI.cell 40).trans (rfl:_=some (Value.int .u8 t.basis.k));have k2:=(BI.cell 41).trans (rfl:_=some (Value.int .i64 t.basis.n));have lI:=BI.lt;go_wp2_with fail
   with_reducible refine (AA (rb _)).mono ?_
   rintro e w8 ⟨rfl,hx⟩;replace BI:=BI.ext hx;replace HE:=AB ((AA HE).trans hx);clear hx rb k1 k2 lI;go_upto_if 68 with (fail);go_cut [12,13] from 14 to 101 (fun v12 v13 wx=>(∃(z:Int) (b:Bool),v12=.int .i64 z∧v13=.bool b∧Hid (0≤z∧z≤12000000000000))∧Blk wx gI 201 (imC ⟨t,x3,x1,sd,0,0,0,false,0⟩).toArray∧Hid (Ext wr wx))
   case first=>
    as_aux_lemma=>
    cases qb
    ·have k1:=(BI.cell 4).trans (rfl:_=some (Value.int .u8 t.w.k));have k2:=(BI.cell 5).trans (rfl:_=some (Value.int .i64 t.w.n));have lI:=BI.lt;go_wp2_with fail
     with_reducible refine (AA (rw_ _)).mono ?_
     rintro e w9 ⟨rfl,hx⟩;go_wp2_with fail;go_meet
     case rel=>exact⟨⟨_,_,rfl,rfl,AB (AA HB).2⟩,BI.ext hx,AB ((AA HE).trans hx)⟩
    ·go_wp2_with fail;go_meet
     case rel=>exact⟨⟨_,_,rfl,rfl,AB (AA HB).1⟩,BI,HE⟩
   case rest=>
    as_aux_lemma=>
    clear BI HE rw_ HB qb qw;obtain⟨⟨z,is,rfl,rfl,hz⟩,BI,HE⟩:=hcut;obtain⟨t3,ht3⟩:∃q,decide (k<m)=q:=⟨_,rfl⟩
    go_upto_region 14 with fail;go_cut [84] from 14 to 101 (fun v84 wx=>(∃b:Bool,v84=.bool b∧(b=true→k<m))∧Blk wx gI 201 (imC ⟨t,x3,x1,sd,0,0,0,false,0⟩).toArray∧Hid (Ext wr wx))
    case first=>
     as_aux_lemma=>
     cases is
     all_goals cases t3
     all_goals
      go_wp2_with fail;go_meet
      case rel=>first
       |exact⟨⟨_,rfl,fun _=>by have:=of_decide_eq_true ht3;omega⟩,BI,HE⟩
       |exact⟨⟨_,rfl,fun h=>of_decide_eq_true h⟩,BI,HE⟩
       |exact⟨⟨_,rfl,fun h=>absurd h (by decide)⟩,BI,HE⟩
    case rest=>
     as_aux_lemma=>
     clear BI HE ht3 t3;obtain⟨⟨b84,rfl,h84⟩,BI,HE⟩:=hcut;go_upto_if 84 with (fail);go_cut [12] from 14 to 101 (fun v12 wx=>(∃z:Int,v12=.int .i64 z∧Hid (0≤z∧z≤12000000000000))∧Blk wx gI 201 (imC ⟨t,x3,x1,sd,0,0,0,false,0⟩).toArray∧Hid (Ext wr wx))
     case first=>
      as_aux_lemma=>
      cases b84
      ·go_wp2_with fail;go_meet
       case rel=>exact⟨⟨_,rfl,hz⟩,BI,HE⟩
      ·have hkm:=h84 rfl;have hkmI:(0:Int)≤(k:Int)∧(k:Int)<(m:Int):=by omega
       have rg':=rg.ext ((AA E).trans (AA HE));obtain⟨x,hx⟩:∃x,cs[k]?=some x:=⟨_,AE (by have:=rg'.recN ctC_len (by omega);omega)⟩
       have HX:=AB ((AA HCS) x (List.mem_of_getElem? hx));obtain⟨bg,og,hAg,lbg,hmg⟩:=rg'.rec_ ctC_len hx (by omega);subst hAg;have q1:=hmg 1 _ (show (ctC x)[1]?=some (Value.int .i64 x.g) from rfl);clear hmg hx rg';go_wp2_with fail;go_meet
       case rel=>exact⟨⟨_,rfl,AB ⟨(AA HX).g0,by have:=(AA HX).g;unfold InM at this;omega⟩⟩,BI,HE⟩
     case rest=>
      as_aux_lemma=>
      clear BI HE hz z;obtain⟨⟨z,rfl,hz⟩,BI,HE⟩:=hcut;go_upto_region 16 with fail
      iterate 7 go_step
      refine wpList_store_one rfl 2 (.tmp 91) (.tmp 90) rfl gI 46 rfl (.int .i64 z) rfl rfl 201 (imC ⟨t,x3,x1,sd,0,0,0,false,0⟩) BI (by show 46<51;decide) i64_sz1' (imC ⟨t,x3,x1,sd,z,0,0,false,0⟩) rfl ?_;clear BI;intro w9 BI gs zs;simp only[Act.put];replace HE:=AB ((AA HE).grownBlk gs (by omega));clear gs zs;go_upto_region 17 with fail
      iterate 4 go_step
      refine wpList_load_sty (.tmp 92) rfl gI 0 rfl rfl t (im_range BI) ?_;simp only[AC];have hgb:=(AA HCB) z (by have:=AA hz;omega);have clz:=fun w=>clp z w
      obtain⟨gx,hgx⟩:∃x,clampV t c z=x:=⟨_,rfl⟩
      simp only[hgx] at clz hgb;have HGB:=AB hgb;clear hgx hgb;go_wp2_with fail
      with_reducible refine (AA (clz _)).mono ?_
      rintro e w10 ⟨rfl,hx⟩;replace BI:=BI.ext hx;replace HE:=AB ((AA HE).trans hx);clear hx clz clp;dsimp only
      iterate 4 go_step
      refine wpList_store_one rfl 2 (.tmp 97) (.tmp 96) rfl gI 47 rfl (.int .i64 gx) rfl rfl 201 (imC ⟨t,x3,x1,sd,z,0,0,false,0⟩) BI (by show 47<51;decide) i64_sz1' (imC ⟨t,x3,x1,sd,z,gx,0,false,0⟩) rfl ?_;clear BI;intro w11 BI gs zs;simp only[Act.put];replace HE:=AB ((AA HE).grownBlk gs (by omega));clear gs zs;go_upto_region 18 with fail
      iterate 4 go_step
      refine wpList_load_blk rfl 201 (.tmp 9) rfl gI rfl 201 (imC ⟨t,x3,x1,sd,z,gx,0,false,0⟩).toArray _ BI Tryz.underlying201 rfl (size_im _) ?_;simp only[AC];refine Go.Great.wpList_buildSliceTo rfl 197 201 1 _ rfl _ rfl _ rfl Tryz.underlying197 (imC ⟨t,x3,x1,sd,z,gx,0,false,0⟩).toArray (by simp only[List.map_toArray,List.map_cons,List.map_nil];exact built_im _) ?_;simp only[AC];have hx:Ext w11 (w11.alloc (.cells (imC ⟨t,x3,x1,sd,z,gx,0,false,0⟩).toArray 201)):=(Ext.refl _).alloc _;have R5:Rd (w11.alloc (.cells (imC ⟨t,x3,x1,sd,z,gx,0,false,0⟩).toArray 201)) 51 (some ⟨w11.heap.size,0,none⟩) 1 (imC ⟨t,x3,x1,sd,z,gx,0,false,0⟩):=(Blk.new w11 201 (imC ⟨t,x3,x1,sd,z,gx,0,false,0⟩).toArray).rdk (n:=1) (k:=51) rfl;replace HE:=AB ((AA HE).trans hx);clear hx BI;generalize w11.alloc (.cells (imC ⟨t,x3,x1,sd,z,gx,0,false,0⟩).toArray 201)=w12 at *;generalize w11.heap.size=gqw12 at *;have O8:=own_ext OW (AA HE);have E8:=(AA E).trans (AA HE);refine wpList_push (W:=w) rfl (.tmp 98) (.tmp 100) 197 rfl w.heap.size 201 51 Tryz.underlying197 HI (by omega) _ k (recs imC its) rfl O8 _ 1 1 (imC ⟨t,x3,x1,sd,z,gx,0,false,0⟩) rfl R5 (imC_one _) (by omega) E8 (Nat.le_refl _) E8.size ?_;intro A9 c9 w13 O9 E9 g9 at9;have O9':w13.ownsRow w.heap.size 201 51 (.slice A9 (k+1) c9) (k+1) (recs imC (its++[⟨t,x3,x1,sd,z,gx,0,false,0⟩])):=by rw[recs_append,recs_one];exact O9
      have E9':=AB E9;have HO2:=AB (show ∀y∈its++[(⟨t,x3,x1,sd,z,gx,0,false,0⟩:Im)],ImOk y∧y.hd=false∧y.w=0 from fun u hu=>by
       rcases List.mem_append.1 hu with hu|hu
       ·exact (AA HO) u hu
       ·rw[List.mem_singleton.1 hu];exact⟨⟨AA HOKt,AA HSD,AA hz,AA HGB⟩,rfl,rfl⟩)
      clear R5 O9 E9 g9 at9 O8 E8 OW HE;simp only[AC];go_wp2_with fail;go_roundw
      case rel=>exact⟨k+1,A9,c9,_,by go_num,by omega,rfl,HO2,O9',E9'⟩
      case measure=>simp[intOf];omega
  ·have hkI:¬(k:Int)<(n:Int):=by omega
   have hkn':k=n:=by omega
   rw[hkn'] at OW;have HK:=AB hkn';clear hkn';go_wp2_with fail;go_ret;exact⟨B,d,its,by rw[AA HK];rfl,OW,AA HO,AA E⟩
theorem bytes_ok3 {k b:Nat} (hk:k≤300) (hb:b≤100000):(k+1)*b≤140737488355328:=by
 have:=Nat.mul_le_mul (show k+1≤301 by omega) hb;omega
def slotL (L:List Nat) (k y:Nat):List Nat:=L.take k++y :: L.drop k
theorem slot_len {L:List Nat} {k y:Nat} (hk:k≤L.length):(slotL L k y).length=L.length+1:=by simp[slotL];omega
theorem slot_set {L:List Nat} {k y z:Nat} (hk:k≤L.length):(slotL L k y).set k z=slotL L k z:=by
 unfold slotL;rw[List.set_append_right _ _ (by rw[List.length_take];omega),List.length_take,Nat.min_eq_left hk,Nat.sub_self,List.set_cons_zero]
theorem slot_down {L:List Nat} {p u:Nat} (hu:L[p]?=some u):slotL L (p+1) u=slotL L p u:=by
 have hp:=(List.getElem?_eq_some_iff.1 hu).1;have hv:=(List.getElem?_eq_some_iff.1 hu).2;unfold slotL;rw[takeS hu,List.append_assoc,List.drop_eq_getElem_cons hp,hv];rfl
theorem slot_get {L:List Nat} {p y u:Nat} (hu:L[p]?=some u):(slotL L (p+1) y)[p]?=some u:=by
 have hp:=(List.getElem?_eq_some_iff.1 hu).1;unfold slotL;rw[List.getElem?_append_left (by rw[List.length_take];omega),List.getElem?_take_of_lt (by omega),hu]
theorem slot_perm {L:List Nat} {i k:Nat} (h:L.Perm (List.range i)):(slotL L k i).Perm (List.range (i+1)):=by
 have h1:(slotL L k i).Perm (i :: (L.take k++L.drop k)):=List.perm_middle;rw[List.take_append_drop] at h1;have h2:(List.range i++[i]).Perm (i :: List.range i):=by simp
 rw[List.range_succ];exact h1.trans ((h.cons i).trans h2.symm)
theorem castL_set (l:List Nat) (k z:Nat):(ints (castL l)).set k (.int .i64 (z:Int))=ints (castL (l.set k z)):=by simp[ints,castL,List.map_set]
def OrderIs (w:World) (n:Nat) (e:Ending) (w':World):Prop:=∃A cap L,e=.returned (.slice A n cap)∧Rd w' 1 A n (ints (castL L))∧L.Perm (List.range n)∧Ext w w'
theorem order_any (A:Option Addr) (n cap:Nat) (ks:List Sty) (w:World) (rk:Rd w 43 A n (recs styC ks)) (hn:n≤300) :
  Calls Tryz.prog 118 #[.slice A n cap] w (OrderIs w n):=by
 have hkl:ks.length=n:=by have:=rk.len;rw[recs_len styC_len] at this;omega
 have HKL:=AB hkl;clear hkl;obtain⟨i7,hi7,hz7,hs7,hb7⟩:=info_bnd ji_info;have H7:=AB (And.intro hi7 (And.intro hz7 (And.intro hs7 hb7)));clear hi7 hz7 hs7 hb7;go_enter Tryz.func118,Tryz.ntmps118;go_wp2_with fail;go_loopw [3,4] (fun v3 v4 wr=>∃(i:Nat) (B:Option Addr) (d:Nat) (L:List Nat),v4=.int .i64 i∧i≤n∧v3=.slice B i d∧Hid (L.Perm (List.range i))∧wr.ownsRow w.heap.size 3 1 (.slice B i d) i (ints (castL L))∧Ext w wr) (fun _ v4 _=>n-(intOf v4).toNat)
 case atStart=>exact⟨0,none,0,[],rfl,by omega,rfl,AB (List.Perm.refl _),⟨rfl,.inl ⟨rfl,rfl⟩⟩,Ext.refl _⟩
 case round=>
  obtain⟨i,B,d,L,rfl,hi,rfl,HP,OW,E⟩:=hrel;by_cases hin:i<n
  ·obtain⟨b,off,rfl,_,_⟩:=rk.at_ (by omega);have hiI:(0:Int)≤(i:Int)∧(i:Int)<(n:Int)∧(n:Int)≤300:=by omega
   have hEs:=E.size;have hLl:L.length=i:=by have:=(AA HP).length_eq;rwa [List.length_range] at this
   have hLb:∀u∈L,u<i:=fun u hu=>List.mem_range.1 ((AA HP).mem_iff.1 hu)
   have HLL:=AB hLl;have HLB:=AB hLb;clear hLl hLb;go_upto_region 7 with (first
    |(at_builtin
      refine wpList_append_rd rfl (.tmp 14) (.tmp 16) _ rfl w.heap.size 3 i7 _ 1 i7.bytes Tryz.underlying52 (AA H7).1 (AA H7).2.1 (AA H7).2.2.1 rfl rfl (by omega) _ i (ints (castL L)) rfl (own_far OW ((Ext.refl _).alloc _)) _ 1 1 [.int .i64 (i:Int)] rfl (Rd.one _ _) (by simp[Value.oneCell']) (by simp only[maxLen];omega) (bytes_ok3 (by omega) (AA H7).2.2.2) (by simp;omega) ?_;intro B7 d7 w5 own7 g7 at7))
   have ha:Ext wr (wr.alloc (.cells #[.int .i64 (i:Int)] 3)):=(Ext.refl _).alloc _;replace E:=(E.trans ha).grown g7 (fun q e=>(OW.lt q e).1);obtain⟨g,rfl,hgw⟩:∃g,B7=some ⟨g,0,none⟩∧w.heap.size≤g:=by
    rcases own7.2 with ⟨_,h⟩|⟨gl,cap,cur,h1,h2,_⟩
    ·omega
    ·injection h1 with h1 _ _;exact⟨gl,h1,h2⟩
   replace OW:w5.ownsRow w.heap.size 3 1 (.slice (some ⟨g,0,none⟩) (i+1) d7) (i+1) (ints (castL (slotL L i i))):=by
    rw[slotL,List.take_of_length_le (by rw[AA HLL];omega),List.drop_of_length_le (by rw[AA HLL];omega)]
    simpa[castL,ints] using own7
   clear own7 g7 at7 ha hEs;go_wp2_with fail
   skip
   go_loopw [5] (fun v5 wr=>∃(k y:Nat),v5=.int .i64 k∧k≤i∧wr.ownsRow w.heap.size 3 1 (.slice (some ⟨g,0,none⟩) (i+1) d7) (i+1) (ints (castL (slotL L k y)))∧Ext w wr) (fun v5 _=>(intOf v5).toNat)
   case atStart=>exact⟨i,i,rfl,by omega,OW,E⟩
   case round=>
    clear OW E;obtain⟨k,y,rfl,hk,OW,E⟩:=hrel;have lg:g<wr.heap.size:=(OW.lt g rfl).2;obtain⟨t,ht⟩:∃t,ks[i]?=some t:=⟨_,AE (by have:=AA HKL;omega)⟩
    have hti:=(rk.ext E).rec_ styC_len ht (by omega);obtain⟨b',off',hA,hb,hmi⟩:=hti;injection hA with hA;injection hA with hA hA2;subst hA hA2;have di:=hmi 37 _ rfl;clear hmi ht
    rcases Nat.eq_zero_or_pos k with hk0|hkp
    ·have hkz:¬(0:Int)<(k:Int):=by omega
     have hdn:decide (0<k)=false:=decide_eq_false (by omega);clear hk0;have hdk:decide ((0:Int)<(k:Int))=false:=decide_eq_false (by omega);have hki:(0:Int)≤(k:Int)∧(k:Int)<(i:Int)+1:=by omega
     go_upto_region 7 with fail
     go_quiet (fail)
     clear lg di hb;have hx:Ext wr (wr.drewN nq):=(Ext.refl _).drewN _;replace OW:=own_far OW hx;replace E:=E.trans hx;generalize wr.drewN nq=wq at *;have lg:g<wq.heap.size:=(OW.lt g rfl).2;have fg:=OW.frozenAt k;obtain⟨old,hold⟩:∃v,wq.cell? ⟨g,k,none⟩=some v:=⟨_,by rw[OW.cellAt k (by omega)];exact AE (by rw[ints_len,castL_len,slot_len (by rw[AA HLL];omega),AA HLL];omega)⟩
     go_wp2_with fail;go_roundw
     case rel=>
      have OWF:=(OW.stored k (.int .i64 ((i:Nat):Int))).1;rw[castL_set,slot_set (by rw[AA HLL];omega)] at OWF;have EF:=E.set (p:=⟨g,k,none⟩) hgw (.int .i64 ((i:Nat):Int));exact⟨i+1,_,d7,slotL L k i,by go_num,by omega,rfl,AB (slot_perm (AA HP)),OWF,EF⟩
     case measure=>simp[intOf];omega
    ·obtain⟨p,hp⟩:∃p,k=p+1:=⟨k-1,by omega⟩
     obtain⟨u,hu⟩:∃u,L[p]?=some u:=⟨_,AE (by rw[AA HLL];omega)⟩
     have hul:=AA HLB u (List.mem_of_getElem? hu);obtain⟨tu,htu⟩:∃t,ks[u]?=some t:=⟨_,AE (by have:=AA HKL;omega)⟩
     have htj:=(rk.ext E).rec_ styC_len htu (by omega);obtain⟨b',off',hA,_,hmj⟩:=htj;injection hA with hA;injection hA with hA hA2;subst hA hA2;have dj:=hmj 37 _ rfl;clear hmj htu;have HKP:=AB hp;have HU:=AB hu;have cu:wr.cell? ⟨g,p,none⟩=some (.int .i64 (u:Int)):=by
      rw[OW.cellAt p (by omega),hp,ints,List.getElem?_map,castL_get (slot_get hu)];rfl
     have hk0:(0:Int)<(k:Int):=by omega
     have hdk:decide ((0:Int)<(k:Int))=true:=decide_eq_true (by omega);have hdn:decide (0<k)=true:=decide_eq_true (by omega);have hki:(0:Int)≤(k:Int)∧(k:Int)<(i:Int)+1∧(0:Int)≤(p:Int)∧(p:Int)<(i:Int)+1∧(0:Int)≤(u:Int)∧(u:Int)<(n:Int):=by omega
     have hk1:(k:Int)-1=(p:Int):=by omega
     have HK1:=AB hk1;clear hp hu hkp;by_cases hord:t.order<tu.order
     ·go_upto_region 7 with fail
      go_quiet (fail)
      clear lg di hb dj;replace cu:(wr.drewN nq).cell? ⟨g,p,none⟩=some (.int .i64 (u:Int)):=cu;have hx:Ext wr (wr.drewN nq):=(Ext.refl _).drewN _;replace OW:=own_far OW hx;replace E:=E.trans hx;generalize wr.drewN nq=wq at *;have lg:g<wq.heap.size:=(OW.lt g rfl).2;have fg:=OW.frozenAt k;obtain⟨old,hold⟩:∃v,wq.cell? ⟨g,k,none⟩=some v:=⟨_,by rw[OW.cellAt k (by omega)];exact AE (by rw[ints_len,castL_len,slot_len (by rw[AA HLL];omega),AA HLL];omega)⟩
      go_wp2_with fail;go_roundw
      case rel=>
       have OWF:=(OW.stored k (.int .i64 ((u:Nat):Int))).1;rw[castL_set,slot_set (by rw[AA HLL];omega)] at OWF;have EF:=E.set (p:=⟨g,k,none⟩) hgw (.int .i64 ((u:Nat):Int));rw[show slotL L k u=slotL L p u from by rw[AA HKP];exact slot_down (AA HU)] at OWF;exact⟨p,u,by go_num,by omega,OWF,EF⟩
      case measure=>have:=AA HKP;simp[intOf];omega
     ·go_upto_region 7 with fail
      go_quiet (fail)
      clear lg di hb dj cu hk1;have hx:Ext wr (wr.drewN nq):=(Ext.refl _).drewN _;replace OW:=own_far OW hx;replace E:=E.trans hx;generalize wr.drewN nq=wq at *;have lg:g<wq.heap.size:=(OW.lt g rfl).2;have fg:=OW.frozenAt k;obtain⟨old,hold⟩:∃v,wq.cell? ⟨g,k,none⟩=some v:=⟨_,by rw[OW.cellAt k (by omega)];exact AE (by rw[ints_len,castL_len,slot_len (by rw[AA HLL];omega),AA HLL];omega)⟩
      go_wp2_with fail;go_roundw
      case rel=>
       have OWF:=(OW.stored k (.int .i64 ((i:Nat):Int))).1;rw[castL_set,slot_set (by rw[AA HLL];omega)] at OWF;have EF:=E.set (p:=⟨g,k,none⟩) hgw (.int .i64 ((i:Nat):Int));exact⟨i+1,_,d7,slotL L k i,by go_num,by omega,rfl,AB (slot_perm (AA HP)),OWF,EF⟩
      case measure=>simp[intOf];omega
  ·obtain rfl:i=n:=by omega
   have R1:=Rd.of_own OW;go_wp2_with fail;go_ret;exact⟨B,d,L,rfl,R1,AA HP,E⟩
structure RowsSt (w0 w:World) (A:Option Addr) (nr c:Nat) (vs:List Value) (rs:List (List Nat)):Prop where
 len:rs.length=nr
 own:w.ownsRow w0.heap.size 52 1 (.slice A nr c) nr vs
 row:∀(r:Nat) (v:Value),vs[r]?=some v→w.ownsRow w0.heap.size 3 1 v (rs.getD r []).length (ints (castL (rs.getD r [])))
 apart:∀(r q:Nat) (v u:Value),vs[r]?=some v→vs[q]?=some u→r≠q→v.ownBlock=none∨v.ownBlock≠u.ownBlock
 ext:Ext w0 w
section
variable {w0 w w':World} {A A':Option Addr} {nr c c':Nat} {vs:List Value} {rs:List (List Nat)}
theorem RowsSt.vlen (h:RowsSt w0 w A nr c vs rs):vs.length=nr:=by have:=h.own.1;omega
theorem RowsSt.step (h:RowsSt w0 w A nr c vs rs) (hx:Ext w w'):RowsSt w0 w' A nr c vs rs:=
 ⟨h.len,own_far h.own hx,fun r v hv=>own_far (h.row r v hv) hx,h.apart,h.ext.trans hx⟩
theorem RowsSt.more (h:RowsSt w0 w A nr c vs rs) (hg:w.grownBy w' (Value.ownBlock (.slice A nr c))) (hown:w'.ownsRow w0.heap.size 52 1 (.slice A' (nr+1) c') (nr+1) (vs++[.slice none 0 0])) :
  RowsSt w0 w' A' (nr+1) c' (vs++[.slice none 0 0]) (rs++[[]]):=by
 have hvl:=h.vlen;have hrl:=h.len;have get:∀(r:Nat) (v:Value),(vs++[Value.slice none 0 0])[r]?=some v→vs[r]?=some v∧(rs++[[]]).getD r []=rs.getD r []∨v=.slice none 0 0∧r=nr∧(rs++[[]]).getD r []=[]:=fun r v hv=>by
  rcases Nat.lt_or_ge r nr with hr|hr
  ·left
   rw[List.getElem?_append_left (by omega)] at hv;exact⟨hv,by rw[List.getD_eq_getElem?_getD,List.getElem?_append_left (by omega),List.getD_eq_getElem?_getD]⟩
  ·right
   rw[List.getElem?_append_right (by omega)] at hv;have hl:=(List.getElem?_eq_some_iff.1 hv).1;rw[List.length_singleton] at hl;obtain rfl:r=nr:=by omega
   rw[hvl,Nat.sub_self] at hv;exact⟨(Option.some.inj hv).symm,rfl,by rw[List.getD_eq_getElem?_getD,←hrl,List.getElem?_append_right (by omega),Nat.sub_self];rfl⟩
 refine⟨by simp[hrl],hown,fun r v hv=>?_,fun r q v u hv hu hrq=>?_,h.ext.grown hg (fun q e=>(h.own.lt q e).1)⟩
 ·rcases get r v hv with ⟨h1,h2⟩|⟨rfl,_,h2⟩
  ·rw[h2];exact (h.row r v h1).kept hg (own_ne (h.row r v h1) h.own (by decide))
  ·rw[h2];exact⟨rfl,.inl ⟨rfl,rfl⟩⟩
 ·rcases get r v hv with ⟨h1,_⟩|⟨rfl,_,_⟩
  ·rcases get q u hu with ⟨h3,_⟩|⟨rfl,_,_⟩
   ·exact h.apart r q v u h1 h3 hrq
   ·cases hv2:v.ownBlock
    ·exact .inl rfl
    ·exact .inr (by simp[Value.ownBlock])
  ·exact .inl rfl
theorem RowsSt.push {m k g:Nat} {v v':Value} {n:Nat} {row:List Nat} (h:RowsSt w0 w (some ⟨g,0,none⟩) (m+1) c vs rs) (hv:vs[m]?=some v) (hr:rs[m]?=some row) (hg:w.grownBy w' v.ownBlock) (hown:w'.ownsRow w0.heap.size 3 1 v' n (ints (castL row)++[.int .i64 (k:Int)])) (hn:n=row.length+1)
  (hat:v'.ownBlock=v.ownBlock∨v'.ownBlock=some w.heap.size) :
  RowsSt w0 (w'.setCell ⟨g,m,none⟩ v') (some ⟨g,0,none⟩) (m+1) c (vs.set m v') (rs.set m (row++[k])):=by
 have hvl:=h.vlen;have hrl:=h.len;have O1:=h.own.kept hg (own_ne h.own (h.row m v hv) (by decide));obtain⟨O2,G2⟩:=O1.stored m v';have hw0:w0.heap.size≤g:=(h.own.lt g rfl).1;have E1:=(h.ext.grown hg (fun q e=>((h.row m v hv).lt q e).1)).grown G2 (fun q e=>by have:=Option.some.inj e;omega);have get:∀(r:Nat) (u:Value),(vs.set m v')[r]?=some u→r=m∧u=v'∨r≠m∧vs[r]?=some u:=fun r u hu=>by
  by_cases e:r=m
  ·subst e;rw[List.getElem?_set_self (by omega)] at hu;exact .inl ⟨rfl,(Option.some.inj hu).symm⟩
  ·rw[List.getElem?_set_ne (fun h=>e h.symm)] at hu;exact .inr ⟨e,hu⟩
 have gd:(rs.set m (row++[k])).getD m []=row++[k]:=by rw[List.getD_eq_getElem?_getD,List.getElem?_set_self (by omega)];rfl
 have gn:∀r,r≠m→(rs.set m (row++[k])).getD r []=rs.getD r []:=fun r hr=>by rw[List.getD_eq_getElem?_getD,List.getElem?_set_ne (fun h=>hr h.symm),List.getD_eq_getElem?_getD]
 have hvn:w'.ownsRow w0.heap.size 3 1 v' (row++[k]).length (ints (castL (row++[k]))):=by
  have e:ints (castL (row++[k]))=ints (castL row)++[.int .i64 (k:Int)]:=by simp[castL,ints]
  rw[e,List.length_append,List.length_singleton,←hn];exact hown
 have fresh:∀(r:Nat) (u:Value),r≠m→vs[r]?=some u→u.ownBlock=none∨u.ownBlock≠v'.ownBlock:=fun r u hne hu=>by
  rcases hat with e|e
  ·rw[e];exact h.apart r m u v hu hv hne
  ·cases hq:u.ownBlock with
   |none=>exact .inl rfl
   |some b=>
    right
    rw[e];intro hc;have:=(h.row r u hu).lt b hq;have:=Option.some.inj hc;omega
 refine⟨by rw[List.length_set,hrl],O2,fun r u hu=>?_,fun r q u z hu hz hrq=>?_,E1⟩
 ·rcases get r u hu with ⟨rfl,rfl⟩|⟨hne,hu2⟩
  ·rw[gd];exact hvn.kept G2 (own_ne hvn O1 (by decide))
  ·rw[gn r hne];have h3:=(h.row r u hu2).kept hg (h.apart r m u v hu2 hv hne);exact h3.kept G2 (own_ne h3 O1 (by decide))
 ·rcases get r u hu with ⟨rfl,rfl⟩|⟨hne,hu2⟩
  ·rcases get q z hz with ⟨rfl,rfl⟩|⟨hne2,hz2⟩
   ·exact absurd rfl hrq
   ·rcases fresh q z hne2 hz2 with e|e
    ·cases hq:Value.ownBlock u with
     |none=>exact .inl rfl
     |some b=>exact .inr (by rw[e];simp)
    ·exact .inr (fun h=>e h.symm)
  ·rcases get q z hz with ⟨rfl,rfl⟩|⟨hne2,hz2⟩
   ·exact fresh r u hne hu2
   ·exact h.apart r q u z hu2 hz2 hrq
end
theorem flatten_set {rs:List (List Nat)} {m k:Nat} {row:List Nat} (hl:rs.length=m+1) (hr:rs[m]?=some row):(rs.set m (row++[k])).flatten=rs.flatten++[k]:=by
 have h1:rs=rs.take m++[row]:=by
  have:=takeS hr;rw[List.take_of_length_le (by omega)] at this;exact this
 have h2:rs.set m (row++[k])=rs.take m++[row++[k]]:=by
  conv=>lhs;rw[h1]
  rw[List.set_append_right _ _ (by rw[List.length_take];omega),List.length_take,Nat.min_eq_left (by omega),Nat.sub_self,List.set_cons_zero]
 rw[h2]
 conv=>rhs;rw[h1]
 simp
def RowsAre (w:World) (n:Nat) (e:Ending) (w':World):Prop:=∃(A:Option Addr) (nr cap:Nat) (rs:List (List Nat)),e=.returned (.slice A nr cap)∧RdR w' w.heap.size A nr (fun r=>castL (rs.getD r []))∧rs.length=nr∧nr≤n∧rs.flatten.Perm (List.range n)∧Ext w w'
theorem last_len {rs:List (List Nat)} {m:Nat} {row:List Nat} (hl:rs.length=m+1) (hr:rs[m]?=some row):row.length≤rs.flatten.length:=by
 have h1:rs=rs.take m++[row]:=by
  have:=takeS hr;rw[List.take_of_length_le (by omega)] at this;exact this
 rw[h1];simp
theorem RowsSt.last {w0 w:World} {A:Option Addr} {m c:Nat} {vs:List Value} {rs:List (List Nat)} (h:RowsSt w0 w A (m+1) c vs rs) :
  ∃g v row Av dv,A=some ⟨g,0,none⟩∧vs[m]?=some v∧rs[m]?=some row∧v=.slice Av row.length dv∧w.ownsRow w0.heap.size 3 1 v row.length (ints (castL row)):=by
 have hvl:=h.vlen;have hrl:=h.len;obtain⟨g,hg⟩:∃g,A=some ⟨g,0,none⟩:=by
  rcases h.own.2 with ⟨_,h0⟩|⟨gl,cap,cur,h1,_⟩
  ·omega
  ·injection h1 with h1 _ _;exact⟨gl,h1⟩
 have hv:vs[m]?=some vs[m]:=AE (by omega);have hr:rs[m]?=some rs[m]:=AE (by omega);have hO:=h.row m _ hv;rw[List.getD_eq_getElem?_getD,hr] at hO;have hO:w.ownsRow w0.heap.size 3 1 vs[m] rs[m].length (ints (castL rs[m])):=hO;have hs:∃Av dv,vs[m]=.slice Av rs[m].length dv:=by
  rcases hO.2 with ⟨h1,h2⟩|⟨gl,cap,cur,h1,_⟩
  ·exact⟨none,0,by rw[h1,h2]⟩
  ·exact⟨_,_,h1⟩
 obtain⟨Av,dv,hs⟩:=hs;exact⟨g,_,_,Av,dv,hg,hv,hr,hs,hO⟩
theorem jl_info:(Tryz.prog.info? 52).map (fun i=>(i.zero,i.size,decide (i.bytes≤100000)))=some (some (.slice none 0 0),1,true):=by kernel_rfl
theorem rows_any (s:Sty) (c:Int) (A Ag:Option Addr) (n cap m cg:Nat) (ks:List Sty) (cs:List Ct) (w:World) (rk:Rd w 43 A n (recs styC ks)) (rg:Rd w 4 Ag m (recs ctC cs)) (hn:n≤300) (hm:m≤1000000) (hks:∀s∈ks,KidOk s) (hcs:CtsOk cs) (hc:0≤c∧c≤1099511627776) :
  Calls Tryz.prog 86 #[.agg s.cells,.int .i64 c,.slice A n cap,.slice Ag m cg] w (RowsAre w n):=by
 have cI:=fun w h h2=>AB (items19_any A Ag n cap m cg c ks cs w h h2 hn hm hks hcs hc)
 have cO:=fun w h=>AB (order_any A n cap ks w h hn)
 clear hks;obtain⟨i7,hi7,hz7,hs7,hb7⟩:=info_bnd ji_info;obtain⟨i8,hi8,hz8,hs8,hb8⟩:=info_bnd jl_info;have H7:=AB (And.intro hi7 (And.intro hz7 (And.intro hs7 hb7)));have H8:=AB (And.intro hi8 (And.intro hz8 (And.intro hs8 hb8)));clear hi7 hz7 hs7 hb7 hi8 hz8 hs8 hb8;go_enter Tryz.func86,Tryz.ntmps86;go_upto_region 1 with fail;have BS:Blk (w.alloc (.cells s.cells 65)) w.heap.size 65 s.cells:=Blk.new _ _ _;have E:Ext w (w.alloc (.cells s.cells 65)):=(Ext.refl _).alloc _;obtain⟨gs,hgs⟩:∃g,w.heap.size=g:=⟨_,rfl⟩
 rw[hgs] at BS ⊢;clear hgs;generalize w.alloc (.cells s.cells 65)=w0 at *;go_wp2_with fail
 with_reducible refine (AA (cI _ (rk.ext E) (rg.ext E))).mono ?_
 rintro e w1 ⟨AI,dI,its,rfl,RI0,hio,hx⟩;have RI:=Rd.of_own RI0;have hil:its.length=n:=RI.recN imC_len (by omega);clear RI0;replace E:=E.trans hx;replace BS:=BS.ext hx;clear hx;go_wp2_with fail
 with_reducible refine (AA (cO _ (rk.ext E))).mono ?_
 rintro e w2 ⟨AO,dO,L,rfl,RO,hP,hx⟩;replace E:=E.trans hx;replace BS:=BS.ext hx;replace RI:=RI.ext hx;clear hx cI cO rk;have hLl:L.length=n:=by have:=hP.length_eq;rwa [List.length_range] at this
 have hLb:∀u∈L,u<n:=fun u hu=>List.mem_range.1 (hP.mem_iff.1 hu)
 have HIL:=AB hil;have HIO:=AB hio;have HP:=AB hP;have HLL:=AB hLl;have HLB:=AB hLb;clear hil hio hP hLl hLb;go_wp2_with fail;go_loopw [11,12,13] (fun v11 v12 v13 wr=>∃(i nr:Nat) (A1:Option Addr) (d:Nat) (sum:Int) (vs:List Value) (rs:List (List Nat)),v13=.int .i64 i∧i≤n∧v11=.slice A1 nr d∧v12=.int .i64 sum∧-90000000000000*(i:Int)≤sum∧sum≤90000000000000*(i:Int)∧nr≤i∧(0<i→0<nr)∧Hid (rs.flatten=L.take i)∧RowsSt w2 wr A1 nr d vs rs) (fun _ _ v13 _=>n-(intOf v13).toNat)
 case atStart=>exact⟨0,0,none,0,0,[],[],rfl,by omega,rfl,rfl,by omega,by omega,by omega,by omega,rfl,⟨rfl,⟨rfl,.inl ⟨rfl,rfl⟩⟩,fun r v h=>by simp at h,fun r q v u h=>by simp at h,Ext.refl _⟩⟩
 case round=>
  obtain⟨i,nr,A1,d,sum,vs,rs,rfl,hi,rfl,rfl,hs1,hs2,hnr,hpos,HF,J⟩:=hrel;by_cases hin:i<n
  ·obtain⟨u,hu⟩:∃u,L[i]?=some u:=⟨_,AE (by rw[AA HLL];exact hin)⟩
   have hun:=AA HLB u (List.mem_of_getElem? hu);obtain⟨bo,oo,rfl,hbo,hco⟩:=(RO.ext J.ext).intIn (castL_get hu);obtain⟨⟨is,il,ir,sd,ib,ig,ifa,ihd,iw⟩,hit⟩:∃t,its[u]?=some t:=⟨_,AE (by rw[AA HIL];exact hun)⟩
   have hiok:=(AA HIO _ (List.mem_of_getElem? hit)).1;obtain⟨-,⟨k1,k2⟩,-,k3,k4⟩:=hiok;simp only at k1 k2 k3 k4;obtain⟨bi,oi,rfl,hbi2,hmj⟩:=RI.rec_ imC_len hit (by omega);have hmi:∀(j:Nat) (v:Value),(imC ⟨is,il,ir,sd,ib,ig,ifa,ihd,iw⟩)[j]?=some v→wr.cell? ⟨bi,oi+u*51+j,none⟩=some v:=fun j v hv=>(J.ext.cells.1 bi _ hbi2).trans (hmj j v hv)
   have hbi:=Nat.lt_of_lt_of_le hbi2 J.ext.size;clear hmj;have e47:=hmi 47 _ rfl;have e45:=hmi 45 _ rfl;have HU:=AB hu;have cw:=((BS.ext J.ext).cell 34).trans (rfl:_=some (Value.bool s.wrap));have lw:=(BS.ext J.ext).lt;clear hu hit hmi;have hiI:(0:Int)≤(i:Int)∧(i:Int)<(n:Int)∧(n:Int)≤300∧(0:Int)≤(u:Int)∧(u:Int)<(n:Int):=by omega
   go_upto_region 9 with fail;clear hco hbo
   go_quiet (fail)
   have hx:Ext wr (wr.drewN nq):=(Ext.refl _).drewN _;replace J:=J.step hx;replace e47:(wr.drewN nq).cell? ⟨bi,oi+u*51+47,none⟩=some (.int .i64 ig):=e47;replace e45:(wr.drewN nq).cell? ⟨bi,oi+u*51+45,none⟩=some (.int .i64 sd):=e45;replace cw:(wr.drewN nq).cell? ⟨gs,34,none⟩=some (.bool s.wrap):=cw;replace lw:gs<(wr.drewN nq).heap.size:=lw;replace hbi:bi<(wr.drewN nq).heap.size:=hbi;clear hx;generalize wr.drewN nq=wq at *;obtain⟨sm,hsm⟩:∃x,sum+ig+sd=x:=⟨_,rfl⟩
   skip
   by_cases hz:i=0
   ·have hzi:((i:Int)==0)=true:=by simp;omega
    have HZ:=AB hz;clear hz;have hO0:=J.own;go_upto_region 12 with (first
     |(at_builtin
       refine wpList_append_rd rfl (.tmp 55) (.tmp 56) _ rfl w2.heap.size 52 i8 _ 1 i8.bytes Tryz.underlying77 (AA H8).1 (AA H8).2.1 (AA H8).2.2.1 rfl rfl (by omega) _ nr vs rfl (own_far hO0 ((Ext.refl _).alloc _)) _ 1 1 [.slice none 0 0] rfl (Rd.one _ _) (by simp[Value.oneCell']) (by simp only[maxLen];omega) (bytes_ok3 (by omega) (AA H8).2.2.2) (by have:=J.ext.size;simp;omega) ?_;intro B6 d6 w6 own6 g6 at6))
    have ha:Ext wq (wq.alloc (.cells #[.slice none 0 0] 52)):=(Ext.refl _).alloc _;have Jn:=(J.step ha).more g6 own6;have hfar:∀q,q<w2.heap.size→w6.heap[q]?=wq.heap[q]?:=fun q hq=>(Jn.ext.block q hq).trans (J.ext.block q hq).symm
    replace e47:w6.cell? ⟨bi,oi+u*51+47,none⟩=some (.int .i64 ig):=(World.cell?_of_block (hfar bi hbi2)).trans e47;replace e45:w6.cell? ⟨bi,oi+u*51+45,none⟩=some (.int .i64 sd):=(World.cell?_of_block (hfar bi hbi2)).trans e45;replace hbi:=Nat.lt_of_lt_of_le hbi2 Jn.ext.size;have HF2:=AB (show (rs++[[]]).flatten=L.take i by rw[List.flatten_append];simpa using AA HF);clear own6 g6 at6 ha hfar J cw lw hO0
    go_quiet (fail)
    replace Jn:=Jn.step ((Ext.refl _).drewN nq);generalize w6.drewN nq=w8 at *;have hm1:((nr+1:Nat):Int)-1=(nr:Int):=by omega
    have hmI:(0:Int)≤(nr:Int)∧(nr:Int)<((nr+1:Nat):Int):=by omega
    obtain⟨g,v,row,Av,dv,rfl,hv,hr,rfl,OR⟩:=Jn.last;have hO:=Jn.own;have cg:=Jn.own.cellAt nr (by omega);rw[hv] at cg;have lg:=(Jn.own.lt g rfl).2;have hrl:=last_len Jn.len hr;rw[AA HF2,List.length_take,AA HLL,Nat.min_eq_left hi] at hrl;have HV:=AB hv;have HR:=AB hr;clear hv hr;go_wp2_with (first
     |(at_builtin
       refine wpList_append_rd rfl (.tmp 78) (.tmp 80) _ rfl w2.heap.size 3 i7 _ 1 i7.bytes Tryz.underlying52 (AA H7).1 (AA H7).2.1 (AA H7).2.2.1 rfl rfl (by omega) _ row.length (ints (castL row)) rfl (own_far OR ((Ext.refl _).alloc _)) _ 1 1 [.int .i64 (u:Int)] rfl (Rd.one _ _) (by simp[Value.oneCell']) (by simp only[maxLen];omega) (bytes_ok3 (by omega) (AA H7).2.2.2) (by have:=Jn.ext.size;simp;omega) ?_))
    intro B7 d7 w7 own7 g7 at7;have hO1:=own_far hO ((Ext.refl _).alloc (.cells #[.int .i64 (u:Int)] 3));have OR1:=own_far OR ((Ext.refl _).alloc (.cells #[.int .i64 (u:Int)] 3));have O1:=hO1.kept g7 (own_ne hO1 OR1 (by decide));have cs:=O1.cellAt nr (by omega);rw[AA HV] at cs;have fs:=O1.frozenAt nr;have ls:=(O1.lt g rfl).2;clear cg lg O1 hO1 OR1;go_wp2_with fail;go_roundw
    case rel=>
     have J2:=(Jn.step ((Ext.refl _).alloc (.cells #[.int .i64 (u:Int)] 3))).push (AA HV) (AA HR) g7 own7 rfl (by rw[World.size_alloc];exact at7);exact⟨i+1,nr+1,_,_,(ig+sd),_,_,by go_num,by omega,rfl,by first|rfl|(rw[←hsm]),by omega,by omega,by omega,by omega,AB (by rw[flatten_set Jn.len (AA HR),AA HF2,takeS (AA HU)]),J2⟩
    case measure=>simp[intOf];omega
   ·have hzi:((i:Int)==0)=false:=by simp;omega
    cases hwr:s.wrap
    ·rw[hwr] at cw;obtain⟨m,hm⟩:∃m,nr=m+1:=⟨nr-1,by omega⟩
     subst hm;have hm1:((m+1:Nat):Int)-1=(m:Int):=by omega
     have hmI:(0:Int)≤(m:Int)∧(m:Int)<((m+1:Nat):Int):=by omega
     skip
     obtain⟨g,v,row,Av,dv,rfl,hv,hr,rfl,OR⟩:=J.last;have hO:=J.own;have cg:=J.own.cellAt m (by omega);rw[hv] at cg;have lg:=(J.own.lt g rfl).2;have hrl:=last_len J.len hr;rw[AA HF,List.length_take,AA HLL,Nat.min_eq_left hi] at hrl;have HV:=AB hv;have HR:=AB hr;clear hv hr;go_wp2_with (first
      |(at_builtin
        refine wpList_append_rd rfl (.tmp 78) (.tmp 80) _ rfl w2.heap.size 3 i7 _ 1 i7.bytes Tryz.underlying52 (AA H7).1 (AA H7).2.1 (AA H7).2.2.1 rfl rfl (by omega) _ row.length (ints (castL row)) rfl (own_far OR ((Ext.refl _).alloc _)) _ 1 1 [.int .i64 (u:Int)] rfl (Rd.one _ _) (by simp[Value.oneCell']) (by simp only[maxLen];omega) (bytes_ok3 (by omega) (AA H7).2.2.2) (by have:=J.ext.size;simp;omega) ?_))
     intro B7 d7 w7 own7 g7 at7;have hO1:=own_far hO ((Ext.refl _).alloc (.cells #[.int .i64 (u:Int)] 3));have OR1:=own_far OR ((Ext.refl _).alloc (.cells #[.int .i64 (u:Int)] 3));have O1:=hO1.kept g7 (own_ne hO1 OR1 (by decide));have cs:=O1.cellAt m (by omega);rw[AA HV] at cs;have fs:=O1.frozenAt m;have ls:=(O1.lt g rfl).2;clear cg lg O1 hO1 OR1;go_wp2_with fail;go_roundw
     case rel=>
      have J2:=(J.step ((Ext.refl _).alloc (.cells #[.int .i64 (u:Int)] 3))).push (AA HV) (AA HR) g7 own7 rfl (by rw[World.size_alloc];exact at7);exact⟨i+1,m+1,_,_,(sum+ig+sd),_,_,by go_num,by omega,rfl,by first|rfl|(rw[←hsm]),by omega,by omega,by omega,by omega,AB (by rw[flatten_set J.len (AA HR),AA HF,takeS (AA HU)]),J2⟩
     case measure=>simp[intOf];omega
    ·rw[hwr] at cw;by_cases hsc:c<sm
     ·have hO0:=J.own;go_upto_region 12 with (first
       |(at_builtin
         refine wpList_append_rd rfl (.tmp 55) (.tmp 56) _ rfl w2.heap.size 52 i8 _ 1 i8.bytes Tryz.underlying77 (AA H8).1 (AA H8).2.1 (AA H8).2.2.1 rfl rfl (by omega) _ nr vs rfl (own_far hO0 ((Ext.refl _).alloc _)) _ 1 1 [.slice none 0 0] rfl (Rd.one _ _) (by simp[Value.oneCell']) (by simp only[maxLen];omega) (bytes_ok3 (by omega) (AA H8).2.2.2) (by have:=J.ext.size;simp;omega) ?_;intro B6 d6 w6 own6 g6 at6))
      have ha:Ext wq (wq.alloc (.cells #[.slice none 0 0] 52)):=(Ext.refl _).alloc _;have Jn:=(J.step ha).more g6 own6;have hfar:∀q,q<w2.heap.size→w6.heap[q]?=wq.heap[q]?:=fun q hq=>(Jn.ext.block q hq).trans (J.ext.block q hq).symm
      replace e47:w6.cell? ⟨bi,oi+u*51+47,none⟩=some (.int .i64 ig):=(World.cell?_of_block (hfar bi hbi2)).trans e47;replace e45:w6.cell? ⟨bi,oi+u*51+45,none⟩=some (.int .i64 sd):=(World.cell?_of_block (hfar bi hbi2)).trans e45;replace hbi:=Nat.lt_of_lt_of_le hbi2 Jn.ext.size;have HF2:=AB (show (rs++[[]]).flatten=L.take i by rw[List.flatten_append];simpa using AA HF);clear own6 g6 at6 ha hfar J cw lw hO0
      go_quiet (fail)
      replace Jn:=Jn.step ((Ext.refl _).drewN nq);generalize w6.drewN nq=w8 at *;have hm1:((nr+1:Nat):Int)-1=(nr:Int):=by omega
      have hmI:(0:Int)≤(nr:Int)∧(nr:Int)<((nr+1:Nat):Int):=by omega
      obtain⟨g,v,row,Av,dv,rfl,hv,hr,rfl,OR⟩:=Jn.last;have hO:=Jn.own;have cg:=Jn.own.cellAt nr (by omega);rw[hv] at cg;have lg:=(Jn.own.lt g rfl).2;have hrl:=last_len Jn.len hr;rw[AA HF2,List.length_take,AA HLL,Nat.min_eq_left hi] at hrl;have HV:=AB hv;have HR:=AB hr;clear hv hr;go_wp2_with (first
       |(at_builtin
         refine wpList_append_rd rfl (.tmp 78) (.tmp 80) _ rfl w2.heap.size 3 i7 _ 1 i7.bytes Tryz.underlying52 (AA H7).1 (AA H7).2.1 (AA H7).2.2.1 rfl rfl (by omega) _ row.length (ints (castL row)) rfl (own_far OR ((Ext.refl _).alloc _)) _ 1 1 [.int .i64 (u:Int)] rfl (Rd.one _ _) (by simp[Value.oneCell']) (by simp only[maxLen];omega) (bytes_ok3 (by omega) (AA H7).2.2.2) (by have:=Jn.ext.size;simp;omega) ?_))
      intro B7 d7 w7 own7 g7 at7;have hO1:=own_far hO ((Ext.refl _).alloc (.cells #[.int .i64 (u:Int)] 3));have OR1:=own_far OR ((Ext.refl _).alloc (.cells #[.int .i64 (u:Int)] 3));have O1:=hO1.kept g7 (own_ne hO1 OR1 (by decide));have cs:=O1.cellAt nr (by omega);rw[AA HV] at cs;have fs:=O1.frozenAt nr;have ls:=(O1.lt g rfl).2;clear cg lg O1 hO1 OR1;go_wp2_with fail;go_roundw
      case rel=>
       have J2:=(Jn.step ((Ext.refl _).alloc (.cells #[.int .i64 (u:Int)] 3))).push (AA HV) (AA HR) g7 own7 rfl (by rw[World.size_alloc];exact at7);exact⟨i+1,nr+1,_,_,(ig+sd),_,_,by go_num,by omega,rfl,by first|rfl|(rw[←hsm]),by omega,by omega,by omega,by omega,AB (by rw[flatten_set Jn.len (AA HR),AA HF2,takeS (AA HU)]),J2⟩
      case measure=>simp[intOf];omega
     ·skip
      obtain⟨m,hm⟩:∃m,nr=m+1:=⟨nr-1,by omega⟩
      subst hm;have hm1:((m+1:Nat):Int)-1=(m:Int):=by omega
      have hmI:(0:Int)≤(m:Int)∧(m:Int)<((m+1:Nat):Int):=by omega
      skip
      obtain⟨g,v,row,Av,dv,rfl,hv,hr,rfl,OR⟩:=J.last;have hO:=J.own;have cg:=J.own.cellAt m (by omega);rw[hv] at cg;have lg:=(J.own.lt g rfl).2;have hrl:=last_len J.len hr;rw[AA HF,List.length_take,AA HLL,Nat.min_eq_left hi] at hrl;have HV:=AB hv;have HR:=AB hr;clear hv hr;go_wp2_with (first
       |(at_builtin
         refine wpList_append_rd rfl (.tmp 78) (.tmp 80) _ rfl w2.heap.size 3 i7 _ 1 i7.bytes Tryz.underlying52 (AA H7).1 (AA H7).2.1 (AA H7).2.2.1 rfl rfl (by omega) _ row.length (ints (castL row)) rfl (own_far OR ((Ext.refl _).alloc _)) _ 1 1 [.int .i64 (u:Int)] rfl (Rd.one _ _) (by simp[Value.oneCell']) (by simp only[maxLen];omega) (bytes_ok3 (by omega) (AA H7).2.2.2) (by have:=J.ext.size;simp;omega) ?_))
      intro B7 d7 w7 own7 g7 at7;have hO1:=own_far hO ((Ext.refl _).alloc (.cells #[.int .i64 (u:Int)] 3));have OR1:=own_far OR ((Ext.refl _).alloc (.cells #[.int .i64 (u:Int)] 3));have O1:=hO1.kept g7 (own_ne hO1 OR1 (by decide));have cs:=O1.cellAt m (by omega);rw[AA HV] at cs;have fs:=O1.frozenAt m;have ls:=(O1.lt g rfl).2;clear cg lg O1 hO1 OR1;go_wp2_with fail;go_roundw
      case rel=>
       have J2:=(J.step ((Ext.refl _).alloc (.cells #[.int .i64 (u:Int)] 3))).push (AA HV) (AA HR) g7 own7 rfl (by rw[World.size_alloc];exact at7);exact⟨i+1,m+1,_,_,(sum+ig+sd),_,_,by go_num,by omega,rfl,by first|rfl|(rw[←hsm]),by omega,by omega,by omega,by omega,AB (by rw[flatten_set J.len (AA HR),AA HF,takeS (AA HU)]),J2⟩
      case measure=>simp[intOf];omega
  ·obtain rfl:i=n:=by omega
   go_wp2_with fail;go_ret;refine⟨A1,nr,d,rs,rfl,⟨fun r hr=>?_⟩,J.len,hnr,?_,E.trans J.ext⟩
   ·obtain⟨v,hv⟩:∃v,vs[r]?=some v:=⟨_,AE (by rw[J.vlen];exact hr)⟩
    have hO:=J.row r v hv;obtain⟨g,hg⟩:∃g,A1=some ⟨g,0,none⟩:=by
     rcases J.own.2 with ⟨_,h0⟩|⟨gl,cap,cur,h1,_⟩
     ·omega
     ·injection h1 with h1 _ _;exact⟨gl,h1⟩
    subst hg;have hcl:=castL_len (rs.getD r []);obtain⟨Av,dv,rfl⟩:∃Av dv,v=.slice Av (rs.getD r []).length dv:=by
     rcases hO.2 with ⟨h1,h2⟩|⟨gl,cap,cur,h1,_⟩
     ·exact⟨none,0,by rw[h1,h2]⟩
     ·exact⟨_,_,h1⟩
    refine⟨g,0,Av,dv,rfl,Nat.le_trans E.size (J.own.lt g rfl).1,(J.own.lt g rfl).2,?_,?_,fun b' o' e=>Nat.le_trans E.size (hO.lt b' (by rw[e];rfl)).1⟩
    ·rw[Nat.zero_add,J.own.cellAt r (by omega),hv,hcl]
    ·rw[hcl];exact Rd.of_own hO
   ·rw[AA HF,List.take_of_length_le (by rw[AA HLL];omega)];exact AA HP
end Go.Proofs.YtamldoocjjdidaaGreat
