import Derived.Test.YtamldoocjjdidaaGreatMHvH
import Derived.Test.YtamldoocjjdidaaGreatMHuI
import Derived.Test.YtamldoocjjdidaaGreatMEdC
namespace Go.Proofs.YtamldoocjjdidaaGreat
open Go.RowKit
set_option maxRecDepth 100000
set_option maxHeartbeats 64000000
structure KSt (w2 w:World) (j:Nat) (A2:Option Addr) (c2:Nat) (B2:Option Addr) (d2:Nat) (us:List Us) (bl:List Bool):Prop where
 ext:Ext w2 w
 o1:w.ownsRow w2.heap.size 120 3 (.slice A2 j c2) j (recs usC us)
 o2:w.ownsRow w2.heap.size 4 1 (.slice B2 j d2) j (boolL bl)
section
variable {w2 w w':World} {j c2 d2:Nat} {A2 B2:Option Addr} {us:List Us} {bl:List Bool}
theorem us_zero:UsOk ⟨0,0,0⟩:=⟨by decide,by decide,by decide⟩
theorem KSt.step (h:KSt w2 w j A2 c2 B2 d2 us bl) (hx:Ext w w'):KSt w2 w' j A2 c2 B2 d2 us bl:=⟨h.ext.trans hx,own_ext h.o1 hx,own_ext h.o2 hx⟩
theorem KSt.var (h:KSt w2 w j A2 c2 B2 d2 us bl) {q:Nat} {T:TypeId} {cs:Array Value} (hq:Blk w q T cs) (hg:w.grownBy w' (some q)) (hlo:w2.heap.size≤q) (h1:∀b,Value.ownBlock (.slice A2 j c2)=some b→b≠q) (h2:4≠T):KSt w2 w' j A2 c2 B2 d2 us bl:=
 ⟨h.ext.grownBlk hg hlo,own_grown h.o1 hg h1,own_grown h.o2 hg (own_blk_ne h.o2 hq h2)⟩
end
section
variable (t:Tr) (ns:List Nd) (av:List Int) (un:Nat→List Int)
theorem kids21_any (i:Nat) (hi:i<ns.length) (u:Us) (A Ag:Option Addr) (n c m cg:Nat) (kl:List Int) (cs:List Ct) (w:World) (h:LT w t ns av un) (rk:Rd w 1 A n (ints kl)) (hk:KidsIn ns kl) (hn:n≤300) (rg:Rd w 4 Ag m (recs ctC cs)) (hcs:CtsOk cs) (hm:m≤300) (hu:UsOk u) :
  Calls Tryz.prog 82 #[.agg t.cs,.int .i64 i,.agg (usC u).toArray,.slice A n c,.slice Ag m cg] w (MainsIs w n):=by
 have hnl:=h.tr.nodes.nlen;have hkl:kl.length=n:=by have:=rk.len;rw[ints_len] at this;omega
 have H:=AB h;have HK:=AB hk;have HU:=AB hu;have HCS:=AB hcs;have HI:=AB sty_row;have HIu:=AB us_row;have HIb:=AB bool_row;clear h hk hcs;go_enter Tryz.func82,Tryz.ntmps82;go_upto_region 1 with fail;generalize hw1:World.alloc (World.alloc w _) _=w1;obtain⟨gT,hgT⟩:∃g,w.heap.size=g:=⟨_,rfl⟩
 have BT:Blk w1 gT 25 t.cs:=by rw[←hw1,←hgT];exact (Blk.new _ _ _).alloc _
 have BU:Blk w1 (gT+1) 120 (usC u).toArray:=by rw[←hw1,←hgT];exact Blk.new1 _ _ _ _
 have E1:=AB (show Ext w w1 by rw[←hw1];exact ((Ext.refl _).alloc _).alloc _);rw[hgT];clear hgT hw1;have HBT:=AB BT;have HBU:=AB BU;clear BT BU;go_wp2_with fail;go_loopw [12,13] (fun v12 v13 wq=>∃(k:Nat) (B:Option Addr) (d:Nat) (ss:List Sty),v13=.int .i64 k∧v12=.slice B k d∧k≤n∧Hid (∀s∈ss,NdOk s)∧Hid (Ext w1 wq)∧wq.ownsRow w1.heap.size 65 43 (.slice B k d) k (recs styC ss)) (fun _ v13 _=>n-(intOf v13).toNat)
 case atStart=>exact⟨0,none,0,[],rfl,rfl,by omega,AB (by simp),AB (Ext.refl _),own_nil _ _ _ _⟩
 case round=>
  obtain⟨k,B,d,ss,rfl,rfl,hkn,HS,E,OS⟩:=hrel;have BT:=(AA HBT).ext (AA E);by_cases hkn':k<n
  ·as_aux_lemma=>
   have hkI:(0:Int)≤(k:Int)∧(k:Int)<(n:Int):=by omega
   obtain⟨z,hz⟩:∃z,kl[k]?=some z:=⟨_,AE (by omega)⟩
   obtain⟨q,rfl⟩:∃q:Nat,z=(q:Int):=⟨z.toNat,by have:=(AA HK) z (List.mem_of_getElem? hz);omega⟩
   have hq:q<ns.length:=by have:=(AA HK) _ (List.mem_of_getElem? hz);omega
   obtain⟨ba,oa,rfl,la,-⟩:=(rk.ext ((AA E1).trans (AA E))).at_ (by omega);have q1:=((rk.ext ((AA E1).trans (AA E))).cellAt hkn' (show (ints kl)[k]?=some (Value.int .i64 (q:Int)) by rw[ints,List.getElem?_map,hz];rfl)).2;obtain⟨nd,hnd⟩:∃nd,ns[q]?=some nd:=⟨_,AE hq⟩
   obtain⟨bn,on,hna,lbn,hcn⟩:=((AA H).ext ((AA E1).trans (AA E))).tr.nodes.node hnd;have HNd:=AB ((AA H).ok.nd hnd);have HC:=AB hcn;have HLN:=AB lbn;have t0:=(BT.cell 0).trans (rfl:_=some (Value.slice t.na t.nl t.nc));rw[hna] at t0;have lT:=BT.lt;have hqI:(0:Int)≤(q:Int)∧(q:Int)<(t.nl:Int):=by omega
   clear hcn hnd hna BT hz lbn;go_upto_region 5 with fail;refine wp_region_ord [(1,0),(1,1),(0,2),(1,3),(1,4),(1,5),(0,6),(1,7),(1,8),(0,9),(3,10),(3,11),(1,12)] 10 (fun w'=>Ext wr w') (by kernel_rfl) (by kernel_rfl) rfl (by kernel_rfl) ((Ext.refl _).drew) ?_;simp only[AD]
   iterate 9 ((first|refine ordQA ?_|refine ordQB ?_);simp only[AC])
   refine ord_hold (v:=.agg nd.s.cells) rfl (fun w' hI=>run_load_sty (.tmp 34) rfl rfl (fun x v hv=>?_)) ?_
   ·have h1:=(AA HC) (1+x) v (by rw[Nat.add_comm];exact hv);rw[←Nat.add_assoc] at h1;exact (hI.cells.1 bn _ (AA HLN)).trans h1
   simp only[AC];have hS:=(Ext.refl wr).drew;have OS2:=own_ext OS hS;have E2:=AB ((AA E).trans hS);clear q1 la t0 lT hS OS E HC HLN;generalize wr.drew=w9 at *;refine ord_last ?_;refine Go.Great.wpList_buildSliceTo rfl 156 65 1 _ rfl _ rfl _ rfl Tryz.underlying156 (styC nd.s).toArray (by simp only[List.map_toArray,List.map_cons,List.map_nil];exact built_sty _) ?_;simp only[AC];have hx:Ext w9 (w9.alloc (.cells (styC nd.s).toArray 65)):=(Ext.refl _).alloc _;have R5:Rd (w9.alloc (.cells (styC nd.s).toArray 65)) 43 (some ⟨w9.heap.size,0,none⟩) 1 (styC nd.s):=(Blk.new w9 65 (styC nd.s).toArray).rdk (n:=1) (k:=43) rfl;have O8:=own_ext OS2 hx;have E8:=(AA E2).trans hx;clear hx OS2 E2;generalize w9.alloc (.cells (styC nd.s).toArray 65)=w6 at *;generalize w9.heap.size=gqw6 at *;go_wp2_with fail;refine ord_last ?_;refine wpList_push (W:=w1) rfl (.tmp 26) (.tmp 36) 156 rfl w1.heap.size 65 43 Tryz.underlying156 HI (by omega) _ k (recs styC ss) rfl O8 _ 1 1 (styC nd.s) rfl R5 (styC_one1 _) (by omega) E8 (Nat.le_refl _) E8.size ?_;intro B1 d1 w7 O1 X1 g1 at1;have O9:w7.ownsRow w1.heap.size 65 43 (.slice B1 (k+1) d1) (k+1) (recs styC (ss++[nd.s])):=by rw[recs_append,recs_one];exact O1
   have HX1:=AB X1;have HS2:=AB (show ∀s∈ss++[nd.s],NdOk s from fun s hs=>by
    rcases List.mem_append.1 hs with hs|hs
    ·exact (AA HS) s hs
    ·rw[List.mem_singleton.1 hs];exact AA HNd)
   clear R5 O1 X1 g1 at1 O8 E8 HS HNd;simp only[AC];go_wp2_with fail
   iterate 1 ((first|refine ordQA ?_|refine ordQB ?_);simp only[AC])
   refine ord_nil ?_;go_wp2_with fail;go_roundw
   case rel=>exact⟨k+1,B1,d1,_,by go_num,rfl,by omega,HS2,HX1,O9⟩
   case measure=>simp[intOf];omega
  ·as_aux_lemma=>
   have hkI:¬(k:Int)<(n:Int):=by omega
   obtain rfl:k=n:=by omega
   obtain⟨nd,hnd⟩:∃nd,ns[i]?=some nd:=⟨_,AE hi⟩
   obtain⟨bn,on,hna,lbn,hcn⟩:=((AA H).ext ((AA E1).trans (AA E))).tr.nodes.node hnd;have HNd:=AB ((AA H).ok.nd hnd);have ck:=hcn 1 _ (show nd.cells[1]?=some (Value.int .u8 nd.s.kind) from rfl);have HC:=AB hcn;have HLN:=AB lbn;have t0:=(BT.cell 0).trans (rfl:_=some (Value.slice t.na t.nl t.nc));rw[hna] at t0;have lT:=BT.lt;have hiI:(0:Int)≤(i:Int)∧(i:Int)<(t.nl:Int):=by omega
   have HNA:=AB hna;clear hcn hnd hna;obtain⟨t1,ht1⟩:∃q,(nd.s.kind==2)=q:=⟨_,rfl⟩
   go_upto_if 45 with (fail);clear ck ht1;have RG:=(rg.ext (AA E1)).ext (AA E);cases t1
   ·
    clear t0 lT lbn HC HLN HNA HNd BT;have hssl:=AB ((Rd.of_own OS).recN styC_len (by omega));have HRS:=AB (Rd.of_own OS);have HRG:=AB RG;have EW:=AB ((AA E1).trans (AA E));have HBU2:=AB ((AA HBU).ext (AA E));clear OS RG E;generalize hwq:wr=w2 at *;clear hwq;go_wp2_with fail;go_loopw [14,15,16] (fun v14 v15 v16 wq=>∃(j:Nat) (A2 B2:Option Addr) (c2 d2:Nat) (us:List Us) (bl:List Bool),v16=.int .i64 j∧v14=.slice A2 j c2∧v15=.slice B2 j d2∧j≤k∧Hid (∀u∈us,UsOk u)∧KSt w2 wq j A2 c2 B2 d2 us bl) (fun _ _ v16 _=>k-(intOf v16).toNat)
    case atStart=>exact⟨0,none,none,0,0,[],[],rfl,rfl,rfl,by omega,AB (by simp),⟨Ext.refl _,own_nil _ _ _ _,own_nil _ _ _ _⟩⟩
    case round=>
     obtain⟨j,A2,B2,c2,d2,us,bl,rfl,rfl,rfl,hj,HUs,Q⟩:=hrel;by_cases hjk:j<k
     ·as_aux_lemma=>
      have hjI:(0:Int)≤(j:Int)∧(j:Int)<(k:Int):=by omega
      obtain⟨s,hs⟩:∃s,ss[j]?=some s:=⟨_,AE (by have:=AA hssl;omega)⟩
      have HSK:=AB ((AA HS) s (List.mem_of_getElem? hs));have HSs:=AB hs;go_upto_region 13 with fail;have hne:=AB (fun b (e:Value.ownBlock (.slice A2 j c2)=some b)=>(Q.o1.lt b e).2);go_step;refine wpList_alloc_var rfl 120 rfl (usC ⟨0,0,0⟩).toArray (by kernel_rfl) ?_;intro w3 BV hx zx;simp only[AC];have HLO:=AB Q.ext.size;replace Q:=Q.step hx;generalize wr.heap.size=gU at *;replace hne:=AB (fun b (e:Value.ownBlock (.slice A2 j c2)=some b)=>(show b≠gU by have:=(AA hne) b e;omega));clear hx zx;obtain⟨bs,os,hB,lbs,hms⟩:=((AA HRS).ext Q.ext).rec_ styC_len hs (by omega);subst hB;have s0:=hms 0 _ (rfl:_=some (Value.int .u8 s.kind));rw[Nat.add_zero] at s0;have s2:=hms 2 _ (rfl:_=some (Value.int .u8 s.float));have HMS:=AB hms;have HLB:=AB lbs;obtain⟨t1,ht1⟩:∃q,(s.kind==3)=q:=⟨_,rfl⟩
      obtain⟨t2,ht2⟩:∃q,(s.float==0)=q:=⟨_,rfl⟩
      clear hms hs
      go_upto_block 4 with fail
      go_cut [18] from 59 to 118 (fun v18 wx=>(∃(u2:Us) (b2:Bool),UsOk u2∧v18=.bool b2∧Blk wx gU 120 (usC u2).toArray)∧KSt w2 wx j A2 c2 B2 d2 us bl)
      case first=>
       as_aux_lemma=>
       cases t1
       ·cases t2
        ·
         go_upto_region 18 with fail;clear s0 s2 lbs ht1 ht2;go_step;refine wpList_alloc_var rfl 108 rfl (ctC zCt).toArray (by kernel_rfl) ?_;intro w4 BC hx zx;simp only[AC];have HLC:=AB (show w2.heap.size≤w3.heap.size from Q.ext.size);have HX34:=AB hx;replace Q:=Q.step hx;replace BV:=BV.ext hx;generalize w3.heap.size=gC at *;clear hx zx;go_upto_if 92 with (fail);go_cut [] from 59 to 118 (fun wx=>(∃ct:Ct,CtOk ct∧Blk wx gC 108 (ctC ct).toArray)∧Blk wx gU 120 (usC ⟨0,0,0⟩).toArray∧KSt w2 wx j A2 c2 (B2) d2 us bl)
         case first=>
          as_aux_lemma=>
          by_cases hjm:j<m
          ·have hjmI:(0:Int)≤(j:Int)∧(j:Int)<(m:Int):=by omega
           have rr:=(AA HRG).ext Q.ext;obtain⟨x,hx⟩:∃x,cs[j]?=some x:=⟨_,AE (by have:=rr.recN ctC_len (by omega);omega)⟩
           have HX:=AB ((AA HCS) x (List.mem_of_getElem? hx));obtain⟨bg,og,hAg,lbg,hmg⟩:=rr.rec_ ctC_len hx (by omega);subst hAg;have HMG:=AB hmg;clear hmg hx rr;go_upto_region 20 with fail
           iterate 10 go_step
           refine wpList_load_midg 108 (.tmp 95) rfl bg (og+j*4) rfl rfl (ctC x) _ (fun y v hv=>(AA HMG) y v hv) Tryz.underlying108 rfl (by kernel_rfl) ?_;simp only[AC];refine wpList_store_blk rfl 108 (.tmp 19) (.tmp 96) rfl gC rfl (ctC x).toArray rfl 108 (ctC zCt).toArray BC (by kernel_rfl) rfl (by kernel_rfl) ?_;intro w9 B9 g9 z9;simp only[Act.put];go_wp2_with fail;go_meet
           case rel=>exact⟨⟨x,AA HX,B9⟩,BV.grownNe g9 (blk_ne BV BC (by decide)),Q.var BC g9 (AA HLC) (own_blk_ne Q.o1 BC (by decide)) (by decide)⟩
          ·have hjmI:¬(j:Int)<(m:Int):=by omega
           go_wp2_with fail;go_meet
           case rel=>exact⟨⟨_,CtOk.zero,BC⟩,BV,Q⟩
         case rest=>
          as_aux_lemma=>
          clear Q BV BC;obtain⟨⟨ct,hct,BC⟩,BV,Q⟩:=hcut;have BU:=(AA HBU2).ext Q.ext;have u0:=(BU.cell 0).trans (rfl:_=some (Value.int .i64 u.w));have lU:=BU.lt;have k0:=(BC.cell 0).trans (rfl:_=some (Value.int .i64 ct.l));have k1:=(BC.cell 1).trans (rfl:_=some (Value.int .i64 ct.g));have lC:=BC.lt;have HMw:=AB (fun x v hv=>(Q.ext.cells.1 bs _ (show bs<w2.heap.size by obtain⟨b',o',e1,e2,_⟩:=(AA HRS).rec_ styC_len (AA HSs) (by omega);injection e1 with e1;injection e1 with e1 e3;omega)).trans ((show ∀(x:Nat) (v:Value),(styC s)[x]?=some v→w2.cell? ⟨bs,os+j*43+x,none⟩=some v from fun x v hv=>by
           obtain⟨b',o',e1,_,e2⟩:=(AA HRS).rec_ styC_len (AA HSs) (by omega);injection e1 with e1;injection e1 with e1 e3;subst e1 e3;exact e2 x v hv) x v hv))
          have HLw:=AB (show bs<wc.heap.size by have:=(AA HRS).ext Q.ext;obtain⟨b',o',e1,e2,_⟩:=this.rec_ styC_len (AA HSs) (by omega);injection e1 with e1;injection e1 with e1 e3;omega);have cS:=fun w=>AB (shrunk_used s u.w ct.l ct.g (AA HSK).kid.may (AA HU).w.2 hct.l hct.g w)
          go_upto_region 21 with fail;refine wp_region_ord [(1,0),(1,1),(1,2),(0,3),(1,4),(0,5),(1,6),(0,7),(1,8),(0,9),(3,10),(1,11),(1,12),(1,13),(3,14),(1,15)] 10 (fun w'=>Ext wc w') (by kernel_rfl) (by kernel_rfl) rfl (by kernel_rfl) ((Ext.refl _).drew) ?_;simp only[AD]
          iterate 3 ((first|refine ordQA ?_|refine ordQB ?_);simp only[AC])
          refine ord_hold (v:=.agg s.cells) rfl (fun w' hI=>run_load_sty (.tmp 100) rfl rfl (fun x v hv=>(hI.cells.1 bs _ (AA HLw)).trans ((AA HMw) x v hv))) ?_;simp only[AC]
          iterate 6 ((first|refine ordQA ?_|refine ordQB ?_);simp only[AC])
          refine ord_last ?_;go_wp2_with fail
          with_reducible refine (AA (cS _)).mono ?_
          rintro e w5 ⟨⟨uw,ul,ur⟩,b2,rfl,hu2,hx⟩;have hx2:=(Ext.refl wc).drew.trans hx;replace Q:=Q.step hx2;replace BV:=BV.ext hx2;clear hx hx2 cS k0 k1 u0;go_wp2_with fail
          iterate 3 ((first|refine ordQA ?_|refine ordQB ?_);simp only[AC])
          refine ord_last ?_;refine wpList_store_blk rfl 120 (.tmp 17) (.tmp 109) rfl gU rfl (usC ⟨uw,ul,ur⟩).toArray rfl 120 (usC ⟨0,0,0⟩).toArray BV (usC_sz _) rfl (by kernel_rfl) ?_;intro w9 B9 g9 z9;simp only[Act.put];go_wp2_with fail
          iterate 1 ((first|refine ordQA ?_|refine ordQB ?_);simp only[AC])
          refine ord_nil ?_;go_wp2_with fail;go_meet
          case rel=>exact⟨⟨⟨uw,ul,ur⟩,b2,hu2,rfl,B9⟩,Q.var BV g9 (AA HLO) (AA hne) (by decide)⟩
        ·
         have BU:=(AA HBU2).ext Q.ext;have u0:=(BU.cell 0).trans (rfl:_=some (Value.int .i64 u.w));have lU:=BU.lt;have cS:=fun w=>AB (flow_used s u.w (AA HSK).kid.may (AA HU).w.2 w)
         go_upto_region 15 with fail;clear s0 s2 ht1 ht2;refine wp_region_ord [(1,0),(1,1),(1,2),(0,3),(1,4),(0,5),(3,6),(1,7),(1,8),(1,9),(3,10),(1,11)] 6 (fun w'=>Ext w3 w') (by kernel_rfl) (by kernel_rfl) rfl (by kernel_rfl) ((Ext.refl _).drew) ?_;simp only[AD]
         iterate 3 ((first|refine ordQA ?_|refine ordQB ?_);simp only[AC])
         refine ord_hold (v:=.agg s.cells) rfl (fun w' hI=>run_load_sty (.tmp 68) rfl rfl (fun x v hv=>(hI.cells.1 bs _ (AA HLB)).trans ((AA HMS) x v hv))) ?_;simp only[AC]
         iterate 2 ((first|refine ordQA ?_|refine ordQB ?_);simp only[AC])
         refine ord_last ?_;go_wp2_with fail
         with_reducible refine (AA (cS _)).mono ?_
         rintro e w5 ⟨⟨uw,ul,ur⟩,b2,rfl,hu2,hx⟩;have hx2:=(Ext.refl w3).drew.trans hx;replace Q:=Q.step hx2;replace BV:=BV.ext hx2;clear hx hx2 cS u0;go_wp2_with fail
         iterate 3 ((first|refine ordQA ?_|refine ordQB ?_);simp only[AC])
         refine ord_last ?_;refine wpList_store_blk rfl 120 (.tmp 17) (.tmp 73) rfl gU rfl (usC ⟨uw,ul,ur⟩).toArray rfl 120 (usC ⟨0,0,0⟩).toArray BV (usC_sz _) rfl (by kernel_rfl) ?_;intro w9 B9 g9 z9;simp only[Act.put];go_wp2_with fail
         iterate 1 ((first|refine ordQA ?_|refine ordQB ?_);simp only[AC])
         refine ord_nil ?_;go_wp2_with fail;go_meet
         case rel=>exact⟨⟨⟨uw,ul,ur⟩,b2,hu2,rfl,B9⟩,Q.var BV g9 (AA HLO) (AA hne) (by decide)⟩
       ·go_wp2_with fail;go_meet
        case rel=>exact⟨⟨⟨0,0,0⟩,false,us_zero,rfl,BV⟩,Q⟩
      case rest=>
       as_aux_lemma=>
       clear Q BV s0 s2 ht1 ht2 t1 t2 lbs HMS HLB;obtain⟨⟨u2,b2,hu2,rfl,BV⟩,Q⟩:=hcut;go_upto_region 22 with fail
       iterate 4 go_step
       refine wpList_load_blk rfl 120 (.tmp 17) rfl gU rfl 120 (usC u2).toArray _ BV Tryz.underlying120 rfl (usC_sz _) ?_;simp only[AC];refine Go.Great.wpList_buildSliceTo rfl 27 120 1 _ rfl _ rfl _ rfl Tryz.underlying27 (usC u2).toArray (by simp only[List.map_toArray,List.map_cons,List.map_nil];exact built_us _) ?_;simp only[AC];have hx:Ext wc (wc.alloc (.cells (usC u2).toArray 120)):=(Ext.refl _).alloc _;have R5:Rd (wc.alloc (.cells (usC u2).toArray 120)) 3 (some ⟨wc.heap.size,0,none⟩) 1 (usC u2):=(Blk.new wc 120 (usC u2).toArray).rdk (n:=1) (k:=3) rfl;replace Q:=Q.step hx;clear hx BV;generalize wc.alloc (.cells (usC u2).toArray 120)=w11 at *;generalize wc.heap.size=gqw11 at *;refine wpList_push (W:=w2) rfl (.tmp 111) (.tmp 113) 27 rfl w2.heap.size 120 3 Tryz.underlying27 HIu (by omega) _ j (recs usC us) rfl Q.o1 _ 1 1 (usC u2) rfl R5 (usC_one _) (by omega) Q.ext (Nat.le_refl _) Q.ext.size ?_;intro A5 c5 w12 O5 X5 g5 at5;have O5':w12.ownsRow w2.heap.size 120 3 (.slice A5 (j+1) c5) (j+1) (recs usC (us++[u2])):=by rw[recs_append,recs_one];exact O5
       have B5:=Q.o2.kept g5 (own_ne Q.o2 Q.o1 (by decide));have HX5:=AB X5;have HU2:=AB (show ∀u∈us++[u2],UsOk u from fun u hu=>by
        rcases List.mem_append.1 hu with hu|hu
        ·exact (AA HUs) u hu
        ·rw[List.mem_singleton.1 hu];exact hu2)
       clear R5 O5 X5 g5 at5 Q HUs;simp only[AC];go_upto_region 23 with fail
       iterate 7 go_step
       refine Go.Great.wpList_buildSliceTo rfl 106 4 1 _ rfl _ rfl _ rfl Tryz.underlying106 ([Value.bool b2]).toArray (by kernel_rfl) ?_;simp only[AC];have hx:Ext w12 (w12.alloc (.cells ([Value.bool b2]).toArray 4)):=(Ext.refl _).alloc _;have R5:Rd (w12.alloc (.cells ([Value.bool b2]).toArray 4)) 1 (some ⟨w12.heap.size,0,none⟩) 1 ([Value.bool b2]):=(Blk.new w12 4 ([Value.bool b2]).toArray).rdk (n:=1) (k:=1) rfl;have O8:=own_ext O5' hx;have B8:=own_ext B5 hx;have E8:=(AA HX5).trans hx;clear hx O5' B5 HX5;generalize w12.alloc (.cells ([Value.bool b2]).toArray 4)=w13 at *;generalize w12.heap.size=gqw13 at *;refine wpList_push (W:=w2) rfl (.tmp 115) (.tmp 117) 106 rfl w2.heap.size 4 1 Tryz.underlying106 HIb (by omega) _ j (boolL bl) rfl B8 _ 1 1 [Value.bool b2] rfl R5 (by simp[Value.oneCell']) (by omega) E8 (Nat.le_refl _) E8.size ?_;intro A6 c6 w14 O6 E6 g6 at6;have B9:w14.ownsRow w2.heap.size 4 1 (.slice A6 (j+1) c6) (j+1) (boolL (bl++[b2])):=by rw[show boolL (bl++[b2])=boolL bl++[Value.bool b2] by simp[boolL]];exact O6
       have U9:=O8.kept g6 (own_ne O8 B8 (by decide));have HE6:=AB E6;clear O6 E6 g6 at6 O8 B8 E8 R5;simp only[AC];go_wp2_with fail;go_roundw
       case rel=>exact⟨j+1,A5,A6,c5,c6,_,_,by go_num,rfl,rfl,by omega,HU2,⟨AA HE6,U9,B9⟩⟩
       case measure=>simp[intOf];omega
     ·as_aux_lemma=>
      have hjI:¬(j:Int)<(k:Int):=by omega
      obtain rfl:j=k:=by omega
      go_wp2_with fail;go_ret2;exact⟨A2,c2,B2,d2,us,bl,rfl,own_mono Q.o1 (AA EW).size,AA HUs,own_mono Q.o2 (AA EW).size,(AA EW).trans Q.ext⟩
   ·
    have BU:=(AA HBU).ext (AA E);have u0:=(BU.cell 0).trans (rfl:_=some (Value.int .i64 u.w));have lU:=BU.lt;have cM:=fun w rk rg=>AB (mains19_any nd.s B Ag k d m cg u.w ss cs w rk rg hn (by omega) (fun s hs=>((AA HS) s hs).kid) (AA HCS) (AA HU).w)
    go_upto_region 7 with fail;refine wp_region_ord [(1,0),(0,1),(1,2),(1,3),(1,4),(0,5),(1,6),(0,7),(1,8),(1,9),(3,10),(1,11),(1,12),(1,13),(1,14)] 10 (fun w'=>Ext wr w') (by kernel_rfl) (by kernel_rfl) rfl (by kernel_rfl) ((Ext.refl _).drew) ?_;simp only[AD]
    iterate 5 ((first|refine ordQA ?_|refine ordQB ?_);simp only[AC])
    refine ord_hold (v:=.agg nd.s.cells) rfl (fun w' hI=>run_load_sty (.tmp 50) rfl rfl (fun x v hv=>?_)) ?_
    ·have h1:=(AA HC) (1+x) v (by rw[Nat.add_comm];exact hv);rw[←Nat.add_assoc] at h1;exact (hI.cells.1 bn _ (AA HLN)).trans h1
    simp only[AC]
    iterate 4 ((first|refine ordQA ?_|refine ordQB ?_);simp only[AC])
    refine ord_last ?_;go_wp2_with fail
    with_reducible refine (AA (cM _ ((Rd.of_own OS).ext (Ext.refl wr).drew) (RG.ext (Ext.refl wr).drew))).mono ?_
    rintro e w5 ⟨A5,c5,B5,d5,us,bl,rfl,OU,hus,OB,hx⟩;have hE:=((AA E1).trans (AA E)).trans ((Ext.refl wr).drew.trans hx);have hsz:w.heap.size≤wr.drew.heap.size:=(((AA E1).trans (AA E)).trans (Ext.refl wr).drew).size;have HE:=AB hE;clear hx hE;go_wp2_with fail
    iterate 4 ((first|refine ordQA ?_|refine ordQB ?_);simp only[AC])
    refine ord_nil ?_;go_wp2_with fail;go_ret2;exact⟨A5,c5,B5,d5,us,bl,rfl,own_mono OU hsz,hus,own_mono OB hsz,AA HE⟩
end
theorem int_row29:RowInfo 3 1:=rowInfo (z:=.int .i64 0) (by kernel_rfl) rfl
theorem rcs_recs (l:List Rc):rcs l=recs rcC l:=by rw[rcs,recs,List.flatMap_def];rfl
def undB (ns:List Nd) (fs:List FV) (r:Rc) (i:Nat):Bool:=decide (nK ns i≠3)&&meetB (plN ns fs i) r
def undK (ns:List Nd) (fs:List FV) (r:Rc) (k:Nat):List Int:=((List.range k).filter (undB ns fs r)).map (fun i:Nat=>(i:Int))
def undV (v:Bool) (ns:List Nd) (fs:List FV) (r:Rc):List Int:=undK ns fs r (plV v ns fs).length
theorem undK_succ (ns:List Nd) (fs:List FV) (r:Rc) (k:Nat):undK ns fs r (k+1)=if undB ns fs r k=true then undK ns fs r k++[(k:Int)] else undK ns fs r k:=by
 unfold undK;rw[List.range_succ,List.filter_append,List.map_append];by_cases h:undB ns fs r k=true
 ·rw[if_pos h,List.filter_cons_of_pos h];rfl
 ·rw[if_neg h,List.filter_cons_of_neg h];simp
theorem undK_len (ns:List Nd) (fs:List FV) (r:Rc) (k:Nat):(undK ns fs r k).length≤k:=by
 unfold undK;rw[List.length_map];exact Nat.le_trans (List.length_filter_le _ _) (by simp)
def BndIs (w:World) (r:Rc) (q:Bool) (e:Ending) (w':World):Prop:=e=.returned (.tuple #[.agg (rcC r).toArray,.bool q])∧Ext w w'
section
variable (t:Tr) (ns:List Nd)
theorem under_any (a b:Int) (v1 v2 v3:Value) (A:Option Addr) (n c:Nat) (fs:List FV) (r:Rc) (hr:r.Ok) (w:World) (hck:∀w',Ext w w'→Calls Tryz.prog 39 #[.agg t.cs] w' (fun e w2=>e=.returned (.tuple #[.int .i64 a,.int .i64 b])∧Ext w' w2))
  (hf:FrsIn w A n fs) (hn:n≤1000) (hm:t.nl≤1000) (h:Rd w 44 t.na t.nl (nds ns)) (hT:b=0→TOk ns):Calls Tryz.prog 17 #[.agg t.cs,.agg (tbC v1 v2 v3 (.slice A n c)).toArray,.agg r.cs] w (IntsOut w (undV (togB b n t.nl fs) ns fs r)):=by
 have HCK:=AB hck;have HF:=AB hf;have HH:=AB h;have HT:=AB hT;have hl:=h.nlen;obtain⟨v,hv⟩:∃v,togB b n t.nl fs=v:=⟨_,rfl⟩
 have HV:=AB hv;have HM:=AB hm;have HN:=AB hn;have HL:=AB hl;rw[hv];clear hck hf h hT hl hv hm hn;obtain⟨rx,ry,rw_,rh⟩:=r;have HRO:=AB hr;have HI:=AB int_row29;clear hr;go_enter Tryz.func17,Tryz.ntmps17;go_upto_region 1 with fail;generalize hw1:World.alloc (World.alloc (World.alloc w _) _) _=w1;obtain⟨gT,hgT⟩:∃g,w.heap.size=g:=⟨_,rfl⟩
 have BT:Blk w1 gT 25 t.cs:=by rw[←hw1,←hgT];exact ((Blk.new _ _ _).alloc _).alloc _
 have BX:Blk w1 (gT+1) 30 (tbC v1 v2 v3 (.slice A n c)).toArray:=by rw[←hw1,←hgT];exact (Blk.new1 _ _ _ _).alloc _
 have BR:Blk w1 (gT+1+1) 33 (rcC ⟨rx,ry,rw_,rh⟩).toArray:=by rw[←hw1,←hgT];exact Blk.new2 _ _ _ _ _
 have E1:=AB (show Ext w w1 by rw[←hw1];exact (((Ext.refl _).alloc _).alloc _).alloc _);rw[hgT];clear hgT hw1;have cG:=AB (places_hit t ns a b v1 v2 v3 A n c fs w1 (fun w' hx=>(AA HCK) w' ((AA E1).trans hx)) ((AA HF).ext (AA E1)) (AA HN) (AA HM) ((AA HH).ext (AA E1)) (AA HT));rw[AA HV] at cG;go_step;refine wpList_load_blk rfl 25 (.tmp 3) rfl gT rfl 25 t.cs _ BT Tryz.underlying25 rfl (info_tree _) ?_;simp only[AC];refine wpList_load_blk rfl 30 (.tmp 4) rfl (gT+1) rfl 30 (tbC v1 v2 v3 (.slice A n c)).toArray _ BX Tryz.underlying30 rfl (tb_size _ _ _ _) ?_;simp only[AC];go_wp2_with fail
 with_reducible refine (AA cG).mono ?_
 rintro e w2 ⟨A9,c9,rfl,RP,hx⟩;replace BT:=BT.ext hx;replace BR:=BR.ext hx;replace E1:=AB ((AA E1).trans hx);clear hx cG HCK BX;have HRP:=AB RP;have HBR:=AB BR;have HBT:=AB BT;clear RP BR BT;obtain⟨U,hU⟩:∃U,undV v ns fs ⟨rx,ry,rw_,rh⟩=U:=⟨_,rfl⟩
 have HU0:=AB hU;have hUm:=AB (show undK ns fs ⟨rx,ry,rw_,rh⟩ (plV v ns fs).length=U from hU);obtain⟨m,hm⟩:∃m,(plV v ns fs).length=m:=⟨_,rfl⟩
 have hvm:=AB (show ∀k,k<m→v=true by
  intro k hk;rw[←hm] at hk;cases v
  ·simp[plV] at hk
  ·rfl)
 have HMM:=AB hm;have hm1:m≤1000:=by
  rw[←hm];cases v
  ·simp[plV]
  ·have:(plV true ns fs).length=ns.length:=by simp[plV,plL_len]
   have:=AA HL;have:=AA HM;omega
 rw[hm] at HRP hUm;rw[hm];clear hm hU;obtain⟨er,her⟩:∃er:Int,(if v=true then (0:Int) else 1)=er:=⟨_,rfl⟩
 rw[her];clear her;go_upto_region 3 with fail;go_wp2_with fail;go_loopw [9,10,11,20] (fun v9 _ _ v20 wq=>∃(k c6 q:Nat) (A6:Option Addr),v20=.int .i64 k∧v9=.slice A6 q c6∧k≤m∧Hid (q=(undK ns fs ⟨rx,ry,rw_,rh⟩ k).length)∧Hid (Ext w2 wq)∧Hid (wq.ownsRow w2.heap.size 3 1 (.slice A6 q c6) q (ints (undK ns fs ⟨rx,ry,rw_,rh⟩ k)))) (fun _ _ _ v20 _=>m-(intOf v20).toNat)
 case atStart=>exact⟨0,0,0,none,rfl,rfl,by omega,AB rfl,AB (Ext.refl _),AB (own_nil _ _ _ _)⟩
 case round=>
  obtain⟨k,c6,q,A6,rfl,rfl,hk,HQ,E,O⟩:=hrel;by_cases hkm:k<m
  ·as_aux_lemma=>
   have hyes:=(AA hvm) k hkm;subst hyes;obtain⟨hb0,hnm,hall⟩:=tog_yes (AA HV);have hML:=AB (show ns.length=m by have:=AA HMM;simpa[plV,plL_len] using this);have hkI:(0:Int)≤(k:Int)∧(k:Int)<(m:Int):=by omega
   have hkl:k<ns.length:=by rw[AA hML];exact hkm
   have hkt:k<t.nl:=by have:=AA HL;omega
   have hkT:(k:Int)<(t.nl:Int):=by omega
   have hq1:q≤k:=by rw[AA HQ];exact undK_len _ _ _ _
   obtain⟨bp,op_,hA9,lp,hmp⟩:=((AA HRP).ext (AA E)).rec_ rcC_len (show (plV true ns fs)[k]?=some (plN ns fs k) from plL_get (fs:=fs) hkl) (by omega);subst hA9;have hbd:=plN_bd ns (fun i=>fgN_bd hall i) (i:=k) (by omega);have cM:=fun w=>AB (meet_any (plN ns fs k) ⟨rx,ry,rw_,rh⟩ hbd.ok (AA HRO) w)
   have hund:undB ns fs ⟨rx,ry,rw_,rh⟩ k=(decide (nK ns k≠3)&&meetB (plN ns fs k) ⟨rx,ry,rw_,rh⟩):=rfl;obtain⟨p,hp⟩:∃p,plN ns fs k=p:=⟨_,rfl⟩
   rw[hp] at cM hmp hund;obtain⟨q2,hq2⟩:∃q2,meetB p ⟨rx,ry,rw_,rh⟩=q2:=⟨_,rfl⟩
   rw[hq2] at cM hund;obtain⟨kk,hkk⟩:∃kk,nK ns k=kk:=⟨_,rfl⟩
   obtain⟨q1,hq1b⟩:∃q,(kk != 3)=q:=⟨_,rfl⟩
   rw[hkk,show decide (kk≠3)=q1 by rw[←hq1b];by_cases h3:kk=3<;>simp[h3]] at hund;have HUND:=AB hund;obtain⟨bn,on,hna,lbn,_⟩:=(AA HH).at_ (show 0<t.nl by omega);have ckb:=AB (((AA HH).ext ((AA E1).trans (AA E))).same hna hkl);rw[hkk] at ckb;have HNA:=AB hna;have HLB:=AB lbn;clear hp hq2 hkk hund hbd hb0 hnm hall hna lbn;obtain⟨px,py,pw,ph⟩:=p;go_upto_region 5 with fail
   iterate 7 go_step
   refine wpList_load_midg 33 (.tmp 23) rfl bp (op_+k*4) rfl rfl (rcC ⟨px,py,pw,ph⟩) _ (fun y u hu=>hmp y u hu) Tryz.underlying33 rfl (rcC_size _) ?_;simp only[AC];refine wpList_alloc_var rfl 33 rfl (rcC zRc).toArray rcC_zero ?_;intro w6 B6 hx6 z6;simp only[AC]
   iterate 3 go_step
   refine wpList_store_blk rfl 33 (.tmp 11) (.tmp 24) rfl wr.heap.size rfl (rcC ⟨px,py,pw,ph⟩).toArray rfl 33 (rcC zRc).toArray B6 (rcC_size _) rfl (by kernel_rfl) ?_;intro w7 BL g7 z7;simp only[Act.put];have hE7:=hx6.grown g7 (fun q e=>by have:=Option.some.inj e;omega);have E7:=AB ((AA E).trans hE7);have O7:=AB (own_ext (AA O) hE7);have ckq:=(hE7.cells.1 _ _ (Nat.lt_of_lt_of_le (AA HLB) ((AA E1).trans (AA E)).size)).trans (AA ckb);generalize wr.heap.size=gL at *;clear hx6 z6 g7 z7 B6 hmp lp hE7 ckb;have s0:=(BL.cell 0).trans (rfl:_=some (Value.int .i64 px));have s1:=(BL.cell 1).trans (rfl:_=some (Value.int .i64 py));have s2:=(BL.cell 2).trans (rfl:_=some (Value.int .i64 pw));have s3:=(BL.cell 3).trans (rfl:_=some (Value.int .i64 ph));have lL:=BL.lt;clear BL;have BT:=(AA HBT).ext (AA E7);have c0:=(BT.cell 0).trans (rfl:_=some (Value.slice t.na t.nl t.nc));rw[AA HNA] at c0;have lT:=BT.lt;have lb3:=Nat.lt_of_lt_of_le (AA HLB) ((AA E1).trans (AA E7)).size;have BR:=(AA HBR).ext (AA E7);have r0:=(BR.cell 0).trans (rfl:_=some (Value.int .i64 rx));have r1:=(BR.cell 1).trans (rfl:_=some (Value.int .i64 ry));have r2:=(BR.cell 2).trans (rfl:_=some (Value.int .i64 rw_));have r3:=(BR.cell 3).trans (rfl:_=some (Value.int .i64 rh));have lR:=BR.lt;clear BT BR;go_upto_region 6 with fail;go_cut [37] from 25 to 37 (fun vc wx=>vc=.bool (undB ns fs ⟨rx,ry,rw_,rh⟩ k)∧Hid (Ext w7 wx))
   case first=>
    as_aux_lemma=>
    cases q1
    ·go_wp2_with fail;go_meet
     case rel=>exact⟨by rw[AA HUND];rfl,AB (Ext.refl _)⟩
    ·go_wp2_with fail
     with_reducible refine (AA (cM _)).mono ?_
     rintro e w8 ⟨rfl,hx8⟩;have HX8:=AB hx8;clear hx8;go_wp2_with fail;go_meet
     case rel=>exact⟨by rw[AA HUND];rfl,HX8⟩
   case rest=>
    clear s0 s1 s2 s3 r0 r1 r2 r3 lR c0 lT lb3 ckq cM hq1b lL;obtain⟨hc,E8⟩:=hcut;subst hc;have O8:=AB (own_ext (AA O7) (AA E8));replace E8:=AB ((AA E7).trans (AA E8));clear O7 E7 O E HUND;obtain⟨qq,hqq⟩:∃qq,undB ns fs ⟨rx,ry,rw_,rh⟩ k=qq:=⟨_,rfl⟩
    rw[hqq];have HQQ:=AB hqq;clear hqq;go_upto_if 37 with (fail);cases qq
    ·have HK:=AB (show undK ns fs ⟨rx,ry,rw_,rh⟩ (k+1)=undK ns fs ⟨rx,ry,rw_,rh⟩ k by rw[undK_succ,if_neg (by simp[AA HQQ])]);go_wp2_with fail;go_roundw
     case rel=>exact⟨k+1,c6,q,A6,by go_num,rfl,by omega,AB (by rw[AA HK];exact AA HQ),E8,AB (by rw[AA HK];exact AA O8)⟩
     case measure=>simp[intOf];omega
    ·have HK:=AB (show undK ns fs ⟨rx,ry,rw_,rh⟩ (k+1)=undK ns fs ⟨rx,ry,rw_,rh⟩ k++[(k:Int)] by rw[undK_succ,if_pos (AA HQQ)]);go_upto_region 7 with fail
     iterate 7 go_step
     refine Go.Great.wpList_buildSliceTo rfl 52 3 1 _ rfl _ rfl _ rfl Tryz.underlying52 ([Value.int .i64 (k:Int)]).toArray (by kernel_rfl) ?_;simp only[AC];have hx:Ext wc (wc.alloc (.cells ([Value.int .i64 (k:Int)]).toArray 3)):=(Ext.refl _).alloc _;have R5:Rd (wc.alloc (.cells ([Value.int .i64 (k:Int)]).toArray 3)) 1 (some ⟨wc.heap.size,0,none⟩) 1 ([Value.int .i64 (k:Int)]):=(Blk.new wc 3 ([Value.int .i64 (k:Int)]).toArray).rdk (n:=1) (k:=1) rfl;have E8':=(AA E8).trans hx;have O8':=own_ext (AA O8) hx;clear hx E8 O8;generalize wc.alloc (.cells ([Value.int .i64 (k:Int)]).toArray 3)=w8 at *;generalize wc.heap.size=gqw8 at *;refine wpList_push (W:=w2) rfl (.tmp 38) (.tmp 40) 52 rfl w2.heap.size 3 1 Tryz.underlying52 HI (by omega) _ q (ints (undK ns fs ⟨rx,ry,rw_,rh⟩ k)) rfl O8' _ 1 1 [Value.int .i64 (k:Int)] rfl R5 (by simp[Value.oneCell']) (by omega) E8' (Nat.le_refl _) E8'.size ?_;intro A8 c8 w9 O9 E9 g9 at9;simp only[AC];have HO9:=AB (show w9.ownsRow w2.heap.size 3 1 (.slice A8 (q+1) c8) (q+1) (ints (undK ns fs ⟨rx,ry,rw_,rh⟩ (k+1))) by rw[AA HK,ints_append];exact O9);have HQ2:=AB (show q+1=(undK ns fs ⟨rx,ry,rw_,rh⟩ (k+1)).length by rw[AA HK,List.length_append,←AA HQ];rfl);have HE9:=AB E9;clear O9 g9 at9 R5 O8' E8' E9;go_wp2_with fail;go_roundw
     case rel=>exact⟨k+1,c8,q+1,A8,by go_num,rfl,by omega,HQ2,HE9,HO9⟩
     case measure=>simp[intOf];omega
  ·
   have hkI:¬(k:Int)<(m:Int):=by omega
   have hkm2:k=m:=by omega
   have HU:=AB (show undK ns fs ⟨rx,ry,rw_,rh⟩ k=U by rw[hkm2];exact AA hUm);have HQU:=AB (show q=U.length by rw[←AA HU];exact AA HQ);have HO:=AB (Rd.of_own (AA O));clear hkm2 O;go_wp2_with fail;go_ret;refine⟨A6,c6,by rw[AA HU0,←AA HQU];rfl,?_,(AA E1).trans (AA E)⟩;rw[AA HU0,←AA HQU,←AA HU];exact AA HO
end
end Go.Proofs.YtamldoocjjdidaaGreat
