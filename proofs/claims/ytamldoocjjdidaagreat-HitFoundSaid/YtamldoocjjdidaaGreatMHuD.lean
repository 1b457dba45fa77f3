import Derived.Test.YtamldoocjjdidaaGreatMHtP
namespace Go.Proofs.YtamldoocjjdidaaGreat
open Go.RowKit
set_option maxRecDepth 100000
set_option maxHeartbeats 64000000
structure PlS (w1 w:World) (gF gB n:Nat):Prop where
 ext:Ext w1 w
 fr:∃F:Nat→Fr,FrAt w gF n F
 bb:∃bl:List Bool,bl.length=n∧Blk w gB 4 (boolL bl).toArray
 lo:w1.heap.size≤gF∧w1.heap.size≤gB∧gF≠gB
section
variable {w1 w w':World} {gF gB n:Nat}
theorem PlS.step (h:PlS w1 w gF gB n) (hx:Ext w w'):PlS w1 w' gF gB n:=⟨h.ext.trans hx,h.fr.imp fun _ k=>k.ext hx,h.bb.imp fun _ k=>⟨k.1,k.2.ext hx⟩,h.lo⟩
theorem PlS.putF (h:PlS w1 w gF gB n) {k:Nat} (hk:k<n) (f:Fr):PlS w1 (w.setCells gF (k*5) (frC f)) gF gB n:=
 ⟨h.ext.grownBlk (gsGrown gF _ _ w) h.lo.1,h.fr.elim fun _ q=>⟨_,q.put hk f⟩,h.bb.imp fun _ q=>⟨q.1,blk_setCells q.2 (fun e=>h.lo.2.2 e.symm) _⟩,h.lo⟩
theorem PlS.putB (h:PlS w1 w gF gB n) (i:Nat) (b:Bool):PlS w1 (w.setCell ⟨gB,i,none⟩ (.bool b)) gF gB n:=
 ⟨h.ext.grownBlk (gsCell gB i) h.lo.2.1,h.fr.imp fun _ q=>q.far h.lo.2.2 _,h.bb.elim fun bl q=>⟨bl.set i b,by rw[List.length_set];exact q.1,by have:=q.2.set_ i (.bool b);rwa [boolL_set] at this⟩,h.lo⟩
end
theorem bool_info2:(Tryz.prog.info? 4).map (fun i=>(i.zero,i.size,i.bytes))=some (some (.bool false),1,1):=by kernel_rfl
theorem info_fr5 (f:Fr):(Tryz.prog.info? 58).map (·.size)=some (frC f).toArray.size:=by kernel_rfl
def PlaceIs (w:World) (n:Nat) (e:Ending) (w':World):Prop:=∃(gF gB:Nat) (z:Int) (F:Nat→Fr) (bl:List Bool),e=.returned (.tuple #[.slice (some ⟨gF,0,none⟩) n n,.int .i64 z,.slice (some ⟨gB,0,none⟩) n n])∧FrAt w' gF n F∧bl.length=n∧Blk w' gB 4 (boolL bl).toArray∧(w.heap.size≤gF∧w.heap.size≤gB)∧Ext w w'
theorem place20_any (s:Sty) (c:Int) (ak au ah Ar:Option Addr) (n ck nu cu nh ch nr cr:Nat) (ks:List Sty) (us:List Us) (hs:List Int) (L:Nat→List Int) (w:World) (rk:Rd w 43 ak n (recs styC ks)) (ru:Rd w 3 au nu (recs usC us)) (rh:Rd w 1 ah nh (ints hs))
  (hr:RdR w 0 Ar nr L) (hL:∀r,r<nr→∀z∈L r,0≤z∧z<(n:Int)) (hLl:∀r,r<nr→(L r).length≤1000000) (hnr:nr≤1000000) (hn:n≤300) (hnu:nu≤1000000) (hnh:nh≤1000000) (hc:c≤1099511627776) (hok:∀s∈ks,EdgesOk s) :
  Calls Tryz.prog 87 #[.agg s.cells,.int .i64 c,.slice ak n ck,.slice au nu cu,.slice ah nh ch,.slice Ar nr cr] w (PlaceIs w n):=by
 have cP:=fun w rk ru rh=>AB (parts20_any c ak au ah n ck nu cu nh ch ks us hs w rk ru rh hn hnu hnh hc hok)
 have cF:=fun (t:Sty) h w=>AB (ref_frame t h w)
 have cH:=fun (t:Sty) x w=>AB (ref_high t x w)
 have cHf:=fun x w=>AB (half20_any x w)
 have hkl:=AB (rk.recN styC_len (by omega));have HOK:=AB hok;have HL:=AB hL;have HLl:=AB hLl;have mf:=make_frags n (by omega);have mb:=fun w=>(show (Instr.makeSlice 106 (.int .i64 (n:Int)) (.int .i64 (n:Int))).run Tryz.prog w=.ok (.slice (some ⟨w.heap.size,0,none⟩) n n) (w.alloc (.cells (boolL (List.replicate n false)).toArray 4)) by
  obtain⟨i0,hi0,hz0,hz1,hz2⟩:=info_parts bool_info2;have:=make_n (P:=Tryz.prog) 106 4 i0 _ Tryz.underlying106 hi0 hz0 hz1 rfl n (by rw[hz2];omega) (by omega) w
  simpa[boolL] using this)
 clear hok hL hLl;go_enter Tryz.func87,Tryz.ntmps87;go_upto_region 1 with fail;have BS:Blk (w.alloc (.cells s.cells 65)) w.heap.size 65 s.cells:=Blk.new _ _ _;have E0:=AB ((Ext.refl w).alloc (.cells s.cells 65));generalize w.alloc (.cells s.cells 65)=w0 at *;generalize w.heap.size=gS at *;go_wp2_with fail
 with_reducible refine (AA (cP _ (rk.ext (AA E0)) (ru.ext (AA E0)) (rh.ext (AA E0)))).mono ?_
 rintro e w1 ⟨Ap,cp,pl,rfl,RP,hx⟩;replace BS:=BS.ext hx;replace E0:=AB ((AA E0).trans hx);clear hx cP ru rh;go_upto_region 4 with fail;generalize hw2:World.alloc (World.alloc w1 _) _=w2;have Z:PlS w1 w2 w1.heap.size (w1.heap.size+1) n:=by
  rw[←hw2];exact⟨((Ext.refl _).alloc _).alloc _,⟨_,(FrAt.new w1 n).ext ((Ext.refl _).alloc _)⟩,⟨_,by simp,Blk.new1 _ _ _ _⟩,by omega⟩
 clear hw2 mf mb;have HB0:=AB (show gS<w1.heap.size from BS.lt);obtain⟨gB,hgB⟩:∃g,w1.heap.size+1=g:=⟨_,rfl⟩
 obtain⟨gF,hgF⟩:∃g,w1.heap.size=g:=⟨_,rfl⟩
 rw[hgB,hgF] at Z ⊢;clear hgB hgF;have HBS:=AB BS;have HRP:=AB RP;have HRK:=AB (rk.ext (AA E0));have HR:=AB (hr.ext (AA E0));clear BS RP rk hr;go_wp2_with fail;go_loopw [18,19] (fun v18 v19 wq=>∃(r:Nat) (z:Int),v19=.int .i64 r∧v18=.int .i64 z∧r≤nr∧PlS w1 wq gF gB n) (fun _ v19 _=>nr-(intOf v19).toNat)
 case atStart=>exact⟨0,0,rfl,rfl,by omega,Z⟩
 case round=>
  clear Z;obtain⟨r,z,rfl,rfl,hrn',Z⟩:=hrel;by_cases hrn:r<nr
  ·as_aux_lemma=>
   have hrI:(0:Int)≤(r:Int)∧(r:Int)<(nr:Int):=by omega
   obtain⟨br,or_,Ai,ci,hA,-,lbr,cr1,RR,-⟩:=(AA HR).at_ r hrn;subst hA;have HLr:=AB ((AA HL) r hrn);obtain⟨ln,hln⟩:∃m,(L r).length=m:=⟨_,rfl⟩
   have hlm:ln≤1000000:=by rw[←hln];exact (AA HLl) r hrn
   obtain⟨row,hrow⟩:∃l,L r=l:=⟨_,rfl⟩
   rw[hrow] at RR HLr hln cr1;rw[hln] at cr1 RR;have HRR:=AB RR;replace cr1:=(Z.ext.cells.1 br _ lbr).trans cr1;replace lbr:=Nat.lt_of_lt_of_le lbr Z.ext.size;clear hrow RR HLl HL;go_upto_region 11 with fail;clear cr1 lbr;have HLN:=AB hln;clear hln;go_wp2_with fail;go_loopw [21,22,23] (fun v21 v22 v23 wq=>∃(i:Nat) (a b:Int),v23=.int .i64 i∧v21=.int .i64 a∧v22=.int .i64 b∧i≤ln∧PlS w1 wq gF gB n) (fun _ _ v23 _=>ln-(intOf v23).toNat)
   case atStart=>exact⟨0,0,c,rfl,rfl,rfl,by omega,Z⟩
   case round=>
    clear Z;obtain⟨i,a,b,rfl,rfl,rfl,hi,Z⟩:=hrel;by_cases hil:i<ln
    ·as_aux_lemma=>
     have hilI:(0:Int)≤(i:Int)∧(i:Int)<(ln:Int):=by omega
     have rr:=(AA HRR).ext Z.ext;obtain⟨k_,hk_⟩:∃k,row[i]?=some k:=⟨_,AE (by have:=AA HLN;omega)⟩
     have hkb:=(AA HLr) k_ (List.mem_of_getElem? hk_);obtain⟨k,rfl⟩:∃k:Nat,k_=(k:Int):=⟨k_.toNat,by omega⟩
     obtain⟨bz,oz,hAz,lz,-⟩:=rr.at_ (by omega);subst hAz;have q1:=(rr.cellAt hil (show (ints row)[i]?=some (Value.int .i64 (k:Int)) by rw[ints,List.getElem?_map,hk_];rfl)).2;clear rr hk_;have rp:=(AA HRP).ext Z.ext;obtain⟨p,hp⟩:∃p,pl[k]?=some p:=⟨_,AE (by have:=rp.recN p7C_len (by omega);omega)⟩
     obtain⟨bp,op_,hAp,lbp,hmp⟩:=rp.rec_ p7C_len hp (by omega);subst hAp;have HMP:=AB hmp;clear rp hp hmp;go_upto_region 14 with fail
     iterate 19 go_step
     refine wpList_load_midg 205 (.tmp 72) rfl bp (op_+k*7) rfl rfl (p7C p) _ (fun x v hv=>(AA HMP) x v hv) Tryz.underlying205 rfl (p7C_size _) ?_;simp only[AC];refine wpList_var rfl rfl 205 rfl 24 rfl (.tmp 73) rfl rfl (p7C zP7).toArray (p7C p).toArray p7C_zero rfl rfl (p7C_size _) rfl (by kernel_rfl) ?_;intro w3 BQ hx z3;simp only[AC];replace Z:=Z.step hx;generalize wr.heap.size=gQ at *;clear hx z3 HMP q1 lz lbp;obtain⟨p0,p1,p2,p3,p4,p5,p6⟩:=p;have k0:=(BQ.cell 0).trans (rfl:_=some (Value.int .i64 p0));have k1:=(BQ.cell 1).trans (rfl:_=some (Value.int .i64 p1));have k2:=(BQ.cell 2).trans (rfl:_=some (Value.int .i64 p2));have k3:=(BQ.cell 3).trans (rfl:_=some (Value.int .i64 p3));have k4:=(BQ.cell 4).trans (rfl:_=some (Value.int .i64 p4));have k5:=(BQ.cell 5).trans (rfl:_=some (Value.int .i64 p5));have k6:=(BQ.cell 6).trans (rfl:_=some (Value.int .i64 p6));have lQ:=BQ.lt;go_wp2_with fail
     all_goals
      go_roundw
      case rel=>exact⟨i+1,_,_,by go_num,rfl,rfl,by omega,Z⟩
      case measure=>simp[intOf];omega
    ·as_aux_lemma=>
     have hilI:¬(i:Int)<(ln:Int):=by omega
     obtain⟨t1,ht1⟩:∃t,((nr:Int)==1)=t:=⟨_,rfl⟩
     obtain⟨t2,ht2⟩:∃t,(s.h.k==1)=t:=⟨_,rfl⟩
     have BSw:=(AA HBS).ext Z.ext;have c6:=(BSw.cell 6).trans (rfl:_=some (Value.int .u8 s.h.k));have lS:=BSw.lt;go_upto_region 17 with fail;go_cut [104] from 50 to 252 (fun v104 wx=>(∃b:Bool,v104=.bool b)∧PlS w1 wx gF gB n)
     case first=>
      as_aux_lemma=>
      cases t1
      all_goals cases t2
      all_goals
       go_wp2_with fail;go_meet
       case rel=>exact⟨⟨_,rfl⟩,Z⟩
     case rest=>
      as_aux_lemma=>
      clear Z BSw c6 lS ht1 ht2 t1 t2;obtain⟨⟨b104,rfl⟩,Z⟩:=hcut;go_upto_if 104 with (fail);go_cut [21] from 50 to 252 (fun v21 wx=>(∃z:Int,v21=.int .i64 z)∧PlS w1 wx gF gB n)
      case first=>
       as_aux_lemma=>
       cases b104
       ·go_wp2_with fail;go_meet
        case rel=>exact⟨⟨_,rfl⟩,Z⟩
       ·have BSw:=(AA HBS).ext Z.ext;go_upto_region 18 with fail;go_step;refine wpList_load_blk rfl 65 (.tmp 6) rfl gS rfl 65 s.cells _ BSw Tryz.underlying65 rfl (info_style _) ?_;simp only[AC];go_wp2_with fail
        with_reducible refine (AA (cH s 0 _)).mono ?_
        rintro e w4 ⟨rfl,hx⟩;go_wp2_with fail;go_meet
        case rel=>exact⟨⟨_,rfl⟩,Z.step hx⟩
      case rest=>
       as_aux_lemma=>
       clear Z;obtain⟨⟨tall,rfl⟩,Z⟩:=hcut;have BSw:=(AA HBS).ext Z.ext;have c35:=(BSw.cell 35).trans (rfl:_=some (Value.int .u8 s.justify));have lS:=BSw.lt;obtain⟨t1,ht1⟩:∃t,(s.justify==1)=t:=⟨_,rfl⟩
       obtain⟨t2,ht2⟩:∃t,(s.justify==2)=t:=⟨_,rfl⟩
       go_upto_block 4 with fail
       go_cut [25] from 50 to 252 (fun v25 wx=>(∃z:Int,v25=.int .i64 z)∧PlS w1 wx gF gB n)
       case first=>
        as_aux_lemma=>
        cases t1
        ·cases t2
         ·go_wp2_with fail;go_meet
          case rel=>exact⟨⟨_,rfl⟩,Z⟩
         ·go_wp2_with fail
          with_reducible refine (AA (cHf _ _)).mono ?_
          rintro e w4 ⟨z4,rfl,hx⟩;go_wp2_with fail;go_meet
          case rel=>exact⟨⟨_,rfl⟩,Z.step hx⟩
        ·go_wp2_with fail;go_meet
         case rel=>exact⟨⟨_,rfl⟩,Z⟩
       case rest=>
        as_aux_lemma=>
        clear Z BSw c35 lS ht1 ht2 t1 t2;obtain⟨⟨at0,rfl⟩,Z⟩:=hcut;go_wp2_with fail;go_loopw [25,26] (fun v25 v26 wq=>∃(i:Nat) (a:Int),v26=.int .i64 i∧v25=.int .i64 a∧i≤ln∧PlS w1 wq gF gB n) (fun _ v26 _=>ln-(intOf v26).toNat)
        case atStart=>exact⟨0,at0,rfl,rfl,by omega,Z⟩
        case round=>
         clear Z;obtain⟨i,a2,rfl,rfl,hi,Z⟩:=hrel;by_cases hil:i<ln
         ·as_aux_lemma=>
          have hilI:(0:Int)≤(i:Int)∧(i:Int)<(ln:Int):=by omega
          have rr:=(AA HRR).ext Z.ext;obtain⟨k_,hk_⟩:∃k,row[i]?=some k:=⟨_,AE (by have:=AA HLN;omega)⟩
          have hkb:=(AA HLr) k_ (List.mem_of_getElem? hk_);obtain⟨k,rfl⟩:∃k:Nat,k_=(k:Int):=⟨k_.toNat,by omega⟩
          obtain⟨bz,oz,hAz,lz,-⟩:=rr.at_ (by omega);subst hAz;have q1:=(rr.cellAt hil (show (ints row)[i]?=some (Value.int .i64 (k:Int)) by rw[ints,List.getElem?_map,hk_];rfl)).2;clear rr hk_;have rp:=(AA HRP).ext Z.ext;obtain⟨p,hp⟩:∃p,pl[k]?=some p:=⟨_,AE (by have:=rp.recN p7C_len (by omega);omega)⟩
          obtain⟨bp,op_,hAp,lbp,hmp⟩:=rp.rec_ p7C_len hp (by omega);subst hAp;have HMP:=AB hmp;clear rp hp hmp;have hkn:k<n:=by omega
          obtain⟨t,ht⟩:∃t,ks[k]?=some t:=⟨_,AE (by have:=AA hkl;omega)⟩
          have hed:=(AA HOK) t (List.mem_of_getElem? ht);obtain⟨bk,ok,hAk,lbk,hmk⟩:=(AA HRK).rec_ styC_len ht (by omega);subst hAk;have HMK:=AB hmk;have LBK:=AB lbk;have cFt:=fun w=>cF t hed.thin w
          obtain⟨xA,hxA⟩:∃z,t.b3+t.b1+t.p3+t.p1=z:=⟨_,rfl⟩
          obtain⟨xD,hxD⟩:∃z,t.b0+t.b2+t.p0+t.p2=z:=⟨_,rfl⟩
          rw[hxA,hxD] at cFt;clear hxA hxD hmk lbk ht hed HOK hkb;have HQF:=AB (show gF<wr.heap.size from Z.fr.elim fun _ k=>k.lt);go_upto_region 29 with fail
          iterate 10 go_step
          refine wpList_load_midg 205 (.tmp 128) rfl bp (op_+k*7) rfl rfl (p7C p) _ (fun x v hv=>(AA HMP) x v hv) Tryz.underlying205 rfl (p7C_size _) ?_;simp only[AC];refine wpList_var rfl rfl 205 rfl 28 rfl (.tmp 129) rfl rfl (p7C zP7).toArray (p7C p).toArray p7C_zero rfl rfl (p7C_size _) rfl (by kernel_rfl) ?_;intro w3 BQ hx z3;simp only[AC];replace Z:=Z.step hx;generalize wr.heap.size=gQ at *;clear hx z3 HMP q1 lz lbp;obtain⟨p0,p1,p2,p3,p4,p5,p6⟩:=p;have k6:=(BQ.cell 6).trans (rfl:_=some (Value.int .i64 p6));have lQ:=BQ.lt;go_upto_region 31 with fail;clear k6 lQ
          iterate 10 go_step
          refine wpList_load_sty (.tmp 135) rfl bk (ok+k*43) rfl rfl t (fun x v hv=>(Z.ext.cells.1 bk _ (AA LBK)).trans ((AA HMK) x v hv)) ?_;simp only[AC];go_wp2_with fail
          with_reducible refine (AA (cFt _)).mono ?_
          rintro e w4 ⟨rfl,hx⟩;replace Z:=Z.step hx;replace BQ:=BQ.ext hx;clear hx cFt;have BSw:=(AA HBS).ext Z.ext;have c36:=(BSw.cell 36).trans (rfl:_=some (Value.int .u8 s.items));have lS:=BSw.lt;have q6:=(Z.ext.cells.1 bk _ (AA LBK)).trans ((AA HMK) 6 _ (show (styC t)[6]?=some (Value.int .u8 t.h.k) from rfl));have lB:bk<w4.heap.size:=Nat.lt_of_lt_of_le (AA LBK) Z.ext.size;obtain⟨t1,ht1⟩:∃t,(s.items==3)=t:=⟨_,rfl⟩
          obtain⟨t2,ht2⟩:∃z,(t.h.k==0)=z:=⟨_,rfl⟩
          go_upto_region 32 with fail;go_cut [151] from 116 to 249 (fun v151 wx=>(∃b:Bool,v151=.bool b)∧PlS w1 wx gF gB n∧Blk wx gQ 205 (p7C ⟨p0,p1,p2,p3,p4,p5,p6⟩).toArray)
          case first=>
           as_aux_lemma=>
           cases t1
           all_goals cases t2
           all_goals
            go_wp2_with fail;go_meet
            case rel=>exact⟨⟨_,rfl⟩,Z,BQ⟩
          case rest=>
           as_aux_lemma=>
           clear Z BQ BSw c36 lS q6 lB ht1 ht2 t1 t2;obtain⟨⟨b151,rfl⟩,Z,BQ⟩:=hcut;go_upto_if 151 with (fail);go_cut [29] from 116 to 249 (fun v29 wx=>(∃z:Int,v29=.int .i64 z)∧PlS w1 wx gF gB n∧Blk wx gQ 205 (p7C ⟨p0,p1,p2,p3,p4,p5,p6⟩).toArray)
           case first=>
            as_aux_lemma=>
            cases b151
            ·go_wp2_with fail;go_meet
             case rel=>exact⟨⟨_,rfl⟩,Z,BQ⟩
            ·have k1:=(BQ.cell 1).trans (rfl:_=some (Value.int .i64 p1));have k2:=(BQ.cell 2).trans (rfl:_=some (Value.int .i64 p2));have lQ:=BQ.lt;have cH1:=fun x w=>cH t x w
             have HM1:=AB (fun x v hv=>(Z.ext.cells.1 bk _ (AA LBK)).trans ((AA HMK) x v hv));have LB1:=AB (Nat.lt_of_lt_of_le (AA LBK) Z.ext.size);go_upto_region 33 with fail;refine wp_region_ord [(1,0),(1,1),(1,2),(0,3),(1,4),(1,5),(0,6),(1,7),(1,8),(0,9),(1,10),(1,11),(1,12),(1,13),(1,15),(3,14),(1,16),(1,17)] 14 (fun w'=>Ext wc w') (by kernel_rfl) (by kernel_rfl) rfl (by kernel_rfl) ((Ext.refl _).drew) ?_;simp only[AD]
             iterate 3 ((first|refine ordQA ?_|refine ordQB ?_);simp only[AC])
             refine ord_hold (v:=.agg t.cells) rfl (fun w' hI=>run_load_sty (.tmp 154) rfl rfl (fun x v hv=>(hI.cells.1 bk _ (AA LB1)).trans ((AA HM1) x v hv))) ?_;simp only[AC]
             iterate 11 ((first|refine ordQA ?_|refine ordQB ?_);simp only[AC])
             refine ord_last ?_;go_wp2_with fail
             with_reducible refine (AA (cH1 _ _)).mono ?_
             rintro e w5 ⟨rfl,hx⟩;have HX:=AB ((Ext.refl wc).drew.trans hx);clear hx;go_wp2_with fail
             iterate 2 ((first|refine ordQA ?_|refine ordQB ?_);simp only[AC])
             refine ord_nil ?_;go_wp2_with fail;go_meet
             case rel=>exact⟨⟨_,rfl⟩,Z.step (AA HX),BQ.ext (AA HX)⟩
           case rest=>
            as_aux_lemma=>
            clear Z BQ;obtain⟨⟨hh,rfl⟩,Z,BQ⟩:=hcut;have BSw:=(AA HBS).ext Z.ext;have c36:=(BSw.cell 36).trans (rfl:_=some (Value.int .u8 s.items));have lS:=BSw.lt;have k1:=(BQ.cell 1).trans (rfl:_=some (Value.int .i64 p1));have k2:=(BQ.cell 2).trans (rfl:_=some (Value.int .i64 p2));have lQ:=BQ.lt;obtain⟨t1,ht1⟩:∃t,(s.items==1)=t:=⟨_,rfl⟩
            obtain⟨t2,ht2⟩:∃z,(s.items==2)=z:=⟨_,rfl⟩
            go_upto_block 7 with fail
            clear k1 k2 lQ;go_cut [32] from 116 to 249 (fun v32 wx=>(∃z:Int,v32=.int .i64 z)∧PlS w1 wx gF gB n∧Blk wx gQ 205 (p7C ⟨p0,p1,p2,p3,p4,p5,p6⟩).toArray)
            case first=>
             as_aux_lemma=>
             cases t1
             ·cases t2
              ·go_wp2_with fail;go_meet
               case rel=>exact⟨⟨_,rfl⟩,Z,BQ⟩
              ·go_wp2_with fail
               with_reducible refine (AA (cHf _ _)).mono ?_
               rintro e w5 ⟨z4,rfl,hx⟩;go_wp2_with fail;go_meet
               case rel=>exact⟨⟨_,rfl⟩,Z.step hx,BQ.ext hx⟩
             ·go_wp2_with fail;go_meet
              case rel=>exact⟨⟨_,rfl⟩,Z,BQ⟩
            case rest=>
             as_aux_lemma=>
             clear Z BQ BSw c36 lS ht1 ht2 t1 t2;obtain⟨⟨yy,rfl⟩,Z,BQ⟩:=hcut;have BSw:=(AA HBS).ext Z.ext;have c35:=(BSw.cell 35).trans (rfl:_=some (Value.int .u8 s.justify));have lS:=BSw.lt;obtain⟨t1,ht1⟩:∃t,(s.justify==3)=t:=⟨_,rfl⟩
             obtain⟨t2,ht2⟩:∃z,decide (0<b)=z:=⟨_,rfl⟩
             obtain⟨t3,ht3⟩:∃z,decide ((1:Int)<(ln:Int))=z:=⟨_,rfl⟩
             go_upto_region 42 with fail;go_cut [206] from 116 to 249 (fun v206 wx=>(∃b:Bool,v206=.bool b∧(b=true→1<ln))∧PlS w1 wx gF gB n∧Blk wx gQ 205 (p7C ⟨p0,p1,p2,p3,p4,p5,p6⟩).toArray)
             case first=>
              as_aux_lemma=>
              cases t1
              all_goals cases t2
              all_goals cases t3
              all_goals
               go_wp2_with fail;go_meet
               case rel=>first
                |exact⟨⟨_,rfl,fun _=>by have:=of_decide_eq_true ht3;omega⟩,Z,BQ⟩
                |exact⟨⟨_,rfl,fun h=>by cases h⟩,Z,BQ⟩
             case rest=>
              as_aux_lemma=>
              clear Z BQ BSw c35 lS ht1 ht2 ht3 t1 t2 t3;obtain⟨⟨b206,rfl,h206⟩,Z,BQ⟩:=hcut;go_upto_if 206 with (fail);go_cut [34,35] from 116 to 249 (fun v34 v35 wx=>(∃z:Int,v34=.int .i64 z)∧PlS w1 wx gF gB n∧Blk wx gQ 205 (p7C ⟨p0,p1,p2,p3,p4,p5,p6⟩).toArray)
              case first=>
               as_aux_lemma=>
               cases b206
               ·go_wp2_with fail;go_meet
                case rel=>exact⟨⟨_,rfl⟩,Z,BQ⟩
               ·have h1l:=h206 rfl;obtain⟨m1,hm1⟩:∃m:Nat,ln=m+1:=⟨ln-1,by omega⟩
                have hm2:IntKind.i64.wrap ((ln:Int)-1)=(m1:Int):=by rw[IntWalk.i64_in _ (by omega)];omega
                have hm3:¬(m1:Int)=0:=by omega
                have hm4:(0:Int)<(m1:Int)∧(m1:Int)≤1000000:=by omega
                clear hm1;go_upto_region 44 with fail
                go_quiet (fail)
                go_wp2_with fail;go_meet
                case rel=>exact⟨⟨_,rfl⟩,Z.step ((Ext.refl _).drewN _),BQ.ext ((Ext.refl _).drewN _)⟩
              case rest=>
               as_aux_lemma=>
               clear Z BQ;obtain⟨⟨mv,rfl⟩,Z,BQ⟩:=hcut;have k0:=(BQ.cell 0).trans (rfl:_=some (Value.int .i64 p0));have k4:=(BQ.cell 4).trans (rfl:_=some (Value.int .i64 p4));have k5:=(BQ.cell 5).trans (rfl:_=some (Value.int .i64 p5));have lQ:=BQ.lt;obtain⟨s1,hs1⟩:∃z,IntKind.i64.wrap (a2+p4)=z:=⟨_,rfl⟩
               obtain⟨s2,hs2⟩:∃z,IntKind.i64.wrap (s1+mv)=z:=⟨_,rfl⟩
               obtain⟨F,FA⟩:=Z.fr;have HT:=AB (FA.there hkn);clear F FA;go_upto_region 45 with fail
               iterate 46 go_step
               refine wpList_store_mid rfl 58 (.tmp 237) (.tmp 236) rfl gF (k*5) (frC ⟨s2,yy,p0,hh⟩).toArray rfl rfl (AA HT) (info_fr5 _) (all_oneCell_toArray (frC_one _)) ?_;simp only[Act.put];replace Z:=Z.putF hkn ⟨s2,yy,p0,hh⟩;replace BQ:=blk_setCells BQ (g:=gQ) (b:=gF) (o:=k*5) (fun e=>by have h1:=AA HQF;omega) (frC ⟨s2,yy,p0,hh⟩);clear HT k0 k4 k5 lQ;generalize World.setCells _ gF (k*5) _=w9 at *;have k0:=(BQ.cell 0).trans (rfl:_=some (Value.int .i64 p0));have k4:=(BQ.cell 4).trans (rfl:_=some (Value.int .i64 p4));have k5:=(BQ.cell 5).trans (rfl:_=some (Value.int .i64 p5));have lQ:=BQ.lt;go_wp2_with fail;go_roundw
               case rel=>exact⟨i+1,_,by go_num,rfl,by omega,Z⟩
               case measure=>simp[intOf];omega
         ·have hilI:¬(i:Int)<(ln:Int):=by omega
          go_wp2_with fail;go_roundw
          case rel=>exact⟨r+1,_,by go_num,rfl,by omega,Z⟩
          case measure=>simp[intOf];omega
  ·have hrI:¬(r:Int)<(nr:Int):=by omega
   go_wp2_with fail;go_loopw [36] (fun v36 wq=>∃i:Nat,v36=.int .i64 i∧i≤n∧PlS w1 wq gF gB n) (fun v36 _=>n-(intOf v36).toNat)
   case atStart=>exact⟨0,rfl,by omega,Z⟩
   case round=>
    clear Z;obtain⟨i,rfl,hi,Z⟩:=hrel;by_cases hin:i<n
    ·as_aux_lemma=>
     have hinI:(0:Int)≤(i:Int)∧(i:Int)<(n:Int):=by omega
     obtain⟨F,FA⟩:=Z.fr;have HF:=AB (FA.cell i hin);have lF:=FA.lt;obtain⟨⟨f0,f1,f2,f3⟩,hf⟩:∃f,F i=f:=⟨_,rfl⟩
     rw[hf] at HF;clear hf FA F;go_upto_region 51 with fail
     iterate 22 go_step
     refine wpList_load_midg 58 (.tmp 266) rfl gF (i*5) rfl rfl (frC ⟨f0,f1,f2,f3⟩) _ (fun x v hv=>(AA HF) x v hv) Tryz.underlying58 rfl (info_fr5 _) ?_;simp only[AC];simp only[frC];go_wp2_with fail
     with_reducible refine (cut_fg _ _ _ _ _ _ _ _).mono ?_
     rintro e w4 ⟨⟨g0,g1,g2,g3,fl,fm,fv⟩,cb,rfl,-,⟨rfl,rfl,rfl⟩,hx⟩;replace Z:=Z.step hx;clear hx HF lF;obtain⟨F,FA⟩:=Z.fr;have HT:=AB (FA.there hin);clear F FA;dsimp only
     iterate 13 go_step
     refine wpList_store_mid rfl 58 (.tmp 271) (.tmp 269) rfl gF (i*5) (frC ⟨g0,g1,g2,g3⟩).toArray rfl rfl (AA HT) (info_fr5 _) (all_oneCell_toArray (frC_one _)) ?_;simp only[Act.put];replace Z:=Z.putF hin ⟨g0,g1,g2,g3⟩;clear HT;generalize World.setCells w4 gF (i*5) _=w5 at *;obtain⟨bl,hbl,BB⟩:=Z.bb;obtain⟨vb,hvb⟩:∃v,bl[i]?=some v:=⟨_,AE (by omega)⟩
     have kB:=BB.bool hvb;have lB:=BB.lt;have fB:=BB.frozen i;clear hvb BB hbl;go_wp2_with fail;go_roundw
     case rel=>exact⟨i+1,by go_num,by omega,Z.putB i cb⟩
     case measure=>simp[intOf];omega
    ·have hinI:¬(i:Int)<(n:Int):=by omega
     have cC:=fun w=>AB (ref_cut z w)
     obtain⟨F,FA⟩:=Z.fr;obtain⟨bl,hbl,BB⟩:=Z.bb;have HE:=AB ((AA E0).trans Z.ext);have HLO:=AB (show w.heap.size≤gF∧w.heap.size≤gB by have:=Z.lo;have:=(AA E0).size;omega);clear Z;go_wp2_with fail
     with_reducible refine (AA (cC _)).mono ?_
     rintro e w4 ⟨rfl,hw4⟩;subst hw4;go_wp2_with fail;refine bodyPost_ret (v:=.tuple #[.slice (some ⟨gF,0,none⟩) n n,.int .i64 (cutV z),.slice (some ⟨gB,0,none⟩) n n]) (by simp[results,Tryz.results87,go_sem]) rfl ?_;exact⟨gF,gB,_,F,bl,rfl,FA,hbl,BB,AA HLO,AA HE⟩
end Go.Proofs.YtamldoocjjdidaaGreat
