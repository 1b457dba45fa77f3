import Derived.Test.YtamldoocjjdidaaGreatMHtF
import Derived.Deep.CutBlock
namespace Go.Proofs.YtamldoocjjdidaaGreat
open Go.RowKit
set_option maxRecDepth 100000
set_option maxHeartbeats 64000000
def WithinIs (w:World) (x:Int) (e:Ending) (w':World):Prop:=e=.returned (.bool (inB x))∧w=w'
theorem within29_any (x:Int) (w:World):Calls Tryz.prog 42 #[.int .i64 x] w (WithinIs w x):=by
 by_cases h1:-1099511627776≤x
 ·by_cases h2:x≤1099511627776
  ·go_enter Tryz.func42,Tryz.ntmps42;go_wp2_with fail;go_ret;exact⟨by rw[show inB x=true by simp[inB];omega];rfl,rfl⟩
  ·go_enter Tryz.func42,Tryz.ntmps42;go_wp2_with fail;go_ret;exact⟨by rw[show inB x=false by simp[inB];omega];rfl,rfl⟩
 ·go_enter Tryz.func42,Tryz.ntmps42;go_wp2_with fail;go_ret;exact⟨by rw[show inB x=false by simp[inB];omega];rfl,rfl⟩
section
variable (t:Tr)
theorem go29_any (a b:Int) (v1 v2 v3:Value) (A:Option Addr) (n c:Nat) (fs:List FV) (w:World) (hck:∀w',Ext w w'→Calls Tryz.prog 35 #[.agg t.cs] w' (fun e w2=>e=.returned (.tuple #[.int .i64 a,.int .i64 b])∧Ext w' w2))
  (hf:FrsIn w A n fs) (hn:n≤1000000) (_hm:t.nl≤1000000):Calls Tryz.prog 26 #[.agg t.cs,.agg (tbC v1 v2 v3 (.slice A n c)).toArray] w (TogIs w (togB b n t.nl fs)):=by
 have HCK:=AB hck;have HF:=AB hf;have hfl:=AB hf.len;have cW:=fun x w=>AB (within29_any x w)
 clear hck hf;go_enter Tryz.func26,Tryz.ntmps26;go_upto_region 1 with fail;generalize hw1:World.alloc (World.alloc w _) _=w1;obtain⟨gT,hgT⟩:∃g,w.heap.size=g:=⟨_,rfl⟩
 have BT:Blk w1 gT 25 t.cs:=by rw[←hw1,←hgT];exact (Blk.new _ _ _).alloc _
 have BX:Blk w1 (gT+1) 30 (tbC v1 v2 v3 (.slice A n c)).toArray:=by rw[←hw1,←hgT];exact Blk.new1 _ _ _ _
 have E1:=AB (show Ext w w1 by rw[←hw1];exact ((Ext.refl _).alloc _).alloc _);rw[hgT];clear hgT hw1;have c0:=(BT.cell 0).trans (rfl:_=some (Value.slice t.na t.nl t.nc));have c1:=(BT.cell 1).trans (rfl:_=some (Value.slice t.aa t.al t.ac));have c2:=(BT.cell 2).trans (rfl:_=some (Value.int .i64 t.view));have lT:=BT.lt;go_wp2_with fail
 with_reducible refine ((AA HCK) _ (AA E1)).mono ?_
 rintro e w2 ⟨rfl,hx⟩;replace BT:=BT.ext hx;replace BX:=BX.ext hx;replace E1:=AB ((AA E1).trans hx);clear hx c0 c1 c2 lT HCK;have c0:=(BT.cell 0).trans (rfl:_=some (Value.slice t.na t.nl t.nc));have x3:=(BX.cell 3).trans (rfl:_=some (Value.slice A n c));have lT:=BT.lt;have lX:=BX.lt;by_cases hb:b=0
 ·by_cases hnm:n=t.nl
  ·
   have HV:=AB (show togB b n t.nl fs=fs.all fOk by simp[togB,hb,hnm]);have hnmI:(n:Int)=(t.nl:Int):=by omega
   have hbb:(b != 0)=false:=by simp[hb]
   have hnn:((n:Int) != (t.nl:Int))=false:=by simp[hnm]
   clear hb hnm hnmI;go_upto_region 4 with fail;clear hbb hnn c0 lT BT x3;have HBX:=AB BX;clear BX;go_wp2_with fail;go_loopw [7] (fun v7 wq=>∃i:Nat,v7=.int .i64 i∧i≤n∧Hid (Ext w2 wq)∧Hid (AllT fOk fs i)) (fun v7 _=>n-(intOf v7).toNat)
   case atStart=>exact⟨0,rfl,by omega,AB (Ext.refl _),AB (by simp[AllT])⟩
   case round=>
    obtain⟨i,rfl,hi,E,HA⟩:=hrel;have BX:=(AA HBX).ext (AA E);have x3:=(BX.cell 3).trans (rfl:_=some (Value.slice A n c));have lX:=BX.lt;clear BX;by_cases hin:i<n
    ·as_aux_lemma=>
     have hinI:(0:Int)≤(i:Int)∧(i:Int)<(n:Int):=by omega
     have EW:=AB ((AA E1).trans (AA E));obtain⟨x,hx⟩:∃x,fs[i]?=some x:=⟨_,AE (by have:=AA hfl;omega)⟩
     have hxm:=List.mem_of_getElem? hx;obtain⟨⟨fx,fy,fw,fh,lA,ln,lc⟩,xls⟩:=x;obtain⟨bf,of_,hA,lf,hmf⟩:=((AA HF).rd.ext (AA EW)).rec_ fgC_len (show (fs.map FV.f)[i]?=some (⟨fx,fy,fw,fh,lA,ln,lc⟩:Fg) by rw[List.getElem?_map,hx];rfl) (by omega);subst hA;have HMF:=AB hmf;have HXi:=AB hx;have HLS:=AB ((AA HF).ls _ hxm);have HPS:=AB ((AA HF).ps _ hxm);clear hmf hx hxm;go_upto_region 7 with fail
     iterate 13 go_step
     refine wpList_load_midg 58 (.tmp 37) rfl bf (of_+i*5) rfl rfl (fgC ⟨fx,fy,fw,fh,lA,ln,lc⟩) _ (fun y v hv=>(AA HMF) y v hv) Tryz.underlying58 rfl (fgC_size _) ?_;simp only[AC];refine wpList_var rfl rfl 58 rfl 8 rfl (.tmp 38) rfl rfl (fgC zFg).toArray (fgC ⟨fx,fy,fw,fh,lA,ln,lc⟩).toArray fgC_zero rfl rfl (fgC_size _) rfl (by kernel_rfl) ?_;intro w3 BV hx z3;simp only[AC];have E3:=AB ((AA EW).trans hx);have HE2:=AB ((AA E).trans hx);generalize wr.heap.size=gV at *;clear hx z3 lf HMF EW x3 lX;have HBV:=AB BV;have k0:=(BV.cell 0).trans (rfl:_=some (Value.int .i64 fx));have k1:=(BV.cell 1).trans (rfl:_=some (Value.int .i64 fy));have k2:=(BV.cell 2).trans (rfl:_=some (Value.int .i64 fw));have k3:=(BV.cell 3).trans (rfl:_=some (Value.int .i64 fh));have lV:=BV.lt;clear BV;have HB:=AB (show ∀p q r s:Bool,inB fx=p→inB fy=q→inB fw=r→inB fh=s→fOk ⟨⟨fx,fy,fw,fh,lA,ln,lc⟩,xls⟩=((((p&&q)&&r)&&s)&&xls.all lOk) from fun p q r s h1 h2 h3 h4=>by subst h1 h2 h3 h4;rfl);go_upto_region 8 with fail;go_cut [60] from 27 to 122 (fun v60 wx=>(∃q:Bool,v60=.bool q∧Hid (fOk ⟨⟨fx,fy,fw,fh,lA,ln,lc⟩,xls⟩=(!q&&xls.all lOk)))∧wx=w3)
     case first=>
      as_aux_lemma=>
      go_wp2_with fail
      with_reducible refine (AA (cW _ _)).mono ?_
      rintro e w4 ⟨rfl,hw4⟩;subst hw4;obtain⟨p0,hp0⟩:∃q,inB fx=q:=⟨_,rfl⟩
      rw[hp0];have H0:=AB hp0;clear hp0;cases p0
      ·go_wp2_with fail;go_meet
       case rel=>exact⟨⟨true,rfl,AB (by rw[(AA HB) false _ _ _ (AA H0) rfl rfl rfl];simp)⟩,rfl⟩
      ·go_wp2_with fail
       with_reducible refine (AA (cW _ _)).mono ?_
       rintro e w4 ⟨rfl,hw4⟩;subst hw4;obtain⟨p1,hp1⟩:∃q,inB fy=q:=⟨_,rfl⟩
       rw[hp1];have H1:=AB hp1;clear hp1;cases p1
       ·go_wp2_with fail;go_meet
        case rel=>exact⟨⟨true,rfl,AB (by rw[(AA HB) true false _ _ (AA H0) (AA H1) rfl rfl];simp)⟩,rfl⟩
       ·go_wp2_with fail
        with_reducible refine (AA (cW _ _)).mono ?_
        rintro e w4 ⟨rfl,hw4⟩;subst hw4;obtain⟨p2,hp2⟩:∃q,inB fw=q:=⟨_,rfl⟩
        rw[hp2];have H2:=AB hp2;clear hp2;cases p2
        ·go_wp2_with fail;go_meet
         case rel=>exact⟨⟨true,rfl,AB (by rw[(AA HB) true true false _ (AA H0) (AA H1) (AA H2) rfl];simp)⟩,rfl⟩
        ·go_wp2_with fail
         with_reducible refine (AA (cW _ _)).mono ?_
         rintro e w4 ⟨rfl,hw4⟩;subst hw4;obtain⟨p3,hp3⟩:∃q,inB fh=q:=⟨_,rfl⟩
         rw[hp3];have H3:=AB hp3;clear hp3;cases p3
         ·go_wp2_with fail;go_meet
          case rel=>exact⟨⟨true,rfl,AB (by rw[(AA HB) true true true false (AA H0) (AA H1) (AA H2) (AA H3)];simp)⟩,rfl⟩
         ·go_wp2_with fail;go_meet
          case rel=>exact⟨⟨false,rfl,AB (by rw[(AA HB) true true true true (AA H0) (AA H1) (AA H2) (AA H3)];simp)⟩,rfl⟩
     case rest=>
      as_aux_lemma=>
      clear k0 k1 k2 k3 lV HB;obtain⟨⟨q0,rfl,HQ⟩,hwc⟩:=hcut;subst hwc;go_upto_if 60 with (fail);cases q0
      ·
       have BV:=AA HBV;obtain⟨RL,hln⟩:=(AA HLS)
       replace hln:ln≤9223372036854775807:=hln;have hll:=AB (show xls.length=ln by have:=RL.recN llC_len (by omega);simpa using this);have HRL:=AB RL;clear RL BV;go_wp2_with fail;go_loopw [9] (fun v9 wq=>∃j:Nat,v9=.int .i64 j∧j≤ln∧wq=wc∧Hid (AllT lOk xls j)) (fun v9 _=>ln-(intOf v9).toNat)
       case atStart=>exact⟨0,rfl,by omega,rfl,AB (by simp[AllT])⟩
       case round=>
        obtain⟨j,rfl,hj,hwr,HJ⟩:=hrel;subst hwr;have BV:=AA HBV;have k4:=(BV.cell 4).trans (rfl:_=some (Value.slice lA ln lc));have lV:=BV.lt;clear BV;by_cases hjn:j<ln
        ·as_aux_lemma=>
         have hjI:(0:Int)≤(j:Int)∧(j:Int)<(ln:Int):=by omega
         obtain⟨y,hy⟩:∃y,xls[j]?=some y:=⟨_,AE (by have:=AA hll;omega)⟩
         have hym:=List.mem_of_getElem? hy;obtain⟨⟨ly,lh,pA,pn,pc⟩,yps⟩:=y;obtain⟨bl,ol,hA,ll,hml⟩:=((AA HRL).ext (AA E3)).rec_ llC_len (show (xls.map LV.l)[j]?=some (⟨ly,lh,pA,pn,pc⟩:Ll) by rw[List.getElem?_map,hy];rfl) (by omega);subst hA;have l0:=hml 0 _ (rfl:_=some (Value.int .i64 ly));rw[Nat.add_zero] at l0;have l1:=hml 1 _ (rfl:_=some (Value.int .i64 lh));have l2:=hml 2 _ (rfl:_=some (Value.slice pA pn pc));have HYj:=AB hy;obtain⟨RP,hpn⟩:=(AA HPS) _ hym;replace hpn:pn≤9223372036854775807:=hpn;have HRP:=AB RP;have HB2:=AB (show ∀p q:Bool,inB ly=p→inB lh=q→lOk ⟨⟨ly,lh,pA,pn,pc⟩,yps⟩=((p&&q)&&yps.all pOk) from fun p q h1 h2=>by subst h1 h2;rfl);clear hml hy hym RP;go_upto_region 13 with fail;go_cut [85] from 61 to 122 (fun v85 wx=>(∃q:Bool,v85=.bool q∧Hid (lOk ⟨⟨ly,lh,pA,pn,pc⟩,yps⟩=(!q&&yps.all pOk)))∧wx=wr)
         case first=>
          as_aux_lemma=>
          go_wp2_with fail
          with_reducible refine (AA (cW _ _)).mono ?_
          rintro e w4 ⟨rfl,hw4⟩;subst hw4;obtain⟨r0,hr0⟩:∃q,inB ly=q:=⟨_,rfl⟩
          rw[hr0];have G0:=AB hr0;clear hr0;cases r0
          ·go_wp2_with fail;go_meet
           case rel=>exact⟨⟨true,rfl,AB (by rw[(AA HB2) false _ (AA G0) rfl];simp)⟩,rfl⟩
          ·go_wp2_with fail
           with_reducible refine (AA (cW _ _)).mono ?_
           rintro e w4 ⟨rfl,hw4⟩;subst hw4;obtain⟨r1,hr1⟩:∃q,inB lh=q:=⟨_,rfl⟩
           rw[hr1];have G1:=AB hr1;clear hr1;cases r1
           ·go_wp2_with fail;go_meet
            case rel=>exact⟨⟨true,rfl,AB (by rw[(AA HB2) true false (AA G0) (AA G1)];simp)⟩,rfl⟩
           ·go_wp2_with fail;go_meet
            case rel=>exact⟨⟨false,rfl,AB (by rw[(AA HB2) true true (AA G0) (AA G1)];simp)⟩,rfl⟩
         case rest=>
          as_aux_lemma=>
          clear HB2 l0 l1;obtain⟨⟨q1,rfl,HQ2⟩,hwc⟩:=hcut;subst hwc;go_upto_if 85 with (fail);cases q1
          ·
           have hpp:=AB (show yps.length=pn by have:=(AA HRP).recN pcC_len (by omega);exact this);go_wp2_with fail;go_loopw [10] (fun v10 wq=>∃k:Nat,v10=.int .i64 k∧k≤pn∧wq=wc∧Hid (AllT pOk yps k)) (fun v10 _=>pn-(intOf v10).toNat)
           case atStart=>exact⟨0,rfl,by omega,rfl,AB (by simp[AllT])⟩
           case round=>
            obtain⟨k,rfl,hk,hwr,HK⟩:=hrel;subst hwr;by_cases hkn:k<pn
            ·as_aux_lemma=>
             have hkI:(0:Int)≤(k:Int)∧(k:Int)<(pn:Int):=by omega
             obtain⟨z,hz⟩:∃z,yps[k]?=some z:=⟨_,AE (by have:=AA hpp;omega)⟩
             obtain⟨bp,op_,hA2,lp,hmp⟩:=((AA HRP).ext (AA E3)).rec_ pcC_len hz (by omega);subst hA2;have p3:=hmp 3 _ (rfl:_=some (Value.int .i64 z.x));have p4:=hmp 4 _ (rfl:_=some (Value.int .i64 z.w));have HZk:=AB hz;have HB3:=AB (show ∀p q:Bool,inB z.x=p→inB z.w=q→pOk z=(p&&q) from fun p q h1 h2=>by subst h1 h2;rfl);clear hmp hz;go_upto_region 18 with fail;go_cut [122] from 86 to 122 (fun v122 wx=>(∃q:Bool,v122=.bool q∧Hid (pOk z=!q))∧wx=wr)
             case first=>
              as_aux_lemma=>
              go_wp2_with fail
              with_reducible refine (AA (cW _ _)).mono ?_
              rintro e w4 ⟨rfl,hw4⟩;subst hw4;obtain⟨r0,hr0⟩:∃q,inB z.x=q:=⟨_,rfl⟩
              rw[hr0];have G0:=AB hr0;clear hr0;cases r0
              ·go_wp2_with fail;go_meet
               case rel=>exact⟨⟨true,rfl,AB (by rw[(AA HB3) false _ (AA G0) rfl];simp)⟩,rfl⟩
              ·go_wp2_with fail
               with_reducible refine (AA (cW _ _)).mono ?_
               rintro e w4 ⟨rfl,hw4⟩;subst hw4;obtain⟨r1,hr1⟩:∃q,inB z.w=q:=⟨_,rfl⟩
               rw[hr1];have G1:=AB hr1;clear hr1;cases r1
               ·go_wp2_with fail;go_meet
                case rel=>exact⟨⟨true,rfl,AB (by rw[(AA HB3) true false (AA G0) (AA G1)];simp)⟩,rfl⟩
               ·go_wp2_with fail;go_meet
                case rel=>exact⟨⟨false,rfl,AB (by rw[(AA HB3) true true (AA G0) (AA G1)];simp)⟩,rfl⟩
             case rest=>
              as_aux_lemma=>
              clear HB3 p3 p4;obtain⟨⟨q2,rfl,HQ3⟩,hwc⟩:=hcut;subst hwc;go_upto_if 122 with (fail);cases q2
              ·
               have HKn:=AB (show AllT pOk yps (k+1) by
                show (yps.take (k+1)).all pOk=true
                rw[all_take (AA HZk),show (yps.take k).all pOk=true from AA HK,Bool.true_and,AA HQ3];rfl)
               go_wp2_with fail;go_roundw
               case rel=>exact⟨k+1,by go_num,by omega,by first|trivial|rfl,HKn⟩
               case measure=>simp[intOf];omega
              ·
               have HVf:=AB (show fs.all fOk=false from all_not (AA HXi) (by
                rw[AA HQ,all_not (AA HYj) (show lOk _=false by rw[AA HQ2,all_not (AA HZk) (show pOk z=false by rw[AA HQ3];rfl)];rfl)];rfl))
               go_wp2_with fail;go_ret;exact⟨by rw[AA HV,AA HVf];rfl,AA E3⟩
            ·as_aux_lemma=>
             have hkI:¬(k:Int)<(pn:Int):=by omega
             have HJn:=AB (show AllT lOk xls (j+1) by
              show (xls.take (j+1)).all lOk=true
              have h1:(yps.take k).all pOk=true:=AA HK;rw[List.take_of_length_le (by have:=AA hpp;omega)] at h1;rw[all_take (AA HYj),show (xls.take j).all lOk=true from AA HJ,Bool.true_and,AA HQ2,h1];rfl)
             go_wp2_with fail;go_roundw
             case rel=>exact⟨j+1,by go_num,by omega,by first|trivial|rfl,HJn⟩
             case measure=>simp[intOf];omega
          ·
           have HVf:=AB (show fs.all fOk=false from all_not (AA HXi) (by
            rw[AA HQ,all_not (AA HYj) (show lOk _=false by rw[AA HQ2];rfl)];rfl))
           go_wp2_with fail;go_ret;exact⟨by rw[AA HV,AA HVf];rfl,AA E3⟩
        ·as_aux_lemma=>
         have hjI:¬(j:Int)<(ln:Int):=by omega
         have HAn:=AB (show AllT fOk fs (i+1) by
          show (fs.take (i+1)).all fOk=true
          have h1:(xls.take j).all lOk=true:=AA HJ;rw[List.take_of_length_le (by have:=AA hll;omega)] at h1;rw[all_take (AA HXi),show (fs.take i).all fOk=true from AA HA,Bool.true_and,AA HQ,h1];rfl)
         go_wp2_with fail;go_roundw
         case rel=>exact⟨i+1,by go_num,by omega,HE2,HAn⟩
         case measure=>simp[intOf];omega
      ·
       have HVf:=AB (show fs.all fOk=false from all_not (AA HXi) (by rw[AA HQ];rfl));go_wp2_with fail;go_ret;exact⟨by rw[AA HV,AA HVf];rfl,AA E3⟩
    ·as_aux_lemma=>
     have hinI:¬(i:Int)<(n:Int):=by omega
     have HVt:=AB (show fs.all fOk=true by
      have h1:(fs.take i).all fOk=true:=AA HA;rw[List.take_of_length_le (by have:=AA hfl;omega)] at h1;exact h1)
     go_wp2_with fail;go_ret;exact⟨by rw[AA HV,AA HVt];rfl,(AA E1).trans (AA E)⟩
  ·
   have HV:=AB (show togB b n t.nl fs=false by simp[togB,hnm]);have hbb:(b != 0)=false:=by simp[hb]
   have hnn:((n:Int) != (t.nl:Int))=true:=by simp;omega
   clear hb hnm;go_wp2_with fail;go_ret;exact⟨by rw[AA HV];rfl,AA E1⟩
 ·
  have HV:=AB (show togB b n t.nl fs=false by simp[togB,hb]);have hbb:(b != 0)=true:=by simp[hb]
  clear hb;go_wp2_with fail;go_ret;exact⟨by rw[AA HV];rfl,AA E1⟩
end
end Go.Proofs.YtamldoocjjdidaaGreat
