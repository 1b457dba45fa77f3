import Derived.Test.YtamldoocjjdidaaGreatMHtE
import Derived.Test.YtamldoocjjdidaaGreatMTyD
namespace Go.Proofs.YtamldoocjjdidaaGreat
open Go.RowKit
set_option maxRecDepth 100000
set_option maxHeartbeats 64000000
def inB (x:Int):Bool:=decide (-1099511627776≤x)&&decide (x≤1099511627776)
def lensB (xs:List Int):Bool:=xs.all inB
structure LV where
 (l:Ll) (ps:List Pc)
structure FV where
 (f:Fg) (ls:List LV)
def pOk (p:Pc):Bool:=inB p.x&&inB p.w
def lOk (l:LV):Bool:=(inB l.l.y&&inB l.l.h)&&l.ps.all pOk
def fOk (f:FV):Bool:=((((inB f.f.x&&inB f.f.y)&&inB f.f.w)&&inB f.f.h))&&f.ls.all lOk
structure FrsIn (w:World) (A:Option Addr) (n:Nat) (fs:List FV):Prop where
 rd:Rd w 5 A n (recs fgC (fs.map FV.f))
 ls:∀x∈fs,Rd w 3 x.f.lA x.f.ln (recs llC (x.ls.map LV.l))∧x.f.ln≤maxLen
 ps:∀x∈fs,∀y∈x.ls,Rd w 5 y.l.pA y.l.pn (recs pcC y.ps)∧y.l.pn≤maxLen
theorem FrsIn.ext {w w':World} {A:Option Addr} {n:Nat} {fs:List FV} (h:FrsIn w A n fs) (hx:Ext w w'):FrsIn w' A n fs:=
 ⟨h.rd.ext hx,fun x hm=>⟨(h.ls x hm).1.ext hx,(h.ls x hm).2⟩,fun x hm y hy=>⟨(h.ps x hm y hy).1.ext hx,(h.ps x hm y hy).2⟩⟩
theorem FrsIn.len {w:World} {A:Option Addr} {n:Nat} {fs:List FV} (h:FrsIn w A n fs):fs.length=n:=by
 have:=h.rd.recN fgC_len (by omega)
 simpa using this
theorem all_take {α:Type} {p:α→Bool} {l:List α} {i:Nat} {x:α} (hx:l[i]?=some x):(l.take (i+1)).all p=((l.take i).all p&&p x):=by
 rw[List.take_add_one,hx,List.all_append];simp
theorem all_not {α:Type} {p:α→Bool} {l:List α} {i:Nat} {x:α} (hx:l[i]?=some x) (h:p x=false):l.all p=false:=by
 rw[List.all_eq_false];exact⟨x,List.mem_of_getElem? hx,by rw[h];simp⟩
def LensIs (w:World) (xs:List Int) (e:Ending) (w':World):Prop:=e=.returned (.bool (lensB xs))∧w=w'
theorem lengths_any (A:Option Addr) (n c:Nat) (xs:List Int) (w:World) (rx:Rd w 1 A n (ints xs)) (hn:n≤1000000) :
  Calls Tryz.prog 40 #[.slice A n c] w (LensIs w xs):=by
 have hl:xs.length=n:=by have:=rx.len;rw[ints_len] at this;omega
 go_enter Tryz.func40,Tryz.ntmps40;go_wp2_with fail;go_loopw [7] (fun v7 wr=>∃i:Nat,v7=.int .i64 i∧i≤n∧Hid ((xs.take i).all inB=true)∧wr=w) (fun v7 _=>n-(intOf v7).toNat)
 case atStart=>exact⟨0,rfl,by omega,AB (by simp),rfl⟩
 case round=>
  obtain⟨i,rfl,hi,HA,hwr⟩:=hrel;subst hwr;by_cases hin:i<n
  ·have hinI:(0:Int)≤(i:Int)∧(i:Int)<(n:Int):=by omega
   obtain⟨x,hx⟩:∃x,xs[i]?=some x:=⟨_,AE (by omega)⟩
   obtain⟨b,off,rfl,lb,_⟩:=rx.at_ (by omega);have q1:=(rx.cellAt hin (show (ints xs)[i]?=some (Value.int .i64 x) by rw[ints,List.getElem?_map,hx];rfl)).2;have HX:=AB hx;clear hx;by_cases h1:x < -1099511627776
   ·go_wp2_with fail;go_ret;exact⟨by rw[lensB,all_not (AA HX) (show inB x=false by simp[inB];omega)];rfl,rfl⟩
   ·by_cases h2:1099511627776<x
    ·go_wp2_with fail;go_ret;exact⟨by rw[lensB,all_not (AA HX) (show inB x=false by simp[inB];omega)];rfl,rfl⟩
    ·go_wp2_with fail;go_roundw
     case rel=>exact⟨i+1,by go_num,by omega,AB (by rw[all_take (AA HX),AA HA];simp[inB];omega),by first|trivial|rfl⟩
     case measure=>simp[intOf]<;>omega
  ·have hinI:¬(i:Int)<(n:Int):=by omega
   have hf:lensB xs=true:=by
    have:=AA HA;rw[List.take_of_length_le (by omega)] at this;exact this
   have HF:=AB hf;clear hf;go_wp2_with fail;go_ret;exact⟨by rw[AA HF];rfl,rfl⟩
theorem built_i4 (a b c d:Int):Tryz.prog.builtSlice 2 4 [(0,.int .i64 a),(1,.int .i64 b),(2,.int .i64 c),(3,.int .i64 d)]=some [Value.int .i64 a,.int .i64 b,.int .i64 c,.int .i64 d].toArray:=by kernel_rfl
theorem built_i2 (a b:Int):Tryz.prog.builtSlice 2 2 [(0,.int .i64 a),(1,.int .i64 b)]=some [Value.int .i64 a,.int .i64 b].toArray:=by kernel_rfl
theorem fok4 (a b c d e:Bool):((((a&&b)&&c)&&d)&&e)=((a&&(b&&(c&&d)))&&e):=by cases a<;>cases b<;>cases c<;>cases d<;>rfl
theorem lok2 (a b e:Bool):((a&&b)&&e)=((a&&(b&&true))&&e):=by cases a<;>cases b<;>rfl
def AllT {α:Type} (p:α→Bool) (l:List α) (i:Nat):Prop:=(l.take i).all p=true
def togB (b:Int) (n m:Nat) (fs:List FV):Bool:=(b==0)&&(decide (n=m)&&fs.all fOk)
def TogIs (w:World) (v:Bool) (e:Ending) (w':World):Prop:=e=.returned (.bool v)∧Ext w w'
section
variable (t:Tr)
theorem together_any (a b:Int) (v1 v2 v3:Value) (A:Option Addr) (n c:Nat) (fs:List FV) (w:World) (hck:∀w',Ext w w'→Calls Tryz.prog 39 #[.agg t.cs] w' (fun e w2=>e=.returned (.tuple #[.int .i64 a,.int .i64 b])∧Ext w' w2))
  (hf:FrsIn w A n fs) (hn:n≤1000000) (_hm:t.nl≤1000000):Calls Tryz.prog 23 #[.agg t.cs,.agg (tbC v1 v2 v3 (.slice A n c)).toArray] w (TogIs w (togB b n t.nl fs)):=by
 have HCK:=AB hck;have HF:=AB hf;have hfl:=AB hf.len;clear hck hf;go_enter Tryz.func23,Tryz.ntmps23;go_upto_region 1 with fail;generalize hw1:World.alloc (World.alloc w _) _=w1;obtain⟨gT,hgT⟩:∃g,w.heap.size=g:=⟨_,rfl⟩
 have BT:Blk w1 gT 25 t.cs:=by rw[←hw1,←hgT];exact (Blk.new _ _ _).alloc _
 have BX:Blk w1 (gT+1) 30 (tbC v1 v2 v3 (.slice A n c)).toArray:=by rw[←hw1,←hgT];exact Blk.new1 _ _ _ _
 have E1:=AB (show Ext w w1 by rw[←hw1];exact ((Ext.refl _).alloc _).alloc _);rw[hgT];clear hgT hw1;have c0:=(BT.cell 0).trans (rfl:_=some (Value.slice t.na t.nl t.nc));have c1:=(BT.cell 1).trans (rfl:_=some (Value.slice t.aa t.al t.ac));have c2:=(BT.cell 2).trans (rfl:_=some (Value.int .i64 t.view));have lT:=BT.lt;go_wp2_with fail
 with_reducible refine ((AA HCK) _ (AA E1)).mono ?_
 rintro e w2 ⟨rfl,hx⟩;replace BT:=BT.ext hx;replace BX:=BX.ext hx;replace E1:=AB ((AA E1).trans hx);clear hx c0 c1 c2 lT HCK;have c0:=(BT.cell 0).trans (rfl:_=some (Value.slice t.na t.nl t.nc));have x3:=(BX.cell 3).trans (rfl:_=some (Value.slice A n c));have lT:=BT.lt;have lX:=BX.lt;by_cases hb:b=0
 ·by_cases hnm:n=t.nl
  ·
   have HV:=AB (show togB b n t.nl fs=fs.all fOk by simp[togB,hb,hnm]);have hnmI:(n:Int)=(t.nl:Int):=by omega
   have hbb:(b != 0)=false:=by simp[hb]
   have hnn:((n:Int) != (t.nl:Int))=false:=by simp[hnm]
   have Hnm:=AB hnm;clear hb hnm hnmI;go_upto_region 4 with fail;clear hbb hnn c0 lT BT;go_wp2_with fail;go_loopw [4,8,10,12,32] (fun _ _ _ _ v32 wq=>∃i:Nat,v32=.int .i64 i∧i≤n∧Hid (Ext w2 wq)∧Hid (AllT fOk fs i)) (fun _ _ _ _ v32 _=>n-(intOf v32).toNat)
   case atStart=>exact⟨0,rfl,by omega,AB (Ext.refl _),AB (by simp[AllT])⟩
   case round=>
    obtain⟨i,rfl,hi,E,HA⟩:=hrel;by_cases hin:i<n
    ·as_aux_lemma=>
     have hinI:(0:Int)≤(i:Int)∧(i:Int)<(n:Int):=by omega
     have EW:=AB ((AA E1).trans (AA E));obtain⟨x,hx⟩:∃x,fs[i]?=some x:=⟨_,AE (by have:=AA hfl;omega)⟩
     have hxm:=List.mem_of_getElem? hx;obtain⟨⟨fx,fy,fw,fh,lA,ln,lc⟩,xls⟩:=x;obtain⟨bf,of_,hA,lf,hmf⟩:=((AA HF).rd.ext (AA EW)).rec_ fgC_len (show (fs.map FV.f)[i]?=some (⟨fx,fy,fw,fh,lA,ln,lc⟩:Fg) by rw[List.getElem?_map,hx];rfl) (by omega);subst hA;have HMF:=AB hmf;have HXi:=AB hx;have HLS:=AB ((AA HF).ls _ hxm);have HPS:=AB ((AA HF).ps _ hxm);clear hmf hx hxm;go_upto_region 6 with fail
     iterate 4 go_step
     refine wpList_load_midg 58 (.tmp 34) rfl bf (of_+i*5) rfl rfl (fgC ⟨fx,fy,fw,fh,lA,ln,lc⟩) _ (fun y v hv=>(AA HMF) y v hv) Tryz.underlying58 rfl (fgC_size _) ?_;simp only[AC];refine wpList_var rfl rfl 58 rfl 8 rfl (.tmp 35) rfl rfl (fgC zFg).toArray (fgC ⟨fx,fy,fw,fh,lA,ln,lc⟩).toArray fgC_zero rfl rfl (fgC_size _) rfl (by kernel_rfl) ?_;intro w3 BV hx z3;simp only[AC];have E3:=AB ((AA EW).trans hx);have HE2:=AB ((AA E).trans hx);generalize wr.heap.size=gV at *;clear hx z3 lf HMF EW;have k0:=(BV.cell 0).trans (rfl:_=some (Value.int .i64 fx));have k1:=(BV.cell 1).trans (rfl:_=some (Value.int .i64 fy));have k2:=(BV.cell 2).trans (rfl:_=some (Value.int .i64 fw));have k3:=(BV.cell 3).trans (rfl:_=some (Value.int .i64 fh));have lV:=BV.lt;go_upto_region 7 with fail
     iterate 25 go_step
     clear k0 k1 k2 k3 lV;refine Go.Great.wpList_buildSliceTo rfl 23 2 4 _ rfl _ rfl _ rfl Tryz.underlying23 ([Value.int .i64 fx,.int .i64 fy,.int .i64 fw,.int .i64 fh]).toArray (by simp only[List.map_toArray,List.map_cons,List.map_nil];exact built_i4 _ _ _ _) ?_;simp only[AC];have hx:Ext w3 (w3.alloc (.cells ([Value.int .i64 fx,.int .i64 fy,.int .i64 fw,.int .i64 fh]).toArray 2)):=(Ext.refl _).alloc _;have R5:Rd (w3.alloc (.cells ([Value.int .i64 fx,.int .i64 fy,.int .i64 fw,.int .i64 fh]).toArray 2)) 1 (some ⟨w3.heap.size,0,none⟩) 4 ([Value.int .i64 fx,.int .i64 fy,.int .i64 fw,.int .i64 fh]):=(Blk.new w3 2 ([Value.int .i64 fx,.int .i64 fy,.int .i64 fw,.int .i64 fh]).toArray).rdk (n:=4) (k:=1) rfl;replace BV:=BV.ext hx;replace E3:=AB ((AA E3).trans hx);replace HE2:=AB ((AA HE2).trans hx);clear hx;generalize w3.alloc (.cells [Value.int .i64 fx,.int .i64 fy,.int .i64 fw,.int .i64 fh].toArray 2)=w4 at *;generalize w3.heap.size=gN at *;have cL:=AB (lengths_any (some ⟨gN,0,none⟩) 4 4 [fx,fy,fw,fh] w4 R5 (by omega));clear R5;go_wp2_with fail
     with_reducible refine (AA cL).mono ?_
     rintro e w5 ⟨rfl,hw5⟩;subst hw5;clear cL;obtain⟨b1,hb1⟩:∃q,lensB [fx,fy,fw,fh]=q:=⟨_,rfl⟩
     have HB1:=AB hb1;rw[hb1];clear hb1;go_upto_if 46 with (fail);cases b1
     ·
      have HVf:=AB (show fs.all fOk=false from all_not (AA HXi) (by
       have h1:=AA HB1;simp only[lensB,List.all_cons,List.all_nil,Bool.and_true] at h1
       show ((((inB fx&&inB fy)&&inB fw)&&inB fh)&&xls.all lOk)=false;rw[fok4,h1,Bool.false_and]))
      go_wp2_with fail;go_ret;exact⟨by rw[AA HV,AA HVf];rfl,AA E3⟩
     ·have k4:=(BV.cell 4).trans (rfl:_=some (Value.slice lA ln lc));have lV:=BV.lt;go_upto_region 9 with fail;go_wp2_with fail;clear k4 lV BV;obtain⟨RL,hln⟩:=(AA HLS)
      replace hln:ln≤9223372036854775807:=hln;have hll:=AB (show xls.length=ln by have:=RL.recN llC_len (by omega);simpa using this);have HRL:=AB RL;clear RL
      try simp only[Bool.not_true]
      go_loopw [4,10,12,50] (fun _ _ _ v50 wq=>∃j:Nat,v50=.int .i64 j∧j≤ln∧Hid (Ext w4 wq)∧Hid (AllT lOk xls j)) (fun _ _ _ v50 _=>ln-(intOf v50).toNat)
      case atStart=>exact⟨0,rfl,by omega,AB (Ext.refl _),AB (by simp[AllT])⟩
      case round=>
       obtain⟨j,rfl,hj,EJ,HJ⟩:=hrel;by_cases hjn:j<ln
       ·as_aux_lemma=>
        have hjI:(0:Int)≤(j:Int)∧(j:Int)<(ln:Int):=by omega
        have EW:=AB ((AA E3).trans (AA EJ));obtain⟨y,hy⟩:∃y,xls[j]?=some y:=⟨_,AE (by have:=AA hll;omega)⟩
        have hym:=List.mem_of_getElem? hy;obtain⟨⟨ly,lh,pA,pn,pc⟩,yps⟩:=y;obtain⟨bl,ol,hA,ll,hml⟩:=((AA HRL).ext (AA EW)).rec_ llC_len (show (xls.map LV.l)[j]?=some (⟨ly,lh,pA,pn,pc⟩:Ll) by rw[List.getElem?_map,hy];rfl) (by omega);have HML:=AB hml;have HYj:=AB hy;obtain⟨RP,hpn⟩:=(AA HPS) _ hym;replace hpn:pn≤9223372036854775807:=hpn;have HRP:=AB RP;clear hml hy hym RP;subst hA;go_upto_region 11 with fail
        iterate 4 go_step
        refine wpList_load_midg 73 (.tmp 52) rfl bl (ol+j*3) rfl rfl (llC ⟨ly,lh,pA,pn,pc⟩) _ (fun q v hv=>(AA HML) q v hv) Tryz.underlying73 rfl (llC_size _) ?_;simp only[AC];refine wpList_var rfl rfl 73 rfl 10 rfl (.tmp 53) rfl rfl (llC zLl).toArray (llC ⟨ly,lh,pA,pn,pc⟩).toArray llC_zero rfl rfl (llC_size _) rfl (by kernel_rfl) ?_;intro w6 BL hx z6;simp only[AC];have E6:=AB ((AA EW).trans hx);have HJ2:=AB ((AA EJ).trans hx);generalize wr.heap.size=gL at *;clear hx z6 ll HML EW;have l0:=(BL.cell 0).trans (rfl:_=some (Value.int .i64 ly));have l1:=(BL.cell 1).trans (rfl:_=some (Value.int .i64 lh));have lL:=BL.lt;go_upto_region 12 with fail
        iterate 13 go_step
        clear l0 l1 lL;refine Go.Great.wpList_buildSliceTo rfl 23 2 2 _ rfl _ rfl _ rfl Tryz.underlying23 ([Value.int .i64 ly,.int .i64 lh]).toArray (by simp only[List.map_toArray,List.map_cons,List.map_nil];exact built_i2 _ _) ?_;simp only[AC];have hx:Ext w6 (w6.alloc (.cells ([Value.int .i64 ly,.int .i64 lh]).toArray 2)):=(Ext.refl _).alloc _;have R5:Rd (w6.alloc (.cells ([Value.int .i64 ly,.int .i64 lh]).toArray 2)) 1 (some ⟨w6.heap.size,0,none⟩) 2 ([Value.int .i64 ly,.int .i64 lh]):=(Blk.new w6 2 ([Value.int .i64 ly,.int .i64 lh]).toArray).rdk (n:=2) (k:=1) rfl;replace BL:=BL.ext hx;replace E6:=AB ((AA E6).trans hx);replace HJ2:=AB ((AA HJ2).trans hx);clear hx;generalize w6.alloc (.cells [Value.int .i64 ly,.int .i64 lh].toArray 2)=w7 at *;generalize w6.heap.size=gM at *;have cL:=AB (lengths_any (some ⟨gM,0,none⟩) 2 2 [ly,lh] w7 R5 (by omega));clear R5;go_wp2_with fail
        with_reducible refine (AA cL).mono ?_
        rintro e w8 ⟨rfl,hw8⟩;subst hw8;clear cL;obtain⟨b2,hb2⟩:∃q,lensB [ly,lh]=q:=⟨_,rfl⟩
        have HB2:=AB hb2;rw[hb2];clear hb2;go_upto_if 60 with (fail);cases b2
        ·
         have HVf:=AB (show fs.all fOk=false from all_not (AA HXi) (by
          have h1:=AA HB2;simp only[lensB,List.all_cons,List.all_nil] at h1
          show ((((inB fx&&inB fy)&&inB fw)&&inB fh)&&xls.all lOk)=false
          rw[all_not (AA HYj) (show lOk ⟨⟨ly,lh,pA,pn,pc⟩,yps⟩=false by show ((inB ly&&inB lh)&&yps.all pOk)=false;rw[lok2,h1,Bool.false_and]),Bool.and_false]))
         go_wp2_with fail;go_ret;exact⟨by rw[AA HV,AA HVf];rfl,AA E6⟩
        ·have k2:=(BL.cell 2).trans (rfl:_=some (Value.slice pA pn pc));have lL:=BL.lt;go_upto_region 14 with fail;go_wp2_with fail;clear k2 lL BL;have hpp:=AB (show yps.length=pn by have:=(AA HRP).recN pcC_len (by omega);exact this)
         try simp only[Bool.not_true]
         go_loopw [4,12,64] (fun _ _ v64 wq=>∃k:Nat,v64=.int .i64 k∧k≤pn∧Hid (Ext w7 wq)∧Hid (AllT pOk yps k)) (fun _ _ v64 _=>pn-(intOf v64).toNat)
         case atStart=>exact⟨0,rfl,by omega,AB (Ext.refl _),AB (by simp[AllT])⟩
         case round=>
          obtain⟨k,rfl,hk,EK,HK⟩:=hrel;by_cases hkn:k<pn
          ·as_aux_lemma=>
           have hkI:(0:Int)≤(k:Int)∧(k:Int)<(pn:Int):=by omega
           have EV:=AB ((AA E6).trans (AA EK));obtain⟨z,hz⟩:∃z,yps[k]?=some z:=⟨_,AE (by have:=AA hpp;omega)⟩
           obtain⟨bp,op_,hA2,lp,hmp⟩:=((AA HRP).ext (AA EV)).rec_ pcC_len hz (by omega);have HMP:=AB hmp;have HZk:=AB hz;clear hmp hz;subst hA2;go_upto_region 16 with fail
           iterate 4 go_step
           refine wpList_load_midg 75 (.tmp 66) rfl bp (op_+k*5) rfl rfl (pcC z) _ (fun q v hv=>(AA HMP) q v hv) Tryz.underlying75 rfl (pcC_size _) ?_;simp only[AC];refine wpList_var rfl rfl 75 rfl 12 rfl (.tmp 67) rfl rfl (pcC zPc).toArray (pcC z).toArray pcC_zero rfl rfl (pcC_size _) rfl (by kernel_rfl) ?_;intro w9 BP hx z9;simp only[AC];have E9:=AB ((AA EV).trans hx);have HK2:=AB ((AA EK).trans hx);generalize wr.heap.size=gP at *;clear hx z9 lp HMP EV;have p3:=(BP.cell 3).trans (rfl:_=some (Value.int .i64 z.x));have p4:=(BP.cell 4).trans (rfl:_=some (Value.int .i64 z.w));have lP:=BP.lt;go_upto_region 17 with fail
           iterate 13 go_step
           clear p3 p4 lP;refine Go.Great.wpList_buildSliceTo rfl 23 2 2 _ rfl _ rfl _ rfl Tryz.underlying23 ([Value.int .i64 z.x,.int .i64 z.w]).toArray (by simp only[List.map_toArray,List.map_cons,List.map_nil];exact built_i2 _ _) ?_;simp only[AC];have hx:Ext w9 (w9.alloc (.cells ([Value.int .i64 z.x,.int .i64 z.w]).toArray 2)):=(Ext.refl _).alloc _;have R5:Rd (w9.alloc (.cells ([Value.int .i64 z.x,.int .i64 z.w]).toArray 2)) 1 (some ⟨w9.heap.size,0,none⟩) 2 ([Value.int .i64 z.x,.int .i64 z.w]):=(Blk.new w9 2 ([Value.int .i64 z.x,.int .i64 z.w]).toArray).rdk (n:=2) (k:=1) rfl;replace E9:=AB ((AA E9).trans hx);replace HK2:=AB ((AA HK2).trans hx);clear hx BP;generalize w9.alloc (.cells [Value.int .i64 z.x,.int .i64 z.w].toArray 2)=wA at *;generalize w9.heap.size=gQ at *;have cL:=AB (lengths_any (some ⟨gQ,0,none⟩) 2 2 [z.x,z.w] wA R5 (by omega));clear R5;go_wp2_with fail
           with_reducible refine (AA cL).mono ?_
           rintro e wB ⟨rfl,hwB⟩;subst hwB;clear cL;obtain⟨b3,hb3⟩:∃q,lensB [z.x,z.w]=q:=⟨_,rfl⟩
           have HB3:=AB hb3;rw[hb3];clear hb3;go_upto_if 74 with (fail);cases b3
           ·
            have HVf:=AB (show fs.all fOk=false from all_not (AA HXi) (by
             have h1:=AA HB3;simp only[lensB,List.all_cons,List.all_nil,Bool.and_true] at h1
             show ((((inB fx&&inB fy)&&inB fw)&&inB fh)&&xls.all lOk)=false
             rw[all_not (AA HYj) (show ((inB ly&&inB lh)&&yps.all pOk)=false by rw[all_not (AA HZk) (show pOk z=false from h1),Bool.and_false]),Bool.and_false]))
            go_wp2_with fail;go_ret;exact⟨by rw[AA HV,AA HVf];rfl,AA E9⟩
           ·have HKn:=AB (show AllT pOk yps (k+1) by
             show (yps.take (k+1)).all pOk=true
             have h1:=AA HB3;simp only[lensB,List.all_cons,List.all_nil,Bool.and_true] at h1;rw[all_take (AA HZk),show (yps.take k).all pOk=true from AA HK,Bool.true_and];exact h1)
            go_wp2_with fail;go_roundw
            case rel=>exact⟨k+1,by go_num,by omega,HK2,HKn⟩
            case measure=>simp[intOf];omega
          ·as_aux_lemma=>
           have hkI:¬(k:Int)<(pn:Int):=by omega
           have HJn:=AB (show AllT lOk xls (j+1) by
            show (xls.take (j+1)).all lOk=true
            have h1:(yps.take k).all pOk=true:=AA HK;rw[List.take_of_length_le (by have:=AA hpp;omega)] at h1;have h2:=AA HB2;simp only[lensB,List.all_cons,List.all_nil] at h2;rw[all_take (AA HYj),show (xls.take j).all lOk=true from AA HJ,Bool.true_and]
            show ((inB ly&&inB lh)&&yps.all pOk)=true;rw[lok2,h2,h1];rfl)
           go_wp2_with fail;go_roundw
           case rel=>exact⟨j+1,by go_num,by omega,AB ((AA HJ2).trans (AA EK)),HJn⟩
           case measure=>simp[intOf];omega
       ·as_aux_lemma=>
        have hjI:¬(j:Int)<(ln:Int):=by omega
        have HAn:=AB (show AllT fOk fs (i+1) by
         show (fs.take (i+1)).all fOk=true
         have h1:(xls.take j).all lOk=true:=AA HJ;rw[List.take_of_length_le (by have:=AA hll;omega)] at h1;have h2:=AA HB1;simp only[lensB,List.all_cons,List.all_nil,Bool.and_true] at h2;rw[all_take (AA HXi),show (fs.take i).all fOk=true from AA HA,Bool.true_and]
         show ((((inB fx&&inB fy)&&inB fw)&&inB fh)&&xls.all lOk)=true;rw[fok4,h2,h1];rfl)
        go_wp2_with fail;go_roundw
        case rel=>exact⟨i+1,by go_num,by omega,AB ((AA HE2).trans (AA EJ)),HAn⟩
        case measure=>simp[intOf];omega
    ·as_aux_lemma=>
     have hinI:¬(i:Int)<(n:Int):=by omega
     have HVt:=AB (show fs.all fOk=true by
      have h1:(fs.take i).all fOk=true:=AA HA;rw[List.take_of_length_le (by have:=AA hfl;omega)] at h1;exact h1)
     go_wp2_with fail;go_ret;exact⟨by rw[AA HV,AA HVt];rfl,(AA E1).trans (AA E)⟩
  ·
   have HV:=AB (show togB b n t.nl fs=false by simp[togB,hnm]);have hbb:(b != 0)=false:=by simp[hb]
   have hnn:((n:Int) != (t.nl:Int))=true:=by simp;omega
   clear hb hnm;go_wp2_with fail;go_ret;exact⟨by rw[AA HV];rfl,AA E1⟩
 ·
  have HV:=AB (show togB b n t.nl fs=false by simp[togB,hb]);have hbb:(b != 0)=true:=by simp[hb]
  clear hb;go_wp2_with fail;go_ret;exact⟨by rw[AA HV];rfl,AA E1⟩
end
theorem mayV_neg {l:Ln} (h:mayV l true=true):lenMayB l (-1099511627776) (-100000)=true:=by
 unfold mayV at h;unfold lenMayB
 split
 ·rename_i k;rw[if_pos k] at h;exact h
 ·rename_i k
  rw[if_neg k] at h
  split
  ·rename_i k1;rw[if_pos k1] at h;simp at h ⊢;omega
  ·rename_i k1
   rw[if_neg k1] at h
   split
   ·rename_i k2;rw[if_pos k2] at h;simp at h ⊢;omega
   ·rename_i k2;rw[if_neg k2] at h;exact h
theorem mayV_nn {l:Ln} (h:mayV l false=true):lenMayB l 0 0=true:=by
 unfold mayV at h;unfold lenMayB
 split
 ·rename_i k;rw[if_pos k] at h;exact h
 ·rename_i k
  rw[if_neg k] at h
  split
  ·rename_i k1;rw[if_pos k1] at h;simp at h ⊢;omega
  ·rename_i k1
   rw[if_neg k1] at h
   split
   ·rename_i k2;rw[if_pos k2] at h;simp at h ⊢;omega
   ·rename_i k2;rw[if_neg k2] at h;exact h
theorem mg_all {s:Sty} (h:mgV s 0=true):mgOk s 0=true∧mgOk s 1=true∧mgOk s 2=true∧mgOk s 3=true:=by
 rw[mgV,if_pos (by omega),mgV,if_pos (by omega),mgV,if_pos (by omega),mgV,if_pos (by omega),mgV,if_neg (by omega)] at h
 simpa using h
theorem wd_all {s:Sty} (h:wdV s 0=true):mayV s.w false=true∧mayV s.minw false=true∧mayV s.maxw false=true∧mayV s.basis false=true:=by
 rw[wdV,if_pos (by omega),wdV,if_pos (by omega),wdV,if_pos (by omega),wdV,if_pos (by omega),wdV,if_neg (by omega)] at h
 simpa[wdL] using h
theorem hg_all {s:Sty} (h:hgV s 0=true):hgOk s 0=true∧hgOk s 1=true∧hgOk s 2=true:=by
 rw[hgV,if_pos (by omega),hgV,if_pos (by omega),hgV,if_pos (by omega),hgV,if_neg (by omega)] at h
 simpa using h
structure NdOk (s:Sty):Prop where
 kid:KidOk s
 line:0≤s.line∧s.line≤1099511627776
theorem mg_parts {s:Sty} {k:Nat} (h:mgOk s k=true):lenMayB (mgL s k) (-1099511627776) (-100000)=true∧(0≤bdN s k∧bdN s k≤1099511627776)∧(0≤pdN s k∧pdN s k≤1099511627776):=by
 unfold mgOk at h;simp at h;exact⟨mayV_neg h.1.1,by omega,by omega⟩
theorem hg_len {s:Sty} {k:Nat} (h:hgOk s k=true):LenOk (hgL s k):=by
 unfold hgOk at h;simp at h;exact⟨h.2,mayV_nn h.1⟩
theorem edge_yes {m:Ln} {b p:Int} (h:lenMayB m (-1099511627776) (-100000)=true∧(0≤b∧b≤1099511627776)∧(0≤p∧p≤1099511627776)):edgeB m b p=true:=by
 unfold edgeB;simp;exact⟨⟨h.1,by omega⟩,by omega⟩
theorem ndok_box {s:Sty} (h:boxV s=true):NdOk s:=by
 unfold boxV at h;simp only[Bool.and_eq_true] at h;obtain⟨⟨⟨h1,h2⟩,h3⟩,h4⟩:=h;obtain⟨a0,a1,a2,a3⟩:=mg_all h1;obtain⟨b0,b1,b2,b3⟩:=wd_all h2;obtain⟨c0,c1,c2⟩:=hg_all h3;unfold flagsV at h4;simp only[Bool.and_eq_true,decide_eq_true_eq] at h4;have e0:edgeB s.m0 s.b0 s.p0=true:=edge_yes (mg_parts a0);have e1:edgeB s.m1 s.b1 s.p1=true:=edge_yes (mg_parts a1);have e2:edgeB s.m2 s.b2 s.p2=true:=edge_yes (mg_parts a2);have e3:edgeB s.m3 s.b3 s.p3=true:=edge_yes (mg_parts a3);exact⟨⟨by rw[mayB,edgesB,e0,e1,e2,e3,mayV_nn b0,mayV_nn b1,mayV_nn b2];rfl,⟨hg_len c0,hg_len c1,hg_len c2⟩,mayV_nn b3,by omega,by omega⟩,by omega⟩
theorem zb_all {s:Sty} (h:zbV s 0=true):zbOk s 0=true∧zbOk s 1=true∧zbOk s 2=true∧zbOk s 3=true:=by
 rw[zbV,if_pos (by omega),zbV,if_pos (by omega),zbV,if_pos (by omega),zbV,if_pos (by omega),zbV,if_neg (by omega)] at h
 simpa using h
theorem zl_at {s:Sty}:∀(d k:Nat),11-k=d→zlV s k=true→∀i x,k≤i→(lensL s)[i]?=some x→zlOk x=true
 |0,k,hd,_,i,x,h1,h2=>by
  have h3:i<(lensL s).length:=(List.getElem?_eq_some_iff.1 h2).1;have h4:(lensL s).length=11:=rfl;omega
 |d+1,k,hd,h,i,x,h1,h2=>by
  rw[zlV,if_pos (by omega)] at h;simp only[Bool.and_eq_true] at h
  rcases Nat.lt_or_ge k i with h3|h3
  ·exact zl_at d (k+1) (by omega) h.2 i x (by omega) h2
  ·obtain rfl:k=i:=by omega
   have h5:=h.1;rw[h2] at h5;exact h5
theorem zl_len {l:Ln} (h:zlOk l=true) (lo lop:Int):lenMayB l lo lop=true:=by
 unfold zlOk at h;simp at h;rw[lenMayB,if_pos h.1];simp[h.2]
theorem zl_ok {l:Ln} (h:zlOk l=true):LenOk l:=⟨by unfold zlOk at h;simp at h;omega,zl_len h _ _⟩
theorem ndok_text {s:Sty} (h:emptyV s=true):NdOk s:=by
 unfold emptyV at h;simp only[Bool.and_eq_true] at h;obtain⟨⟨h1,h2⟩,h3⟩:=h;obtain⟨a0,a1,a2,a3⟩:=zb_all h1;have hz:=fun i x hx=>zl_at 11 0 rfl h2 i x (by omega) hx
 have z0:=hz 0 s.w rfl;have z1:=hz 1 s.h rfl;have z2:=hz 2 s.minw rfl;have z3:=hz 3 s.maxw rfl;have z4:=hz 4 s.minh rfl;have z5:=hz 5 s.maxh rfl;have z6:=hz 6 s.basis rfl;have z7:=hz 7 s.m0 rfl;have z8:=hz 8 s.m1 rfl;have z9:=hz 9 s.m2 rfl;have z10:=hz 10 s.m3 rfl;unfold flags0 at h3;simp at h3;simp[zbOk,bdN,pdN] at a0 a1 a2 a3;have e0:edgeB s.m0 s.b0 s.p0=true:=edge_yes ⟨zl_len z7 _ _,by omega,by omega⟩;have e1:edgeB s.m1 s.b1 s.p1=true:=edge_yes ⟨zl_len z8 _ _,by omega,by omega⟩;have e2:edgeB s.m2 s.b2 s.p2=true:=edge_yes ⟨zl_len z9 _ _,by omega,by omega⟩;have e3:edgeB s.m3 s.b3 s.p3=true:=edge_yes ⟨zl_len z10 _ _,by omega,by omega⟩;exact⟨⟨by rw[mayB,edgesB,e0,e1,e2,e3,zl_len z0,zl_len z2,zl_len z3];rfl,⟨zl_ok z1,zl_ok z4,zl_ok z5⟩,zl_len z6 _ _,by omega,by omega⟩,by omega⟩
theorem ndok_of {s:Sty} (h:rightV s=true):NdOk s:=by
 unfold rightV at h
 split at h
 ·exact ndok_box h
 ·split at h
  ·simp only[Bool.and_eq_true] at h;exact ndok_text h.1
  ·cases h
theorem NdOk.edges {s:Sty} (h:NdOk s):EdgesOk s:=(may_facts h.kid.may).1
theorem NdOk.sty {s:Sty} (h:NdOk s):StyOk s:=h.edges.ok
theorem NdOk.thin {s:Sty} (h:NdOk s):s.thin:=h.edges.thin
theorem TOk.nd {ns:List Nd} (h:TOk ns) {i:Nat} {n:Nd} (hn:ns[i]?=some n):NdOk n.s:=by
 obtain⟨hi,rfl⟩:=List.getElem?_eq_some_iff.1 hn;exact ndok_of (h.right hi)
def letB (us:List Int) (i:Int):Bool:=decide (0≤i)&&(match us[i.toNat]? with|some u=>decide (u≠32)&&decide (u≠10)|none=>false)
def begN (us:List Int) (k:Nat):Nat:=((List.range k).filter fun (i:Nat)=>letB us (i:Int)&&!letB us ((i:Int)-1)).length
def wordsN (us:List Int):Nat:=begN us us.length
theorem begN_succ (us:List Int) (k:Nat):begN us (k+1)=begN us k+(if letB us k=true∧letB us ((k:Int)-1)=false then 1 else 0):=by
 unfold begN;rw[List.range_succ,List.filter_append,List.length_append]
 congr 1
 by_cases h:letB us k=true∧letB us ((k:Int)-1)=false
 ·rw[if_pos h,List.filter_cons,if_pos (by rw[h.1,h.2];rfl)];rfl
 ·rw[if_neg h,List.filter_cons,if_neg (by simp only[Bool.and_eq_true,Bool.not_eq_true'];exact h)];rfl
theorem begN_le (us:List Int):∀k,begN us k≤k
 |0=>by simp[begN]
 |k+1=>by rw[begN_succ];have:=begN_le us k;split<;>omega
def wordsK (un:Nat→List Int) (kl:List Int):Nat:=(kl.map fun k=>wordsN (un k.toNat)).sum
theorem wordsK_append (un:Nat→List Int) (a b:List Int):wordsK un (a++b)=wordsK un a+wordsK un b:=by simp[wordsK]
theorem wordsK_one (un:Nat→List Int) (k:Int):wordsK un [k]=wordsN (un k.toNat):=by simp[wordsK]
structure LT (w:World) (t:Tr) (ns:List Nd) (av:List Int) (un:Nat→List Int):Prop where
 tr:TrIn w t ns av
 ok:TOk ns
 few:ns.length≤300
 view:0≤t.view∧t.view≤1099511627776
 al:av.length≤600
 av:∀a∈av,0≤a∧a≤1099511627776
 units:∀i n,ns[i]?=some n→Rd w 1 n.s.ua n.s.ul (u16s (un i))∧(∀u∈un i,0≤u∧u≤65535)∧n.s.ul≤n.s.uc∧n.s.uc≤maxLen
 sum:((List.range ns.length).map fun i=>(un i).length).sum≤4000
theorem LT.ext {w w':World} {t:Tr} {ns:List Nd} {av:List Int} {un:Nat→List Int} (h:LT w t ns av un) (hx:Ext w w'):LT w' t ns av un:=
 ⟨h.tr.ext hx,h.ok,h.few,h.view,h.al,h.av,fun i n hn=>⟨(h.units i n hn).1.ext hx,(h.units i n hn).2⟩,h.sum⟩
end Go.Proofs.YtamldoocjjdidaaGreat
