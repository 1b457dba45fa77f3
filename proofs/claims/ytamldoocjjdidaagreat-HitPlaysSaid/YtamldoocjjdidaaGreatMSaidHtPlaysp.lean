import Derived.Test.YtamldoocjjdidaaGreatMHvKp
import Derived.Test.YtamldoocjjdidaaGreatMHvP
import Derived.Test.YtamldoocjjdidaaGreatMRcOp
namespace Go.Proofs.YtamldoocjjdidaaGreat
open Go.RowKit
set_option maxRecDepth 100000
set_option maxHeartbeats 64000000
theorem built_tbs (T U:Tb):Tryz.prog.builtSlice 30 2 [(0,.agg T.cs.toArray),(1,.agg U.cs.toArray)]=some (recs Tb.cs [T,U]).toArray:=by kernel_rfl
section
variable (t:Tr) (ns:List Nd) (av:List Int)
variable (A1 A2 A3 A:Option Addr) (n1 n2 n3 n c1 c2 c3 c:Nat) (fs:List FV) (W:World)
variable (h:TrIn W t ns av) (hm:t.nl≤1000) (ha:t.al≤1000) (hf:FrsIn W A n fs) (hn:n≤1000)
include h hm ha in
theorem rchk_any:∀w',Ext W w'→Calls Tryz.prog 35 #[.agg t.cs] w' (fun e w2=>e=.returned (.tuple #[.int .i64 (checkV ns av t.view).1,.int .i64 (checkV ns av t.view).2])∧Ext w' w2):=
 fun w' hx=>rcheck_any t ns av w' (h.ext hx) (by omega) (by unfold maxLen;omega)
include h hm ha hf hn
theorem rPl:Calls Tryz.prog 10 #[.agg t.cs,.agg #[.slice A1 n1 c1,.slice A2 n2 c2,.slice A3 n3 c3,.slice A n c]] W (PlsIs W (goV t ns av n fs) ns fs):=
 rplaces_any t ns _ _ (.slice A1 n1 c1) (.slice A2 n2 c2) (.slice A3 n3 c3) A n c fs W (rchk_any t ns av W h hm ha) hf hn hm h.nodes (chk_ok t ns av W h hm)
theorem rAt (px py:Int):Calls Tryz.prog 13 #[.agg t.cs,.agg #[.slice A1 n1 c1,.slice A2 n2 c2,.slice A3 n3 c3,.slice A n c],.int .i64 px,.int .i64 py] W (HitIs W (atV (goV t ns av n fs) ns fs px py)):=
 refat_any t ns _ _ (.slice A1 n1 c1) (.slice A2 n2 c2) (.slice A3 n3 c3) A n c fs px py W (rchk_any t ns av W h hm ha) hf hn hm h.nodes (chk_ok t ns av W h hm)
theorem rUn (r:Rc) (hr:r.Ok):Calls Tryz.prog 18 #[.agg t.cs,.agg #[.slice A1 n1 c1,.slice A2 n2 c2,.slice A3 n3 c3,.slice A n c],.agg #[.int .i64 r.x,.int .i64 r.y,.int .i64 r.w,.int .i64 r.h]] W (IntsOut W (undV (goV t ns av n fs) ns fs r)):=
 refunder_any t ns _ _ (.slice A1 n1 c1) (.slice A2 n2 c2) (.slice A3 n3 c3) A n c fs r hr W (rchk_any t ns av W h hm ha) hf hn hm h.nodes (chk_ok t ns av W h hm)
theorem rBd:Calls Tryz.prog 15 #[.agg t.cs,.agg #[.slice A1 n1 c1,.slice A2 n2 c2,.slice A3 n3 c3,.slice A n c]] W (BndIs W (bndR (goV t ns av n fs) ns fs) (bndB (goV t ns av n fs) ns fs)):=
 refbounds_any t ns _ _ (.slice A1 n1 c1) (.slice A2 n2 c2) (.slice A3 n3 c3) A n c fs W (rchk_any t ns av W h hm ha) hf hn hm h.nodes (chk_ok t ns av W h hm)
omit hn
end
section
variable (t:Tr) (ns:List Nd) (av:List Int) (un:Nat→List Int)
theorem law_hitPlays (T:Tb) (fs0:List FV) (PA:Option Addr) (pn pc:Nat) (ps:List Pt) (r:Rc) (w:World) (h:TrIn w t ns av) (hm0:t.nl≤maxLen) (ha0:t.al≤maxLen) (hu:∀(i:Nat) (n:Nd),ns[i]?=some n→UnOk w n (un i)) (hf0:FrsIn w T.A T.n fs0) (hn0:T.n≤maxLen)
  (hp:Rd w 4 PA pn (recs pntC ps)) (hpo:∀p∈ps,p.Ok) (hpn0:pn≤maxLen) (hr:r.Ok) :
  Calls Tryz.prog 3 #[.agg t.cs,.agg T.cs.toArray,.slice PA pn pc,.agg r.cs] w fun e w'=>e=.returned (.bool true)∧Ext w w':=by
 have hul:∀(i:Nat) (n:Nd),ns[i]?=some n→n.s.ul≤maxLen:=fun i n hn=>Nat.le_trans (hu i n hn).2.2.1 (hu i n hn).2.2.2
 have HU:=AB hu;have HTr0:=AB h;have HF0:=AB hf0;have HP:=AB hp;have HPO:=AB hpo;have HRO:=AB hr;have HM0:=AB hm0;have HA0:=AB ha0;have HN0:=AB hn0;have HUL:=AB hul;have hps:=AB (show ps.length=pn from hp.recN pntC_len (by omega));replace hpn0:pn≤9223372036854775807:=hpn0;clear hu h hf0 hp hpo hr hm0 ha0 hn0 hul;go_enter Tryz.func3,Tryz.ntmps3;go_upto_region 1 with fail;generalize hw1:World.alloc (World.alloc (World.alloc w _) _) _=w1;obtain⟨gT,hgT⟩:∃g,w.heap.size=g:=⟨_,rfl⟩
 have BT:Blk w1 gT 25 t.cs:=by rw[←hw1,←hgT];exact ((Blk.new _ _ _).alloc _).alloc _
 have BX:Blk w1 (gT+1) 30 T.cs.toArray:=by rw[←hw1,←hgT];exact (Blk.new1 _ _ _ _).alloc _
 have BR:Blk w1 (gT+1+1) 33 r.cs:=by rw[←hw1,←hgT];exact Blk.new2 _ _ _ _ _
 have E1:=AB (show Ext w w1 by rw[←hw1];exact (((Ext.refl _).alloc _).alloc _).alloc _);rw[hgT];clear hgT hw1;have cS:=AB (small_any t ns av w1 (.slice T.A1 T.n1 T.c1) (.slice T.A2 T.n2 T.c2) (.slice T.A3 T.n3 T.c3) T.A T.n T.c fs0 ((AA HTr0).ext (AA E1)) (AA HM0) (AA HA0) (AA HUL) ((AA HF0).ext (AA E1)) (AA HN0));go_step;refine wpList_load_blk rfl 25 (.tmp 4) rfl gT rfl 25 t.cs _ BT Tryz.underlying25 rfl (info_tree _) ?_;simp only[AC];refine wpList_load_blk rfl 30 (.tmp 5) rfl (gT+1) rfl 30 T.cs.toArray _ BX Tryz.underlying30 rfl (tb_size _ _ _ _) ?_;simp only[AC];go_wp2_with fail;refine (AA cS).mono ?_;rintro e w2 ⟨q,rfl,hx,hq⟩;replace BT:=BT.ext hx;replace BX:=BX.ext hx;replace BR:=BR.ext hx;replace E1:=AB ((AA E1).trans hx);have HQ:=AB hq;clear hx hq cS;cases q
 ·
  go_upto_region 2 with fail;go_wp2_with fail;refine (works29_any _).mono ?_;rintro e w3 ⟨rfl,hx⟩;have HX:=AB hx;clear hx;go_wp2_with fail;go_ret;exact⟨rfl,(AA E1).trans (AA HX)⟩
 by_cases hp20:20<pn
 ·
  have hpI:(20:Int)<(pn:Int):=by omega
  go_upto_region 2 with fail;go_wp2_with fail;refine (works29_any _).mono ?_;rintro e w3 ⟨rfl,hx⟩;have HX:=AB hx;clear hx;go_wp2_with fail;go_ret;exact⟨rfl,(AA E1).trans (AA HX)⟩
 have hpI:¬(20:Int)<(pn:Int):=by omega
 have HSm:=AB ((AA HQ) (by first|trivial|rfl));have hm:t.nl≤1000:=by have:=(AA HSm).nl;omega
 have ha:t.al≤1000:=by have:=(AA HSm).few.al;omega
 have hnT:T.n≤1000:=by have:=(AA HSm).n;omega
 have cL:=AB (layout25_w t ns av un w2 ((AA HTr0).ext (AA E1)) (fun i n hn=>((AA HU) i n hn).ext (AA E1)) (AA HSm).few);clear HQ hp20;go_upto_region 3 with fail;go_step;refine wpList_load_blk rfl 25 (.tmp 4) rfl gT rfl 25 t.cs _ BT Tryz.underlying25 rfl (info_tree _) ?_;simp only[AC];go_wp2_with fail
 with_reducible refine (AA cL).mono ?_
 rintro e w3 ⟨A1,A2,A3,A4,n1,n2,n3,n4,c1,c2,c3,c4,z,er,rfl,hx,hlx⟩;replace BT:=BT.ext hx;replace BX:=BX.ext hx;replace BR:=BR.ext hx;replace E1:=AB ((AA E1).trans hx);have HLX:=AB hlx;clear hx hlx cL;obtain⟨U,hU⟩:∃U:Tb,U=⟨A1,A2,A3,A4,n1,n2,n3,n4,c1,c2,c3,c4⟩:=⟨_,rfl⟩
 have hUc:(tbC (.slice A1 n1 c1) (.slice A2 n2 c2) (.slice A3 n3 c3) (.slice A4 n4 c4)).toArray=U.cs.toArray:=by rw[hU];rfl
 have HLU:=AB (show er=0→(checkV ns av t.view).2=0∧U.n=t.nl∧∃fs:List FV,FrsIn w3 U.A U.n fs∧fs.all fOk=true by rw[hU];exact AA HLX);rw[hUc];clear hUc hU HLX;dsimp only
 iterate 13 go_step
 refine wpList_var rfl rfl 30 rfl 9 rfl (.tmp 45) rfl rfl (tbC sl0 sl0 sl0 sl0).toArray U.cs.toArray tb_zero rfl rfl (tb_size _ _ _ _) rfl (by kernel_rfl) ?_;intro w4 BU hx z4;simp only[AC];replace BT:=BT.ext hx;replace BX:=BX.ext hx;replace BR:=BR.ext hx;replace E1:=AB ((AA E1).trans hx);replace HLU:=AB (fun e=>by have h1:=(AA HLU) e;exact (show (checkV ns av t.view).2=0∧U.n=t.nl∧∃fs:List FV,FrsIn w4 U.A U.n fs∧fs.all fOk=true from ⟨h1.1,h1.2.1,h1.2.2.imp fun _ k=>⟨k.1.ext hx,k.2⟩⟩));generalize w3.heap.size=gU at *;clear hx z4;go_upto_region 4 with fail;go_step;refine wpList_load_blk rfl 30 (.tmp 5) rfl (gT+1) rfl 30 T.cs.toArray _ BX Tryz.underlying30 rfl (tb_size _ _ _ _) ?_;simp only[AC];refine wpList_load_blk rfl 30 (.tmp 9) rfl gU rfl 30 U.cs.toArray _ BU Tryz.underlying30 rfl (tb_size _ _ _ _) ?_;simp only[AC];refine Go.Great.wpList_buildSliceTo rfl 39 30 2 _ rfl _ rfl _ rfl Tryz.underlying39 (recs Tb.cs [T,U]).toArray (by simp only[List.map_toArray,List.map_cons,List.map_nil];exact built_tbs _ _) ?_;simp only[AC];have HBB:Hid (Blk (w4.alloc (.cells (recs Tb.cs [T,U]).toArray 30)) w4.heap.size 30 (recs Tb.cs [T,U]).toArray):=AB (Blk.new _ _ _);have E2:Ext w4 (w4.alloc (.cells (recs Tb.cs [T,U]).toArray 30)):=(Ext.refl _).alloc _;have HBT:=AB (BT.ext E2);have HBU:=AB (BU.ext E2);have HBR:=AB (BR.ext E2);replace E1:=AB ((AA E1).trans E2);replace HLU:=AB (fun e=>by have h1:=(AA HLU) e;exact (show (checkV ns av t.view).2=0∧U.n=t.nl∧∃fs:List FV,FrsIn (w4.alloc (.cells (recs Tb.cs [T,U]).toArray 30)) U.A U.n fs∧fs.all fOk=true from ⟨h1.1,h1.2.1,h1.2.2.imp fun _ k=>⟨k.1.ext E2,k.2⟩⟩));generalize w4.alloc (.cells (recs Tb.cs [T,U]).toArray 30)=wb at *;generalize w4.heap.size=gB at *;clear E2 BT BX BR BU;have HTr:=AB ((AA HTr0).ext (AA E1));replace HF0:=AB ((AA HF0).ext (AA E1));replace HP:=AB ((AA HP).ext (AA E1));clear HTr0 HU;go_wp2_with fail;go_loopw [8,13,14,15,16,17,18,19,20,21,22,23,24,25,26,27,28,29,30,31] (fun _ v13 _ _ _ _ _ _ _ _ _ _ _ _ _ _ _ _ _ _ wq=>∃k:Nat,v13=.int .i64 k∧k≤2∧Hid (Ext wb wq)) (fun _ v13 _ _ _ _ _ _ _ _ _ _ _ _ _ _ _ _ _ _ _=>2-(intOf v13).toNat)
 case atStart=>exact⟨0,rfl,by omega,AB (Ext.refl _)⟩
 case round=>
  obtain⟨k,rfl,hk,E⟩:=hrel;by_cases hk2:k<2
  ·as_aux_lemma=>
   have hkI:(0:Int)≤(k:Int)∧(k:Int)<2:=by omega
   have BT:=(AA HBT).ext (AA E);have BU:=(AA HBU).ext (AA E);have HBTr:=AB BT;have HBUr:=AB BU;clear BT BU;go_upto_region 8 with fail;go_cut [66] from 55 to 66 (fun v66 wx=>∃q:Bool,v66=.bool q∧Hid (Ext wb wx)∧Hid (q=false→∃(S:Tb) (fs:List FV),[T,U][k]?=some S∧FrsIn wb S.A S.n fs∧S.n≤1000))
   case first=>
    as_aux_lemma=>
    by_cases hk0:k=0
    ·have hb:((k:Int)==1)=false:=by rw[hk0];rfl
     have HK:=AB hk0;clear hk0;go_wp2_with fail;go_meet
     case rel=>exact⟨false,rfl,E,AB (fun _=>⟨T,fs0,by rw[AA HK];rfl,AA HF0,hnT⟩)⟩
    ·have hk1:k=1:=by omega
     have hb:((k:Int)==1)=true:=by rw[hk1];rfl
     have HK:=AB hk1;clear hk0 hk1;by_cases he:er=0
     ·have heb:(er != 0)=false:=by simp[he]
      obtain⟨h1,h2,fs,h3,h4⟩:=(AA HLU) he;have HFU:=AB h3;have hUn:U.n≤1000:=by omega
      clear he h1 h2 h3 h4;have cS:=AB (hSm t ns av U.A1 U.A2 U.A3 U.A U.n1 U.n2 U.n3 U.n U.c1 U.c2 U.c3 U.c fs wr ((AA HTr).ext (AA E)) hm ha ((AA HFU).ext (AA E)) (by unfold maxLen;omega) (AA HUL));have BT:=AA HBTr;have BU:=AA HBUr;have t0:=(BT.cell 0).trans (rfl:_=some (Value.slice t.na t.nl t.nc));have t1:=(BT.cell 1).trans (rfl:_=some (Value.slice t.aa t.al t.ac));have t2:=(BT.cell 2).trans (rfl:_=some (Value.int .i64 t.view));have lT:=BT.lt;have u0:=(BU.cell 0).trans (rfl:_=some (Value.slice U.A1 U.n1 U.c1));have u1:=(BU.cell 1).trans (rfl:_=some (Value.slice U.A2 U.n2 U.c2));have u2:=(BU.cell 2).trans (rfl:_=some (Value.slice U.A3 U.n3 U.c3));have u3:=(BU.cell 3).trans (rfl:_=some (Value.slice U.A U.n U.c));have lU:=BU.lt;clear BT BU;go_wp2_with fail
      with_reducible refine (AA cS).mono ?_
      rintro e w5 ⟨q,rfl,hx,hq⟩;have HX:=AB ((AA E).trans hx);clear hx hq cS t0 t1 t2 lT u0 u1 u2 u3 lU;go_wp2_with fail;go_meet
      case rel=>exact⟨_,rfl,HX,AB (fun _=>⟨U,fs,by rw[AA HK];rfl,AA HFU,hUn⟩)⟩
     ·have heb:(er != 0)=true:=by simpa using he
      clear he;go_wp2_with fail;go_meet
      case rel=>exact⟨true,rfl,E,AB (fun e=>by cases e)⟩
   case rest=>
    obtain⟨q,rfl,E3,HS⟩:=hcut;clear E HBTr HBUr;go_upto_if 66 with (fail);cases q
    ·as_aux_lemma=>
     obtain⟨⟨A1,A2,A3,A,n1,n2,n3,n,c1,c2,c3,c⟩,fs,hTK,hfr,hn⟩:=(AA HS) (by first|trivial|rfl);have HTK:=AB hTK;have HFr:=AB hfr;simp only at HFr hn;clear HS hTK hfr HF0 HLU HBU hnT;have cP:=fun W (hx:Ext wb W)=>AB (hPl t ns av A1 A2 A3 A n1 n2 n3 n c1 c2 c3 c fs W ((AA HTr).ext hx) hm ha ((AA HFr).ext hx) hn)
     have cQ:=fun W (hx:Ext wb W)=>AB (rPl t ns av A1 A2 A3 A n1 n2 n3 n c1 c2 c3 c fs W ((AA HTr).ext hx) hm ha ((AA HFr).ext hx) hn)
     have cA:=fun px py W (hx:Ext wb W)=>AB (hAt t ns av A1 A2 A3 A n1 n2 n3 n c1 c2 c3 c fs W ((AA HTr).ext hx) hm ha ((AA HFr).ext hx) hn px py)
     have cR:=fun px py W (hx:Ext wb W)=>AB (rAt t ns av A1 A2 A3 A n1 n2 n3 n c1 c2 c3 c fs W ((AA HTr).ext hx) hm ha ((AA HFr).ext hx) hn px py)
     have cB:=fun W (hx:Ext wb W)=>AB (hBd t ns av A1 A2 A3 A n1 n2 n3 n c1 c2 c3 c fs W ((AA HTr).ext hx) hm ha ((AA HFr).ext hx) hn)
     have cC:=fun W (hx:Ext wb W)=>AB (rBd t ns av A1 A2 A3 A n1 n2 n3 n c1 c2 c3 c fs W ((AA HTr).ext hx) hm ha ((AA HFr).ext hx) hn)
     have cU:=fun W (hx:Ext wb W)=>AB (hUn t ns av A1 A2 A3 A n1 n2 n3 n c1 c2 c3 c fs W ((AA HTr).ext hx) hm ha ((AA HFr).ext hx) hn r (AA HRO))
     have cV:=fun W (hx:Ext wb W)=>AB (rUn t ns av A1 A2 A3 A n1 n2 n3 n c1 c2 c3 c fs W ((AA HTr).ext hx) hm ha ((AA HFr).ext hx) hn r (AA HRO))
     have hbd:=AB (show ∀p∈plV (goV t ns av n fs) ns fs,RcM p by
      intro p hp;unfold plV at hp
      split at hp
      ·rename_i hv
       obtain⟨_,_,hall⟩:=tog_yes hv;obtain⟨i,hi,rfl⟩:=List.mem_map.1 hp;exact plN_bd ns (fun i=>fgN_bd hall i) (by have:=List.mem_range.1 hi;have:=(AA HTr).nodes.nlen;omega)
      ·cases hp)
     have hlen:(plV (goV t ns av n fs) ns fs).length≤1000:=by
      unfold plV
      split
      ·rw[plL_len];have:=(AA HTr).nodes.nlen;omega
      ·simp
     generalize goV t ns av n fs=v at *;have hund:=AB (show (undV v ns fs r).length≤1000000 by have:=undK_len ns fs r (plV v ns fs).length;unfold undV;omega);obtain⟨L,hL⟩:∃L,plV v ns fs=L:=⟨_,rfl⟩
     rw[hL] at hbd hlen;obtain⟨m,hLm⟩:∃m,L.length=m:=⟨_,rfl⟩
     rw[hLm] at hlen;have HLM:=AB hLm;obtain⟨ez,hez⟩:∃ez:Int,(if v=true then (0:Int) else 1)=ez:=⟨_,rfl⟩
     have cP2:∀W,Ext wb W→Hid (Calls Tryz.prog 9 #[.agg t.cs,.agg #[.slice A1 n1 c1,.slice A2 n2 c2,.slice A3 n3 c3,.slice A n c]] W (fun e w'=>∃(A:Option Addr) (c:Nat),e=.returned (.tuple #[.slice A m c,.int .i64 ez])∧Rd w' 4 A m (recs rcC L)∧Ext W w')):=fun W hx=>AB ((AA (cP W hx)).mono fun e w' hk=>by
      obtain⟨A',c',h1,h2,h3⟩:=hk;rw[hez,hL,hLm] at h1;rw[hL,hLm] at h2;exact⟨A',c',h1,h2,h3⟩)
     have cQ2:∀W,Ext wb W→Hid (Calls Tryz.prog 10 #[.agg t.cs,.agg #[.slice A1 n1 c1,.slice A2 n2 c2,.slice A3 n3 c3,.slice A n c]] W (fun e w'=>∃(A:Option Addr) (c:Nat),e=.returned (.tuple #[.slice A m c,.int .i64 ez])∧Rd w' 4 A m (recs rcC L)∧Ext W w')):=fun W hx=>AB ((AA (cQ W hx)).mono fun e w' hk=>by
      obtain⟨A',c',h1,h2,h3⟩:=hk;rw[hez,hL,hLm] at h1;rw[hL,hLm] at h2;exact⟨A',c',h1,h2,h3⟩)
     clear cP cQ hL hLm hez;have BT:=(AA HBT).ext (AA E3);have t0:=(BT.cell 0).trans (rfl:_=some (Value.slice t.na t.nl t.nc));have t1:=(BT.cell 1).trans (rfl:_=some (Value.slice t.aa t.al t.ac));have t2:=(BT.cell 2).trans (rfl:_=some (Value.int .i64 t.view));have lT:=BT.lt;have BB:=(AA HBB).ext (AA E3);have x0:=BB.recAt Tb.len (AA HTK) (j:=0) (rfl:_=some (Value.slice A1 n1 c1));rw[Nat.add_zero] at x0;have x1:=BB.recAt Tb.len (AA HTK) (j:=1) (rfl:_=some (Value.slice A2 n2 c2));have x2:=BB.recAt Tb.len (AA HTK) (j:=2) (rfl:_=some (Value.slice A3 n3 c3));have x3:=BB.recAt Tb.len (AA HTK) (j:=3) (rfl:_=some (Value.slice A n c));have lB:=BB.lt;clear BT BB;go_upto_region 9 with fail;refine wp_region_ord [(0,0),(1,1),(1,2),(1,3),(0,4),(3,5),(1,6),(1,7),(1,8),(1,9),(1,10)] 5 (fun w'=>Ext wc w') (by kernel_rfl) (by kernel_rfl) rfl (by kernel_rfl) ((Ext.refl _).drew) ?_;simp only[AD]
     iterate 5 ((first|refine ordQA ?_|refine ordQB ?_);simp only[AC])
     refine ord_last ?_;go_wp2_with fail
     with_reducible refine (AA (cP2 _ (AA E3).drew)).mono ?_
     rintro e w5 ⟨A9,c9,rfl,R9,hx⟩;have E5:=AB ((AA E3).drew.trans hx);have HR9:=AB R9;clear hx R9 cP2 t0 t1 t2 lT x0 x1 x2 x3 lB;go_wp2_with fail
     iterate 5 ((first|refine ordQA ?_|refine ordQB ?_);simp only[AC])
     refine ord_nil ?_;have BT:=(AA HBT).ext (AA E5);have t0:=(BT.cell 0).trans (rfl:_=some (Value.slice t.na t.nl t.nc));have t1:=(BT.cell 1).trans (rfl:_=some (Value.slice t.aa t.al t.ac));have t2:=(BT.cell 2).trans (rfl:_=some (Value.int .i64 t.view));have lT:=BT.lt;have BB:=(AA HBB).ext (AA E5);have x0:=BB.recAt Tb.len (AA HTK) (j:=0) (rfl:_=some (Value.slice A1 n1 c1));rw[Nat.add_zero] at x0;have x1:=BB.recAt Tb.len (AA HTK) (j:=1) (rfl:_=some (Value.slice A2 n2 c2));have x2:=BB.recAt Tb.len (AA HTK) (j:=2) (rfl:_=some (Value.slice A3 n3 c3));have x3:=BB.recAt Tb.len (AA HTK) (j:=3) (rfl:_=some (Value.slice A n c));have lB:=BB.lt;clear BT BB;go_upto_region 10 with fail;refine wp_region_ord [(0,0),(1,1),(1,2),(1,3),(0,4),(3,5),(1,6),(1,7),(1,8),(1,9),(1,10)] 5 (fun w'=>Ext w5 w') (by kernel_rfl) (by kernel_rfl) rfl (by kernel_rfl) ((Ext.refl _).drew) ?_;simp only[AD]
     iterate 5 ((first|refine ordQA ?_|refine ordQB ?_);simp only[AC])
     refine ord_last ?_;go_wp2_with fail
     with_reducible refine (AA (cQ2 _ (AA E5).drew)).mono ?_
     rintro e w6 ⟨A8,c8,rfl,R8,hx⟩;replace HR9:=AB ((AA HR9).ext ((Ext.refl _).drew.trans hx));have E6:=AB ((AA E5).drew.trans hx);have HR8:=AB R8;clear hx R8 cQ2 E5 t0 t1 t2 lT x0 x1 x2 x3 lB;go_wp2_with fail
     iterate 5 ((first|refine ordQA ?_|refine ordQB ?_);simp only[AC])
     refine ord_nil ?_;have he1:(ez != ez)=false:=by simp
     have hm1:((m:Int) != (m:Int))=false:=by simp
     go_upto_region 13 with fail;clear he1 hm1;go_wp2_with fail;go_loopw [8,18] (fun _ v18 wq=>∃i:Nat,v18=.int .i64 i∧i≤m∧Hid (Ext w6 wq)) (fun _ v18 _=>m-(intOf v18).toNat)
     case atStart=>exact⟨0,rfl,by omega,AB (Ext.refl _)⟩
     case round=>
      obtain⟨i,rfl,hi,E7⟩:=hrel;by_cases him:i<m
      ·as_aux_lemma=>
       have hiI:(0:Int)≤(i:Int)∧(i:Int)<(m:Int):=by omega
       obtain⟨p,hp⟩:∃p,L[i]?=some p:=⟨_,AE (by have:=AA HLM;omega)⟩
       obtain⟨b9,o9,hA,l9,hm9⟩:=((AA HR9).ext (AA E7)).rec_ rcC_len hp (by omega);subst hA;obtain⟨b8,o8,hA,l8,hm8⟩:=((AA HR8).ext (AA E7)).rec_ rcC_len hp (by omega);subst hA;obtain⟨px,py,pw,ph⟩:=p;have y0:=hm9 0 _ (rfl:_=some (Value.int .i64 px));rw[Nat.add_zero] at y0;have y1:=hm9 1 _ (rfl:_=some (Value.int .i64 py));have y2:=hm9 2 _ (rfl:_=some (Value.int .i64 pw));have y3:=hm9 3 _ (rfl:_=some (Value.int .i64 ph));have z0:=hm8 0 _ (rfl:_=some (Value.int .i64 px));rw[Nat.add_zero] at z0;have z1:=hm8 1 _ (rfl:_=some (Value.int .i64 py));have z2:=hm8 2 _ (rfl:_=some (Value.int .i64 pw));have z3:=hm8 3 _ (rfl:_=some (Value.int .i64 ph));have heq:=eq_rc29 px py pw ph;clear hp hm9 hm8;go_upto_region 16 with fail;refine wp_region_ord [(1,0),(1,1),(1,2),(0,3),(1,4),(1,5),(1,6),(0,7),(1,8)] 9 (fun w'=>Ext wr w') (by kernel_rfl) (by kernel_rfl) rfl (by kernel_rfl) ((Ext.refl _).drew) ?_;simp only[AD]
       iterate 9 ((first|refine ordQA ?_|refine ordQB ?_);simp only[AC])
       refine ord_nil ?_;clear y0 y1 y2 y3 z0 z1 z2 z3 heq l8 l9;have E8:=AB ((AA E7).drew);go_wp2_with fail;go_roundw
       case rel=>exact⟨i+1,by go_num,by omega,E8⟩
       case measure=>simp[intOf]<;>omega
      ·
       have hiI:¬(i:Int)<(m:Int):=by omega
       replace HR8:=AB ((AA HR8).ext (AA E7));replace E6:=AB ((AA E6).trans (AA E7));clear E7;go_upto_region 18 with fail;clear HR9;go_wp2_with fail;go_loopw [8,19,20,21,22,23,24,25,26,27] (fun _ v19 _ _ _ _ _ _ _ _ wq=>∃i:Nat,v19=.int .i64 i∧i≤pn∧Hid (Ext wr wq)) (fun _ v19 _ _ _ _ _ _ _ _ _=>pn-(intOf v19).toNat)
       case atStart=>exact⟨0,rfl,by omega,AB (Ext.refl _)⟩
       case round=>
        obtain⟨i,rfl,hi,E7⟩:=hrel;have E9:=AB ((AA E6).trans (AA E7));by_cases hin:i<pn
        ·as_aux_lemma=>
         have hinI:(0:Int)≤(i:Int)∧(i:Int)<(pn:Int):=by omega
         obtain⟨p,hp⟩:∃p,ps[i]?=some p:=⟨_,AE (by have:=AA hps;omega)⟩
         have hpk:=(AA HPO) p (List.mem_of_getElem? hp);obtain⟨bp,op_,hA,lp,hmp⟩:=((AA HP).ext (AA E9)).rec_ pntC_len hp (by omega);subst hA;have cPt:=AB (point_any p hpk A8 m c8 L wr ((AA HR8).ext (AA E7)) (fun r hr=>⟨((AA hbd) r hr).x,((AA hbd) r hr).y⟩) hlen);obtain⟨px,py,near,node⟩:=p;have q0:=hmp 0 _ (rfl:_=some (Value.int .i64 px));rw[Nat.add_zero] at q0;have q1:=hmp 1 _ (rfl:_=some (Value.int .i64 py));have q2:=hmp 2 _ (rfl:_=some (Value.bool near));have q3:=hmp 3 _ (rfl:_=some (Value.int .u8 node));clear hp hmp hpk;go_upto_region 21 with fail;go_wp2_with fail;refine (AA cPt).mono ?_;rintro e w7 ⟨X,Y,rfl,hx⟩;replace E9:=AB ((AA E9).trans hx);have E10:=AB ((AA E7).trans hx);clear hx cPt q0 q1 q2 q3 lp E7;have cA1:=cA X Y;have cR1:=cR X Y;obtain⟨V,hV⟩:∃V,atV v ns fs X Y=V:=⟨_,rfl⟩
         rw[hV] at cA1 cR1;clear hV cA cR;obtain⟨a1,a2,a3⟩:=V;have BT:=(AA HBT).ext (AA E9);have t0:=(BT.cell 0).trans (rfl:_=some (Value.slice t.na t.nl t.nc));have t1:=(BT.cell 1).trans (rfl:_=some (Value.slice t.aa t.al t.ac));have t2:=(BT.cell 2).trans (rfl:_=some (Value.int .i64 t.view));have lT:=BT.lt;have BB:=(AA HBB).ext (AA E9);have x0:=BB.recAt Tb.len (AA HTK) (j:=0) (rfl:_=some (Value.slice A1 n1 c1));rw[Nat.add_zero] at x0;have x1:=BB.recAt Tb.len (AA HTK) (j:=1) (rfl:_=some (Value.slice A2 n2 c2));have x2:=BB.recAt Tb.len (AA HTK) (j:=2) (rfl:_=some (Value.slice A3 n3 c3));have x3:=BB.recAt Tb.len (AA HTK) (j:=3) (rfl:_=some (Value.slice A n c));have lB:=BB.lt;clear BT BB;go_upto_region 22 with fail;refine wp_region_ord [(0,0),(1,1),(1,2),(1,3),(0,4),(1,5),(1,6),(3,7),(1,8),(1,9),(1,10),(1,11),(1,12),(1,13),(1,14)] 7 (fun w'=>Ext w7 w') (by kernel_rfl) (by kernel_rfl) rfl (by kernel_rfl) ((Ext.refl _).drew) ?_;simp only[AD]
         iterate 7 ((first|refine ordQA ?_|refine ordQB ?_);simp only[AC])
         refine ord_last ?_;go_wp2_with fail
         with_reducible refine (AA (cA1 _ (AA E9).drew)).mono ?_
         rintro e w8 ⟨rfl,hx⟩;replace E9:=AB ((AA E9).drew.trans hx);replace E10:=AB ((AA E10).drew.trans hx);clear hx cA1 t0 t1 t2 lT x0 x1 x2 x3 lB;go_wp2_with fail
         iterate 7 ((first|refine ordQA ?_|refine ordQB ?_);simp only[AC])
         refine ord_nil ?_;have BT:=(AA HBT).ext (AA E9);have t0:=(BT.cell 0).trans (rfl:_=some (Value.slice t.na t.nl t.nc));have t1:=(BT.cell 1).trans (rfl:_=some (Value.slice t.aa t.al t.ac));have t2:=(BT.cell 2).trans (rfl:_=some (Value.int .i64 t.view));have lT:=BT.lt;have BB:=(AA HBB).ext (AA E9);have x0:=BB.recAt Tb.len (AA HTK) (j:=0) (rfl:_=some (Value.slice A1 n1 c1));rw[Nat.add_zero] at x0;have x1:=BB.recAt Tb.len (AA HTK) (j:=1) (rfl:_=some (Value.slice A2 n2 c2));have x2:=BB.recAt Tb.len (AA HTK) (j:=2) (rfl:_=some (Value.slice A3 n3 c3));have x3:=BB.recAt Tb.len (AA HTK) (j:=3) (rfl:_=some (Value.slice A n c));have lB:=BB.lt;clear BT BB;go_upto_region 23 with fail;refine wp_region_ord [(0,0),(1,1),(1,2),(1,3),(0,4),(1,5),(1,6),(3,7),(1,8),(1,9),(1,10),(1,11),(1,12),(1,13),(1,14)] 7 (fun w'=>Ext w8 w') (by kernel_rfl) (by kernel_rfl) rfl (by kernel_rfl) ((Ext.refl _).drew) ?_;simp only[AD]
         iterate 7 ((first|refine ordQA ?_|refine ordQB ?_);simp only[AC])
         refine ord_last ?_;go_wp2_with fail
         with_reducible refine (AA (cR1 _ (AA E9).drew)).mono ?_
         rintro e w9 ⟨rfl,hx⟩;replace E10:=AB ((AA E10).drew.trans hx);clear hx cR1 E9 t0 t1 t2 lT x0 x1 x2 x3 lB;go_wp2_with fail
         iterate 7 ((first|refine ordQA ?_|refine ordQB ?_);simp only[AC])
         refine ord_nil ?_;have h1:(a1 != a1)=false:=by simp
         have h2:(a2 != a2)=false:=by simp
         have h3:(a3 != a3)=false:=by simp
         go_wp2_with fail;go_roundw
         case rel=>exact⟨i+1,by go_num,by omega,E10⟩
         case measure=>simp[intOf]<;>omega
        ·as_aux_lemma=>
         have hinI:¬(i:Int)<(pn:Int):=by omega
         clear E7 E6 HR8 cA cR;obtain⟨bR,hbR⟩:∃x,bndR v ns fs=x:=⟨_,rfl⟩
         obtain⟨bB,hbB⟩:∃x,bndB v ns fs=x:=⟨_,rfl⟩
         rw[hbR,hbB] at cB cC;clear hbR hbB;obtain⟨bx,by_,bw,bh⟩:=bR;have heq:=eq_rc29 bx by_ bw bh;go_upto_region 26 with fail;have BT:=(AA HBT).ext (AA E9);have t0:=(BT.cell 0).trans (rfl:_=some (Value.slice t.na t.nl t.nc));have t1:=(BT.cell 1).trans (rfl:_=some (Value.slice t.aa t.al t.ac));have t2:=(BT.cell 2).trans (rfl:_=some (Value.int .i64 t.view));have lT:=BT.lt;have BB:=(AA HBB).ext (AA E9);have x0:=BB.recAt Tb.len (AA HTK) (j:=0) (rfl:_=some (Value.slice A1 n1 c1));rw[Nat.add_zero] at x0;have x1:=BB.recAt Tb.len (AA HTK) (j:=1) (rfl:_=some (Value.slice A2 n2 c2));have x2:=BB.recAt Tb.len (AA HTK) (j:=2) (rfl:_=some (Value.slice A3 n3 c3));have x3:=BB.recAt Tb.len (AA HTK) (j:=3) (rfl:_=some (Value.slice A n c));have lB:=BB.lt;clear BT BB;refine wp_region_flt [(0,0),(1,1),(1,2),(1,3),(0,4)] [9] [(2,5),(1,6),(1,7),(1,8)] [(2,10),(1,11)] (RRec wr) (by kernel_rfl) (by kernel_rfl) (by kernel_rfl) (fun j v w w' h hx=>h.ext hx) ?_;simp only[AD]
         iterate 5 ((first|refine ordQA ?_|refine ordQB ?_);simp only[AC])
         refine ord_nil ?_;clear t0 t1 t2 lT x0 x1 x2 x3 lB;refine⟨fun j hj=>?_,?_⟩
         ·obtain rfl:=List.mem_singleton.1 hj;refine⟨_,rfl,rfl,fun w' hx hW=>⟨.pointer (some ⟨w'.heap.size,0,none⟩),w'.alloc (.cells (rcC zRc).toArray 33),?_,(Ext.refl _).alloc _,_,rfl,hW.size,Blk.new _ _ _⟩⟩;go_simp;rfl
         ·refine flt_keep (fun w20 hT hW=>?_);have HW:=AB hW;clear hT hW;go_wp2_with fail
          with_reducible refine (AA (cB _ ((AA E9).trans (AA HW)))).mono ?_
          rintro e w21 ⟨rfl,hx⟩;have HX:=AB hx;replace HW:=AB ((AA HW).trans hx);clear hx cB;go_wp2_with fail;refine⟨AA HX,?_⟩;clear HX
          iterate 3 (
           (first
            |(refine flt_pure (v:=?_) ?_ (fun w'=>?_) ?_;rotate_left;rfl;(focus (go_simp;rfl)))
            |(refine flt_hold (v:=?_) ?_ (fun w' hI=>?_) ?_;rotate_left;rfl;(focus (have hc:=hI.cells.1;go_simp;rfl))))
           simp only[AC])
          refine flt_nil ?_;intro w22 vs hT hR;obtain⟨gD,hv,hlo,BF⟩:=hR 9 (List.mem_singleton.2 rfl);replace HW:=AB ((AA HW).trans hT);clear hT hR
          show wpOrdL _ _ _ _ _ (Act.put _ (some 28) (vs 9)) _
          rw[hv];clear hv vs;simp only[AC];refine ord_keep ?_;refine wpList_store_blk rfl 33 (.tmp 28) (.tmp 169) rfl gD rfl (rcC ⟨bx,by_,bw,bh⟩).toArray rfl 33 (rcC zRc).toArray BF (rcC_size _) rfl (by kernel_rfl) ?_;clear BF;intro w23 BF g9 z9;have hx:=(AA HW).grown g9 (fun q e=>by have:=Option.some.inj e;omega);clear g9 z9 HW;refine⟨rfl,hx,?_⟩;simp only[Act.put]
          iterate 1 ((first|refine ordQA ?_|refine ordQB ?_);simp only[AC])
          refine ord_nil ?_;replace E9:=AB ((AA E9).trans hx);have HBD:=AB BF;clear BF hx hlo;go_upto_region 27 with fail;have BT:=(AA HBT).ext (AA E9);have t0:=(BT.cell 0).trans (rfl:_=some (Value.slice t.na t.nl t.nc));have t1:=(BT.cell 1).trans (rfl:_=some (Value.slice t.aa t.al t.ac));have t2:=(BT.cell 2).trans (rfl:_=some (Value.int .i64 t.view));have lT:=BT.lt;have BB:=(AA HBB).ext (AA E9);have x0:=BB.recAt Tb.len (AA HTK) (j:=0) (rfl:_=some (Value.slice A1 n1 c1));rw[Nat.add_zero] at x0;have x1:=BB.recAt Tb.len (AA HTK) (j:=1) (rfl:_=some (Value.slice A2 n2 c2));have x2:=BB.recAt Tb.len (AA HTK) (j:=2) (rfl:_=some (Value.slice A3 n3 c3));have x3:=BB.recAt Tb.len (AA HTK) (j:=3) (rfl:_=some (Value.slice A n c));have lB:=BB.lt;clear BT BB;refine wp_region_flt [(0,0),(1,1),(1,2),(1,3),(0,4)] [9] [(2,5),(1,6),(1,7),(1,8)] [(2,10),(1,11)] (RRec w23) (by kernel_rfl) (by kernel_rfl) (by kernel_rfl) (fun j v w w' h hx=>h.ext hx) ?_;simp only[AD]
          iterate 5 ((first|refine ordQA ?_|refine ordQB ?_);simp only[AC])
          refine ord_nil ?_;clear t0 t1 t2 lT x0 x1 x2 x3 lB;refine⟨fun j hj=>?_,?_⟩
          ·obtain rfl:=List.mem_singleton.1 hj;refine⟨_,rfl,rfl,fun w' hx hW=>⟨.pointer (some ⟨w'.heap.size,0,none⟩),w'.alloc (.cells (rcC zRc).toArray 33),?_,(Ext.refl _).alloc _,_,rfl,hW.size,Blk.new _ _ _⟩⟩;go_simp;rfl
          ·refine flt_keep (fun w24 hT hW=>?_);have HW:=AB hW;clear hT hW;go_wp2_with fail
           with_reducible refine (AA (cC _ ((AA E9).trans (AA HW)))).mono ?_
           rintro e w25 ⟨rfl,hx⟩;have HX:=AB hx;replace HW:=AB ((AA HW).trans hx);clear hx cC;go_wp2_with fail;refine⟨AA HX,?_⟩;clear HX
           iterate 3 (
            (first
             |(refine flt_pure (v:=?_) ?_ (fun w'=>?_) ?_;rotate_left;rfl;(focus (go_simp;rfl)))
             |(refine flt_hold (v:=?_) ?_ (fun w' hI=>?_) ?_;rotate_left;rfl;(focus (have hc:=hI.cells.1;go_simp;rfl))))
            simp only[AC])
           refine flt_nil ?_;intro w26 vs hT hR;obtain⟨gE,hv,hlo,BF⟩:=hR 9 (List.mem_singleton.2 rfl);replace HW:=AB ((AA HW).trans hT);clear hT hR
           show wpOrdL _ _ _ _ _ (Act.put _ (some 30) (vs 9)) _
           rw[hv];clear hv vs;simp only[AC];refine ord_keep ?_;refine wpList_store_blk rfl 33 (.tmp 30) (.tmp 178) rfl gE rfl (rcC ⟨bx,by_,bw,bh⟩).toArray rfl 33 (rcC zRc).toArray BF (rcC_size _) rfl (by kernel_rfl) ?_;clear BF;intro w27 BF g9 z9;have hx:=(AA HW).grown g9 (fun q e=>by have:=Option.some.inj e;omega);clear g9 z9 HW;refine⟨rfl,hx,?_⟩;simp only[Act.put]
           iterate 1 ((first|refine ordQA ?_|refine ordQB ?_);simp only[AC])
           refine ord_nil ?_;have BD:=(AA HBD).ext hx;replace E9:=AB ((AA E9).trans hx);have d0:=(BD.cell 0).trans (rfl:_=some (Value.int .i64 bx));have d1:=(BD.cell 1).trans (rfl:_=some (Value.int .i64 by_));have d2:=(BD.cell 2).trans (rfl:_=some (Value.int .i64 bw));have d3:=(BD.cell 3).trans (rfl:_=some (Value.int .i64 bh));have lD:=BD.lt;have e0:=(BF.cell 0).trans (rfl:_=some (Value.int .i64 bx));have e1:=(BF.cell 1).trans (rfl:_=some (Value.int .i64 by_));have e2:=(BF.cell 2).trans (rfl:_=some (Value.int .i64 bw));have e3:=(BF.cell 3).trans (rfl:_=some (Value.int .i64 bh));have lE:=BF.lt;clear BD BF HBD hx hlo;have BT:=(AA HBT).ext (AA E9);have t0:=(BT.cell 0).trans (rfl:_=some (Value.slice t.na t.nl t.nc));have t1:=(BT.cell 1).trans (rfl:_=some (Value.slice t.aa t.al t.ac));have t2:=(BT.cell 2).trans (rfl:_=some (Value.int .i64 t.view));have lT:=BT.lt;have BB:=(AA HBB).ext (AA E9);have x0:=BB.recAt Tb.len (AA HTK) (j:=0) (rfl:_=some (Value.slice A1 n1 c1));rw[Nat.add_zero] at x0;have x1:=BB.recAt Tb.len (AA HTK) (j:=1) (rfl:_=some (Value.slice A2 n2 c2));have x2:=BB.recAt Tb.len (AA HTK) (j:=2) (rfl:_=some (Value.slice A3 n3 c3));have x3:=BB.recAt Tb.len (AA HTK) (j:=3) (rfl:_=some (Value.slice A n c));have lB:=BB.lt;have BR:=(AA HBR).ext (AA E9);have r0:=(BR.cell 0).trans (rfl:_=some (Value.int .i64 r.x));have r1:=(BR.cell 1).trans (rfl:_=some (Value.int .i64 r.y));have r2:=(BR.cell 2).trans (rfl:_=some (Value.int .i64 r.w));have r3:=(BR.cell 3).trans (rfl:_=some (Value.int .i64 r.h));have lR:=BR.lt;clear BT BB BR;have hbb:(bB != bB)=false:=by cases bB<;>rfl
           have hwx:=AB (Ext.refl w27);go_upto_region 28 with fail;refine wp_region_ord [(0,0),(0,1),(1,2),(1,3),(1,4),(1,5),(1,6),(1,7),(1,8),(0,9),(1,10),(1,11),(1,12),(0,13),(0,14),(0,16),(1,17),(1,18),(1,19),(0,20),(0,21),(2,15),(2,22),(2,23),(1,24),(1,25)] 26 (fun w'=>Ext w27 w') (by kernel_rfl) (by kernel_rfl) rfl (by kernel_rfl) ((Ext.refl _).drew) ?_;simp only[AD]
           iterate 21 ((first|refine ordQE ?_|refine ordQF ?_|refine ordQC ?_|refine ordQD ?_);simp only[AC])
           refine ord_keep ?_;go_wp2_with fail
           with_reducible refine (AA (cU _ (AA E9).drew)).mono ?_
           rintro e w30 ⟨A5,c5,rfl,R5,hx⟩;have HX:=AB ((Ext.refl w27).drew.trans hx);have E30:=AB ((AA E9).drew.trans hx);clear hx;go_wp2_with fail;refine⟨AA HX,?_⟩;refine ord_keep ?_;go_wp2_with fail
           with_reducible refine (AA (cV _ (AA E30))).mono ?_
           rintro e w31 ⟨A6,c6,rfl,R6,hx⟩;have HX2:=AB ((AA HX).trans hx);replace R5:=R5.ext hx;replace E30:=AB ((AA E30).trans hx);clear hx;go_wp2_with fail;refine⟨AA HX2,?_⟩;refine ord_keep ?_;go_wp2_with fail;have cN:=AB (numbers_any A5 A6 _ _ c5 c6 _ _ w31 R5 R6 (AA hund) (AA hund))
           with_reducible refine (AA cN).mono ?_
           rintro e w32 ⟨rfl,hx⟩;rw[show sameB (undV v ns fs r) (undV v ns fs r)=true from decide_eq_true rfl];have HX3:=AB ((AA HX2).trans hx);replace E30:=AB ((AA E30).trans hx);clear hx;go_wp2_with fail;refine⟨AA HX3,?_⟩
           iterate 2 ((first|refine ordQE ?_|refine ordQF ?_|refine ordQC ?_|refine ordQD ?_);simp only[AC])
           refine ord_nil ?_;go_wp2_with fail;go_roundw
           case rel=>exact⟨k+1,by go_num,by omega,E30⟩
           case measure=>simp[intOf]<;>omega
    ·
     go_wp2_with fail;go_roundw
     case rel=>exact⟨k+1,by go_num,by omega,E3⟩
     case measure=>simp[intOf]<;>omega
  ·
   have hkI:¬(k:Int)<2:=by omega
   go_upto_region 30 with fail;go_wp2_with fail;refine (works29_any _).mono ?_;rintro e w9 ⟨rfl,hx⟩;have HX:=AB hx;clear hx;go_wp2_with fail;go_ret;exact⟨rfl,((AA E1).trans (AA E)).trans (AA HX)⟩
end
end Go.Proofs.YtamldoocjjdidaaGreat
namespace Go.Proofs.YtamldoocjjdidaaGreat
open Go.ChangeShapes Go.WideShapes Go.ChangeAt Go.RowKit
set_option maxRecDepth 100000
set_option maxHeartbeats 64000000
theorem hitPlays_spec {H:Type} (ds:List (DataW H)) (h:ds.length=Tryz.f3.params.toList.length):(Rows.hitPlaysSpec.fn H ds).results=[.lit (.bool true)]∧(Rows.hitPlaysSpec.fn H ds).args=ds∧(Rows.hitPlaysSpec.fn H ds).vars=[]:=by
 match ds,h with
 |[d1,d2,d3,d4],_=>exact⟨rfl,rfl,rfl⟩
theorem hitPlays_lifted (os:Os) (started:os.Started) (H:Type) (enc:TypeId×Value→H) :
  ReturnsInHanded {} Tryz.checked os 3 .any (Rows.hitPlaysSpec.pre6 enc Tryz.prog Tryz.f3 Rows.hitPlaysRow.domain false) (Rows.hitPlaysSpec.post enc Tryz.prog Tryz.f3 false true false false):=by
 refine returnsInHanded_of_change (C:=Tryz.checked) own started (by kernel_rfl) Tryz.func3
  (ChangeSpec.witness6 (enc:=enc) (C:=Tryz.checked) false ⟨#[],#[.agg #[.slice none 0 0,.slice none 0 0,.int .i64 0],.agg #[.slice none 0 0,.slice none 0 0,.slice none 0 0,.slice none 0 0],.slice none 0 0,.agg #[.int .i64 0,.int .i64 0,.int .i64 0,.int .i64 0]],[]⟩ 8 (by kernel_rfl) (by kernel_rfl) (by kernel_rfl) (by kernel_rfl)) ?_
 intro W base args ds gs before hval0 hW hcnd _;have hval:∀(j:Nat) t v,Tryz.f3.params[j]?=some t→args[j]?=some v→Value.okWide Tryz.prog W .any base t v:=hval0;have hW':=hW;refine law_post (P:=Tryz.prog) (fn:=Tryz.f3) (s:=Rows.hitPlaysSpec) (tb:=4) laidOut (by kernel_rfl) rfl Tryz.underlying4 rfl hitPlays_spec hW' ?_;obtain⟨p,q,hA0,hV,rfl,hfz,hnd⟩:=hW;have hA:DataW.TrodAll enc Tryz.prog W 0 (fun _=>true) true Tryz.f3.params.toList args.toList ds p:=hA0;rw[Tryz.params3] at hA hval;obtain⟨v0,vs0,d0,ds0,p0,q0,hargs,rfl,rfl,h0,r0⟩:=trodAll_cons hA;obtain⟨v1,vs1,d1,ds1,p1,q1,rfl,rfl,rfl,h1,r1⟩:=trodAll_cons r0;obtain⟨v2,vs2,d2,ds2,p2,q2,rfl,rfl,rfl,h2,r2⟩:=trodAll_cons r1;obtain⟨v3,vs3,d3,ds3,p3,q3,rfl,rfl,rfl,h3,r3⟩:=trodAll_cons r2;obtain⟨rfl,rfl,rfl⟩:=trodAll_nil r3;obtain rfl:args=#[v0,v1,v2,v3]:=by cases args;simp_all
 clear hW' hA0 hval0 hV hfz hnd hcnd hargs;obtain⟨a0,ns0,av0,un0,rfl,ti0,mn0,ma0,uk0⟩:=open_tree29 (hval 0 25 v0 rfl rfl) h0;obtain⟨Ax1,Ay1,Az1,A1,nx1,ny1,nz1,cx1,cy1,cz1,n1,c1,fs1,rfl,fr1,mx1⟩:=open_table (hval 1 30 v1 rfl rfl) h1;obtain⟨A2,n2,c2,ps2,rfl,rd2,pk2,mx2⟩:=open_points (hval 2 31 v2 rfl rfl) h2;obtain⟨a3,rfl,ok3⟩:=open_rect (hval 3 33 v3 rfl rfl) h3;clear hval;exact law_hitPlays a0 ns0 av0 un0 ⟨Ax1,Ay1,Az1,A1,nx1,ny1,nz1,n1,cx1,cy1,cz1,c1⟩ fs1 A2 n2 c2 ps2 a3 W ti0 mn0 ma0 uk0 fr1 mx1 rd2 pk2 mx2 ok3
theorem hitPlays_holds:Rows.HitPlaysSaid:=
 OpenClaim.holds_of_wide 3 Tryz.f3 rfl rfl rfl rfl rfl rfl rfl ⟨rfl,rfl,rfl,rfl,rfl⟩ rfl rfl rfl rfl rfl (by kernel_rfl) Tryz.func3 (by kernel_rfl)
  (of_decide_eq_true (by kernel_rfl)) (by unfold Func.isWrapper;first|(rw[if_pos (by decide +kernel)];kernel_rfl)|(rw[if_neg (by decide +kernel)];exact⟨rfl,rfl⟩))
  (fun os started H enc _=>hitPlays_lifted os started H enc)
end Go.Proofs.YtamldoocjjdidaaGreat
