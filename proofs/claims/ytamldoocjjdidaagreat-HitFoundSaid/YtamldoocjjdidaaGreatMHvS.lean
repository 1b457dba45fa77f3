import Derived.Test.YtamldoocjjdidaaGreatMLinG
import Derived.Test.YtamldoocjjdidaaGreatMHvP
import Derived.Test.YtamldoocjjdidaaGreatMHvR
namespace Go.Proofs.YtamldoocjjdidaaGreat
open Go.RowKit
set_option maxRecDepth 100000
set_option maxHeartbeats 64000000
section
variable (t:Tr) (ns:List Nd) (av:List Int) (un:Nat→List Int)
theorem law_hitFound (PA:Option Addr) (pn pc:Nat) (ps:List Pt) (w:World) (h:TrIn w t ns av) (hm0:t.nl≤maxLen) (ha0:t.al≤maxLen) (hu:∀(i:Nat) (n:Nd),ns[i]?=some n→UnOk w n (un i))
  (hp:Rd w 4 PA pn (recs pntC ps)) (hpo:∀p∈ps,p.Ok) (hpn0:pn≤maxLen) :
  Calls Tryz.prog 5 #[.agg t.cs,.slice PA pn pc] w fun e w'=>e=.returned (.bool true)∧Ext w w':=by
 have hul:∀(i:Nat) (n:Nd),ns[i]?=some n→n.s.ul≤maxLen:=fun i n hn=>Nat.le_trans (hu i n hn).2.2.1 (hu i n hn).2.2.2
 have HU:=AB hu;have HTr0:=AB h;have HP:=AB hp;have HPO:=AB hpo;have HM0:=AB hm0;have HA0:=AB ha0;have HUL:=AB hul;have hps:=AB (show ps.length=pn from hp.recN pntC_len (by omega));replace hpn0:pn≤9223372036854775807:=hpn0;clear hu h hp hpo hm0 ha0 hul;go_enter Tryz.func5,Tryz.ntmps5;go_upto_region 1 with fail;generalize hw1:World.alloc w _=w1;obtain⟨gT,hgT⟩:∃g,w.heap.size=g:=⟨_,rfl⟩
 have BT:Blk w1 gT 25 t.cs:=by rw[←hw1,←hgT];exact Blk.new _ _ _
 have E1:=AB (show Ext w w1 by rw[←hw1];exact (Ext.refl _).alloc _);rw[hgT];clear hgT hw1;have cF:=AB (few_any t ns av w1 ((AA HTr0).ext (AA E1)) (AA HM0) (AA HA0) (AA HUL));have t0:=(BT.cell 0).trans (rfl:_=some (Value.slice t.na t.nl t.nc));have t1:=(BT.cell 1).trans (rfl:_=some (Value.slice t.aa t.al t.ac));have t2:=(BT.cell 2).trans (rfl:_=some (Value.int .i64 t.view));have lT:=BT.lt;go_cut [36] from 23 to 36 (fun vq wx=>∃q:Bool,vq=.bool q∧Ext w1 wx∧Hid (q=false→FewP t ns∧t.nl≤120∧pn≤20))
 case first=>
  as_aux_lemma=>
  go_wp2_with fail
  with_reducible refine (AA cF).mono ?_
  rintro e w2 ⟨q,rfl,hx,hq⟩;replace BT:=BT.ext hx;have HX:=AB hx;have HQ:=AB hq;clear hx hq cF t0 t1 t2 lT;have t0:=(BT.cell 0).trans (rfl:_=some (Value.slice t.na t.nl t.nc));have lT:=BT.lt;clear BT;have hmx:(t.nl:Int)≤9223372036854775807:=by have:=AA HM0;unfold maxLen at this;omega
  cases q
  ·go_wp2_with fail;go_meet
   case rel=>exact⟨true,rfl,AA HX,AB (fun e=>by cases e)⟩
  ·have hq:=AA HQ;by_cases h1:120<t.nl
   ·have h1I:(120:Int)<(t.nl:Int):=by omega
    clear hq;go_wp2_with fail;go_meet
    case rel=>exact⟨true,rfl,AA HX,AB (fun e=>by cases e)⟩
   ·have h1I:¬(120:Int)<(t.nl:Int):=by omega
    clear hq;by_cases h2:20<pn
    ·have h2I:(20:Int)<(pn:Int):=by omega
     go_wp2_with fail;go_meet
     case rel=>exact⟨true,rfl,AA HX,AB (fun e=>by cases e)⟩
    ·have h2I:¬(20:Int)<(pn:Int):=by omega
     go_wp2_with fail;go_meet
     case rel=>exact⟨_,rfl,AA HX,AB (fun _=>⟨AA HQ (by first|trivial|rfl),by omega,by omega⟩)⟩
 case rest=>
  clear cF t0 t1 t2 lT;obtain⟨q,rfl,hx,HQ⟩:=hcut;replace BT:=BT.ext hx;replace E1:=AB ((AA E1).trans hx);clear hx;go_upto_if 36 with (fail);cases q
  case true=>
   go_upto_region 2 with fail;go_wp2_with fail;refine (works29_any _).mono ?_;rintro e w9 ⟨rfl,hx⟩;have HX:=AB hx;clear hx;go_wp2_with fail;go_ret;exact⟨rfl,(AA E1).trans (AA HX)⟩
  obtain⟨hfew,hnl,hpn⟩:=(AA HQ) (by first|trivial|rfl);have hm:t.nl≤1000:=by omega
  have ha:t.al≤1000:=by have:=hfew.al;omega
  have cL:=AB (layout25_w t ns av un wc ((AA HTr0).ext (AA E1)) (fun i n hn=>((AA HU) i n hn).ext (AA E1)) hfew);clear HQ hfew;go_upto_region 3 with fail;go_step;refine wpList_load_blk rfl 25 (.tmp 2) rfl gT rfl 25 t.cs _ BT Tryz.underlying25 rfl (info_tree _) ?_;simp only[AC];go_wp2_with fail
  with_reducible refine (AA cL).mono ?_
  rintro e w3 ⟨A1,A2,A3,A,n1,n2,n3,n,c1,c2,c3,c,z,er,rfl,hx,hlx⟩;replace BT:=BT.ext hx;replace E1:=AB ((AA E1).trans hx);have HLX:=AB hlx;clear hx hlx cL;dsimp only
  iterate 13 go_step
  refine wpList_var rfl rfl 30 rfl 5 rfl (.tmp 41) rfl rfl (tbC sl0 sl0 sl0 sl0).toArray (tbC (.slice A1 n1 c1) (.slice A2 n2 c2) (.slice A3 n3 c3) (.slice A n c)).toArray tb_zero rfl rfl (tb_size _ _ _ _) rfl (by kernel_rfl) ?_;intro wb BU hx z4;simp only[AC];have HBT:=AB (BT.ext hx);have HBU:=AB BU;replace E1:=AB ((AA E1).trans hx);replace HLX:=AB (fun e=>by have h1:=(AA HLX) e;exact (show (checkV ns av t.view).2=0∧n=t.nl∧∃fs:List FV,FrsIn wb A n fs∧fs.all fOk=true from ⟨h1.1,h1.2.1,h1.2.2.imp fun _ k=>⟨k.1.ext hx,k.2⟩⟩));generalize w3.heap.size=gU at *;clear hx z4 BT BU HU;have HTr:=AB ((AA HTr0).ext (AA E1));replace HP:=AB ((AA HP).ext (AA E1));clear HTr0;go_upto_region 4 with fail;go_cut [51] from 44 to 51 (fun vq wx=>∃q:Bool,vq=.bool q∧Hid (Ext wb wx)∧Hid (q=false→er=0))
  case first=>
   as_aux_lemma=>
   by_cases he:er=0
   ·have heb:(er != 0)=false:=by simp[he]
    obtain⟨h1,h2,fs,h3,h4⟩:=(AA HLX) he;have HFU:=AB h3;have cS:=AB (hSm t ns av A1 A2 A3 A n1 n2 n3 n c1 c2 c3 c fs wb (AA HTr) hm ha (AA HFU) (by unfold maxLen;omega) (AA HUL));have HE:=AB he;have E0:=AB (Ext.refl wb);clear he h1 h2 h3 h4;have BT:=(AA HBT).ext (AA E0);have t0:=(BT.cell 0).trans (rfl:_=some (Value.slice t.na t.nl t.nc));have t1:=(BT.cell 1).trans (rfl:_=some (Value.slice t.aa t.al t.ac));have t2:=(BT.cell 2).trans (rfl:_=some (Value.int .i64 t.view));have lT:=BT.lt;clear BT;have BU:=(AA HBU).ext (AA E0);have u0:=(BU.cell 0).trans (rfl:_=some (Value.slice A1 n1 c1));have u1:=(BU.cell 1).trans (rfl:_=some (Value.slice A2 n2 c2));have u2:=(BU.cell 2).trans (rfl:_=some (Value.slice A3 n3 c3));have u3:=(BU.cell 3).trans (rfl:_=some (Value.slice A n c));have lU:=BU.lt;clear BU;go_wp2_with fail
    with_reducible refine (AA cS).mono ?_
    rintro e w5 ⟨q,rfl,hx,hq⟩;have HX:=AB hx;clear hx hq cS t0 t1 t2 lT u0 u1 u2 u3 lU;go_wp2_with fail;go_meet
    case rel=>exact⟨_,rfl,HX,AB (fun _=>AA HE)⟩
   ·have heb:(er != 0)=true:=by simpa using he
    clear he;go_wp2_with fail;go_meet
    case rel=>exact⟨true,rfl,AB (Ext.refl _),AB (fun e=>by cases e)⟩
  case rest=>
   obtain⟨q,rfl,E,HQ⟩:=hcut;go_upto_if 51 with (fail);cases q
   case true=>
    as_aux_lemma=>
    replace E1:=AB ((AA E1).trans (AA E));go_upto_region 5 with fail;go_wp2_with fail;refine (works29_any _).mono ?_;rintro e w9 ⟨rfl,hx⟩;have HX:=AB hx;clear hx;go_wp2_with fail;go_ret;exact⟨rfl,(AA E1).trans (AA HX)⟩
   obtain⟨hck,hnt,fs,hfr,hall⟩:=(AA HLX) ((AA HQ) (by first|trivial|rfl));have HFr:=AB hfr;have HALL:=AB hall;have HTK:=AB (chk_ok t ns av wb (AA HTr) hm hck);have hgo:=AB (show goV t ns av n fs=true by unfold goV togB;rw[hck,hall];simp[hnt]);have hnl0:=(AA HTr).nodes.nlen;have HNL:=AB hnl0;have HNT:=AB hnt;have hn:n≤1000:=by omega
   have hpos:0<ns.length:=(AA HTK).pos;have hnsm:ns.length≤120:=by omega
   have hbd:=AB (show ∀i,i<1000→RcM (plN ns fs i) from fun i hi=>plN_bd ns (fun i=>fgN_bd hall i) hi);have hfb:=AB (show ∀i,FgM (fgN fs i) from fun i=>fgN_bd hall i);have hfl:=AB (show fs.length=n from hfr.len);clear HQ HLX hck hfr hall hnt hnl0;have cP:∀W,Ext wb W→Hid (Calls Tryz.prog 9 #[.agg t.cs,.agg #[.slice A1 n1 c1,.slice A2 n2 c2,.slice A3 n3 c3,.slice A n c]] W (PlsIs W true ns fs)):=fun W hx=>AB (by
    have h1:=hPl t ns av A1 A2 A3 A n1 n2 n3 n c1 c2 c3 c fs W ((AA HTr).ext hx) hm ha ((AA HFr).ext hx) hn
    rwa [AA hgo] at h1)
   have cB:∀W,Ext wb W→Hid (Calls Tryz.prog 14 #[.agg t.cs,.agg #[.slice A1 n1 c1,.slice A2 n2 c2,.slice A3 n3 c3,.slice A n c]] W (BndIs W (coverR (plL ns fs)) (coverB (plL ns fs)))):=fun W hx=>AB (by
    have h1:=hBd t ns av A1 A2 A3 A n1 n2 n3 n c1 c2 c3 c fs W ((AA HTr).ext hx) hm ha ((AA HFr).ext hx) hn
    rwa [AA hgo] at h1)
   have cA:∀px py W,Ext wb W→Hid (Calls Tryz.prog 12 #[.agg t.cs,.agg #[.slice A1 n1 c1,.slice A2 n2 c2,.slice A3 n3 c3,.slice A n c],.int .i64 px,.int .i64 py] W (HitIs W (atV true ns fs px py))):=fun px py W hx=>AB (by
    have h1:=hAt t ns av A1 A2 A3 A n1 n2 n3 n c1 c2 c3 c fs W ((AA HTr).ext hx) hm ha ((AA HFr).ext hx) hn px py
    rwa [AA hgo] at h1)
   have cU:∀(px py:Int) W,Ext wb W→((-9223372036854775808≤px∧px≤9223372036854775807)∧(-9223372036854775808≤py∧py≤9223372036854775807))→Hid (Calls Tryz.prog 17 #[.agg t.cs,.agg #[.slice A1 n1 c1,.slice A2 n2 c2,.slice A3 n3 c3,.slice A n c],.agg #[.int .i64 px,.int .i64 py,.int .i64 1,.int .i64 1]] W (IntsOut W (undV true ns fs ⟨px,py,1,1⟩))):=fun px py W hx hb=>AB (by
    have h1:=hUn t ns av A1 A2 A3 A n1 n2 n3 n c1 c2 c3 c fs W ((AA HTr).ext hx) hm ha ((AA HFr).ext hx) hn ⟨px,py,1,1⟩ (by constructor<;>simp only<;>omega)
    rwa [AA hgo] at h1)
   have BT:=(AA HBT).ext (AA E);have t0:=(BT.cell 0).trans (rfl:_=some (Value.slice t.na t.nl t.nc));have t1:=(BT.cell 1).trans (rfl:_=some (Value.slice t.aa t.al t.ac));have t2:=(BT.cell 2).trans (rfl:_=some (Value.int .i64 t.view));have lT:=BT.lt;clear BT;have BU:=(AA HBU).ext (AA E);have u0:=(BU.cell 0).trans (rfl:_=some (Value.slice A1 n1 c1));have u1:=(BU.cell 1).trans (rfl:_=some (Value.slice A2 n2 c2));have u2:=(BU.cell 2).trans (rfl:_=some (Value.slice A3 n3 c3));have u3:=(BU.cell 3).trans (rfl:_=some (Value.slice A n c));have lU:=BU.lt;clear BU;go_upto_region 6 with fail;go_wp2_with fail
   with_reducible refine (AA (cP _ (AA E))).mono ?_
   rintro e w5 ⟨A9,c9,rfl,R9,hx⟩;have HR9:=AB R9;have E5:=AB ((AA E).trans hx);clear hx R9 cP E t0 t1 t2 lT u0 u1 u2 u3 lU;obtain⟨m,hLm⟩:∃m,(plV true ns fs).length=m:=⟨_,rfl⟩
   have HML:=AB (show ns.length=m by have:=hLm;simpa[plV,plL_len] using this);rw[hLm] at HR9;rw[hLm];replace HR9:Hid (Rd w5 4 A9 m (recs rcC (plL ns fs))):=HR9;clear hLm;have BT:=(AA HBT).ext (AA E5);have t0:=(BT.cell 0).trans (rfl:_=some (Value.slice t.na t.nl t.nc));have t1:=(BT.cell 1).trans (rfl:_=some (Value.slice t.aa t.al t.ac));have t2:=(BT.cell 2).trans (rfl:_=some (Value.int .i64 t.view));have lT:=BT.lt;clear BT;have BU:=(AA HBU).ext (AA E5);have u0:=(BU.cell 0).trans (rfl:_=some (Value.slice A1 n1 c1));have u1:=(BU.cell 1).trans (rfl:_=some (Value.slice A2 n2 c2));have u2:=(BU.cell 2).trans (rfl:_=some (Value.slice A3 n3 c3));have u3:=(BU.cell 3).trans (rfl:_=some (Value.slice A n c));have lU:=BU.lt;clear BU;go_upto_region 7 with fail;go_wp2_with fail
   with_reducible refine (AA (cB _ (AA E5))).mono ?_
   rintro e w6 ⟨rfl,hx⟩;replace HR9:=AB ((AA HR9).ext hx);replace E5:=AB ((AA E5).trans hx);clear hx cB t0 t1 t2 lT u0 u1 u2 u3 lU;obtain⟨bR,hbR⟩:∃x,coverR (plL ns fs)=x:=⟨_,rfl⟩
   obtain⟨bB,hbB⟩:∃x,coverB (plL ns fs)=x:=⟨_,rfl⟩
   have hbok:=AB (show bR.Ok by rw[←hbR];exact cover_ok _);have hhas:=AB (show bB=false→∀i,i<ns.length→(plN ns fs i).some=true→insideB (plN ns fs i) bR=true from fun e i hi hs=>by
    rw[←hbR];exact cover_has (by rw[hbB];exact e) (List.mem_of_getElem? (plL_get hi)) hs)
   rw[hbR,hbB];clear hbR hbB;dsimp only
   iterate 10 go_step
   obtain⟨bx,by_,bw,bh⟩:=bR;refine wpList_var rfl rfl 33 rfl 10 rfl (.tmp 63) rfl rfl (rcC zRc).toArray (rcC ⟨bx,by_,bw,bh⟩).toArray rcC_zero rfl rfl (rcC_size _) rfl (by kernel_rfl) ?_;intro w7 BB hx z7;simp only[AC];replace HR9:=AB ((AA HR9).ext hx);replace E5:=AB ((AA E5).trans hx);have HBB:=AB BB;generalize w6.heap.size=gB at *;clear hx z7 BB;have hm1:((m:Int) != (t.nl:Int))=false:=by have h1:=AA HML;have h2:=AA HNL;simp;omega
   have hmI:0<m∧m≤120:=by have h1:=AA HML;omega
   have t0:=((AA HBT).ext (AA E5)).cell 0 |>.trans (rfl:_=some (Value.slice t.na t.nl t.nc))
   have lT:=((AA HBT).ext (AA E5)).lt;go_upto_region 10 with fail;clear t0 lT hm1;go_wp2_with fail;go_loopw [4,12,13] (fun _ v12 _ wq=>∃i:Nat,v12=.int .i64 i∧1≤i∧i≤m∧Hid (Ext w7 wq)) (fun _ v12 _ _=>m-(intOf v12).toNat)
   case atStart=>exact⟨1,rfl,by omega,by omega,AB (Ext.refl _)⟩
   case round=>
    obtain⟨i,rfl,hi1,hi,E7⟩:=hrel;by_cases him:i<m
    ·as_aux_lemma=>
     have hiI:(0:Int)≤(i:Int)∧(i:Int)<(m:Int):=by omega
     have hil:i<ns.length:=by rw[AA HML];exact him
     have hit:(i:Int)<(t.nl:Int):=by have:=AA HNL;omega
     have hinI:(i:Int)<(n:Int):=by have:=AA HNT;omega
     obtain⟨p,hpp,hpi⟩:=(AA HTK).par (show 0<i by omega) hil;have hpN:=((AA HTK).parN hil).trans hpp;have hpI:(0:Int)≤(p:Int)∧(p:Int)<(m:Int):=by omega
     have E9:=AB ((AA E5).trans (AA E7));obtain⟨bn,on,hna,lbn,_⟩:=(AA HTr).nodes.at_ (by omega);have BT:=(AA HBT).ext (AA E9);have t0:=(BT.cell 0).trans (rfl:_=some (Value.slice t.na t.nl t.nc));rw[hna] at t0;have lT:=BT.lt;clear BT;have lb:=Nat.lt_of_lt_of_le lbn (AA E9).size;have gp:=((AA HTr).nodes.ext (AA E9)).par hna hil;rw[hpp] at gp;have gk:=((AA HTr).nodes.ext (AA E9)).same hna hil;obtain⟨kk,hkk⟩:∃kk,nK ns i=kk:=⟨_,rfl⟩
     rw[hkk] at gk;have HKK:=AB hkk;obtain⟨q1,hq1⟩:∃q,(kk != 3)=q:=⟨_,rfl⟩
     have HQ1:=AB hq1;obtain⟨bp,op_,hA,lp,hmi⟩:=((AA HR9).ext (AA E7)).rec_ rcC_len (plL_get (fs:=fs) hil) (by omega);subst hA;obtain⟨bp',op',hA,_,hmp⟩:=((AA HR9).ext (AA E7)).rec_ rcC_len (plL_get (fs:=fs) (show p<ns.length by omega)) (by omega);injection hA with hA;injection hA with hA hA2;subst hA hA2;have hbi:=(AA hbd) i (by omega);have hbp:=(AA hbd) p (by omega);obtain⟨ri,hri⟩:∃r,plN ns fs i=r:=⟨_,rfl⟩
     obtain⟨rp,hrp⟩:∃r,plN ns fs p=r:=⟨_,rfl⟩
     have HRI:=AB hri;rw[hri] at hmi hbi;rw[hrp] at hmp hbp;obtain⟨xi,yi,wi,hi_⟩:=ri;obtain⟨xp,yp,wp_,hp_⟩:=rp;have hkid:=AB (show q1=true→xi-xp=fX fs i∧yi-yp=fY fs i from fun e=>by
      have h3:nK ns i≠3:=by rw[hkk];rw[e] at hq1;simpa using hq1
      have h1:=place_kid fs (AA HTK) hil h3 hpN;rw[hri,hrp] at h1;exact h1)
     obtain⟨fv,hfv⟩:∃x,fs[i]?=some x:=⟨_,AE (by have:=AA hfl;omega)⟩
     obtain⟨bf,of_,hA,lf0,hmf⟩:=(AA HFr).rd.rec_ fgC_len (show (fs.map FV.f)[i]?=some (fgN fs i) by rw[List.getElem?_map,hfv,fgN_of hfv];rfl) (by omega);subst hA;have f0:=((AA E9).cells.1 _ _ lf0).trans (hmf 0 _ (rfl:_=some (Value.int .i64 (fX fs i))));rw[Nat.add_zero] at f0;have f1:=((AA E9).cells.1 _ _ lf0).trans (hmf 1 _ (rfl:_=some (Value.int .i64 (fY fs i))));have lf:=Nat.lt_of_lt_of_le lf0 (AA E9).size;have BU:=(AA HBU).ext (AA E9);have u3:=(BU.cell 3).trans (rfl:_=some (Value.slice (some ⟨bf,of_,none⟩) n c));have lU:=BU.lt;clear BU;have p0:=hmi 0 _ (rfl:_=some (Value.int .i64 xi));rw[Nat.add_zero] at p0;have p1:=hmi 1 _ (rfl:_=some (Value.int .i64 yi));have p2:=hmi 2 _ (rfl:_=some (Value.int .i64 wi));have p3:=hmi 3 _ (rfl:_=some (Value.int .i64 hi_));have s0:=hmp 0 _ (rfl:_=some (Value.int .i64 xp));rw[Nat.add_zero] at s0;have s1:=hmp 1 _ (rfl:_=some (Value.int .i64 yp));obtain⟨bx1,bx2⟩:=hbi.x;obtain⟨by1,by2⟩:=hbi.y;obtain⟨cx1,cx2⟩:=hbp.x;obtain⟨cy1,cy2⟩:=hbp.y;have hiok:=AB hbi.ok;simp only at bx1 bx2 by1 by2 cx1 cx2 cy1 cy2;have wx:IntKind.i64.wrap (xi-xp)=xi-xp:=IntWalk.i64_in _ (by omega);have wy:IntKind.i64.wrap (yi-yp)=yi-yp:=IntWalk.i64_in _ (by omega);clear hmi hmp hri hrp hkk hmf hfv hbi hbp lf0 lbn hna hpp hpN;have HWX:=AB wx;have HWY:=AB wy;clear wx wy bx1 bx2 by1 by2 cx1 cx2 cy1 cy2;go_upto_region 14 with fail;go_cut [134] from 87 to 134 (fun vq wx=>vq=.bool false∧Hid (Ext wr wx))
     case first=>
      as_aux_lemma=>
      cases q1
      ·refine wp_region_ord [(1,0),(0,1),(1,2),(1,3),(1,4),(1,5),(0,6),(1,7),(1,8),(1,9),(1,10),(1,11),(1,12),(0,13),(1,14),(1,15),(1,16),(1,17),(0,18),(1,19),(1,20),(0,21),(1,22),(1,23),(1,24),(0,25),(1,26),(1,27),(1,28),(1,29),(1,30),(1,31),(0,32),(1,33),(1,34),(1,35),(1,36),(0,37),(1,38),(1,39),(0,40),(1,41),(1,42),(1,43),(0,44),(1,45),(1,46),(1,47)] 48 (fun w'=>Ext wr w') (by kernel_rfl) (by kernel_rfl) rfl (by kernel_rfl) ((Ext.refl _).drew) ?_;simp only[AD]
       iterate 48 (
        (first
         |(refine ord_skip (wanted_undef _ _ _ rfl rfl rfl) ?_)
         |(refine ord_skip0 (wanted_undef _ _ _ rfl rfl rfl) ?_)|refine ordQE ?_|refine ordQF ?_|refine ordQC ?_|refine ordQD ?_)
        simp only[AC])
       refine ord_nil ?_;go_wp2_with fail;go_meet
       case rel=>exact⟨rfl,AB (Ext.refl wr).drew⟩
      ·have hx:=((AA hkid) (by first|trivial|rfl)).1;have hy:=((AA hkid) (by first|trivial|rfl)).2;have wx:IntKind.i64.wrap (xi-xp)=fX fs i:=(AA HWX).trans hx;have wy:IntKind.i64.wrap (yi-yp)=fY fs i:=(AA HWY).trans hy;clear hx hy;generalize fX fs i=FX at *;generalize fY fs i=FY at *;refine wp_region_ord [(1,0),(0,1),(1,2),(1,3),(1,4),(1,5),(0,6),(1,7),(1,8),(1,9),(1,10),(1,11),(1,12),(0,13),(1,14),(1,15),(1,16),(1,17),(0,18),(1,19),(1,20),(0,21),(1,22),(1,23),(1,24),(0,25),(1,26),(1,27),(1,28),(1,29),(1,30),(1,31),(0,32),(1,33),(1,34),(1,35),(1,36),(0,37),(1,38),(1,39),(0,40),(1,41),(1,42),(1,43),(0,44),(1,45),(1,46),(1,47)] 48 (fun w'=>Ext wr w') (by kernel_rfl) (by kernel_rfl) rfl (by kernel_rfl) ((Ext.refl _).drew) ?_;simp only[AD]
       iterate 48 (
        (first
         |(refine ord_skip (wanted_undef _ _ _ rfl rfl rfl) ?_)
         |(refine ord_skip0 (wanted_undef _ _ _ rfl rfl rfl) ?_)|refine ordQE ?_|refine ordQF ?_|refine ordQC ?_|refine ordQD ?_)
        simp only[AC])
       refine ord_nil ?_;go_wp2_with fail;go_meet
       case rel=>exact⟨rfl,AB (Ext.refl wr).drew⟩
     case rest=>
      obtain⟨hq,E10⟩:=hcut;subst hq;replace E7:=AB ((AA E7).trans (AA E10));clear t0 lT lb gp gk f0 f1 lf u3 lU p0 p1 p2 p3 s0 s1 lp E9 E10 HWX HWY hkid HKK HQ1 hq1;have E9:=AB ((AA E5).trans (AA E7));obtain⟨bp2,op2,hA,lp,hmi⟩:=((AA HR9).ext (AA E7)).rec_ rcC_len (plL_get (fs:=fs) hil) (by omega);injection hA with hA;injection hA with hA hA2;subst hA hA2;rw[AA HRI] at hmi;have p0:=hmi 0 _ (rfl:_=some (Value.int .i64 xi));rw[Nat.add_zero] at p0;have p1:=hmi 1 _ (rfl:_=some (Value.int .i64 yi));have p2:=hmi 2 _ (rfl:_=some (Value.int .i64 wi));have p3:=hmi 3 _ (rfl:_=some (Value.int .i64 hi_));have BB:=(AA HBB).ext (AA E7);have b0:=(BB.cell 0).trans (rfl:_=some (Value.int .i64 bx));have b1:=(BB.cell 1).trans (rfl:_=some (Value.int .i64 by_));have b2:=(BB.cell 2).trans (rfl:_=some (Value.int .i64 bw));have b3:=(BB.cell 3).trans (rfl:_=some (Value.int .i64 bh));have lB:=BB.lt;clear BB hmi;have hIn:=AB (show bB=false→0<wi→0<hi_→insideB ⟨xi,yi,wi,hi_⟩ ⟨bx,by_,bw,bh⟩=true from fun e h1 h2=>by
       have h3:=(AA hhas) e i hil;rw[AA HRI] at h3;exact h3 (by simp[Rc.some,h1,h2]))
      have cI:=fun W=>AB (inside_any ⟨xi,yi,wi,hi_⟩ ⟨bx,by_,bw,bh⟩ (AA hiok) (AA hbok) W)
      go_upto_if 134 with (fail);go_upto_region 16 with fail;go_cut [161] from 135 to 161 (fun vq wx=>vq=.bool false∧Hid (Ext w7 wx))
      case first=>
       as_aux_lemma=>
       cases bB
       ·by_cases h1:0<wi
        ·by_cases h2:0<hi_
         ·have hI:=(AA hIn) rfl h1 h2;rw[hI] at cI;clear hI;refine wp_region_ord [(1,0),(1,1),(1,2),(1,3),(1,4),(1,5),(1,6),(0,7),(1,8),(1,9),(1,10),(1,11),(1,12),(1,13),(1,14),(0,15),(1,16),(1,17),(1,18),(1,19),(1,20),(1,21),(0,22),(0,23),(2,24),(1,25),(1,26)] 27 (fun w'=>Ext wc w') (by kernel_rfl) (by kernel_rfl) rfl (by kernel_rfl) ((Ext.refl _).drew) ?_;simp only[AD]
          iterate 24 ((first|refine ordQE ?_|refine ordQF ?_|refine ordQC ?_|refine ordQD ?_);simp only[AC])
          refine ord_keep ?_;go_wp2_with fail
          with_reducible refine (AA (cI _)).mono ?_
          rintro e wk ⟨rfl,hx⟩;have HX:=AB ((Ext.refl wc).drew.trans hx);have HX2:=AB ((AA E7).drew.trans hx);clear hx;go_wp2_with fail;refine⟨AA HX,?_⟩
          iterate 2 ((first|refine ordQE ?_|refine ordQF ?_|refine ordQC ?_|refine ordQD ?_);simp only[AC])
          refine ord_nil ?_;go_wp2_with fail;go_meet
          case rel=>exact⟨rfl,HX2⟩
         ·refine wp_region_ord [(1,0),(1,1),(1,2),(1,3),(1,4),(1,5),(1,6),(0,7),(1,8),(1,9),(1,10),(1,11),(1,12),(1,13),(1,14),(0,15),(1,16),(1,17),(1,18),(1,19),(1,20),(1,21),(0,22),(0,23),(2,24),(1,25),(1,26)] 27 (fun w'=>Ext wc w') (by kernel_rfl) (by kernel_rfl) rfl (by kernel_rfl) ((Ext.refl _).drew) ?_;simp only[AD]
          iterate 24 ((first|refine ordQE ?_|refine ordQF ?_|refine ordQC ?_|refine ordQD ?_);simp only[AC])
          refine ord_keep ?_;go_wp2_with fail;refine⟨(Ext.refl wc).drew,?_⟩
          iterate 2 ((first|refine ordQE ?_|refine ordQF ?_|refine ordQC ?_|refine ordQD ?_);simp only[AC])
          refine ord_nil ?_;go_wp2_with fail;go_meet
          case rel=>exact⟨rfl,AB (AA E7).drew⟩
        ·refine wp_region_ord [(1,0),(1,1),(1,2),(1,3),(1,4),(1,5),(1,6),(0,7),(1,8),(1,9),(1,10),(1,11),(1,12),(1,13),(1,14),(0,15),(1,16),(1,17),(1,18),(1,19),(1,20),(1,21),(0,22),(0,23),(2,24),(1,25),(1,26)] 27 (fun w'=>Ext wc w') (by kernel_rfl) (by kernel_rfl) rfl (by kernel_rfl) ((Ext.refl _).drew) ?_;simp only[AD]
         iterate 24 ((first|refine ordQE ?_|refine ordQF ?_|refine ordQC ?_|refine ordQD ?_);simp only[AC])
         refine ord_keep ?_;go_wp2_with fail;refine⟨(Ext.refl wc).drew,?_⟩
         iterate 2 ((first|refine ordQE ?_|refine ordQF ?_|refine ordQC ?_|refine ordQD ?_);simp only[AC])
         refine ord_nil ?_;go_wp2_with fail;go_meet
         case rel=>exact⟨rfl,AB (AA E7).drew⟩
       ·refine wp_region_ord [(1,0),(1,1),(1,2),(1,3),(1,4),(1,5),(1,6),(0,7),(1,8),(1,9),(1,10),(1,11),(1,12),(1,13),(1,14),(0,15),(1,16),(1,17),(1,18),(1,19),(1,20),(1,21),(0,22),(0,23),(2,24),(1,25),(1,26)] 27 (fun w'=>Ext wc w') (by kernel_rfl) (by kernel_rfl) rfl (by kernel_rfl) ((Ext.refl _).drew) ?_;simp only[AD]
        iterate 24 ((first|refine ordQE ?_|refine ordQF ?_|refine ordQC ?_|refine ordQD ?_);simp only[AC])
        refine ord_keep ?_;go_wp2_with fail;refine⟨(Ext.refl wc).drew,?_⟩
        iterate 2 ((first|refine ordQE ?_|refine ordQF ?_|refine ordQC ?_|refine ordQD ?_);simp only[AC])
        refine ord_nil ?_;go_wp2_with fail;go_meet
        case rel=>exact⟨rfl,AB (AA E7).drew⟩
      case rest=>
       obtain⟨hq,E11⟩:=hcut;subst hq;clear p0 p1 p2 p3 b0 b1 b2 b3 lB lp cI hIn E7 E9;go_upto_if 161 with (fail);go_wp2_with fail;go_roundw
       case rel=>exact⟨i+1,by go_num,by omega,by omega,E11⟩
       case measure=>simp[intOf]<;>omega
    ·as_aux_lemma=>
     have hiI:¬(i:Int)<(m:Int):=by omega
     replace HR9:=AB ((AA HR9).ext (AA E7));replace HBB:=AB ((AA HBB).ext (AA E7));replace E5:=AB ((AA E5).trans (AA E7));clear E7;go_upto_region 18 with fail;go_wp2_with fail;obtain⟨wo,hwo⟩:∃x,x=wr:=⟨_,rfl⟩
     subst hwo;go_loopw [4,14,15,16,17,18,19,20,21,22] (fun _ v14 _ _ _ _ _ _ _ _ wq=>∃k:Nat,v14=.int .i64 k∧k≤pn∧Hid (Ext wo wq)) (fun _ v14 _ _ _ _ _ _ _ _ _=>pn-(intOf v14).toNat)
     case atStart=>exact⟨0,rfl,by omega,AB (Ext.refl _)⟩
     case round=>
      obtain⟨k,rfl,hk,E7⟩:=hrel;have E9:=AB ((AA E5).trans (AA E7));by_cases hkp:k<pn
      ·as_aux_lemma=>
       have hkpI:(0:Int)≤(k:Int)∧(k:Int)<(pn:Int):=by omega
       obtain⟨p,hp⟩:∃p,ps[k]?=some p:=⟨_,AE (by have:=AA hps;omega)⟩
       have hpk:=(AA HPO) p (List.mem_of_getElem? hp);obtain⟨bp,op_,hA,lp,hmp⟩:=((AA HP).ext (AA E9)).rec_ pntC_len hp (by omega);subst hA;have cPt:=AB (point_any p hpk A9 m c9 (plL ns fs) wr ((AA HR9).ext (AA E7)) (fun r hr=>by
        obtain⟨i,hi,rfl⟩:=List.mem_map.1 hr;have:=(AA hbd) i (by have:=List.mem_range.1 hi;omega);exact⟨this.x,this.y⟩) (by omega))
       obtain⟨px,py,near,node⟩:=p;have q0:=hmp 0 _ (rfl:_=some (Value.int .i64 px));rw[Nat.add_zero] at q0;have q1:=hmp 1 _ (rfl:_=some (Value.int .i64 py));have q2:=hmp 2 _ (rfl:_=some (Value.bool near));have q3:=hmp 3 _ (rfl:_=some (Value.int .u8 node));clear hp hmp hpk;go_upto_region 21 with fail;go_wp2_with fail;refine (AA cPt).mono ?_;rintro e w8 ⟨X,Y,rfl,hx⟩;replace E9:=AB ((AA E9).trans hx);replace E7:=AB ((AA E7).trans hx);clear hx cPt q0 q1 q2 q3 lp;go_upto_region 22 with fail;go_cut [190] from 177 to 190 (fun vq wx=>∃q:Bool,vq=.bool q∧Hid (q=false→(-1125899906842624≤X∧X≤1125899906842624)∧(-1125899906842624≤Y∧Y≤1125899906842624))∧wx=w8)
       case first=>
        as_aux_lemma=>
        by_cases h1:1125899906842624<X
        ·go_wp2_with fail;go_meet
         case rel=>exact⟨true,rfl,AB (fun e=>by cases e),rfl⟩
        ·by_cases h2:X < -1125899906842624
         ·go_wp2_with fail;go_meet
          case rel=>exact⟨true,rfl,AB (fun e=>by cases e),rfl⟩
         ·by_cases h3:1125899906842624<Y
          ·go_wp2_with fail;go_meet
           case rel=>exact⟨true,rfl,AB (fun e=>by cases e),rfl⟩
          ·by_cases h4:Y < -1125899906842624
           ·go_wp2_with fail;go_meet
            case rel=>exact⟨true,rfl,AB (fun e=>by cases e),rfl⟩
           ·go_wp2_with fail;go_meet
            case rel=>exact⟨false,rfl,AB (fun _=>by omega),rfl⟩
       case rest=>
        obtain⟨q,rfl,HQ,hwc⟩:=hcut;subst hwc;go_upto_if 190 with (fail);cases q
        case true=>
         go_wp2_with fail;go_roundw
         case rel=>exact⟨k+1,by go_num,by omega,E7⟩
         case measure=>simp[intOf]<;>omega
        have hXY:=(AA HQ) (by first|trivial|rfl);have hfar:=AB (show farB true X Y=false by simp[farB];omega);clear HQ;go_upto_region 23 with fail
        iterate 7 go_step
        refine wpList_buildTo rfl 33 _ rfl _ rfl (rcC ⟨X,Y,1,1⟩).toArray (by simp only[List.map_toArray,List.map_cons,List.map_nil];exact built_pt _ _) ?_;simp only[AC];refine wpList_var rfl rfl 33 rfl 17 rfl (.tmp 193) rfl rfl (rcC zRc).toArray (rcC ⟨X,Y,1,1⟩).toArray rcC_zero rfl rfl (rcC_size _) rfl (by kernel_rfl) ?_;intro wu BP hx zu;simp only[AC];replace E9:=AB ((AA E9).trans hx);replace E7:=AB ((AA E7).trans hx);have HBP:=AB BP;generalize wc.heap.size=gP at *;clear hx zu BP;have BT:=(AA HBT).ext (AA E9);have t0:=(BT.cell 0).trans (rfl:_=some (Value.slice t.na t.nl t.nc));have t1:=(BT.cell 1).trans (rfl:_=some (Value.slice t.aa t.al t.ac));have t2:=(BT.cell 2).trans (rfl:_=some (Value.int .i64 t.view));have lT:=BT.lt;clear BT;have BU:=(AA HBU).ext (AA E9);have u0:=(BU.cell 0).trans (rfl:_=some (Value.slice A1 n1 c1));have u1:=(BU.cell 1).trans (rfl:_=some (Value.slice A2 n2 c2));have u2:=(BU.cell 2).trans (rfl:_=some (Value.slice A3 n3 c3));have u3:=(BU.cell 3).trans (rfl:_=some (Value.slice A n c));have lU:=BU.lt;clear BU;go_upto_region 24 with fail;go_wp2_with fail
        with_reducible refine (AA (cA X Y _ (AA E9))).mono ?_
        rintro e wa ⟨rfl,hx⟩;replace E9:=AB ((AA E9).trans hx);replace E7:=AB ((AA E7).trans hx);replace HBP:=AB ((AA HBP).ext hx);clear hx cA t0 t1 t2 lT u0 u1 u2 u3 lU;obtain⟨V,hV⟩:∃V,atV true ns fs X Y=V:=⟨_,rfl⟩
        have HV:=AB hV;rw[hV];clear hV;obtain⟨a1,a2,a3⟩:=V;have BP:=AA HBP;have g0:=(BP.cell 0).trans (rfl:_=some (Value.int .i64 X));have g1:=(BP.cell 1).trans (rfl:_=some (Value.int .i64 Y));have g2:=(BP.cell 2).trans (rfl:_=some (Value.int .i64 1));have g3:=(BP.cell 3).trans (rfl:_=some (Value.int .i64 1));have lP:=BP.lt;clear BP;have BT:=(AA HBT).ext (AA E9);have t0:=(BT.cell 0).trans (rfl:_=some (Value.slice t.na t.nl t.nc));have t1:=(BT.cell 1).trans (rfl:_=some (Value.slice t.aa t.al t.ac));have t2:=(BT.cell 2).trans (rfl:_=some (Value.int .i64 t.view));have lT:=BT.lt;clear BT;have BU:=(AA HBU).ext (AA E9);have u0:=(BU.cell 0).trans (rfl:_=some (Value.slice A1 n1 c1));have u1:=(BU.cell 1).trans (rfl:_=some (Value.slice A2 n2 c2));have u2:=(BU.cell 2).trans (rfl:_=some (Value.slice A3 n3 c3));have u3:=(BU.cell 3).trans (rfl:_=some (Value.slice A n c));have lU:=BU.lt;clear BU;go_upto_region 25 with fail;go_wp2_with fail
        with_reducible refine (AA (cU X Y _ (AA E9) (by omega))).mono ?_
        rintro e ww ⟨A5,c5,rfl,R5,hx⟩;replace E9:=AB ((AA E9).trans hx);replace E7:=AB ((AA E7).trans hx);replace HBP:=AB ((AA HBP).ext hx);clear hx cU t0 t1 t2 lT u0 u1 u2 u3 lU g0 g1 g2 g3 lP;obtain⟨U,hU⟩:∃U,undV true ns fs ⟨X,Y,1,1⟩=U:=⟨_,rfl⟩
        rw[hU] at R5;rw[hU];have hcases:=at_cases ns fs X Y (AA hfar);rw[hU,AA HV] at hcases;have hUl:U.length≤1000:=by
         rw[←hU];unfold undV;have h1:=undK_len ns fs ⟨X,Y,1,1⟩ (plV true ns fs).length;have h2:(plV true ns fs).length=ns.length:=plL_len ns fs;omega
        clear hU HV;obtain⟨l,hl⟩:∃l,U.length=l:=⟨_,rfl⟩
        rw[hl] at R5 hUl;rw[hl]
        rcases hcases with ⟨hv,hu⟩|⟨nd,hnd,hbox,hlast,hv⟩
        ·
         have hl0:l=0:=by rw[←hl,hu];rfl
         injection hv with v1 v2;injection v2 with v2 v3;subst v1 v2 v3 hl0;clear hl hu R5;go_wp2_with fail;go_roundw
         case rel=>exact⟨k+1,by go_num,by omega,E7⟩
         case measure=>simp[intOf]<;>omega
        ·as_aux_lemma=>
         obtain⟨q,hq⟩:∃q,l=q+1:=by
          cases U with
          |nil=>cases hlast
          |cons u t=>exact⟨t.length,by rw[←hl];rfl⟩
         have hUq:U[q]?=some (nd:Int):=by
          rw[List.getLast?_eq_getElem?,hl,hq] at hlast;exact hlast
         have hv1:a1=(nd:Int):=by
          rcases hv with hv|⟨j,y,_,_,hv|⟨i,z,_,_,hv⟩⟩<;>exact congrArg Prod.fst hv
         subst hv1;have HCV:=AB hv;clear hlast hl hv;have hndm:nd<m:=by have:=AA HML;omega
         have hndI:(0:Int)≤(nd:Int)∧(nd:Int)<(m:Int):=by omega
         have hndN:(nd:Int)<(n:Int):=by have:=AA HML;have:=AA HNT;have:=AA HNL;omega
         have hge:¬(m:Int)≤(nd:Int):=by omega
         obtain⟨hin1,hso⟩:=inside_unit hbox;have hrb:=(AA hbd) nd (by omega);have hallb:=(AA hhas)
         obtain⟨rn,hrn⟩:∃r,plN ns fs nd=r:=⟨_,rfl⟩
         have hIn2:=AB (show bB=false→insideB ⟨X,Y,1,1⟩ ⟨bx,by_,bw,bh⟩=true from fun e=>inside_trans hin1 (hallb e nd hnd hso) hso);have HRN:=AB hrn;rw[hrn] at hin1 hrb;obtain⟨xn,yn,wn,hn_⟩:=rn;have hubok:(⟨X,Y,1,1⟩:Rc).Ok:=by constructor<;>simp only<;>omega
         have cI1:=fun W=>AB (inside_any ⟨X,Y,1,1⟩ ⟨xn,yn,wn,hn_⟩ hubok hrb.ok W)
         rw[hin1] at cI1;have cI2:=fun W=>AB (inside_any ⟨X,Y,1,1⟩ ⟨bx,by_,bw,bh⟩ hubok (AA hbok) W)
         obtain⟨xb1,xb2⟩:=hrb.x;obtain⟨yb1,yb2⟩:=hrb.y;simp only at xb1 xb2 yb1 yb2;have HXB:=AB (And.intro xb1 xb2);have HYB:=AB (And.intro yb1 yb2);clear hin1 hso hallb hrb hubok hbox hrn xb1 xb2 yb1 yb2;obtain⟨bu,ou,u,rfl,lu,hu,qu⟩:=R5.get (i:=q) (by omega);have huv:u=.int .i64 (nd:Int):=by
          have h1:(ints U)[q]?=some (.int .i64 (nd:Int)):=by rw[ints,List.getElem?_map,hUq];rfl
          rw[h1] at hu;exact (Option.some.inj hu).symm
         subst huv;have hsub:IntKind.i64.wrap ((l:Int)-1)=(q:Int):=by rw[IntWalk.i64_in _ (by omega)];omega
         have hqI:(0:Int)≤(q:Int)∧(q:Int)<(l:Int):=by omega
         have hz:((l:Int)==0)=false:=by simp;omega
         have hql:(l:Int)≤1000:=by omega
         have hlI:(1:Int)≤(l:Int):=by omega
         clear hq;obtain⟨bn,on,hA,ln_,hmn⟩:=((AA HR9).ext (AA E7)).rec_ rcC_len (plL_get (fs:=fs) hnd) (by omega);subst hA;rw[AA HRN] at hmn;have n0:=hmn 0 _ (rfl:_=some (Value.int .i64 xn));rw[Nat.add_zero] at n0;have n1_:=hmn 1 _ (rfl:_=some (Value.int .i64 yn));have n2_:=hmn 2 _ (rfl:_=some (Value.int .i64 wn));have n3_:=hmn 3 _ (rfl:_=some (Value.int .i64 hn_));have BP:=AA HBP;have g0:=(BP.cell 0).trans (rfl:_=some (Value.int .i64 X));have g1:=(BP.cell 1).trans (rfl:_=some (Value.int .i64 Y));have g2:=(BP.cell 2).trans (rfl:_=some (Value.int .i64 1));have g3:=(BP.cell 3).trans (rfl:_=some (Value.int .i64 1));have lP:=BP.lt;have BB:=(AA HBB).ext (AA E7);have b0:=(BB.cell 0).trans (rfl:_=some (Value.int .i64 bx));have b1:=(BB.cell 1).trans (rfl:_=some (Value.int .i64 by_));have b2:=(BB.cell 2).trans (rfl:_=some (Value.int .i64 bw));have b3:=(BB.cell 3).trans (rfl:_=some (Value.int .i64 bh));have lB:=BB.lt;clear BP BB hmn R5 hu hUq;go_upto_region 29 with fail;go_cut [257] from 220 to 257 (fun vq wx=>vq=.bool false∧Hid (Ext ww wx))
         case first=>
          as_aux_lemma=>
          cases bB
          ·have hI:=(AA hIn2) rfl;rw[hI] at cI2;clear hI;refine wp_region_ord [(1,0),(1,1),(1,2),(1,3),(1,4),(1,5),(1,6),(1,7),(1,8),(0,9),(1,10),(1,11),(1,12),(1,13),(1,14),(1,15),(1,16),(1,17),(1,18),(1,19),(0,20),(1,21),(1,22),(1,23),(0,24),(2,25),(1,26),(1,27),(1,28),(1,29),(1,30),(1,31),(0,32),(0,33),(2,34),(1,35),(1,36),(1,37)] 38 (fun w'=>Ext ww w') (by kernel_rfl) (by kernel_rfl) rfl (by kernel_rfl) ((Ext.refl _).drew) ?_;simp only[AD]
           iterate 25 ((first|refine ordQE ?_|refine ordQF ?_|refine ordQC ?_|refine ordQD ?_);simp only[AC])
           refine ord_keep ?_;go_wp2_with fail
           with_reducible refine (AA (cI1 _)).mono ?_
           rintro e wk ⟨rfl,hx⟩;have HX:=AB ((Ext.refl ww).drew.trans hx);clear hx;go_wp2_with fail;refine⟨AA HX,?_⟩
           iterate 8 ((first|refine ordQE ?_|refine ordQF ?_|refine ordQC ?_|refine ordQD ?_);simp only[AC])
           refine ord_keep ?_;go_wp2_with fail
           with_reducible refine (AA (cI2 _)).mono ?_
           rintro e wk2 ⟨rfl,hx⟩;have HX2:=AB ((AA HX).trans hx);have HX3:=HX2;clear hx;go_wp2_with fail;refine⟨AA HX2,?_⟩
           iterate 3 ((first|refine ordQE ?_|refine ordQF ?_|refine ordQC ?_|refine ordQD ?_);simp only[AC])
           refine ord_nil ?_;go_wp2_with fail;go_meet
           case rel=>exact⟨by first|rfl|(rw[decide_eq_false (by omega)]),HX3⟩
          ·refine wp_region_ord [(1,0),(1,1),(1,2),(1,3),(1,4),(1,5),(1,6),(1,7),(1,8),(0,9),(1,10),(1,11),(1,12),(1,13),(1,14),(1,15),(1,16),(1,17),(1,18),(1,19),(0,20),(1,21),(1,22),(1,23),(0,24),(2,25),(1,26),(1,27),(1,28),(1,29),(1,30),(1,31),(0,32),(0,33),(2,34),(1,35),(1,36),(1,37)] 38 (fun w'=>Ext ww w') (by kernel_rfl) (by kernel_rfl) rfl (by kernel_rfl) ((Ext.refl _).drew) ?_;simp only[AD]
           iterate 25 ((first|refine ordQE ?_|refine ordQF ?_|refine ordQC ?_|refine ordQD ?_);simp only[AC])
           refine ord_keep ?_;go_wp2_with fail
           with_reducible refine (AA (cI1 _)).mono ?_
           rintro e wk ⟨rfl,hx⟩;have HX:=AB ((Ext.refl ww).drew.trans hx);have HX3:=HX;clear hx;go_wp2_with fail;refine⟨AA HX,?_⟩
           iterate 8 ((first|refine ordQE ?_|refine ordQF ?_|refine ordQC ?_|refine ordQD ?_);simp only[AC])
           refine ord_keep ?_;go_wp2_with fail;refine⟨AA HX3,?_⟩
           iterate 3 ((first|refine ordQE ?_|refine ordQF ?_|refine ordQC ?_|refine ordQD ?_);simp only[AC])
           refine ord_nil ?_;go_wp2_with fail;go_meet
           case rel=>exact⟨by first|rfl|(rw[decide_eq_false (by omega)]),HX3⟩
         case rest=>
          obtain⟨hq,E10⟩:=hcut;subst hq;replace E9:=AB ((AA E9).trans (AA E10));replace E7:=AB ((AA E7).trans (AA E10));clear n0 n1_ n2_ n3_ g0 g1 g2 g3 lP b0 b1 b2 b3 lB cI1 cI2 hIn2 lu qu ln_ hsub hqI hz hql hlI E10;go_upto_if 257 with (fail)
          rcases AA HCV with hv|⟨j,y,hj,hln,hv⟩
          ·
           injection hv with v1 v2;injection v2 with v2 v3;subst v2 v3;clear v1 HCV;go_wp2_with fail;go_roundw
           case rel=>exact⟨k+1,by go_num,by omega,E7⟩
           case measure=>simp[intOf]<;>omega
          ·as_aux_lemma=>
           have hv2:a2=(j:Int):=by
            rcases hv with hv|⟨i,z,_,_,hv⟩<;>exact congrArg (fun v=>v.2.1) hv
           subst hv2;have hv3:(a3=-1∨∃(i:Nat) (z:Pc),a3=(i:Int)∧y.ps[i]?=some z∧pcIn (plN ns fs nd) X z=true):=by
            rcases hv with hv|⟨i,z,h1,h2,hv⟩
            ·exact .inl (congrArg (fun v=>v.2.2) hv)
            ·exact .inr ⟨i,z,congrArg (fun v=>v.2.2) hv,h1,h2⟩
           rw[AA HRN] at hv3 hln;obtain⟨fv,hfv⟩:∃x,fs[nd]?=some x:=⟨_,AE (by have:=AA hfl;omega)⟩
           have hfm:=List.mem_of_getElem? hfv;have hyl:fv.ls[j]?=some y:=by
            have h1:=hj;unfold lsN at h1;rw[hfv] at h1;exact h1
           have hLv:=lsN_bd (AA HALL) nd y (by unfold lsN;rw[hfv];exact List.mem_of_getElem? hyl);obtain⟨bf,of_,hA,lf0,hmf⟩:=(AA HFr).rd.rec_ fgC_len (show (fs.map FV.f)[nd]?=some fv.f by rw[List.getElem?_map,hfv];rfl) (by omega);subst hA;have f4:=((AA E9).cells.1 _ _ lf0).trans (hmf 4 _ (rfl:_=some (Value.slice fv.f.lA fv.f.ln fv.f.lc)));have lf:=Nat.lt_of_lt_of_le lf0 (AA E9).size;obtain⟨RL,hlm⟩:=(AA HFr).ls fv hfm;have hps2:=(AA HFr).ps fv hfm y (List.mem_of_getElem? hyl);have hlen:fv.ls.length=fv.f.ln:=by have:=RL.recN llC_len (by omega);simpa using this
           have hjl:j<fv.f.ln:=by rw[←hlen];exact (List.getElem?_eq_some_iff.1 hyl).1
           obtain⟨⟨fx,fy,fw,fh,lA,ln,lc⟩,xls⟩:=fv;simp only at f4 RL hlm hps2 hjl hyl;have hlm2:ln≤9223372036854775807:=hlm;obtain⟨bl,ol,hA,ll0,hml⟩:=RL.rec_ llC_len (show (xls.map LV.l)[j]?=some y.l by rw[List.getElem?_map,hyl];rfl) (by omega);subst hA;obtain⟨⟨ly,lh,pA,pn2,pc2⟩,yps⟩:=y;simp only at hps2 hml hv3;obtain⟨RPc,hpm⟩:=hps2;have hpm2:pn2≤9223372036854775807:=hpm;have HML2:=AB hml;have l2:=((AA E9).cells.1 _ _ ll0).trans (hml 2 _ (rfl:_=some (Value.slice pA pn2 pc2)));have HLL0:=AB ll0;have ll:=Nat.lt_of_lt_of_le ll0 (AA E9).size;have hplen:yps.length=pn2:=RPc.recN pcC_len (by omega);have hyb:InM ly:=hLv.y;have hhb:InM lh:=hLv.h;have HPB:=AB hLv.ps;have ha3:-1≤a3∧a3<(pn2:Int):=by
            rcases hv3 with rfl|⟨i,z,rfl,h1,_⟩
            ·omega
            ·have:=(List.getElem?_eq_some_iff.1 h1).1;omega
           have hspan:yn+ly≤Y∧Y<yn+ly+lh:=by
            have h1:=hln;unfold lnIn spanB at h1;simp only[Bool.and_eq_true,decide_eq_true_eq] at h1;exact h1
           have HV3:=AB hv3;have HRPc:=AB RPc;unfold InM at hyb hhb;obtain⟨yb1,yb2⟩:=AA HYB;have hjI:(0:Int)≤(j:Int)∧(j:Int)<(ln:Int):=by omega
           have hjn:¬(ln:Int)≤(j:Int):=by omega
           have hpn3:¬(pn2:Int)≤a3:=by omega
           have BU:=(AA HBU).ext (AA E9);have u3:=(BU.cell 3).trans (rfl:_=some (Value.slice (some ⟨bf,of_,none⟩) n c));have lU:=BU.lt;have HF4:=AB f4;have HLF:=AB lf;clear BU hv HCV hj hfv hfm hLv hmf lf0 RL hlm hyl hml hpm RPc hln hv3 hlen ll0;go_upto_region 34 with fail;clear u3 lU f4 lf l2 ll hjn hpn3;have BU:=(AA HBU).ext (AA E9);have u3:=(BU.cell 3).trans (rfl:_=some (Value.slice (some ⟨bf,of_,none⟩) n c));have lU:=BU.lt;have f4:=AA HF4;have lf:=AA HLF;clear BU
           iterate 25 go_step
           refine wpList_load_midg 73 (.tmp 291) rfl bl (ol+j*3) rfl rfl (llC ⟨ly,lh,pA,pn2,pc2⟩) _ (fun q v hv=>by rw[(AA E9).cells.1 _ _ (AA HLL0)];exact (AA HML2) q v hv) Tryz.underlying73 rfl (llC_size _) ?_;simp only[AC];refine wpList_var rfl rfl 73 rfl 22 rfl (.tmp 292) rfl rfl (llC zLl).toArray (llC ⟨ly,lh,pA,pn2,pc2⟩).toArray llC_zero rfl rfl (llC_size _) rfl (by kernel_rfl) ?_;intro wl BL hx zl;simp only[AC];replace E9:=AB ((AA E9).trans hx);replace E7:=AB ((AA E7).trans hx);have HBL:=AB BL;clear u3 lU f4 lf hx zl HF4 HLF HML2 HLL0;obtain⟨bn,on,hA,ln_,hmn⟩:=((AA HR9).ext (AA E7)).rec_ rcC_len (plL_get (fs:=fs) hnd) (by omega);injection hA with hA;injection hA with hA hA2;subst hA hA2;rw[AA HRN] at hmn;have n1_:=hmn 1 _ (rfl:_=some (Value.int .i64 yn));have HMN:=AB (hmn 0 _ (rfl:_=some (Value.int .i64 xn)));have l0:=(BL.cell 0).trans (rfl:_=some (Value.int .i64 ly));have l1:=(BL.cell 1).trans (rfl:_=some (Value.int .i64 lh));have lL:=BL.lt;have w1:IntKind.i64.wrap (yn+ly)=yn+ly:=IntWalk.i64_in _ (by omega);have w2:IntKind.i64.wrap (yn+ly+lh)=yn+ly+lh:=IntWalk.i64_in _ (by omega);have s1:¬Y<yn+ly:=by omega
           have s2:¬yn+ly+lh≤Y:=by omega
           have hsb:(-9000000000000000000≤yn+ly∧yn+ly≤9000000000000000000)∧(-9000000000000000000≤yn+ly+lh∧yn+ly+lh≤9000000000000000000):=by omega
           clear hmn BL hspan yb1 yb2 hyb hhb;go_upto_region 35 with fail;go_cut [317] from 293 to 317 (fun vq wx=>vq=.bool false∧Hid (Ext wl wx))
           case first=>
            as_aux_lemma=>
            refine wp_region_ord [(1,0),(1,1),(1,2),(1,3),(1,4),(0,5),(1,6),(0,7),(1,8),(1,9),(1,10),(1,11),(1,12),(1,13),(1,14),(1,15),(0,16),(1,17),(0,18),(1,19),(1,20),(0,21),(1,22),(1,23),(1,24)] 25 (fun w'=>Ext wl w') (by kernel_rfl) (by kernel_rfl) rfl (by kernel_rfl) ((Ext.refl _).drew) ?_;simp only[AD]
            iterate 25 ((first|refine ordQE ?_|refine ordQF ?_|refine ordQC ?_|refine ordQD ?_);simp only[AC])
            refine ord_nil ?_;go_wp2_with fail;go_meet
            case rel=>exact⟨by first|rfl|(simp;omega),AB (Ext.refl wl).drew⟩
           case rest=>
            obtain⟨hq,E10⟩:=hcut;subst hq;replace E9:=AB ((AA E9).trans (AA E10));replace E7:=AB ((AA E7).trans (AA E10));replace HBL:=AB ((AA HBL).ext (AA E10));clear l0 l1 lL w1 w2 s1 s2 hsb n1_ E10 ln_ HMN;go_upto_if 317 with (fail);go_upto_region 37 with fail;go_cut [358] from 318 to 358 (fun vq wx=>vq=.bool false∧Hid (Ext wo wx))
            case first=>
             as_aux_lemma=>
             rcases AA HV3 with rfl|⟨i,z,rfl,hz,hin⟩
             ·refine wp_region_ord [(1,0),(1,1),(1,2),(1,3),(1,4),(1,5),(1,6),(1,7),(0,8),(1,9),(0,10),(1,11),(1,12),(1,13),(0,14),(1,15),(1,16),(1,17),(1,18),(1,19),(1,20),(1,21),(1,22),(0,23),(1,24),(0,25),(1,26),(1,27),(1,28),(0,29),(1,30),(1,31),(0,32),(1,33),(1,34),(1,35),(0,36),(1,37),(1,38),(1,39),(1,40)] 41 (fun w'=>Ext wc w') (by kernel_rfl) (by kernel_rfl) rfl (by kernel_rfl) ((Ext.refl _).drew) ?_;simp only[AD]
              iterate 41 (
               (first
                |(refine ord_skip (wanted_undef _ _ _ rfl rfl rfl) ?_)
                |(refine ord_skip0 (wanted_undef _ _ _ rfl rfl rfl) ?_)|refine ordQE ?_|refine ordQF ?_|refine ordQC ?_|refine ordQD ?_)
               simp only[AC])
              refine ord_nil ?_;go_wp2_with fail;go_meet
              case rel=>exact⟨rfl,AB (AA E7).drew⟩
             ·obtain⟨zx1,zw1⟩:=(AA HPB) z (List.mem_of_getElem? hz);unfold InM at zx1 zw1;obtain⟨bn,on,hA,ln_,hmn⟩:=((AA HR9).ext (AA E7)).rec_ rcC_len (plL_get (fs:=fs) hnd) (by omega);injection hA with hA;injection hA with hA hA2;subst hA hA2;rw[AA HRN] at hmn;have n0:=hmn 0 _ (rfl:_=some (Value.int .i64 xn));rw[Nat.add_zero] at n0;obtain⟨bq,oq,hA,lq,hmq⟩:=((AA HRPc).ext (AA E9)).rec_ pcC_len hz (by omega);subst hA;have z3:=hmq 3 _ (rfl:_=some (Value.int .i64 z.x));have z4:=hmq 4 _ (rfl:_=some (Value.int .i64 z.w));have hilt:=(List.getElem?_eq_some_iff.1 hz).1;have BL:=AA HBL;have l2:=(BL.cell 2).trans (rfl:_=some (Value.slice (some ⟨bq,oq,none⟩) pn2 pc2));have lL:=BL.lt;have hiI:(0:Int)≤(i:Int)∧(i:Int)<(pn2:Int):=by omega
              obtain⟨xb1,xb2⟩:=AA HXB;have hsp:xn+z.x≤X∧X<xn+z.x+z.w:=by
               have h1:=hin;unfold pcIn spanB at h1;simp only[Bool.and_eq_true,decide_eq_true_eq] at h1;exact h1
              obtain⟨zx,hzx⟩:∃x,z.x=x:=⟨_,rfl⟩
              obtain⟨zw,hzw⟩:∃x,z.w=x:=⟨_,rfl⟩
              rw[hzx] at z3 zx1 hsp;rw[hzw] at z4 zw1 hsp;have w1:IntKind.i64.wrap (xn+zx)=xn+zx:=IntWalk.i64_in _ (by omega);have w2:IntKind.i64.wrap (xn+zx+zw)=xn+zx+zw:=IntWalk.i64_in _ (by omega);have s1:¬X<xn+zx:=by omega
              have s2:¬xn+zx+zw≤X:=by omega
              have hsb:(-9000000000000000000≤xn+zx∧xn+zx≤9000000000000000000)∧(-9000000000000000000≤xn+zx+zw∧xn+zx+zw≤9000000000000000000):=by omega
              clear hmn BL hmq hzx hzw hin hz hsp xb1 xb2 zx1 zw1 ha3;refine wp_region_ord [(1,0),(1,1),(1,2),(1,3),(1,4),(1,5),(1,6),(1,7),(0,8),(1,9),(0,10),(1,11),(1,12),(1,13),(0,14),(1,15),(1,16),(1,17),(1,18),(1,19),(1,20),(1,21),(1,22),(0,23),(1,24),(0,25),(1,26),(1,27),(1,28),(0,29),(1,30),(1,31),(0,32),(1,33),(1,34),(1,35),(0,36),(1,37),(1,38),(1,39),(1,40)] 41 (fun w'=>Ext wc w') (by kernel_rfl) (by kernel_rfl) rfl (by kernel_rfl) ((Ext.refl _).drew) ?_;simp only[AD]
              iterate 41 ((first|refine ordQE ?_|refine ordQF ?_|refine ordQC ?_|refine ordQD ?_);simp only[AC])
              refine ord_nil ?_;go_wp2_with fail;go_meet
              case rel=>exact⟨by first|rfl|(simp;omega),AB (AA E7).drew⟩
            case rest=>
             obtain⟨hq,E11⟩:=hcut;subst hq;go_upto_if 358 with (fail);go_wp2_with fail;go_roundw
             case rel=>exact⟨k+1,by go_num,by omega,E11⟩
             case measure=>simp[intOf]<;>omega
      ·
       have hkpI:¬(k:Int)<(pn:Int):=by omega
       replace E1:=AB ((AA E1).trans (AA E9));go_upto_region 39 with fail;go_wp2_with fail;refine (works29_any _).mono ?_;rintro e w9 ⟨rfl,hx⟩;have HX:=AB hx;clear hx;go_wp2_with fail;go_ret;exact⟨rfl,(AA E1).trans (AA HX)⟩
end
end Go.Proofs.YtamldoocjjdidaaGreat
