import Derived.Test.YtamldoocjjdidaaGreatMHvP
import Derived.Test.YtamldoocjjdidaaGreatMHvT
namespace Go.Proofs.YtamldoocjjdidaaGreat
open Go.RowKit
set_option maxRecDepth 100000
set_option maxHeartbeats 64000000
def FrB (x:FV):Prop:=(-1073741824≤x.f.x∧x.f.x≤1073741824)∧(-1073741824≤x.f.y∧x.f.y≤1073741824)
theorem frag_row29:RowInfo 58 5:=rowInfo (z:=.agg (fgC zFg).toArray) fgC_info rfl
theorem own_blk29 {w:World} {B e k n c:Nat} {A:Option Addr} {xs:List Value} (h:w.ownsRow B e k (.slice A n c) n xs) (hn:0<n):∃g o,A=some ⟨g,o,none⟩∧o=0∧B≤g∧g<w.heap.size:=by
 rcases h.2 with ⟨_,h0⟩|⟨g,cap,cur,hv,hb,hg,_⟩
 ·omega
 ·injection hv with hA;exact⟨g,0,hA,rfl,hb,(Array.getElem?_eq_some_iff.1 hg).1⟩
theorem wpList_store_own {ops:Array Oper} {rest:List Oper} {o:Oper} {a:Act} {Q:Exit→Act→World→Prop} {w:World} (hgd:o.guard=none) (ty:TypeId) (x y:Operand) (ho:o.op=.store ty x y) (g i:Nat) (hx:a.eval x=.pointer (some ⟨g,i,none⟩)) (v:Value) (hy:a.eval y=v) (h1:v.oneCell'=true)
  {B e k n c of_:Nat} {xs:List Value} (hown:w.ownsRow B e k (.slice (some ⟨g,of_,none⟩) n c) n xs) (hlt:i<n*k) (hi:(Tryz.prog.info? ty).map (·.size)=some 1)
  (h:∀w1,w1.ownsRow B e k (.slice (some ⟨g,of_,none⟩) n c) n (xs.set i v)→w.grownBy w1 (some g)→w1.heap.size=w.heap.size→wpList Tryz.prog ops Q rest (a.put o.dst undef) w1):wpList Tryz.prog ops Q (o :: rest) a w:=by
 obtain⟨hl,⟨hv,_⟩|⟨g',cap,cur,hv,hb,hg,hc,hm,hs,ht⟩⟩:=hown
 ·injection hv with hA;cases hA
 ·injection hv with hA hn hcap;injection hA with hA;injection hA with hg' ho' _;subst hg' ho' hcap;have hle:n*k≤c*k:=Nat.mul_le_mul_right k hc;refine wpList_store_cell hgd ty x y ho g i hx v hy h1 e cur hg (by omega) hi fun w1 b1 g1 z1=>h w1 ⟨by rw[List.length_set];exact hl,.inr ⟨g,c,_,rfl,hb,b1,hc,hm,by rw[Array.size_setIfInBounds];exact hs,?_⟩⟩ g1 z1
  rw[Array.toList_setIfInBounds,List.take_set,ht]
theorem frs_mv {w:World} {A A':Option Addr} {n k:Nat} {fs:List FV} {v:FV} {dx dy:Int} (h:FrsIn w A n fs) (hv:fs[k]?=some v) (hr:Rd w 5 A' n (recs fgC ((fs.map FV.f).set k (mvF v.f dx dy)))):FrsIn w A' n (mvL fs k dx dy):=by
 have he:mvL fs k dx dy=fs.set k (mvV v dx dy):=by unfold mvL;rw[hv]
 have hm:∀x∈fs.set k (mvV v dx dy),∃y∈fs,x.ls=y.ls∧x.f.lA=y.f.lA∧x.f.ln=y.f.ln:=fun x hx=>by
  rcases List.mem_or_eq_of_mem_set hx with hx|rfl
  ·exact⟨x,hx,rfl,rfl,rfl⟩
  ·exact⟨v,List.mem_of_getElem? hv,rfl,rfl,rfl⟩
 rw[he];refine⟨?_,fun x hx=>?_,fun x hx y hy=>?_⟩
 ·rw[List.map_set];exact hr
 ·obtain⟨y,hy,h1,h2,h3⟩:=hm x hx;rw[h1,h2,h3];exact h.ls y hy
 ·obtain⟨z,hz,h1,h2,h3⟩:=hm x hx;rw[h1] at hy;exact h.ps z hz y hy
section
variable (t:Tr) (ns:List Nd) (av:List Int) (un:Nat→List Int)
theorem law_hitMoved (wh dx dy:Int) (PA:Option Addr) (pn pc:Nat) (ps:List Pt) (hwh:0≤wh∧wh≤255) (hdx:-2147483648≤dx∧dx≤2147483647) (hdy:-2147483648≤dy∧dy≤2147483647) (w:World) (h:TrIn w t ns av) (hm0:t.nl≤maxLen) (ha0:t.al≤maxLen) (hu:∀(i:Nat) (n:Nd),ns[i]?=some n→UnOk w n (un i))
  (hp:Rd w 4 PA pn (recs pntC ps)) (hpo:∀p∈ps,p.Ok) (hpn0:pn≤maxLen) :
  Calls Tryz.prog 4 #[.agg t.cs,.int .u8 wh,.int .i32 dx,.int .i32 dy,.slice PA pn pc] w fun e w'=>e=.returned (.bool true)∧Ext w w':=by
 have hul:∀(i:Nat) (n:Nd),ns[i]?=some n→n.s.ul≤maxLen:=fun i n hn=>Nat.le_trans (hu i n hn).2.2.1 (hu i n hn).2.2.2
 have HU:=AB hu;have HTr0:=AB h;have HP:=AB hp;have HPO:=AB hpo;have HM0:=AB hm0;have HA0:=AB ha0;have HUL:=AB hul;have hps:=AB (show ps.length=pn from hp.recN pntC_len (by omega));replace hpn0:pn≤9223372036854775807:=hpn0;clear hu h hp hpo hm0 ha0 hul;go_enter Tryz.func4,Tryz.ntmps4;go_upto_region 1 with fail;generalize hw1:World.alloc w _=w1;obtain⟨gT,hgT⟩:∃g,w.heap.size=g:=⟨_,rfl⟩
 have BT:Blk w1 gT 25 t.cs:=by rw[←hw1,←hgT];exact Blk.new _ _ _
 have E1:=AB (show Ext w w1 by rw[←hw1];exact (Ext.refl _).alloc _);rw[hgT];clear hgT hw1;have HWB:=AB (And.intro hwh (And.intro hdx hdy));clear hwh hdx hdy;have cF:=AB (few_any t ns av w1 ((AA HTr0).ext (AA E1)) (AA HM0) (AA HA0) (AA HUL));have t0:=(BT.cell 0).trans (rfl:_=some (Value.slice t.na t.nl t.nc));have t1:=(BT.cell 1).trans (rfl:_=some (Value.slice t.aa t.al t.ac));have t2:=(BT.cell 2).trans (rfl:_=some (Value.int .i64 t.view));have lT:=BT.lt;go_cut [45] from 32 to 45 (fun vq wx=>∃q:Bool,vq=.bool q∧Ext w1 wx∧Hid (q=false→FewP t ns∧t.nl≤120∧pn≤20))
 case first=>
  as_aux_lemma=>
  go_wp2_with fail
  with_reducible refine (AA cF).mono ?_
  rintro e w2 ⟨q,rfl,hx,hq⟩;replace BT:=BT.ext hx;have HX:=AB hx;have HQ:=AB hq;clear hx hq cF t0 t1 t2 lT;have t0:=(BT.cell 0).trans (rfl:_=some (Value.slice t.na t.nl t.nc));have lT:=BT.lt;clear BT;have hmx:(t.nl:Int)≤9223372036854775807:=by have:=AA HM0;unfold maxLen at this;omega
  cases q
  ·go_wp2_with fail;go_meet
   case rel=>exact⟨true,rfl,AA HX,AB (fun e=>by cases e)⟩
  ·have hq:=AA HQ;by_cases h1:120<t.nl
   ·have h1I:(120:Int)<(t.nl:Int):=by omega
    clear hq;go_wp2_with fail;go_meet
    case rel=>exact⟨true,rfl,AA HX,AB (fun e=>by cases e)⟩
   ·have h1I:¬(120:Int)<(t.nl:Int):=by omega
    clear hq;by_cases h2:20<pn
    ·have h2I:(20:Int)<(pn:Int):=by omega
     go_wp2_with fail;go_meet
     case rel=>exact⟨true,rfl,AA HX,AB (fun e=>by cases e)⟩
    ·have h2I:¬(20:Int)<(pn:Int):=by omega
     go_wp2_with fail;go_meet
     case rel=>exact⟨_,rfl,AA HX,AB (fun _=>⟨AA HQ (by first|trivial|rfl),by omega,by omega⟩)⟩
 case rest=>
  clear cF t0 t1 t2 lT;obtain⟨q,rfl,hx,HQ⟩:=hcut;replace BT:=BT.ext hx;replace E1:=AB ((AA E1).trans hx);clear hx;go_upto_if 45 with (fail);cases q
  case true=>
   go_upto_region 2 with fail;go_wp2_with fail;refine (works29_any _).mono ?_;rintro e w9 ⟨rfl,hx⟩;have HX:=AB hx;clear hx;go_wp2_with fail;go_ret;exact⟨rfl,(AA E1).trans (AA HX)⟩
  obtain⟨hfew,hnl,hpn⟩:=(AA HQ) (by first|trivial|rfl);have hm:t.nl≤1000:=by omega
  have ha:t.al≤1000:=by have:=hfew.al;omega
  have cL:=AB (layout25_w t ns av un wc ((AA HTr0).ext (AA E1)) (fun i n hn=>((AA HU) i n hn).ext (AA E1)) hfew);clear HQ hfew;go_upto_region 3 with fail;go_step;refine wpList_load_blk rfl 25 (.tmp 5) rfl gT rfl 25 t.cs _ BT Tryz.underlying25 rfl (info_tree _) ?_;simp only[AC];go_wp2_with fail
  with_reducible refine (AA cL).mono ?_
  rintro e w3 ⟨A1,A2,A3,A,n1,n2,n3,n,c1,c2,c3,c,z,er,rfl,hx,hlx⟩;replace BT:=BT.ext hx;replace E1:=AB ((AA E1).trans hx);have HLX:=AB hlx;clear hx hlx cL;dsimp only
  iterate 13 go_step
  refine wpList_var rfl rfl 30 rfl 11 rfl (.tmp 50) rfl rfl (tbC sl0 sl0 sl0 sl0).toArray (tbC (.slice A1 n1 c1) (.slice A2 n2 c2) (.slice A3 n3 c3) (.slice A n c)).toArray tb_zero rfl rfl (tb_size _ _ _ _) rfl (by kernel_rfl) ?_;intro wb BU hx z4;simp only[AC];have HBT:=AB (BT.ext hx);have HBU:=AB BU;replace E1:=AB ((AA E1).trans hx);replace HLX:=AB (fun e=>by have h1:=(AA HLX) e;exact (show (checkV ns av t.view).2=0∧n=t.nl∧∃fs:List FV,FrsIn wb A n fs∧fs.all fOk=true from ⟨h1.1,h1.2.1,h1.2.2.imp fun _ k=>⟨k.1.ext hx,k.2⟩⟩));generalize w3.heap.size=gU at *;clear hx z4 BT BU HU;have HTr:=AB ((AA HTr0).ext (AA E1));replace HP:=AB ((AA HP).ext (AA E1));clear HTr0;go_upto_region 4 with fail;go_cut [60] from 53 to 60 (fun vq wx=>∃q:Bool,vq=.bool q∧Hid (Ext wb wx)∧Hid (q=false→er=0))
  case first=>
   as_aux_lemma=>
   by_cases he:er=0
   ·have heb:(er != 0)=false:=by simp[he]
    obtain⟨h1,h2,fs,h3,h4⟩:=(AA HLX) he;have HFU:=AB h3;have cS:=AB (hSm t ns av A1 A2 A3 A n1 n2 n3 n c1 c2 c3 c fs wb (AA HTr) hm ha (AA HFU) (by unfold maxLen;omega) (AA HUL));have HE:=AB he;have E0:=AB (Ext.refl wb);clear he h1 h2 h3 h4;have BT:=(AA HBT).ext (AA E0);have t0:=(BT.cell 0).trans (rfl:_=some (Value.slice t.na t.nl t.nc));have t1:=(BT.cell 1).trans (rfl:_=some (Value.slice t.aa t.al t.ac));have t2:=(BT.cell 2).trans (rfl:_=some (Value.int .i64 t.view));have lT:=BT.lt;clear BT;have BU:=(AA HBU).ext (AA E0);have u0:=(BU.cell 0).trans (rfl:_=some (Value.slice A1 n1 c1));have u1:=(BU.cell 1).trans (rfl:_=some (Value.slice A2 n2 c2));have u2:=(BU.cell 2).trans (rfl:_=some (Value.slice A3 n3 c3));have u3:=(BU.cell 3).trans (rfl:_=some (Value.slice A n c));have lU:=BU.lt;clear BU;go_wp2_with fail
    with_reducible refine (AA cS).mono ?_
    rintro e w5 ⟨q,rfl,hx,hq⟩;have HX:=AB hx;clear hx hq cS t0 t1 t2 lT u0 u1 u2 u3 lU;go_wp2_with fail;go_meet
    case rel=>exact⟨_,rfl,HX,AB (fun _=>AA HE)⟩
   ·have heb:(er != 0)=true:=by simpa using he
    clear he;go_wp2_with fail;go_meet
    case rel=>exact⟨true,rfl,AB (Ext.refl _),AB (fun e=>by cases e)⟩
  case rest=>
   obtain⟨q,rfl,E,HQ⟩:=hcut;go_upto_if 60 with (fail);cases q
   case true=>
    as_aux_lemma=>
    replace E1:=AB ((AA E1).trans (AA E));go_upto_region 5 with fail;go_wp2_with fail;refine (works29_any _).mono ?_;rintro e w9 ⟨rfl,hx⟩;have HX:=AB hx;clear hx;go_wp2_with fail;go_ret;exact⟨rfl,(AA E1).trans (AA HX)⟩
   obtain⟨hck,hnt,fs,hfr,hall⟩:=(AA HLX) ((AA HQ) (by first|trivial|rfl));have HFr:=AB hfr;have HALL:=AB hall;have HTK:=AB (chk_ok t ns av wb (AA HTr) hm hck);have hgo:=AB (show goV t ns av n fs=true by unfold goV togB;rw[hck,hall];simp[hnt]);have hnl0:=(AA HTr).nodes.nlen;have HNL:=AB hnl0;have HNT:=AB hnt;have hn:n≤1000:=by omega
   have hpos:0<ns.length:=(AA HTK).pos;have hnsm:ns.length≤120:=by omega
   have hbd:=AB (show ∀i,i<1000→RcM (plN ns fs i) from fun i hi=>plN_bd ns (fun i=>fgN_bd hall i) hi);have hfb:=AB (show ∀i,FgM (fgN fs i) from fun i=>fgN_bd hall i);have hfl:=AB (show fs.length=n from hfr.len);clear HQ HLX hck hfr hall hnt hnl0;have cP:∀W,Ext wb W→Hid (Calls Tryz.prog 9 #[.agg t.cs,.agg #[.slice A1 n1 c1,.slice A2 n2 c2,.slice A3 n3 c3,.slice A n c]] W (PlsIs W true ns fs)):=fun W hx=>AB (by
    have h1:=hPl t ns av A1 A2 A3 A n1 n2 n3 n c1 c2 c3 c fs W ((AA HTr).ext hx) hm ha ((AA HFr).ext hx) hn
    rwa [AA hgo] at h1)
   have cA:∀px py W,Ext wb W→Hid (Calls Tryz.prog 12 #[.agg t.cs,.agg #[.slice A1 n1 c1,.slice A2 n2 c2,.slice A3 n3 c3,.slice A n c],.int .i64 px,.int .i64 py] W (HitIs W (atV true ns fs px py))):=fun px py W hx=>AB (by
    have h1:=hAt t ns av A1 A2 A3 A n1 n2 n3 n c1 c2 c3 c fs W ((AA HTr).ext hx) hm ha ((AA HFr).ext hx) hn px py
    rwa [AA hgo] at h1)
   go_upto_region 6 with fail;go_wp2_with fail;go_loopw [10,14] (fun _ v14 wq=>∃i:Nat,v14=.int .i64 i∧i≤n∧Hid (Ext wb wq)∧Hid (∀x∈fs.take i,FrB x)) (fun _ v14 _=>n-(intOf v14).toNat)
   case atStart=>exact⟨0,rfl,by omega,E,AB (by simp)⟩
   case round=>
    clear E;obtain⟨i,rfl,hi,E,HB⟩:=hrel;by_cases hin:i<n
    ·as_aux_lemma=>
     have hinI:(0:Int)≤(i:Int)∧(i:Int)<(n:Int):=by omega
     obtain⟨fv,hfv⟩:∃x,fs[i]?=some x:=⟨_,AE (by have:=AA hfl;omega)⟩
     obtain⟨bf,of_,hA,lf0,hmf⟩:=(AA HFr).rd.rec_ fgC_len (show (fs.map FV.f)[i]?=some fv.f by rw[List.getElem?_map,hfv];rfl) (by omega);subst hA;have HFV:=AB hfv;have hFB:FrB fv↔FrB fv:=Iff.rfl;unfold FrB at hFB;obtain⟨fx,hfx⟩:∃x,fv.f.x=x:=⟨_,rfl⟩
     obtain⟨fy,hfy⟩:∃x,fv.f.y=x:=⟨_,rfl⟩
     have f0:=((AA E).cells.1 _ _ lf0).trans (hmf 0 _ (rfl:_=some (Value.int .i64 fv.f.x)));rw[Nat.add_zero,hfx] at f0;have f1:=((AA E).cells.1 _ _ lf0).trans (hmf 1 _ (rfl:_=some (Value.int .i64 fv.f.y)));rw[hfy] at f1;have HFX:=AB (And.intro hfx hfy);have lf:=Nat.lt_of_lt_of_le lf0 (AA E).size;have BU:=(AA HBU).ext (AA E);have u3:=(BU.cell 3).trans (rfl:_=some (Value.slice (some ⟨bf,of_,none⟩) n c));have lU:=BU.lt;clear BU hmf hfv lf0 hFB hfx hfy;go_upto_region 9 with fail;go_cut [102] from 69 to 102 (fun vq wx=>∃q:Bool,vq=.bool q∧Hid (q=false→(-1073741824≤fx∧fx≤1073741824)∧(-1073741824≤fy∧fy≤1073741824))∧wx=wr)
     case first=>
      as_aux_lemma=>
      by_cases h1:1073741824<fx
      ·go_wp2_with fail;go_meet
       case rel=>exact⟨true,rfl,AB (fun e=>by cases e),rfl⟩
      ·by_cases h2:fx < -1073741824
       ·go_wp2_with fail;go_meet
        case rel=>exact⟨true,rfl,AB (fun e=>by cases e),rfl⟩
       ·by_cases h3:1073741824<fy
        ·go_wp2_with fail;go_meet
         case rel=>exact⟨true,rfl,AB (fun e=>by cases e),rfl⟩
        ·by_cases h4:fy < -1073741824
         ·go_wp2_with fail;go_meet
          case rel=>exact⟨true,rfl,AB (fun e=>by cases e),rfl⟩
         ·go_wp2_with fail;go_meet
          case rel=>exact⟨false,rfl,AB (fun _=>by omega),rfl⟩
     case rest=>
      obtain⟨q,rfl,HQ,hwc⟩:=hcut;subst hwc;clear f0 f1 lf u3 lU;go_upto_if 102 with (fail);cases q
      case true=>
       replace E1:=AB ((AA E1).trans (AA E));go_upto_region 10 with fail;go_wp2_with fail;refine (works29_any _).mono ?_;rintro e w9 ⟨rfl,hx⟩;have HX:=AB hx;clear hx;go_wp2_with fail;go_ret;exact⟨rfl,(AA E1).trans (AA HX)⟩
      go_wp2_with fail;go_roundw
      case rel=>
       refine⟨i+1,by go_num,by omega,E,AB (fun x hx=>?_)⟩;rw[List.take_add_one,AA HFV] at hx
       rcases List.mem_append.1 hx with hx|hx
       ·exact (AA HB) x hx
       ·have h2:x=fv:=by simpa using hx
        have h3:=(AA HQ) (by first|trivial|rfl);rw[←(AA HFX).1,←(AA HFX).2] at h3;rw[h2];exact h3
      case measure=>simp[intOf]<;>omega
    ·as_aux_lemma=>
     have hinI:¬(i:Int)<(n:Int):=by omega
     have hfb2:=AB (show ∀x∈fs,FrB x from by
      have h1:=AA HB
      rwa [List.take_of_length_le (by rw[AA hfl];omega)] at h1)
     clear HB;have BT:=(AA HBT).ext (AA E);have t0:=(BT.cell 0).trans (rfl:_=some (Value.slice t.na t.nl t.nc));have t1:=(BT.cell 1).trans (rfl:_=some (Value.slice t.aa t.al t.ac));have t2:=(BT.cell 2).trans (rfl:_=some (Value.int .i64 t.view));have lT:=BT.lt;clear BT;have BU:=(AA HBU).ext (AA E);have u0:=(BU.cell 0).trans (rfl:_=some (Value.slice A1 n1 c1));have u1:=(BU.cell 1).trans (rfl:_=some (Value.slice A2 n2 c2));have u2:=(BU.cell 2).trans (rfl:_=some (Value.slice A3 n3 c3));have u3:=(BU.cell 3).trans (rfl:_=some (Value.slice A n c));have lU:=BU.lt;clear BU;go_upto_region 11 with fail;go_wp2_with fail
     with_reducible refine (AA (cP _ (AA E))).mono ?_
     rintro e w5 ⟨A9,c9,rfl,R9,hx⟩;have HR9:=AB R9;have E5:=AB ((AA E).trans hx);clear hx R9 cP E t0 t1 t2 lT u0 u1 u2 u3 lU;obtain⟨m,hLm⟩:∃m,(plV true ns fs).length=m:=⟨_,rfl⟩
     have HML:=AB (show ns.length=m by have:=hLm;simpa[plV,plL_len] using this);rw[hLm] at HR9;rw[hLm];replace HR9:Hid (Rd w5 4 A9 m (recs rcC (plL ns fs))):=HR9;clear hLm;dsimp only;go_upto_region 12 with fail;go_step;refine wpList_load_blk rfl 30 (.tmp 11) rfl gU rfl 30 (tbC (.slice A1 n1 c1) (.slice A2 n2 c2) (.slice A3 n3 c3) (.slice A n c)).toArray _ ((AA HBU).ext (AA E5)) Tryz.underlying30 rfl (tb_size _ _ _ _) ?_;simp only[AC];refine wpList_var rfl rfl 30 rfl 17 rfl (.tmp 110) rfl rfl (tbC sl0 sl0 sl0 sl0).toArray (tbC (.slice A1 n1 c1) (.slice A2 n2 c2) (.slice A3 n3 c3) (.slice A n c)).toArray tb_zero rfl rfl (tb_size _ _ _ _) rfl (by kernel_rfl) ?_;intro wy BY hxy zy;simp only[AC];obtain⟨gY,hgY⟩:∃g,w5.heap.size=g:=⟨_,rfl⟩
     rw[hgY] at BY zy;rw[hgY];have E6:=AB ((AA E5).trans hxy);obtain⟨gz,hgz⟩:∃g,wy.heap.size=g:=⟨_,rfl⟩
     have hYz:gY<gz:=by omega
     clear zy;go_upto_region 13 with fail;obtain⟨i0,z0,h1i,h2i,h3i,-,-⟩:=frag_row29
     iterate 4 go_step
     clear h1i h2i h3i;have hxz:Ext wy (wy.alloc (.cells ([]:List Value).toArray 58)):=(Ext.refl _).alloc _;have O0:(wy.alloc (.cells ([]:List Value).toArray 58)).ownsRow wy.heap.size 58 5 (.slice (some ⟨wy.heap.size,0,none⟩) 0 0) 0 []:=⟨rfl,.inr ⟨wy.heap.size,0,#[],rfl,Nat.le_refl _,Blk.new _ _ _,Nat.le_refl _,by simp[maxLen],rfl,rfl⟩⟩
     have hzz:=hxz.size;generalize wy.alloc (.cells ([]:List Value).toArray 58)=wz at *;rw[hgz] at O0 hzz;have E7:=AB ((AA E6).trans hxz);have HFI:=AB frag_row29;have HRX:=AB (((AA HFr).ext (AA E7)).rd);have BU:=(AA HBU).ext (AA E7);have u3:=(BU.cell 3).trans (rfl:_=some (Value.slice A n c));have lU:=BU.lt;clear BU
     iterate 6 go_step
     clear u3 lU;refine wpList_push (W:=wy) rfl (.tmp 111) (.tmp 113) 28 rfl gz 58 5 Tryz.underlying28 HFI (by omega) _ 0 [] rfl O0 A n c (recs fgC (fs.map FV.f)) rfl (AA HRX) (recs_ones fgC_one _) (by omega) hxz (by omega) hzz ?_;intro A8 d8 w8 O8 X8 g8 at8;rw[Nat.zero_add,List.nil_append] at O8;rw[Nat.zero_add];simp only[AC];replace BY:=BY.ext X8;have E8:=AB ((AA E6).trans X8);have X58:=hxy.trans X8;clear at8 g8 O0 hxz HRX E7 E6 HFI X8 hxy;obtain⟨gq,oq,hA8,hoq,hgq,lq⟩:=own_blk29 O8 (by have:=AA HNT;have:=AA HNL;omega);have lY:=BY.lt
     iterate 3 go_step
     clear lY;refine wpList_store_one rfl 28 (.tmp 115) (.tmp 114) rfl gY 3 rfl (.slice A8 n d8) rfl rfl 30 (tbC (.slice A1 n1 c1) (.slice A2 n2 c2) (.slice A3 n3 c3) (.slice A n c)) BY (show 3<4 by decide) (by kernel_rfl) (tbC (.slice A1 n1 c1) (.slice A2 n2 c2) (.slice A3 n3 c3) (.slice A8 n d8)) rfl ?_;intro w9 BY9 g9 z9;simp only[AC];have O9:=own_grown O8 g9 (own_apart O8 (by omega));have X59:=X58.grownBlk g9 (by omega);have HBY:=AB BY9;clear O8 BY BY9 g9 E8 X58;have HO9:=AB O9;have HX59:=AB X59;have E9:=AB ((AA E5).trans X59);have hgYq:=AB (show gY<gq by omega);have hg5:=AB (show w5.heap.size≤gq by omega);subst hA8;have HOQ:=AB hoq;clear hoq;clear O9 X59 hYz hzz hgz hgY z9 lq hgq;obtain⟨hwh,hdx,hdy⟩:=AA HWB;obtain⟨wq,rfl⟩:∃q:Nat,wh=(q:Int):=⟨wh.toNat,by omega⟩
     obtain⟨k,hk⟩:∃k,wq % t.nl=k:=⟨_,rfl⟩
     have hnlp:0<t.nl:=by have:=AA HNL;omega
     have hkn:k<t.nl:=by rw[←hk];exact Nat.mod_lt _ hnlp
     have hkI:(0:Int)≤(k:Int)∧(k:Int)<(t.nl:Int):=by omega
     have hqk:(wq:Int).tmod (t.nl:Int)=(k:Int):=by rw[←hk,Int.tmod_eq_emod_of_nonneg (by omega)];exact_mod_cast rfl
     have hn0I:((t.nl:Int)==0)=false:=by simp;omega
     obtain⟨bn,on,hna,lbn,_⟩:=(AA HTr).nodes.at_ (by omega);have gk:=((AA HTr).nodes.ext (AA E9)).same hna (show k<ns.length by have:=AA HNL;omega);obtain⟨ky,hky⟩:∃x,nK ns k=x:=⟨_,rfl⟩
     rw[hky] at gk;have lb:=Nat.lt_of_lt_of_le lbn (AA E9).size;have BT:=(AA HBT).ext (AA E9);have t0:=(BT.cell 0).trans (rfl:_=some (Value.slice t.na t.nl t.nc));rw[hna] at t0;have lT:=BT.lt;clear BT hk hky hna lbn;go_upto_region 14 with fail;go_upto_if 129 with (fail);go_cut [18] from 18 to 18 (fun vq wx=>∃kk:Nat,vq=.int .i64 kk∧kk<t.nl∧wx=w9)
     case first=>
      as_aux_lemma=>
      by_cases h3:ky=3
      ·have h3b:(ky==3)=true:=by simpa using h3
       clear h3;go_wp2_with fail;go_meet
       case rel=>exact⟨0,by first|rfl|go_num,by omega,rfl⟩
      ·have h3b:(ky==3)=false:=by simpa using h3
       clear h3;go_wp2_with fail;go_meet
       case rel=>exact⟨k,rfl,hkn,rfl⟩
     case rest=>
      obtain⟨kk,rfl,hkk,hwc⟩:=hcut;subst hwc;clear t0 lT lb gk hqk hn0I hkI hkn;have hkkl:kk<fs.length:=by have:=AA HNT;have:=AA hfl;omega
      obtain⟨v,hv⟩:∃x,fs[kk]?=some x:=⟨_,AE hkkl⟩
      have HV:=AB hv;have hvb:=(AA hfb2) v (List.mem_of_getElem? hv);unfold FrB at hvb;have hfm:(fs.map FV.f)[kk]?=some v.f:=by rw[List.getElem?_map,hv];rfl
      have HFM:=AB hfm;obtain⟨fx,hfx⟩:∃x,v.f.x=x:=⟨_,rfl⟩
      obtain⟨fy,hfy⟩:∃x,v.f.y=x:=⟨_,rfl⟩
      rw[hfx,hfy] at hvb;have HFX:=AB (And.intro hfx hfy);have hkkI:(0:Int)≤(kk:Int)∧(kk:Int)<(n:Int):=by have:=AA HNT;omega
      have hknN:kk<n:=by omega
      have w1:IntKind.i64.wrap (fx+dx)=fx+dx:=IntWalk.i64_in _ (by omega);have w2:IntKind.i64.wrap (fy+dy)=fy+dy:=IntWalk.i64_in _ (by omega);obtain⟨b_,o_,hA,lf,hmf⟩:=(Rd.of_own (AA HO9)).rec_ fgC_len hfm (by omega);injection hA with hA;injection hA with hA hA2;subst hA hA2;have f0:=hmf 0 _ (rfl:_=some (Value.int .i64 v.f.x));rw[Nat.add_zero,hfx] at f0;have BY:=AA HBY;have y3:=(BY.cell 3).trans (rfl:_=some (Value.slice (some ⟨gq,oq,none⟩) n d8));have lY:=BY.lt;clear BY hmf hfx hfy hfm hv;go_upto_region 17 with fail
      iterate 34 go_step
      clear f0 y3 lY lf;refine wpList_store_own rfl 2 (.tmp 140) (.tmp 138) rfl gq (oq+kk*5) rfl (.int .i64 (fx+dx)) rfl rfl (AA HO9) (by rw[AA HOQ];omega) (by kernel_rfl) ?_;intro w10 O10 g10 z10;simp only[AC];have hs1:(recs fgC (fs.map FV.f)).set (oq+kk*5) (.int .i64 (fx+dx))=recs fgC ((fs.map FV.f).set kk ⟨fx+dx,v.f.y,v.f.w,v.f.h,v.f.lA,v.f.ln,v.f.lc⟩):=by
       rw[AA HOQ,Nat.zero_add];exact recs_set fgC_len (j:=0) (by decide) (AA HFM) rfl
      rw[hs1] at O10;have X10:=(AA HX59).grownBlk g10 (AA hg5);have BY:=(AA HBY).grownNe g10 (by have:=AA hgYq;omega);have HBY2:=AB BY;have hget:((fs.map FV.f).set kk ⟨fx+dx,v.f.y,v.f.w,v.f.h,v.f.lA,v.f.ln,v.f.lc⟩)[kk]?=some ⟨fx+dx,v.f.y,v.f.w,v.f.h,v.f.lA,v.f.ln,v.f.lc⟩:=List.getElem?_set_self (by rw[List.length_map];exact hkkl);obtain⟨b_,o_,hA,lf,hmf⟩:=(Rd.of_own O10).rec_ fgC_len hget (by omega);injection hA with hA;injection hA with hA hA2;subst hA hA2;have f1:=hmf 1 _ (rfl:_=some (Value.int .i64 v.f.y));rw[(AA HFX).2] at f1;have y3:=(BY.cell 3).trans (rfl:_=some (Value.slice (some ⟨gq,oq,none⟩) n d8));have lY:=BY.lt;have HO10:=AB O10;have HX10:=AB X10;have HGET:=AB hget;clear BY hmf HBY HX59 HO9 g10 O10 X10 hs1 hget z10 w1;go_upto_region 18 with fail
      iterate 34 go_step
      clear f1 y3 lY lf;refine wpList_store_own rfl 2 (.tmp 151) (.tmp 149) rfl gq (oq+kk*5+1) rfl (.int .i64 (fy+dy)) rfl rfl (AA HO10) (by rw[AA HOQ];omega) (by kernel_rfl) ?_;intro w11 O11 g11 z11;simp only[AC];have hs1:(recs fgC ((fs.map FV.f).set kk ⟨fx+dx,v.f.y,v.f.w,v.f.h,v.f.lA,v.f.ln,v.f.lc⟩)).set (oq+kk*5+1) (.int .i64 (fy+dy))=recs fgC ((fs.map FV.f).set kk (mvF v.f dx dy)):=by
       rw[AA HOQ,Nat.zero_add,recs_set fgC_len (j:=1) (y:=⟨fx+dx,fy+dy,v.f.w,v.f.h,v.f.lA,v.f.ln,v.f.lc⟩) (by decide) (AA HGET) rfl,List.set_set,←(AA HFX).1,←(AA HFX).2];rfl
      rw[hs1] at O11;have X11:=(AA HX10).grownBlk g11 (AA hg5);have HBY:=AB ((AA HBY2).grownNe g11 (by have:=AA hgYq;omega));have E11:=AB ((AA E5).trans X11);replace HR9:=AB ((AA HR9).ext X11);obtain⟨fs2,hfs2⟩:∃x,mvL fs kk dx dy=x:=⟨_,rfl⟩
      have HF2:=AB (show FrsIn w11 (some ⟨gq,oq,none⟩) n fs2 by rw[←hfs2];exact frs_mv ((AA HFr).ext (AA E11)) (AA HV) (Rd.of_own O11));have hgo2:=AB (show goV t ns av n fs2=true by
       have h1:=AA hgo;unfold goV togB at h1 ⊢;rw[←hfs2,fOk_mv (AA HALL) hkkl (fun x hx=>(AA hfb2) x hx) hdx hdy];rw[AA HALL] at h1;exact h1)
      have HFS2:=AB hfs2;have HKK:=AB hkkl;clear g11 X11 O11 hs1 hfs2 HGET HO10 HX10 HBY2 w2 hvb hfb2 HFM HV HFX z11 hgYq hg5 HOQ hkkl E9 E5;obtain⟨A8,hA8⟩:∃A,some (⟨gq,oq,none⟩:Addr)=A:=⟨_,rfl⟩
      rw[hA8] at HF2 HBY;clear hA8;have cA2:∀px py W,Ext w11 W→Hid (Calls Tryz.prog 12 #[.agg t.cs,.agg #[.slice A1 n1 c1,.slice A2 n2 c2,.slice A3 n3 c3,.slice A8 n d8],.int .i64 px,.int .i64 py] W (HitIs W (atV true ns fs2 px py))):=fun px py W hx=>AB (by
       have h1:=hAt t ns av A1 A2 A3 A8 n1 n2 n3 n c1 c2 c3 d8 fs2 W ((AA HTr).ext ((AA E11).trans hx)) hm ha ((AA HF2).ext hx) hn px py
       rwa [AA hgo2] at h1)
      have cP2:∀W,Ext w11 W→Hid (Calls Tryz.prog 9 #[.agg t.cs,.agg #[.slice A1 n1 c1,.slice A2 n2 c2,.slice A3 n3 c3,.slice A8 n d8]] W (PlsIs W true ns fs2)):=fun W hx=>AB (by
       have h1:=hPl t ns av A1 A2 A3 A8 n1 n2 n3 n c1 c2 c3 d8 fs2 W ((AA HTr).ext ((AA E11).trans hx)) hm ha ((AA HF2).ext hx) hn
       rwa [AA hgo2] at h1)
      have E0:=AB (Ext.refl w11);have BT:=(AA HBT).ext (AA E11);have t0:=(BT.cell 0).trans (rfl:_=some (Value.slice t.na t.nl t.nc));have t1:=(BT.cell 1).trans (rfl:_=some (Value.slice t.aa t.al t.ac));have t2:=(BT.cell 2).trans (rfl:_=some (Value.int .i64 t.view));have lT:=BT.lt;clear BT;have BY:=(AA HBY).ext (AA E0);have y0:=(BY.cell 0).trans (rfl:_=some (Value.slice A1 n1 c1));have y1:=(BY.cell 1).trans (rfl:_=some (Value.slice A2 n2 c2));have y2:=(BY.cell 2).trans (rfl:_=some (Value.slice A3 n3 c3));have y3:=(BY.cell 3).trans (rfl:_=some (Value.slice A8 n d8));have lY:=BY.lt;clear BY;go_upto_region 19 with fail;go_wp2_with fail
      with_reducible refine (AA (cP2 _ (AA E0))).mono ?_
      rintro e w12 ⟨A7,c7,rfl,R7,hx⟩;have HR7:=AB R7;replace HR9:=AB ((AA HR9).ext hx);have E12:=AB ((AA E11).trans hx);replace HBY:=AB ((AA HBY).ext hx);have EY:=AB hx;clear hx R7 cP2 E11 E0 t0 t1 t2 lT y0 y1 y2 y3 lY;obtain⟨m2,hLm⟩:∃m,(plV true ns fs2).length=m:=⟨_,rfl⟩
      have hm2:m2=m:=by have h1:=AA HML;have h2:(plL ns fs2).length=m2:=hLm;rw[plL_len] at h2;omega
      rw[hLm] at HR7;rw[hLm];subst hm2;clear hLm;replace HR7:Hid (Rd w12 4 A7 m2 (recs rcC (plL ns fs2))):=HR7;have hmI:0<m2∧m2≤120:=by have h1:=AA HML;omega
      dsimp only;go_upto_region 20 with fail;go_upto_region 22 with fail;go_wp2_with fail;obtain⟨wo,hwo⟩:∃x,x=w12:=⟨_,rfl⟩
      subst hwo;go_loopw [10,21,22] (fun _ v21 _ wq=>∃i:Nat,v21=.int .i64 i∧i≤m2∧Hid (Ext wo wq)) (fun _ v21 _ _=>m2-(intOf v21).toNat)
      case atStart=>exact⟨0,rfl,by omega,AB (Ext.refl _)⟩
      case round=>
       obtain⟨i,rfl,hi,E7⟩:=hrel;have E9:=AB ((AA E12).trans (AA E7));by_cases him:i<m2
       ·as_aux_lemma=>
        have hiI:(0:Int)≤(i:Int)∧(i:Int)<(m2:Int):=by omega
        have hil:i<ns.length:=by rw[AA HML];exact him
        have hit:(i:Int)<(t.nl:Int):=by have:=AA HNL;omega
        obtain⟨bp,op_,hA,lp0,hmi⟩:=(AA HR9).rec_ rcC_len (plL_get (fs:=fs) hil) (by omega);subst hA;have HMI:=AB hmi;have lp:=Nat.lt_of_lt_of_le lp0 (AA E7).size;have HLP:=AB lp0;have hbi:=(AA hbd) i (by omega);have hpl:=plN_mv ns fs (AA HKK) dx dy i;rw[AA HFS2] at hpl;obtain⟨ri,hri⟩:∃r,plN ns fs i=r:=⟨_,rfl⟩
        rw[hri] at HMI hbi hpl;obtain⟨xi,yi,wi,hi_⟩:=ri;obtain⟨xb1,xb2⟩:=hbi.x;obtain⟨yb1,yb2⟩:=hbi.y;simp only at xb1 xb2 yb1 yb2;have HPL:=AB hpl;clear hpl hri hbi lp0 hmi;go_upto_region 25 with fail
        iterate 10 go_step
        refine wpList_load_midg 33 (.tmp 179) rfl bp (op_+i*4) rfl rfl (rcC ⟨xi,yi,wi,hi_⟩) _ (fun q v hv=>by rw[(AA E7).cells.1 _ _ (AA HLP)];exact (AA HMI) q v hv) Tryz.underlying33 rfl (rcC_size _) ?_;simp only[AC];refine wpList_var rfl rfl 33 rfl 22 rfl (.tmp 180) rfl rfl (rcC zRc).toArray (rcC ⟨xi,yi,wi,hi_⟩).toArray rcC_zero rfl rfl (rcC_size _) rfl (by kernel_rfl) ?_;intro wv BW hx zv;simp only[AC];obtain⟨gW,hgW⟩:∃g,wr.heap.size=g:=⟨_,rfl⟩
        rw[hgW] at BW;rw[hgW];have hgo3:=AB (show wo.heap.size≤gW by rw[←hgW];exact (AA E7).size);replace E7:=AB ((AA E7).trans hx);replace E9:=AB ((AA E9).trans hx);have HBW:=AB BW;clear hx zv BW hgW lp HLP HMI;obtain⟨bn,on,hna,lbn,_⟩:=(AA HTr).nodes.at_ (by omega);have gk:=((AA HTr).nodes.ext (AA E9)).same hna hil;obtain⟨ky,hky⟩:∃x,nK ns i=x:=⟨_,rfl⟩
        rw[hky] at gk;have HKY:=AB hky;have lb:=Nat.lt_of_lt_of_le lbn (AA E9).size;have HNA:=AB hna;have hkl:kk<ns.length:=by have:=AA HNL;omega
        have cI:=fun W (hx:Ext wb W)=>AB (in29_any t ns i kk W (AA HTK) (((AA HTr).ext hx).nodes) hm hil hkl)
        obtain⟨sb,hsb⟩:∃b,sub ns kk i=b:=⟨_,rfl⟩
        rw[hsb] at cI;have HSB:=AB hsb;have BT:=(AA HBT).ext (AA E9);have t0:=(BT.cell 0).trans (rfl:_=some (Value.slice t.na t.nl t.nc));have t1:=(BT.cell 1).trans (rfl:_=some (Value.slice t.aa t.al t.ac));have t2:=(BT.cell 2).trans (rfl:_=some (Value.int .i64 t.view));have lT:=BT.lt;clear BT;rw[hna] at t0;clear hky hna lbn hsb;go_upto_region 26 with fail;go_cut [194] from 181 to 194 (fun vq wx=>∃q:Bool,vq=.bool q∧Hid (q=true↔(ky≠3∧sb=true))∧Hid (Ext wv wx))
        case first=>
         as_aux_lemma=>
         by_cases h3:ky=3
         ·have h3b:(ky != 3)=false:=by simpa using h3
          clear h3;go_wp2_with fail;go_meet
          case rel=>exact⟨false,rfl,AB (by simp at h3b;simp[h3b]),AB (Ext.refl _)⟩
         ·have h3b:(ky != 3)=true:=by simpa using h3
          clear h3;go_wp2_with fail;rw[←AA HNA]
          with_reducible refine (AA (cI _ (AA E9))).mono ?_
          rintro e wk ⟨rfl,hx⟩;have HX:=AB hx;clear hx;go_wp2_with fail;go_meet
          case rel=>exact⟨sb,rfl,AB (by simp at h3b;simp[h3b]),HX⟩
        case rest=>
         obtain⟨q,rfl,HQ,EX⟩:=hcut;replace E7:=AB ((AA E7).trans (AA EX));replace E9:=AB ((AA E9).trans (AA EX));replace HBW:=AB ((AA HBW).ext (AA EX));clear t0 t1 t2 lT gk lb EX cI;go_upto_if 194 with (fail);go_cut [] from 195 to 206 (fun wx=>Hid (Blk wx gW 33 (rcC (plN ns fs2 i)).toArray)∧Hid (Ext wo wx))
         case first=>
          as_aux_lemma=>
          cases q
          ·have hp2:plN ns fs2 i=⟨xi,yi,wi,hi_⟩:=by
            have h1:=AA HPL;rw[if_neg (fun h=>by
             rw[AA HKY,AA HSB] at h;have h2:=(AA HQ).2 h;cases h2)] at h1
            exact h1
           have HP2:=AB hp2;clear hp2;go_wp2_with fail;go_meet
           case rel=>exact⟨by rw[AA HP2];exact HBW,E7⟩
          ·have hp2:plN ns fs2 i=⟨xi+dx,yi+dy,wi,hi_⟩:=by
            have h1:=AA HPL;rw[if_pos (by rw[AA HKY,AA HSB];exact (AA HQ).1 rfl)] at h1;exact h1
           have HP2:=AB hp2;have w1:IntKind.i64.wrap (xi+dx)=xi+dx:=IntWalk.i64_in _ (by omega);have w2:IntKind.i64.wrap (yi+dy)=yi+dy:=IntWalk.i64_in _ (by omega);clear hp2;have BW:=AA HBW;have z0:=(BW.cell 0).trans (rfl:_=some (Value.int .i64 xi));have lW:=BW.lt;clear BW;go_upto_region 27 with fail
           iterate 19 go_step
           clear z0 lW;refine wpList_store_one rfl 2 (.tmp 200) (.tmp 199) rfl gW 0 rfl (.int .i64 (xi+dx)) rfl rfl 33 (rcC ⟨xi,yi,wi,hi_⟩) (AA HBW) (show 0<4 by decide) (by kernel_rfl) (rcC ⟨xi+dx,yi,wi,hi_⟩) rfl ?_;intro wk BW gk zk;simp only[AC];have E71:=AB ((AA E7).grownBlk gk (AA hgo3));have HBW1:=AB BW;have z1:=(BW.cell 1).trans (rfl:_=some (Value.int .i64 yi));have lW:=BW.lt;clear BW gk zk;go_upto_region 28 with fail
           iterate 19 go_step
           clear z1 lW;refine wpList_store_one rfl 2 (.tmp 206) (.tmp 205) rfl gW 1 rfl (.int .i64 (yi+dy)) rfl rfl 33 (rcC ⟨xi+dx,yi,wi,hi_⟩) (AA HBW1) (show 1<4 by decide) (by kernel_rfl) (rcC ⟨xi+dx,yi+dy,wi,hi_⟩) rfl ?_;intro wk2 BW gk zk;simp only[AC];have E72:=AB ((AA E71).grownBlk gk (AA hgo3));have HBW2:=AB BW;clear BW gk zk w1 w2;go_wp2_with fail;go_meet
           case rel=>exact⟨by rw[AA HP2];exact HBW2,E72⟩
         case rest=>
          obtain⟨HBW2,E71⟩:=hcut;obtain⟨bq2,oq2,hA,l20,hm2⟩:=(AA HR7).rec_ rcC_len (plL_get (fs:=fs2) hil) (by omega);subst hA;obtain⟨rw_,hrw⟩:∃r,plN ns fs2 i=r:=⟨_,rfl⟩
          rw[hrw] at HBW2 hm2;obtain⟨px,py,pw,ph⟩:=rw_;have l2:=Nat.lt_of_lt_of_le l20 (AA E71).size;have y0:=((AA E71).cells.1 _ _ l20).trans (hm2 0 _ (rfl:_=some (Value.int .i64 px)));rw[Nat.add_zero] at y0;have y1:=((AA E71).cells.1 _ _ l20).trans (hm2 1 _ (rfl:_=some (Value.int .i64 py)));have y2:=((AA E71).cells.1 _ _ l20).trans (hm2 2 _ (rfl:_=some (Value.int .i64 pw)));have y3:=((AA E71).cells.1 _ _ l20).trans (hm2 3 _ (rfl:_=some (Value.int .i64 ph)));have BW:=AA HBW2;have z0:=(BW.cell 0).trans (rfl:_=some (Value.int .i64 px));have z1:=(BW.cell 1).trans (rfl:_=some (Value.int .i64 py));have z2:=(BW.cell 2).trans (rfl:_=some (Value.int .i64 pw));have z3:=(BW.cell 3).trans (rfl:_=some (Value.int .i64 ph));have lW:=BW.lt;have heq:=eq_rc29 px py pw ph;clear BW hm2 l20 hrw HPL HQ E7 E9 HBW xb1 xb2 yb1 yb2;go_upto_region 29 with fail;refine wp_region_ord [(1,0),(1,1),(1,2),(0,3),(0,4),(1,5)] 6 (fun w'=>Ext wc w') (by kernel_rfl) (by kernel_rfl) rfl (by kernel_rfl) ((Ext.refl _).drew) ?_;simp only[AD]
          iterate 6 ((first|refine ordQA ?_|refine ordQB ?_);simp only[AC])
          refine ord_nil ?_;clear y0 y1 y2 y3 z0 z1 z2 z3 heq l2 lW;go_wp2_with fail;go_roundw
          case rel=>exact⟨i+1,by go_num,by omega,AB (AA E71).drew⟩
          case measure=>simp[intOf]<;>omega
       ·as_aux_lemma=>
        have hiI:¬(i:Int)<(m2:Int):=by omega
        replace HR9:=AB ((AA HR9).ext (AA E7));replace HBY:=AB ((AA HBY).ext (AA E7));replace EY:=AB ((AA EY).trans (AA E7));clear E7 E12 HR7;go_upto_region 31 with fail;go_wp2_with fail;obtain⟨wu,hwu⟩:∃x,x=wr:=⟨_,rfl⟩
        subst hwu;go_loopw [10,23,24,25,26,27,28,29,30,31] (fun _ v23 _ _ _ _ _ _ _ _ wq=>∃k:Nat,v23=.int .i64 k∧k≤pn∧Hid (Ext wu wq)) (fun _ v23 _ _ _ _ _ _ _ _ _=>pn-(intOf v23).toNat)
        case atStart=>exact⟨0,rfl,by omega,AB (Ext.refl _)⟩
        case round=>
         obtain⟨k,rfl,hk,E7⟩:=hrel;replace E9:=AB ((AA E9).trans (AA E7));by_cases hkp:k<pn
         ·by_cases hk0:kk=0
          ·as_aux_lemma=>
           have hk0b:((kk:Int)==0)=true:=by simp[hk0]
           have HK0:=AB hk0;clear hk0;have hkpI:(0:Int)≤(k:Int)∧(k:Int)<(pn:Int):=by omega
           obtain⟨p,hp⟩:∃p,ps[k]?=some p:=⟨_,AE (by have:=AA hps;omega)⟩
           have hpk:=(AA HPO) p (List.mem_of_getElem? hp);obtain⟨bp,op_,hA,lp,hmp⟩:=((AA HP).ext (AA E9)).rec_ pntC_len hp (by omega);subst hA;have cPt:=AB (point_any p hpk A9 m2 c9 (plL ns fs) wr ((AA HR9).ext (AA E7)) (fun r hr=>by
            obtain⟨i,hi,rfl⟩:=List.mem_map.1 hr;have:=(AA hbd) i (by have:=List.mem_range.1 hi;omega);exact⟨this.x,this.y⟩) (by omega))
           obtain⟨px,py,near,node⟩:=p;have q0:=hmp 0 _ (rfl:_=some (Value.int .i64 px));rw[Nat.add_zero] at q0;have q1:=hmp 1 _ (rfl:_=some (Value.int .i64 py));have q2:=hmp 2 _ (rfl:_=some (Value.bool near));have q3:=hmp 3 _ (rfl:_=some (Value.int .u8 node));clear hp hmp hpk;go_upto_region 34 with fail;clear hk0b;go_wp2_with fail;refine (AA cPt).mono ?_;rintro e w8 ⟨X,Y,rfl,hx⟩;replace E9:=AB ((AA E9).trans hx);replace E7:=AB ((AA E7).trans hx);clear hx cPt q0 q1 q2 q3 lp;go_upto_region 35 with fail;go_cut [245] from 232 to 245 (fun vq wx=>∃q:Bool,vq=.bool q∧Hid (q=false→(-1125899906842624≤X∧X≤1125899906842624)∧(-1125899906842624≤Y∧Y≤1125899906842624))∧wx=w8)
           case first=>
            as_aux_lemma=>
            by_cases h1:1125899906842624<X
            ·go_wp2_with fail;go_meet
             case rel=>exact⟨true,rfl,AB (fun e=>by cases e),rfl⟩
            ·by_cases h2:X < -1125899906842624
             ·go_wp2_with fail;go_meet
              case rel=>exact⟨true,rfl,AB (fun e=>by cases e),rfl⟩
             ·by_cases h3:1125899906842624<Y
              ·go_wp2_with fail;go_meet
               case rel=>exact⟨true,rfl,AB (fun e=>by cases e),rfl⟩
              ·by_cases h4:Y < -1125899906842624
               ·go_wp2_with fail;go_meet
                case rel=>exact⟨true,rfl,AB (fun e=>by cases e),rfl⟩
               ·go_wp2_with fail;go_meet
                case rel=>exact⟨false,rfl,AB (fun _=>by omega),rfl⟩
           case rest=>
            obtain⟨q,rfl,HQ,hwc⟩:=hcut;subst hwc;go_upto_if 245 with (fail);cases q
            case true=>
             go_wp2_with fail;go_roundw
             case rel=>exact⟨k+1,by go_num,by omega,E7⟩
             case measure=>simp[intOf]<;>omega
            as_aux_lemma=>
            have hXY:=(AA HQ) (by first|trivial|rfl);have hat:=AB (show atV true ns fs2 (X+dx) (Y+dy)=atV true ns fs X Y by
             rw[←AA HFS2,AA HK0];exact at_mv ns fs (AA HTK) (by have:=AA HKK;omega) X Y dx dy hXY.1 hXY.2 hdx hdy)
            clear HQ;have BT:=(AA HBT).ext (AA E9);have t0:=(BT.cell 0).trans (rfl:_=some (Value.slice t.na t.nl t.nc));have t1:=(BT.cell 1).trans (rfl:_=some (Value.slice t.aa t.al t.ac));have t2:=(BT.cell 2).trans (rfl:_=some (Value.int .i64 t.view));have lT:=BT.lt;clear BT;have BU:=(AA HBU).ext (AA E9);have u0:=(BU.cell 0).trans (rfl:_=some (Value.slice A1 n1 c1));have u1:=(BU.cell 1).trans (rfl:_=some (Value.slice A2 n2 c2));have u2:=(BU.cell 2).trans (rfl:_=some (Value.slice A3 n3 c3));have u3:=(BU.cell 3).trans (rfl:_=some (Value.slice A n c));have lU:=BU.lt;clear BU;go_upto_region 36 with fail;go_wp2_with fail
            with_reducible refine (AA (cA X Y _ (AA E9))).mono ?_
            rintro e wa ⟨rfl,hx⟩;replace E9:=AB ((AA E9).trans hx);replace E7:=AB ((AA E7).trans hx);clear hx cA t0 t1 t2 lT u0 u1 u2 u3 lU;have w1:IntKind.i64.wrap (X+dx)=X+dx:=IntWalk.i64_in _ (by omega);have w2:IntKind.i64.wrap (Y+dy)=Y+dy:=IntWalk.i64_in _ (by omega);have BT:=(AA HBT).ext (AA E9);have t0:=(BT.cell 0).trans (rfl:_=some (Value.slice t.na t.nl t.nc));have t1:=(BT.cell 1).trans (rfl:_=some (Value.slice t.aa t.al t.ac));have t2:=(BT.cell 2).trans (rfl:_=some (Value.int .i64 t.view));have lT:=BT.lt;clear BT;have BY:=(AA HBY).ext (AA E7);have y0:=(BY.cell 0).trans (rfl:_=some (Value.slice A1 n1 c1));have y1:=(BY.cell 1).trans (rfl:_=some (Value.slice A2 n2 c2));have y2:=(BY.cell 2).trans (rfl:_=some (Value.slice A3 n3 c3));have y3:=(BY.cell 3).trans (rfl:_=some (Value.slice A8 n d8));have lY:=BY.lt;clear BY;go_upto_region 37 with fail;go_wp2_with fail
            with_reducible refine (AA (cA2 (X+dx) (Y+dy) _ ((AA EY).trans (AA E7)))).mono ?_
            rintro e wa2 ⟨rfl,hx⟩;replace E9:=AB ((AA E9).trans hx);replace E7:=AB ((AA E7).trans hx);clear hx cA2 t0 t1 t2 lT y0 y1 y2 y3 lY w1 w2;rw[AA hat];obtain⟨V,hV⟩:∃V,atV true ns fs X Y=V:=⟨_,rfl⟩
            rw[hV];clear hat hV;obtain⟨a1,a2,a3⟩:=V;dsimp only;go_wp2_with fail;go_roundw
            case rel=>exact⟨k+1,by go_num,by omega,E7⟩
            case measure=>simp[intOf]<;>omega
          ·
           have hk0b:((kk:Int)==0)=false:=by simp;omega
           clear hk0;have hkpI:(0:Int)≤(k:Int)∧(k:Int)<(pn:Int):=by omega
           replace E1:=AB ((AA E1).trans (AA E9));go_upto_region 40 with fail;clear hk0b;go_wp2_with fail;refine (works29_any _).mono ?_;rintro e w9 ⟨rfl,hx⟩;have HX:=AB hx;clear hx;go_wp2_with fail;go_ret;exact⟨rfl,(AA E1).trans (AA HX)⟩
         ·
          have hkpI:¬(k:Int)<(pn:Int):=by omega
          replace E1:=AB ((AA E1).trans (AA E9));go_upto_region 40 with fail;go_wp2_with fail;refine (works29_any _).mono ?_;rintro e w9 ⟨rfl,hx⟩;have HX:=AB hx;clear hx;go_wp2_with fail;go_ret;exact⟨rfl,(AA E1).trans (AA HX)⟩
end
end Go.Proofs.YtamldoocjjdidaaGreat
namespace Go.Proofs.YtamldoocjjdidaaGreat
open Go.ChangeShapes Go.WideShapes Go.ChangeAt Go.RowKit
set_option maxRecDepth 100000
set_option maxHeartbeats 64000000
theorem hitMoved_spec {H:Type} (ds:List (DataW H)) (h:ds.length=Tryz.f4.params.toList.length):(Rows.hitMovedSpec.fn H ds).results=[.lit (.bool true)]∧(Rows.hitMovedSpec.fn H ds).args=ds∧(Rows.hitMovedSpec.fn H ds).vars=[]:=by
 match ds,h with
 |[d1,d2,d3,d4,d5],_=>exact⟨rfl,rfl,rfl⟩
theorem hitMoved_lifted (os:Os) (started:os.Started) (H:Type) (enc:TypeId×Value→H) :
  ReturnsInHanded {} Tryz.checked os 4 .any (Rows.hitMovedSpec.pre6 enc Tryz.prog Tryz.f4 Rows.hitMovedRow.domain false) (Rows.hitMovedSpec.post enc Tryz.prog Tryz.f4 false true false false):=by
 refine returnsInHanded_of_change (C:=Tryz.checked) own started (by kernel_rfl) Tryz.func4
  (ChangeSpec.witness6 (enc:=enc) (C:=Tryz.checked) false ⟨#[],#[.agg #[.slice none 0 0,.slice none 0 0,.int .i64 0],.int .u8 0,.int .i32 0,.int .i32 0,.slice none 0 0],[]⟩ 8 (by kernel_rfl) (by kernel_rfl) (by kernel_rfl) (by kernel_rfl)) ?_
 intro W base args ds gs before hval0 hW hcnd _;have hval:∀(j:Nat) t v,Tryz.f4.params[j]?=some t→args[j]?=some v→Value.okWide Tryz.prog W .any base t v:=hval0;have hW':=hW;refine law_post (P:=Tryz.prog) (fn:=Tryz.f4) (s:=Rows.hitMovedSpec) (tb:=4) laidOut (by kernel_rfl) rfl Tryz.underlying4 rfl hitMoved_spec hW' ?_;obtain⟨p,q,hA0,hV,rfl,hfz,hnd⟩:=hW;have hA:DataW.TrodAll enc Tryz.prog W 0 (fun _=>true) true Tryz.f4.params.toList args.toList ds p:=hA0;rw[Tryz.params4] at hA hval;obtain⟨v0,vs0,d0,ds0,p0,q0,hargs,rfl,rfl,h0,r0⟩:=trodAll_cons hA;obtain⟨v1,vs1,d1,ds1,p1,q1,rfl,rfl,rfl,h1,r1⟩:=trodAll_cons r0;obtain⟨v2,vs2,d2,ds2,p2,q2,rfl,rfl,rfl,h2,r2⟩:=trodAll_cons r1;obtain⟨v3,vs3,d3,ds3,p3,q3,rfl,rfl,rfl,h3,r3⟩:=trodAll_cons r2;obtain⟨v4,vs4,d4,ds4,p4,q4,rfl,rfl,rfl,h4,r4⟩:=trodAll_cons r3;obtain⟨rfl,rfl,rfl⟩:=trodAll_nil r4;obtain rfl:args=#[v0,v1,v2,v3,v4]:=by cases args;simp_all
 clear hW' hA0 hval0 hV hfz hnd hcnd hargs;obtain⟨a0,ns0,av0,un0,rfl,ti0,mn0,ma0,uk0⟩:=open_tree29 (hval 0 25 v0 rfl rfl) h0;obtain⟨a1,rfl,rfl,rfl,wf1⟩:=open_int Tryz.underlying5 (hval 1 5 v1 rfl rfl) h1;obtain⟨a2,rfl,rfl,rfl,wf2⟩:=open_int Tryz.underlying21 (hval 2 21 v2 rfl rfl) h2;obtain⟨a3,rfl,rfl,rfl,wf3⟩:=open_int Tryz.underlying21 (hval 3 21 v3 rfl rfl) h3;obtain⟨A4,n4,c4,ps4,rfl,rd4,pk4,mx4⟩:=open_points (hval 4 31 v4 rfl rfl) h4;clear hval;exact law_hitMoved a0 ns0 av0 un0 a1 a2 a3 A4 n4 c4 ps4 (bd_u8 wf1) (bd_i32 wf2) (bd_i32 wf3) W ti0 mn0 ma0 uk0 rd4 pk4 mx4
theorem hitMoved_holds:Rows.HitMovedSaid:=
 OpenClaim.holds_of_wide 4 Tryz.f4 rfl rfl rfl rfl rfl rfl rfl ⟨rfl,rfl,rfl,rfl,rfl⟩ rfl rfl rfl rfl rfl (by kernel_rfl) Tryz.func4 (by kernel_rfl)
  (of_decide_eq_true (by kernel_rfl)) (by unfold Func.isWrapper;first|(rw[if_pos (by decide +kernel)];kernel_rfl)|(rw[if_neg (by decide +kernel)];exact⟨rfl,rfl⟩))
  (fun os started H enc _=>hitMoved_lifted os started H enc)
end Go.Proofs.YtamldoocjjdidaaGreat
