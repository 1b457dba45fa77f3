import Derived.Test.YtamldoocjjdidaaGreatMHtF
import Derived.Test.YtamldoocjjdidaaGreatMEdK1
import Derived.Deep.LoopGhost
import Derived.Deep.CutBlock
namespace Go.Proofs.YtamldoocjjdidaaGreat
open Go.RowKit
set_option maxRecDepth 100000
set_option maxHeartbeats 64000000
def LetIs (w:World) (us:List Int) (i:Int) (e:Ending) (w':World):Prop:=e=.returned (.bool (letB us i))∧w=w'
theorem let_any (A:Option Addr) (n c:Nat) (i:Int) (us:List Int) (w:World) (ru:Rd w 1 A n (u16s us)) :
  Calls Tryz.prog 102 #[.slice A n c,.int .i64 i] w (LetIs w us i):=by
 have hN:us.length=n:=by have:=ru.len;rw[u16s_len] at this;omega
 by_cases h0:i<0
 ·have hv:letB us i=false:=by simp[letB];omega
  go_enter Tryz.func102,Tryz.ntmps102;go_wp2_with fail;go_ret;exact⟨by rw[hv];rfl,rfl⟩
 ·by_cases h1:(n:Int)≤i
  ·have hv:letB us i=false:=by simp[letB,List.getElem?_eq_none (show us.length≤i.toNat by omega)]
   have HV:=AB hv;clear hv;go_enter Tryz.func102,Tryz.ntmps102;go_wp2_with fail;go_ret;exact⟨by rw[AA HV];rfl,rfl⟩
  ·obtain⟨k,rfl⟩:∃k:Nat,i=(k:Int):=⟨i.toNat,by omega⟩
   have hkn:k<n:=by omega
   have hkI:(0:Int)≤(k:Int)∧(k:Int)<(n:Int):=by omega
   obtain⟨u,hu⟩:∃u,us[k]?=some u:=⟨_,AE (by omega)⟩
   obtain⟨b,off,rfl,_,_⟩:=ru.at_ (by omega);have cl:=ru.cellAt hkn (u16s_get hu);have cl1:=cl.1;have cl2:=cl.2;have HV:=AB (show letB us (k:Int)=(decide (u≠32)&&decide (u≠10)) by simp[letB,hu]);clear cl hu;by_cases h3:u=32
   ·subst h3;go_enter Tryz.func102,Tryz.ntmps102;go_wp2_with fail;go_ret;exact⟨by rw[AA HV];rfl,rfl⟩
   ·by_cases h4:u=10
    ·subst h4;go_enter Tryz.func102,Tryz.ntmps102;go_wp2_with fail;go_ret;exact⟨by rw[AA HV];rfl,rfl⟩
    ·have h3b:(u != 32)=true:=by simp;exact h3
     have h4b:(u != 10)=true:=by simp;exact h4
     replace HV:=AB (show letB us (k:Int)=true by rw[AA HV];simp;exact⟨h3,h4⟩);clear h3 h4;go_enter Tryz.func102,Tryz.ntmps102;go_wp2_with fail;go_ret;exact⟨by rw[AA HV];rfl,rfl⟩
def AdvIs (w:World) (vs:List Int) (e:Ending) (w':World):Prop:=∃z:Int,e=.returned (.int .i64 z)∧(z=0∨z∈vs)∧w=w'
theorem adv_any (A:Option Addr) (n c:Nat) (u:Int) (vs:List Int) (w:World) (ra:Rd w 1 A n (ints vs)) (hu:0≤u∧u≤65535) :
  Calls Tryz.prog 104 #[.int .u16 u,.slice A n c] w (AdvIs w vs):=by
 have hN:vs.length=n:=by have:=ra.len;rw[ints_len] at this;omega
 by_cases h1:(n:Int)≤u
 ·go_enter Tryz.func104,Tryz.ntmps104;go_wp2_with fail
  all_goals go_ret
  all_goals exact⟨_,rfl,.inl rfl,rfl⟩
 ·obtain⟨k,rfl⟩:∃k:Nat,u=(k:Int):=⟨u.toNat,by omega⟩
  have hkn:k<n:=by omega
  have hkI:(0:Int)≤(k:Int)∧(k:Int)<(n:Int):=by omega
  obtain⟨a,ha⟩:∃u,vs[k]?=some u:=⟨_,AE (by omega)⟩
  obtain⟨b,off,rfl,_,_⟩:=ra.at_ (by omega);have cl:=ra.cellAt hkn (show (ints vs)[k]?=some (Value.int .i64 a) by rw[ints,List.getElem?_map,ha];rfl);have cl1:=cl.1;have cl2:=cl.2;have hm:=AB (List.mem_of_getElem? ha);clear cl ha;go_enter Tryz.func104,Tryz.ntmps104;go_wp2_with fail
  all_goals go_ret
  all_goals exact⟨_,rfl,.inr (AA hm),rfl⟩
def CutI2 (w:World) (e:Ending) (w':World):Prop:=∃(z:Int) (b:Bool),e=.returned (.tuple #[.int .i64 z,.bool b])∧InM z∧Ext w w'
theorem cutV_in (x:Int):InM (cutV x):=by unfold InM cutV;split<;>(try split)<;>omega
theorem int_row:RowInfo 2 1:=rowInfo (z:=.int .i64 0) (by kernel_rfl) rfl
theorem wide_any (A Aa:Option Addr) (n c na ca:Nat) (us vs:List Int) (w:World) (ru:Rd w 1 A n (u16s us)) (hn:n≤20000) (ra:Rd w 1 Aa na (ints vs)) (hu:∀u∈us,0≤u∧u≤65535) (hv:∀a∈vs,0≤a∧a≤1099511627776) :
  Calls Tryz.prog 103 #[.slice A n c,.slice Aa na ca] w (CutI2 w):=by
 have hN:us.length=n:=by have:=ru.len;rw[u16s_len] at this;omega
 have HI:=AB int_row;have HN:=AB hN;have HU:=AB hu;have HVV:=AB hv;clear hN hu hv;have cA:=fun u w h hu=>AB (adv_any Aa na ca u vs w h hu)
 go_enter Tryz.func103,Tryz.ntmps103;go_wp2_with fail;go_loopw [6,7] (fun v i wr=>∃(k:Nat) (Al:Option Addr) (cl:Nat) (l:List Int),i=.int .i64 k∧v=.slice Al k cl∧k≤n∧Ext w wr∧Hid (∀z∈l,0≤z∧z≤1099511627776)∧wr.ownsRow w.heap.size 2 1 (.slice Al k cl) k (ints l)) (fun _ i _=>n-(intOf i).toNat)
 case atStart=>exact⟨0,none,0,[],rfl,rfl,by omega,Ext.refl _,AB (by simp),own_nil _ _ _ _⟩
 case round=>
  obtain⟨k,Al,cl,l,rfl,rfl,hk,E,HL,O⟩:=hrel;by_cases hkn:k<n
  ·have hkI:(0:Int)≤(k:Int)∧(k:Int)<(n:Int):=by omega
   obtain⟨u,hu⟩:∃u,us[k]?=some u:=⟨_,AE (by have:=AA HN;omega)⟩
   obtain⟨b,off,rfl,_,_⟩:=ru.at_ (by omega);have cl0:=(ru.ext E).cellAt hkn (u16s_get hu);have cl1:=cl0.1;have cl2:=cl0.2;have hub:=(AA HU) u (List.mem_of_getElem? hu);clear cl0 hu;go_wp2_with fail
   with_reducible refine (AA (cA u _ (ra.ext E) hub)).mono ?_
   rintro e w2 ⟨z,rfl,hz,rfl⟩;have HZ:Hid (0≤z∧z≤1099511627776):=AB (by
    rcases hz with rfl|hz
    ·omega
    ·exact (AA HVV) z hz)
   clear hz cl1 cl2 hub;go_wp2_with (first
    |(at_builtin
      refine wpList_push (W:=w) rfl (.tmp 14) (.tmp 21) _ rfl w.heap.size 2 1 Tryz.underlying23 HI (by omega) _ k (ints l) rfl (own_ext O ((Ext.refl _).alloc _)) _ 1 1 [.int .i64 z] rfl (Rd.one _ _) (by simp[Value.oneCell']) (by omega) (E.alloc _) (Nat.le_refl _) (E.alloc _).size ?_;intro A4 c4 w4 O4 E4 g4 at4;clear at4 g4))
   go_roundw
   case rel=>exact⟨k+1,A4,c4,l++[z],by go_num,rfl,by omega,E4,AB (by
    intro y hy
    rcases List.mem_append.1 hy with hy|hy
    ·exact (AA HL) y hy
    ·obtain rfl:=List.mem_singleton.1 hy;exact AA HZ),by simpa[ints_append,ints] using O4⟩
   case measure=>simp[intOf];omega
  ·have hkI:¬(k:Int)<(n:Int):=by omega
   have cS:=AB (refsum_any Al k cl l wr (Rd.of_own O) (fun z hz=>by have:=(AA HL) z hz;omega) (by omega));obtain⟨z,hz⟩:∃z,cutV (lsum l)=z:=⟨_,rfl⟩
   obtain⟨p,hp⟩:∃z,cutB (lsum l)=z:=⟨_,rfl⟩
   rw[hz,hp] at cS;have HM:=AB (show InM z by rw[←hz];exact cutV_in _);clear hz hp;go_wp2_with fail
   with_reducible refine (AA cS).mono ?_
   rintro e w2 ⟨rfl,hx⟩;go_wp2_with fail;go_ret2;exact⟨z,p,rfl,AA HM,E.trans hx⟩
def ExtentIs (w:World) (e:Ending) (w':World):Prop:=∃(a g:Int) (b:Bool),e=.returned (.tuple #[.int .i64 a,.int .i64 g,.bool b])∧InM a∧InM g∧0≤g∧Ext w w'
theorem InM.max {a b:Int} (ha:InM a) (hb:InM b):InM (max a b):=by unfold InM at *;omega
theorem InM0:InM 0:=by unfold InM;omega
theorem InM.i64 {a:Int} (h:InM a):-9223372036854775808≤a∧a≤9223372036854775807:=by unfold InM at h;omega
theorem extent_any (A:Option Addr) (n c:Nat) (ws:List Wd) (w:World) (rw_:Rd w 5 A n (recs wrdC ws)) (hn:n≤5000) (hw:∀x∈ws,InM x.w∧InM x.gap) :
  Calls Tryz.prog 78 #[.slice A n c] w (ExtentIs w):=by
 have hN:=rw_.recN wrdC_len (by omega);have HI:=AB int_row;have HN:=AB hN;have HWO:=AB hw;have cS:=fun (A:Option Addr) (n c:Nat) (zs:List Int) w h1 h2 h3=>AB (refsum_any A n c zs w h1 h2 h3)
 clear hN hw;go_enter Tryz.func78,Tryz.ntmps78;go_wp2_with fail;go_loopw [5,6,7,8] (fun v5 v6 v7 v8 wr=>∃(k:Nat) (le gr:Int) (fr:Bool),v8=.int .i64 k∧v5=.int .i64 le∧v6=.int .i64 gr∧v7=.bool fr∧k≤n∧Hid (InM le)∧Hid (InM gr∧0≤gr)∧Ext w wr) (fun _ _ _ v8 _=>n-(intOf v8).toNat)
 case atStart=>exact⟨0,0,0,false,rfl,rfl,rfl,rfl,by omega,AB InM0,AB ⟨InM0,by omega⟩,Ext.refl _⟩
 case round=>
  obtain⟨k,le,gr,fr,rfl,rfl,rfl,rfl,hk,HLE,HGR,E⟩:=hrel;by_cases hkn:k<n
  ·have hkI:(0:Int)≤(k:Int)∧(k:Int)<(n:Int):=by omega
   obtain⟨f,hf⟩:∃f,ws[k]?=some f:=⟨_,AE (by have:=AA HN;omega)⟩
   have HF:=AB ((AA HWO) f (List.mem_of_getElem? hf));obtain⟨b,off,hA,lb,hm⟩:=(rw_.ext E).rec_ wrdC_len hf (by omega);have c2:=hm 2 _ (show (wrdC f)[2]?=some (Value.int .i64 f.w) from rfl);have c4:=hm 4 _ (show (wrdC f)[4]?=some (Value.int .i64 f.forced) from rfl);obtain⟨x1,x2,fw,fg,ff⟩:=f;simp only at c2 c4 HF;have HA:=AB hA;subst hA;clear hm hf;go_upto_region 7 with fail;go_cut [29] from 13 to 91 (fun v29 wx=>∃b:Bool,v29=.bool b∧wx=wr)
   case first=>
    by_cases h0:k=0
    ·have z0:((k:Int)==0)=true:=by simp;omega
     have H0:=AB h0;clear h0;go_wp2_with fail;go_meet
     case rel=>exact⟨true,rfl,rfl⟩
    ·have z0:((k:Int)==0)=false:=by simp;omega
     clear h0;obtain⟨t,ht⟩:∃t,decide (le<fw)=t:=⟨_,rfl⟩
     go_wp2_with fail;go_meet
     case rel=>exact⟨t,rfl,rfl⟩
   case rest=>
    obtain⟨b29,rfl,rfl⟩:=hcut;go_upto_if 29 with (fail);go_cut [5] from 13 to 91 (fun v5 wx=>∃le':Int,v5=.int .i64 le'∧Hid (InM le')∧wx=wc)
    case first=>
     cases b29
     ·go_wp2_with fail;go_meet
      case rel=>exact⟨le,rfl,HLE,rfl⟩
     ·go_wp2_with fail;go_meet
      case rel=>exact⟨fw,rfl,AB (AA HF).1,rfl⟩
    case rest=>
     clear HLE;obtain⟨le',rfl,HLE,rfl⟩:=hcut;go_upto_region 9 with fail;go_cut [44] from 13 to 91 (fun v44 wx=>∃b:Bool,v44=.bool b∧wx=wc)
     case first=>
      by_cases h1:0<k
      ·have h1I:(0:Int)<(k:Int):=by omega
       obtain⟨t,ht⟩:∃t,decide (ff≤0)=t:=⟨_,rfl⟩
       go_wp2_with fail;go_meet
       case rel=>exact⟨t,rfl,rfl⟩
      ·have h1b:decide ((0:Int)<(k:Int))=false:=by simp;omega
       have h1n:¬(0:Int)<(k:Int):=by omega
       clear h1;go_wp2_with fail;go_meet
       case rel=>exact⟨false,rfl,rfl⟩
     case rest=>
      obtain⟨b44,rfl,rfl⟩:=hcut;cases b44
      ·go_upto_block 2 with fail
       have BR:Blk (wc.alloc (.cells #[.int .i64 fw] 2)) wc.heap.size 2 #[.int .i64 fw]:=Blk.new _ _ _;have E1:=E.alloc (.cells #[.int .i64 fw] 2);have O1:=BR.own (base:=w.heap.size) (n:=1) E.size rfl (by unfold maxLen;omega);clear BR;generalize wc.alloc (.cells #[.int .i64 fw] 2)=w1 at *;generalize wc.heap.size=gr1 at *;go_cut [9,10] from 53 to 79 (fun v9 v10 wx=>∃(A:Option Addr) (p c:Nat) (zs:List Int),v9=.slice A p c∧p≤2*n∧Hid (∀z∈zs,InM z)∧Ext w wx∧wx.ownsRow w.heap.size 2 1 (.slice A p c) p (ints zs))
       case first=>
        go_wp2_with fail;go_loopw [9,10] (fun v9 v10 wq=>∃(q p:Nat) (A:Option Addr) (c1:Nat) (zs:List Int),v10=.int .i64 q∧v9=.slice A p c1∧k<q∧q≤n∧p+1≤2*q∧Hid (∀z∈zs,InM z)∧Ext w wq∧wq.ownsRow w.heap.size 2 1 (.slice A p c1) p (ints zs)) (fun _ v10 _=>n-(intOf v10).toNat)
        case atStart=>exact⟨k+1,1,some ⟨gr1,0,none⟩,1,[fw],by go_num,rfl,by omega,by omega,by omega,AB (by simp;exact (AA HF).1),E1,O1⟩
        case round=>
         clear E1 O1;generalize hwq:wr=wq at *;clear hwq;obtain⟨q,p,A,c1,zs,rfl,rfl,hkq,hq,hp,HZ,E1,O1⟩:=hrel;by_cases hqn:q<n
         ·have hqI:(0:Int)≤(q:Int)∧(q:Int)<(n:Int):=by omega
          obtain⟨f,hf⟩:∃f,ws[q]?=some f:=⟨_,AE (by have:=AA HN;omega)⟩
          have HF2:=AB ((AA HWO) f (List.mem_of_getElem? hf));obtain⟨b',off',hA',lb',hm'⟩:=(rw_.ext E1).rec_ wrdC_len hf (by omega);injection hA' with hA';injection hA' with hb' ho';subst hb' ho';have c2':=hm' 2 _ (show (wrdC f)[2]?=some (Value.int .i64 f.w) from rfl);have c3':=hm' 3 _ (show (wrdC f)[3]?=some (Value.int .i64 f.gap) from rfl);have c4':=hm' 4 _ (show (wrdC f)[4]?=some (Value.int .i64 f.forced) from rfl);obtain⟨y1,y2,gw,gg,gf⟩:=f;simp only at c2' c3' c4' HF2;clear hm' hf;by_cases hgf:gf≤0
          ·go_upto_region 14 with fail;refine wp_region_ord [(1,0),(1,1),(1,2),(1,3),(1,4),(0,5),(1,6),(1,7),(1,8),(1,9),(0,10),(3,11),(3,12),(1,13)] 11 (fun w'=>Ext wq w') (by kernel_rfl) (by kernel_rfl) rfl (by kernel_rfl) ((Ext.refl _).drew) ?_;simp only[AD]
           iterate 11 ((first|refine ordQA ?_|refine ordQB ?_);simp only[AC])
           have HX:=AB (E1.trans (Ext.refl wq).drew);have O2:=own_ext O1 (Ext.refl wq).drew;clear E1 O1 lb' c2' c3' c4';generalize World.drew wq=wd at *;refine ord_last ?_;refine Go.Great.wpList_buildSliceTo rfl 23 2 2 _ rfl _ rfl _ rfl Tryz.underlying23 (ints [gw,gg]).toArray (by kernel_rfl) ?_;simp only[AC];have hx:Ext wd (wd.alloc (.cells (ints [gw,gg]).toArray 2)):=(Ext.refl _).alloc _;have R5:Rd (wd.alloc (.cells (ints [gw,gg]).toArray 2)) 1 (some ⟨wd.heap.size,0,none⟩) 2 (ints [gw,gg]):=(Blk.new wd 2 (ints [gw,gg]).toArray).rdk (n:=2) (k:=1) rfl;replace HX:=AB ((AA HX).trans hx);replace O2:=own_ext O2 hx;clear hx;refine⟨rfl,?_⟩;refine ord_last ?_;refine wpList_push (W:=w) rfl (.tmp 67) (.tmp 78) 23 rfl w.heap.size 2 1 Tryz.underlying23 HI (by omega) _ p (ints zs) rfl O2 _ 2 2 (ints [gw,gg]) rfl R5 (one_ints _) (by omega) (AA HX) (Nat.le_refl _) (AA HX).size ?_;intro A4 c4 w2 O4 E4 g4 at4;simp only[AC];refine⟨rfl,?_⟩
           iterate 1 ((first|refine ordQA ?_|refine ordQB ?_);simp only[AC])
           refine ord_nil ?_;clear g4 at4 O2 R5 HX;go_wp2_with fail;go_roundw
           case rel=>exact⟨q+1,p+2,A4,c4,zs++[gw,gg],by go_num,rfl,by omega,by omega,by omega,AB (by
            intro y hy
            rcases List.mem_append.1 hy with hy|hy
            ·exact (AA HZ) y hy
            ·simp only[List.mem_cons,List.not_mem_nil,or_false] at hy
             rcases hy with rfl|rfl
             ·exact (AA HF2).1
             ·exact (AA HF2).2),E4,by rw[ints_append];exact O4⟩
           case measure=>simp[intOf];omega
          ·have hgfb:decide (gf≤0)=false:=by simp;omega
           go_wp2_with fail;go_meet
           case rel=>exact⟨A,p,c1,zs,rfl,by omega,HZ,E1,O1⟩
         ·have hqI:decide ((q:Int)<(n:Int))=false:=by simp;omega
          have hqI2:¬(q:Int)<(n:Int):=by omega
          go_wp2_with fail;go_meet
          case rel=>exact⟨A,p,c1,zs,rfl,by omega,HZ,E1,O1⟩
       case rest=>
        obtain⟨A2,p2,c2',zs,rfl,hp2,HZ,E2,O2⟩:=hcut;have cc:=AB (refsum_any A2 p2 c2' zs wc (Rd.of_own O2) (fun z hz=>((AA HZ) z hz).i64) (by omega));obtain⟨z,hz⟩:∃z,cutV (lsum zs)=z:=⟨_,rfl⟩
        obtain⟨pb,hpb⟩:∃z,cutB (lsum zs)=z:=⟨_,rfl⟩
        rw[hz,hpb] at cc;have HM:=AB (show InM z by rw[←hz];exact cutV_in _);clear hz hpb cS;obtain⟨mx,hmx⟩:∃y,max gr z=y:=⟨_,rfl⟩
        have HMX:=AB (show InM mx∧0≤mx by
         rw[←hmx];exact⟨(AA HGR).1.max (AA HM),by have:=(AA HGR).2;omega⟩)
        go_wp2_with fail
        with_reducible refine (AA cc).mono ?_
        rintro e w3 ⟨rfl,hx⟩;replace E2:=E2.trans hx;clear hx O2;cases fr
        all_goals
         go_wp2_with fail;go_roundw
         case rel=>exact⟨k+1,le',mx,_,by go_num,rfl,rfl,rfl,by omega,HLE,HMX,E2⟩
         case measure=>simp[intOf];omega
      ·go_wp2_with fail;go_roundw
       case rel=>exact⟨k+1,le',gr,fr,by go_num,rfl,rfl,rfl,by omega,HLE,HGR,E⟩
       case measure=>simp[intOf];omega
  ·have hkI:¬(k:Int)<(n:Int):=by omega
   go_wp2_with fail;refine bodyPost_ret (v:=.tuple #[.int .i64 le,.int .i64 gr,.bool fr]) (by simp[results,Tryz.results78,go_sem]) rfl ?_;exact⟨le,gr,fr,rfl,AA HLE,(AA HGR).1,(AA HGR).2,E⟩
theorem letB_lt {us:List Int} {k:Nat} (h:letB us (k:Int)=true):k<us.length:=by
 unfold letB at h
 rcases Nat.lt_or_ge k us.length with h1|h1
 ·exact h1
 ·rw[List.getElem?_eq_none (by simpa using h1)] at h;simp at h
structure WdOk (n:Nat) (x:Wd):Prop where
 (f:0≤x.f) (t:x.f≤x.t) (e:x.t≤(n:Int)) (w:InM x.w) (g:InM x.gap) (fo:0≤x.forced∧x.forced≤(n:Int))
theorem Rd.sub1 {w:World} {b off n:Nat} {xs:List Value} (h:Rd w 1 (some ⟨b,off,none⟩) n xs) {i j:Nat} (hij:i≤j) (hj:j≤n):Rd w 1 (some ⟨b,off+i,none⟩) (j-i) ((xs.drop i).take (j-i)):=by
 have hl:=h.len;refine⟨by rw[List.length_take,List.length_drop];omega,fun hn=>?_⟩;obtain⟨b',off',h1,h2,h3⟩:=h.at_ (by omega);injection h1 with h1;injection h1 with h1 h4;subst h1 h4;refine⟨b,off+i,rfl,h2,fun q u hu=>?_⟩;rw[List.getElem?_take] at hu
 split at hu
 ·rw[List.getElem?_drop] at hu;rw[Nat.add_assoc];exact h3 _ _ hu
 ·cases hu
theorem u16s_drop (us:List Int) (i j:Nat):((u16s us).drop i).take j=u16s ((us.drop i).take j):=by simp[u16s,List.map_drop,List.map_take]
def Ap (A:Option Addr) (u:Value):Prop:=∀q off,u.ownBlock=some q→A≠some ⟨q,off,none⟩
theorem Ap.rd {w w':World} {k n:Nat} {A:Option Addr} {xs:List Value} {u:Value} (hp:Ap A u) (hR:Rd w k A n xs) (hg:w.grownBy w' u.ownBlock):Rd w' k A n xs:=
 hR.grown hg fun b off ha hq=>hp b off hq ha
theorem Ap.moved {w:World} {k n:Nat} {A:Option Addr} {xs:List Value} {u v:Value} (hp:Ap A u) (hR:Rd w k A n xs) (hn:0<n) (h:v.ownBlock=u.ownBlock∨v.ownBlock=some w.heap.size):Ap A v:=fun q off hq ha=>by
 rcases h with h|h
 ·exact hp q off (h▸hq) ha
 ·obtain⟨b,o,hA,hb,_⟩:=hR.at_ hn;have h1:=Option.some.inj (h.symm.trans hq);rw[hA] at ha;injection ha with ha;injection ha with ha;omega
theorem Ap.old {w:World} {B e k m:Nat} {A:Option Addr} {u:Value} {xs:List Value} (hO:w.ownsRow B e k u m xs) (hf:∀b off,A=some ⟨b,off,none⟩→w.heap.size≤b):Ap A u:=fun q off hq ha=>by
 have:=(hO.lt q hq).2;have:=hf q off ha;omega
theorem word_row:RowInfo 174 5:=rowInfo (z:=.agg (wrdC zWd).toArray) wrdC_info rfl
def WordsIs (w:World) (us:List Int) (e:Ending) (w':World):Prop:=∃(A:Option Addr) (m c:Nat) (ws:List Wd) (b:Bool),e=.returned (.tuple #[.slice A m c,.bool b])∧m=wordsN us∧Rd w' 5 A m (recs wrdC ws)∧(∀x∈ws,WdOk us.length x)∧(∀b off,A=some ⟨b,off,none⟩→w.heap.size≤b)∧Ext w w'
theorem words06_any (A Aa:Option Addr) (n c na ca:Nat) (us vs:List Int) (w:World) (ru:Rd w 1 A n (u16s us)) (hn:n≤20000) (hnc:n≤c) (hc:c≤maxLen) (ra:Rd w 1 Aa na (ints vs)) (hu:∀u∈us,0≤u∧u≤65535) (hv:∀a∈vs,0≤a∧a≤1099511627776) :
  Calls Tryz.prog 77 #[.slice A n c,.slice Aa na ca] w (WordsIs w us):=by
 have hN:us.length=n:=by have:=ru.len;rw[u16s_len] at this;omega
 unfold maxLen at hc;have HI:=AB word_row;have HN:=AB hN;have HVV:=AB hv;have cL:=fun i w h=>AB (let_any A n c i us w h)
 have cA:=fun w h=>AB (adv_any Aa na ca 32 vs w h (by omega))
 have HUs:=AB hu;clear hN hu hv;go_enter Tryz.func77,Tryz.ntmps77;go_wp2_with fail;go_loopw [6,7,8,9] (fun v6 v7 v8 v9 wr=>∃(k last m:Nat) (Al:Option Addr) (cl:Nat) (ws:List Wd) (fr:Bool),v9=.int .i64 k∧v8=.int .i64 last∧v7=.bool fr∧v6=.slice Al m cl∧k≤n∧last≤n∧m≤k∧Hid (begN us k=m)∧Ext w wr∧Hid (∀x∈ws,WdOk us.length x)∧wr.ownsRow w.heap.size 174 5 (.slice Al m cl) m (recs wrdC ws)) (fun _ _ _ v9 _=>n-(intOf v9).toNat)
 case atStart=>exact⟨0,0,0,none,0,[],false,rfl,rfl,rfl,rfl,by omega,by omega,by omega,AB rfl,Ext.refl _,AB (by simp),own_nil _ _ _ _⟩
 case round=>
  obtain⟨k,last,m,Al,cl,ws,fr,rfl,rfl,rfl,rfl,hk,hlast,hm,HB,E,HW,O⟩:=hrel;by_cases hkn:k<n
  ·have hkI:(0:Int)≤(k:Int)∧(k:Int)<(n:Int):=by omega
   obtain⟨b,off,rfl,_,_⟩:=ru.at_ (by omega);have HS:=AB (begN_succ us k);obtain⟨b1,hb1⟩:∃b,letB us (k:Int)=b:=⟨_,rfl⟩
   obtain⟨b2,hb2⟩:∃b,letB us ((k:Int)-1)=b:=⟨_,rfl⟩
   have HB1:=AB hb1;have HB2:=AB hb2;clear hb1 hb2;go_wp2_with fail
   with_reducible refine (AA (cL (k:Int) _ (ru.ext E))).mono ?_
   rintro e w2 ⟨rfl,rfl⟩;rw[AA HB1];cases b1
   ·have HM:=AB (show begN us (k+1)=m by rw[AA HS,if_neg (by rw[AA HB1];simp),Nat.add_zero];exact AA HB);go_wp2_with fail;go_roundw
    case rel=>exact⟨k+1,last,m,Al,cl,ws,fr,by go_num,rfl,rfl,rfl,by omega,by omega,by omega,HM,E,HW,O⟩
    case measure=>simp[intOf];omega
   ·go_wp2_with fail
    with_reducible refine (AA (cL ((k:Int)-1) _ (ru.ext E))).mono ?_
    rintro e w2 ⟨rfl,rfl⟩;rw[AA HB2];cases b2
    ·skip
     have HM:=AB (show begN us (k+1)=m+1 by rw[AA HS,if_pos ⟨by rw[AA HB1],by rw[AA HB2]⟩,AA HB]);clear HS HB HB1 HB2;go_wp2_with fail;have BW:Blk (wr.alloc (.cells #[.int .i64 k,.int .i64 k,.int .i64 0,.int .i64 0,.int .i64 0] 174)) wr.heap.size 174 #[.int .i64 k,.int .i64 k,.int .i64 0,.int .i64 0,.int .i64 0]:=Blk.new _ _ _;have hp:=AB (own_under O (Nat.le_refl _));have O1:=own_ext O ((Ext.refl _).alloc (.cells #[.int .i64 k,.int .i64 k,.int .i64 0,.int .i64 0,.int .i64 0] 174));have E1:=E.alloc (.cells #[.int .i64 k,.int .i64 k,.int .i64 0,.int .i64 0,.int .i64 0] 174);have hle:=E.size;clear E O;generalize wr.alloc (.cells #[.int .i64 k,.int .i64 k,.int .i64 0,.int .i64 0,.int .i64 0] 174)=w3 at *;generalize wr.heap.size=g at *
     go_loopg [] (n-k) (fun gk wq=>∃j:Nat,gk=n-j∧k≤j∧j≤n∧Blk wq g 174 #[.int .i64 k,.int .i64 j,.int .i64 0,.int .i64 0,.int .i64 0]∧Ext w wq∧wq.ownsRow w.heap.size 174 5 (.slice Al m cl) m (recs wrdC ws))
     case atStart=>exact⟨k,rfl,by omega,by omega,BW,E1,O1⟩
     case round=>
      clear BW E1 O1;obtain⟨j,rfl,hkj,hj,BW,E1,O1⟩:=hrel;have c0:=(BW.cell 0).trans (rfl:_=some (Value.int .i64 k));have c1:=(BW.cell 1).trans (rfl:_=some (Value.int .i64 j));have c4:=(BW.cell 4).trans (rfl:_=some (Value.int .i64 0));have lW:=BW.lt;have fW:=BW.frozen;obtain⟨b3,hb3⟩:∃b,letB us (j:Int)=b:=⟨_,rfl⟩
      have HB3:=AB hb3;clear hb3;go_wp2_with fail
      with_reducible refine (AA (cL (j:Int) _ (ru.ext E1))).mono ?_
      rintro e w2 ⟨rfl,rfl⟩;rw[AA HB3];cases b3
      ·clear c1 c0 c4 lW fW HB3;go_wp2_with fail;go_loopw [11,12] (fun v11 v12 wq=>∃(q:Nat) (s:Bool) (f:Int),v12=.int .i64 q∧v11=.bool s∧0≤f∧f≤q∧q≤n∧Blk wq g 174 #[.int .i64 k,.int .i64 j,.int .i64 0,.int .i64 0,.int .i64 f]∧Ext w wq∧wq.ownsRow w.heap.size 174 5 (.slice Al m cl) m (recs wrdC ws)) (fun _ v12 _=>n-(intOf v12).toNat)
       case atStart=>exact⟨last,false,0,rfl,rfl,by omega,by omega,by omega,BW,E1,O1⟩
       case round=>
        clear BW E1 O1;obtain⟨q,s,f,rfl,rfl,hf0,hfq,hq,BW,E1,O1⟩:=hrel;by_cases hqk:q<k
        ·have hqn:(0:Int)≤(q:Int)∧(q:Int)<(n:Int):=by omega
         have hqkI:(q:Int)<(k:Int):=by omega
         obtain⟨u,hu⟩:∃u,us[q]?=some u:=⟨_,AE (by have:=AA HN;omega)⟩
         have cl0:=(ru.ext E1).cellAt (show q<n by omega) (u16s_get hu);have cl1:=cl0.1;have cl2:=cl0.2;have c4:=(BW.cell 4).trans (rfl:_=some (Value.int .i64 f));have lW:=BW.lt;have fW:=BW.frozen;clear cl0 hu;by_cases h10:u=10
         ·subst h10;cases s
          all_goals
           go_wp2_with fail;go_roundw
           case rel=>exact⟨q+1,_,f+1,by go_num,rfl,by omega,by omega,by omega,BW.set_ 4 _,E1.set hle _,own_grown O1 (gsCell g 4) (AA hp)⟩
           case measure=>simp[intOf];omega
         ·have z10:(u==10)=false:=by simp;exact h10
          obtain⟨t,ht⟩:∃t,(u==32)=t:=⟨_,rfl⟩
          clear h10;cases s
          all_goals
           go_wp2_with fail;go_roundw
           case rel=>exact⟨q+1,_,f,by go_num,rfl,by omega,by omega,by omega,BW,E1,O1⟩
           case measure=>simp[intOf];omega
        ·have hqkI:¬(q:Int)<(k:Int):=by omega
         have c0:=(BW.cell 0).trans (rfl:_=some (Value.int .i64 k));have c1:=(BW.cell 1).trans (rfl:_=some (Value.int .i64 j));have lW:=BW.lt;have fW:=BW.frozen;have hkjI:(k:Int)≤(j:Int)∧(j:Int)≤(c:Int):=by omega
         have cW:=AB (wide_any (some ⟨b,off+k,none⟩) Aa (j-k) (c-k) na ca ((us.drop k).take (j-k)) vs wr (by rw[←u16s_drop];exact (ru.ext E1).sub1 hkj hj) (by omega) (ra.ext E1) (fun u hu=>(AA HUs) u (List.mem_of_mem_drop (List.mem_of_mem_take hu))) (AA HVV));go_wp2_with fail
         with_reducible refine (AA cW).mono ?_
         rintro e w4 ⟨z,fe,rfl,hz,hx⟩;have HZ:=AB hz;clear hz cW c0 c1 lW fW;replace E1:=E1.trans hx;replace BW:=BW.ext hx;replace O1:=own_ext O1 hx;clear hx;have c2:=(BW.cell 2).trans (rfl:_=some (Value.int .i64 0));have lW:=BW.lt;have fW:=BW.frozen;go_upto_region 20 with fail;clear c2 lW fW;have BW2:Blk (w4.setCell ⟨g,2,none⟩ (.int .i64 z)) g 174 #[.int .i64 k,.int .i64 j,.int .i64 z,.int .i64 0,.int .i64 f]:=BW.set_ 2 _;replace E1:=E1.set (p:=⟨g,2,none⟩) hle (.int .i64 z);replace O1:=own_grown O1 (gsCell g 2 (u:=.int .i64 z)) (AA hp);clear BW;generalize w4.setCell ⟨g,2,none⟩ (.int .i64 z)=w5 at *;go_cut [7] from 17 to 113 (fun v7 wx=>∃b,v7=.bool b∧wx=w5)
         case first=>
          cases fr
          all_goals
           go_wp2_with fail;go_meet
           case rel=>exact⟨_,rfl,rfl⟩
         case rest=>
          obtain⟨fr2,rfl,rfl⟩:=hcut;go_upto_region 21 with fail;go_cut [94] from 17 to 113 (fun v94 wx=>∃b,v94=.bool b∧wx=wc)
          case first=>
           have c4:=(BW2.cell 4).trans (rfl:_=some (Value.int .i64 f));have lW:=BW2.lt;cases s
           ·go_wp2_with fail;go_meet
            case rel=>exact⟨_,rfl,rfl⟩
           ·by_cases hf:f=0
            ·have zf:(f==0)=true:=by simp;exact hf
             clear hf;go_wp2_with fail;go_meet
             case rel=>exact⟨decide ((0:Int)<(m:Int)),by first|rfl|simp,rfl⟩
            ·have zf:(f==0)=false:=by simp;exact hf
             clear hf;go_wp2_with fail;go_meet
             case rel=>exact⟨_,rfl,rfl⟩
          case rest=>
           obtain⟨b94,rfl,rfl⟩:=hcut;go_upto_if 94 with (fail);go_cut [7] from 17 to 113 (fun v7 wx=>∃b gp,v7=.bool b∧Hid (InM gp)∧Blk wx g 174 #[.int .i64 k,.int .i64 j,.int .i64 z,.int .i64 gp,.int .i64 f]∧Ext w wx∧wx.ownsRow w.heap.size 174 5 (.slice Al m cl) m (recs wrdC ws))
           case first=>
            cases b94
            ·go_wp2_with fail;go_meet
             case rel=>exact⟨fr2,0,rfl,AB (by unfold InM;omega),BW2,E1,O1⟩
            ·go_wp2_with fail
             with_reducible refine (AA (cA _ (ra.ext E1))).mono ?_
             rintro e w6 ⟨y,rfl,hy,rfl⟩;have hyb:0≤y∧y≤1099511627776:=by
              rcases hy with rfl|hy
              ·omega
              ·exact (AA HVV) y hy
             have cO:=fun w=>AB (of_any y (by omega) (by omega) w)
             clear hy hyb;go_wp2_with fail
             with_reducible refine (AA (cO _)).mono ?_
             rintro e w6 ⟨m0,A0,c0,l0,rfl,hR0,k1,k2,hP0,hx⟩;have cC:=AB (refcut_any m0 A0 l0.length c0 l0 w6 hR0 (by have:=hP0.2.2;omega));replace E1:=E1.trans hx;replace BW2:=BW2.ext hx;replace O1:=own_ext O1 hx;clear hR0 k1 k2 hP0 hx cO;obtain⟨zg,hzg⟩:∃y,cutV (bigZ m0 l0)=y:=⟨_,rfl⟩
             obtain⟨zb,hzb⟩:∃y,cutB (bigZ m0 l0)=y:=⟨_,rfl⟩
             rw[hzg,hzb] at cC;have HG:=AB (show InM zg by rw[←hzg];exact cutV_in _);clear hzg hzb;go_wp2_with fail
             with_reducible refine (AA cC).mono ?_
             rintro e w7 ⟨rfl,hx⟩;replace E1:=E1.trans hx;replace BW2:=BW2.ext hx;replace O1:=own_ext O1 hx;clear hx cC;have c3:=(BW2.cell 3).trans (rfl:_=some (Value.int .i64 0));have lW:=BW2.lt;have fW:=BW2.frozen;cases fr2
             all_goals
              go_wp2_with fail;go_meet
              case rel=>exact⟨_,zg,rfl,HG,BW2.set_ 3 _,E1.set hle _,own_grown O1 (gsCell g 3) (AA hp)⟩
           case rest=>
            clear BW2 E1 O1;obtain⟨fr3,gp,rfl,HG,BW,E1,O1⟩:=hcut;have c1:=(BW.cell 1).trans (rfl:_=some (Value.int .i64 j));have lW:=BW.lt;go_upto_region 26 with fail;clear c1 lW
            iterate 4 go_step
            refine wpList_load_blk rfl 174 (.tmp 10) rfl g rfl 174 (wrdC ⟨k,j,z,gp,f⟩).toArray _ BW Tryz.underlying174 rfl (wrdC_size _) ?_;simp only[AC];refine Go.Great.wpList_buildSliceTo rfl 142 174 1 _ rfl _ rfl _ rfl Tryz.underlying142 (wrdC ⟨k,j,z,gp,f⟩).toArray (by kernel_rfl) ?_;simp only[AC];have hx:Ext wc (wc.alloc (.cells (wrdC ⟨k,j,z,gp,f⟩).toArray 174)):=(Ext.refl _).alloc _;have R5:Rd (wc.alloc (.cells (wrdC ⟨k,j,z,gp,f⟩).toArray 174)) 5 (some ⟨wc.heap.size,0,none⟩) 1 (wrdC ⟨k,j,z,gp,f⟩):=(Blk.new wc 174 (wrdC ⟨k,j,z,gp,f⟩).toArray).rdk (n:=1) (k:=5) rfl;replace E1:=E1.trans hx;replace O1:=own_ext O1 hx;clear hx BW;generalize wc.alloc (.cells (wrdC ⟨k,j,z,gp,f⟩).toArray 174)=w8 at *;generalize wc.heap.size=gq at *;refine wpList_push (W:=w) rfl (.tmp 110) (.tmp 112) 142 rfl w.heap.size 174 5 Tryz.underlying142 HI (by omega) _ m (recs wrdC ws) rfl O1 _ 1 1 (wrdC ⟨k,j,z,gp,f⟩) rfl R5 (wrdC_one _) (by omega) E1 (Nat.le_refl _) E1.size ?_;intro A4 c4 w4 O4 E4 g4 at4;clear g4 at4 R5 O1 E1;simp only[AC];go_wp2_with fail;go_roundw
            case rel=>exact⟨k+1,j,m+1,A4,c4,ws++[⟨k,j,z,gp,f⟩],fr3,by go_num,rfl,rfl,rfl,by omega,by omega,by omega,HM,E4,AB (by
             intro y hy
             rcases List.mem_append.1 hy with hy|hy
             ·exact (AA HW) y hy
             ·obtain rfl:=List.mem_singleton.1 hy;have:=AA HN;exact⟨by simp,by simpa using hkj,by simp;omega,AA HZ,AA HG,by simp;omega⟩),by rw[recs_append,recs_one];exact O4⟩
            case measure=>simp[intOf];omega
      ·have hjn:j<n:=by have:=letB_lt (AA HB3);have:=AA HN;omega
       go_wp2_with fail
       go_roundg (n-(j+1))
       case rel=>exact⟨j+1,rfl,by omega,by omega,BW.set_ 1 _,E1.set hle _,own_grown O1 (gsCell g 1) (AA hp)⟩
       case measure=>omega
    ·have HM:=AB (show begN us (k+1)=m by rw[AA HS,if_neg (by rw[AA HB2];simp),Nat.add_zero];exact AA HB);go_wp2_with fail;go_roundw
     case rel=>exact⟨k+1,last,m,Al,cl,ws,fr,by go_num,rfl,rfl,rfl,by omega,by omega,by omega,HM,E,HW,O⟩
     case measure=>simp[intOf];omega
  ·obtain rfl:k=n:=by omega
   have HM:=AB (show m=wordsN us by rw[wordsN,AA HN];exact (AA HB).symm);have hkI:¬(k:Int)<(k:Int):=by omega
   go_wp2_with fail;go_ret2;exact⟨Al,m,cl,ws,fr,rfl,AA HM,Rd.of_own O,AA HW,fun b off h=>by subst h;exact (O.lt b rfl).1,E⟩
theorem sum_ge:∀(l:List Nat) (x:Nat),x∈l→x≤l.sum
 |[],x,h=>by cases h
 |a :: l,x,h=>by
  rw[List.sum_cons]
  rcases List.mem_cons.1 h with rfl|h
  ·omega
  ·have:=sum_ge l x h;omega
theorem LT.short {w:World} {t:Tr} {ns:List Nd} {av:List Int} {un:Nat→List Int} (h:LT w t ns av un) {i:Nat} {n:Nd} (hn:ns[i]?=some n):n.s.ul≤4000∧(un i).length=n.s.ul:=by
 have hi:=(List.getElem?_eq_some_iff.1 hn).1;have h1:=(h.units i n hn).1.len;rw[u16s_len] at h1;have h2:=sum_ge ((List.range ns.length).map fun i=>(un i).length) (un i).length (List.mem_map.2 ⟨i,List.mem_range.2 hi,rfl⟩);have:=h.sum;omega
section
variable (t:Tr) (ns:List Nd) (av:List Int) (un:Nat→List Int)
theorem int_row2:RowInfo 3 1:=rowInfo (z:=.int .i64 0) (by kernel_rfl) rfl
theorem wordsK_take (un:Nat→List Int) {kl:List Int} {k i:Nat} (h:kl[k]?=some (i:Int)):wordsK un (kl.take (k+1))=wordsK un (kl.take k)+wordsN (un i):=by
 rw[List.take_add_one,h,wordsK_append]
 show _+wordsK un [(i:Int)]=_
 rw[wordsK_one];rfl
theorem wordsK_mono (un:Nat→List Int) (kl:List Int) (k:Nat):wordsK un (kl.take k)≤wordsK un kl:=by
 have h:=wordsK_append un (kl.take k) (kl.drop k);rw[List.take_append_drop] at h;omega
theorem WdOk.mono {n m:Nat} {x:Wd} (h:n≤m) (hx:WdOk n x):WdOk m x:=⟨hx.f,hx.t,by have:=hx.e;omega,hx.w,hx.g,by have:=hx.fo;omega⟩
def KidsIn (ns:List Nd) (kl:List Int):Prop:=∀k∈kl,0≤k∧k<(ns.length:Int)
theorem own_low {w:World} {B B' e k m:Nat} {u:Value} {xs:List Value} (h:w.ownsRow B' e k u m xs) (hB:B≤B'):w.ownsRow B e k u m xs:=by
 refine⟨h.1,?_⟩
 rcases h.2 with h2|⟨g,cap,cur,hv,hb,hr⟩
 ·exact .inl h2
 ·exact .inr ⟨g,cap,cur,hv,Nat.le_trans hB hb,hr⟩
def Words17Is (w:World) (un:Nat→List Int) (kl:List Int) (e:Ending) (w':World):Prop:=∃(A A2:Option Addr) (m c c2:Nat) (ws:List Wd) (nl:List Int),e=.returned (.tuple #[.slice A m c,.slice A2 m c2])∧m=wordsK un kl∧w'.ownsRow w.heap.size 174 5 (.slice A m c) m (recs wrdC ws)∧Rd w' 1 A2 m (ints nl)∧(∀x∈ws,WdOk 4000 x)∧Ext w w'
theorem words17_any (A:Option Addr) (n c:Nat) (kl:List Int) (w:World) (h:LT w t ns av un) (rk:Rd w 1 A n (ints kl)) (hk:KidsIn ns kl) (hb:wordsK un kl≤4000) (hn:n≤1000000) :
  Calls Tryz.prog 76 #[.agg t.cs,.slice A n c] w (Words17Is w un kl):=by
 obtain⟨na,nl,nc,aa,al,ac,view⟩:=t;have hN:kl.length=n:=by have:=rk.len;rw[ints_len] at this;omega
 have HI1:=AB word_row;have HI2:=AB int_row2;have HN:=AB hN;have HK:=AB hk;have HL:=AB h;clear hN hk h;go_enter Tryz.func76,Tryz.ntmps76;go_wp2_with fail;have BT:Blk (w.alloc (.cells (Tr.cs ⟨na,nl,nc,aa,al,ac,view⟩) 25)) w.heap.size 25 (Tr.cs ⟨na,nl,nc,aa,al,ac,view⟩):=Blk.new _ _ _;have E:Ext w (w.alloc (.cells (Tr.cs ⟨na,nl,nc,aa,al,ac,view⟩) 25)):=(Ext.refl _).alloc _;generalize w.alloc (.cells (Tr.cs ⟨na,nl,nc,aa,al,ac,view⟩) 25)=w1 at *;obtain⟨g,hg⟩:∃g,w.heap.size=g:=⟨_,rfl⟩
 rw[hg] at BT ⊢;have HG:=AB hg;clear hg;go_loopw [6,7,8] (fun v6 v7 v8 wr=>∃(k m:Nat) (A1 A2:Option Addr) (c1 c2:Nat) (ws:List Wd) (nl':List Int),v8=.int .i64 k∧v6=.slice A1 m c1∧v7=.slice A2 m c2∧k≤n∧Hid (m=wordsK un (kl.take k))∧Ext w wr∧Blk wr g 25 (Tr.cs ⟨na,nl,nc,aa,al,ac,view⟩)∧wr.ownsRow (g+1) 174 5 (.slice A1 m c1) m (recs wrdC ws)∧wr.ownsRow (g+1) 3 1 (.slice A2 m c2) m (ints nl')∧Hid (∀x∈ws,WdOk 4000 x)) (fun _ _ v8 _=>n-(intOf v8).toNat)
 case atStart=>exact⟨0,0,none,none,0,0,[],[],rfl,rfl,rfl,by omega,AB rfl,E,BT,own_nil _ _ _ _,own_nil _ _ _ _,AB (by simp)⟩
 case round=>
  clear E BT;obtain⟨k,m,A1,A2,c1,c2,ws,nl',rfl,rfl,rfl,hkn',HM,E,BT,O1,O2,HW⟩:=hrel;by_cases hkn:k<n
  ·have hkI:(0:Int)≤(k:Int)∧(k:Int)<(n:Int):=by omega
   obtain⟨z,hz⟩:∃u,kl[k]?=some u:=⟨_,AE (by have:=AA HN;omega)⟩
   have hzb:=(AA HK) z (List.mem_of_getElem? hz);obtain⟨i,rfl⟩:∃i:Nat,z=(i:Int):=⟨z.toNat,by omega⟩
   obtain⟨nd,hnd⟩:∃nd,ns[i]?=some nd:=⟨_,AE (by omega)⟩
   have HU:=AB ((AA HL).units i nd hnd);have HS:=AB (LT.short (AA HL) hnd);obtain⟨bn,on,hna,lbn,hcn⟩:=((AA HL).tr.nodes.ext E).node hnd;have hnl:=(AA HL).tr.nodes.nlen;simp only at hna hnl;subst hna;obtain⟨b,off,rfl,lbk,_⟩:=rk.at_ (by omega);have cl0:=(rk.ext E).cellAt hkn (show (ints kl)[k]?=some (Value.int .i64 (i:Int)) by rw[ints,List.getElem?_map,hz];rfl);have cl1:=cl0.1;have cl2:=cl0.2;have cu:=hcn 43 _ (show nd.cells[43]?=some (Value.slice nd.s.ua nd.s.ul nd.s.uc) from rfl);have ct0:=(BT.cell 0).trans (rfl:_=some (Value.slice (some ⟨bn,on,none⟩) nl nc));have ct1:=(BT.cell 1).trans (rfl:_=some (Value.slice aa al ac));have lT:=BT.lt;have hiI:(0:Int)≤(i:Int)∧(i:Int)<(nl:Int):=by omega
   clear cl0 hcn hzb;go_upto_region 6 with fail;refine wp_region_ord [(1,0),(0,1),(1,2),(1,3),(1,4),(0,5),(1,6),(1,7),(1,8),(0,9),(1,10),(0,11),(3,12),(1,13),(1,14),(1,15),(1,16),(1,17)] 12 (fun w'=>Ext wr w') (by kernel_rfl) (by kernel_rfl) rfl (by kernel_rfl) ((Ext.refl _).drew) ?_;simp only[AD]
   iterate 12 ((first|refine ordQA ?_|refine ordQB ?_);simp only[AC])
   have hus:=(AA HU).1.ext E;have cW:=AB (words06_any nd.s.ua aa nd.s.ul nd.s.uc al ac (un i) av wr.drew (hus.ext (Ext.refl _).drew) (by have:=(AA HS).1;omega) (AA HU).2.2.1 (AA HU).2.2.2 (((AA HL).tr.advs.ext E).ext (Ext.refl _).drew) (AA HU).2.1 (AA HL).av);clear hus;refine ord_last ?_;go_wp2_with fail
   with_reducible refine (AA cW).mono ?_
   rintro e w2 ⟨A3,m3,c3,ws3,b3,rfl,hm3,R3,hw3,hf3,hx⟩;have P1:=AB (Ap.old (own_ext O1 (Ext.refl _).drew) hf3);have P2:=AB (Ap.old (own_ext O2 (Ext.refl _).drew) hf3);replace hx:=(Ext.refl wr).drew.trans hx;have HW3:=AB hw3;have HM3:=AB hm3;clear hw3 hm3 hf3 cW ct0 ct1 lT cu;replace E:=E.trans hx;replace BT:=BT.ext hx;replace O1:=own_ext O1 hx;replace O2:=own_ext O2 hx;clear hx;go_wp2_with fail
   iterate 5 ((first|refine ordQA ?_|refine ordQB ?_);simp only[AC])
   refine ord_nil ?_;go_wp2_with fail;have HW3L:=AB (R3.recN wrdC_len (by omega));have hmb:=AB (show m+m3≤4000 by
    have h1:=wordsK_take un hz;have h2:=wordsK_mono un kl (k+1);have:=AA HM3;have:=AA HM;omega)
   have HMN:=AB (show m+m3=wordsK un (kl.take (k+1)) by
    have h1:=wordsK_take un hz;have:=AA HM3;have:=AA HM;omega)
   have lT:=BT.lt;go_loopw [6,7,11] (fun v6 v7 v11 wq=>∃(q:Nat) (A5 A6:Option Addr) (c5 c6:Nat) (ws5:List Wd) (nl5:List Int),v11=.int .i64 q∧v6=.slice A5 (m+q) c5∧v7=.slice A6 (m+q) c6∧q≤m3∧Ext w wq∧Rd wq 5 A3 m3 (recs wrdC ws3)∧Blk wq g 25 (Tr.cs ⟨some ⟨bn,on,none⟩,nl,nc,aa,al,ac,view⟩)∧wq.ownsRow (g+1) 174 5 (.slice A5 (m+q) c5) (m+q) (recs wrdC ws5)∧wq.ownsRow (g+1) 3 1 (.slice A6 (m+q) c6) (m+q) (ints nl5)∧Hid (∀x∈ws5,WdOk 4000 x)∧Hid (Ap A3 (.slice A5 (m+q) c5))∧Hid (Ap A3 (.slice A6 (m+q) c6))) (fun _ _ v11 _=>m3-(intOf v11).toNat)
   case atStart=>exact⟨0,A1,A2,c1,c2,ws,nl',rfl,rfl,rfl,by omega,E,R3,BT,O1,O2,HW,P1,P2⟩
   case round=>
    clear E R3 BT O1 O2 lT P1 P2;obtain⟨q,A5,A6,c5,c6,ws5,nl5,rfl,rfl,rfl,hq,E,R3,BT,O1,O2,HW5,P1,P2⟩:=hrel;have hmb2:=AA hmb;by_cases hqm:q<m3
    ·have hqI:(0:Int)≤(q:Int)∧(q:Int)<(m3:Int):=by omega
     obtain⟨f,hf⟩:∃f,ws3[q]?=some f:=⟨_,AE (by have:=AA HW3L;omega)⟩
     have HF:=AB ((AA HW3) f (List.mem_of_getElem? hf));obtain⟨b3',o3,hA3,lb3,hm⟩:=R3.rec_ wrdC_len hf (by omega);subst hA3;have HM5:=AB hm;have cl0:=(rk.ext E).cellAt hkn (show (ints kl)[k]?=some (Value.int .i64 (i:Int)) by rw[ints,List.getElem?_map,hz];rfl);have cl1:=cl0.1;have cl2:=cl0.2;clear hm hf cl0;go_upto_region 10 with fail
     iterate 13 go_step
     refine wpList_load_midg 174 (.tmp 43) rfl b3' (o3+q*5) rfl rfl (wrdC f) _ (fun x v hv=>(AA HM5) x v hv) Tryz.underlying174 rfl (wrdC_size _) ?_;simp only[AC];refine Go.Great.wpList_buildSliceTo rfl 142 174 1 _ rfl _ rfl _ rfl Tryz.underlying142 (wrdC f).toArray (by kernel_rfl) ?_;simp only[AC];have hx:Ext wr (wr.alloc (.cells (wrdC f).toArray 174)):=(Ext.refl _).alloc _;have R5:Rd (wr.alloc (.cells (wrdC f).toArray 174)) 5 (some ⟨wr.heap.size,0,none⟩) 1 (wrdC f):=(Blk.new wr 174 (wrdC f).toArray).rdk (n:=1) (k:=5) rfl;replace E:=E.trans hx;replace R3:=R3.ext hx;replace O1:=own_ext O1 hx;replace O2:=own_ext O2 hx;replace BT:=BT.ext hx;clear hx HM5;generalize wr.alloc (.cells (wrdC f).toArray 174)=w8 at *;generalize wr.heap.size=gqw8 at *;have lT:=BT.lt;refine wpList_push (W:=w) rfl (.tmp 40) (.tmp 45) 142 rfl (g+1) 174 5 Tryz.underlying142 HI1 (by omega) _ (m+q) (recs wrdC ws5) rfl O1 _ 1 1 (wrdC f) rfl R5 (wrdC_one _) (by have:=AA hmb;omega) E (by have:=AA HG;omega) (by omega) ?_;intro A7 c7 w9 O7 E9 g9 at9;have P1':=AB ((AA P1).moved R3 (by omega) at9);replace R3:=(AA P1).rd R3 g9;replace BT:=BT.grown g9 (fun e=>by have:=(O1.lt _ e).1;omega);replace O2:=O2.kept g9 (own_ne O2 O1 (by decide));clear R5 O1 E g9 at9 P1 lT cl2;have cl0:=(rk.ext E9).cellAt hkn (show (ints kl)[k]?=some (Value.int .i64 (i:Int)) by rw[ints,List.getElem?_map,hz];rfl);have cl2:=cl0.2;have lT:=BT.lt;clear cl0 cl1;have cl1:=Nat.lt_of_lt_of_le lbk E9.size;simp only[AC];go_wp2_with (first
      |(at_builtin
        refine wpList_push (W:=w) rfl (.tmp 47) (.tmp 52) 52 rfl (g+1) 3 1 Tryz.underlying52 HI2 (by omega) _ (m+q) (ints nl5) rfl (own_ext O2 ((Ext.refl _).alloc _)) _ 1 1 [.int .i64 (i:Int)] rfl (Rd.one _ _) (by simp[Value.oneCell']) (by have:=AA hmb;omega) (E9.alloc _) (by have:=AA HG;omega) (by simp;omega) ?_;intro A8 c8 w10 O8 E10 g10 at10;have R3':=R3.alloc (.cells #[.int .i64 (i:Int)] 3);have P2':=AB ((AA P2).moved R3' (by omega) at10);replace R3:=(AA P2).rd R3' g10;have O2':=own_ext O2 ((Ext.refl _).alloc (.cells #[.int .i64 (i:Int)] 3));replace BT:=(BT.alloc (.cells #[.int .i64 (i:Int)] 3)).grown g10 (fun e=>by have:=(O2.lt _ e).1;omega);replace O7:=(own_ext O7 ((Ext.refl _).alloc (.cells #[.int .i64 (i:Int)] 3))).kept g10 (own_ne (own_ext O7 ((Ext.refl _).alloc (.cells #[.int .i64 (i:Int)] 3))) O2' (by decide));clear O2' R3' at10 g10))
     go_roundw
     case rel=>exact⟨q+1,A7,A8,c7,c8,ws5++[f],nl5++[(i:Int)],by go_num,rfl,rfl,by omega,E10,R3,BT,by rw[recs_append,recs_one];exact O7,by rw[←Nat.add_assoc,ints_append];exact O8,AB (by
      intro y hy
      rcases List.mem_append.1 hy with hy|hy
      ·exact (AA HW5) y hy
      ·obtain rfl:=List.mem_singleton.1 hy;exact WdOk.mono (by have:=AA HS;omega) (AA HF)),P1',P2'⟩
     case measure=>simp[intOf];omega
    ·obtain rfl:q=m3:=by omega
     have hqI:¬(q:Int)<(q:Int):=by omega
     go_wp2_with fail;go_roundw
     case rel=>exact⟨k+1,m+q,A5,A6,c5,c6,ws5,nl5,by go_num,rfl,rfl,by omega,HMN,E,BT,O1,O2,HW5⟩
     case measure=>simp[intOf];omega
  ·obtain rfl:k=n:=by omega
   have hkI:¬(k:Int)<(k:Int):=by omega
   have HMM:=AB (show m=wordsK un kl by rw[AA HM,List.take_of_length_le (by have:=AA HN;omega)]);go_wp2_with fail;refine bodyPost_ret (v:=.tuple #[.slice A1 m c1,.slice A2 m c2]) (by simp[results,Tryz.results76,go_sem]) rfl ?_;exact⟨A1,A2,m,c1,c2,ws,nl',rfl,AA HMM,own_low O1 (by have:=AA HG;omega),Rd.of_own O2,AA HW,E⟩
end
structure P7 where
 (wd ab be uw ul ur hi:Int)
def p7C (x:P7):List Value:=[.int .i64 x.wd,.int .i64 x.ab,.int .i64 x.be,.int .i64 x.uw,.int .i64 x.ul,.int .i64 x.ur,.int .i64 x.hi]
theorem p7C_len (x:P7):(p7C x).length=7:=rfl
theorem p7C_one (x:P7):∀v∈p7C x,v.oneCell'=true:=by
 intro v hv;simp only[p7C,List.mem_cons,List.not_mem_nil,or_false] at hv
 rcases hv with rfl|rfl|rfl|rfl|rfl|rfl|rfl<;>rfl
def zP7:P7:=⟨0,0,0,0,0,0,0⟩
theorem p7C_size (x:P7):(Tryz.prog.info? 205).map (·.size)=some (p7C x).toArray.size:=by kernel_rfl
theorem p7C_zero:(Tryz.prog.info? 205).bind (·.zero)=some (.agg (p7C zP7).toArray):=by kernel_rfl
theorem p7C_info:(Tryz.prog.info? 205).map (fun i=>(i.zero,i.size,decide (i.bytes≤100000)))=some (some (.agg (p7C zP7).toArray),7,true):=by kernel_rfl
theorem built_p7 (x:P7):Tryz.prog.builtSlice 205 1 [(0,.agg (p7C x).toArray)]=some (p7C x).toArray:=by kernel_rfl
theorem part_row:RowInfo 205 7:=rowInfo (z:=.agg (p7C zP7).toArray) p7C_info rfl
theorem usC_szl (u:Us):(Tryz.prog.info? 120).map (·.size)=some (usC u).length:=by kernel_rfl
theorem i64_sz1:(Tryz.prog.info? 2).map (·.size)=some 1:=by kernel_rfl
theorem half20_any (x:Int) (w:World):Calls Tryz.prog 120 #[.int .i64 x] w (SomeI w):=by
 by_cases h0:x<0
 ·obtain⟨r,hr⟩:∃r,(x.tmod 2 != 0)=r:=⟨_,rfl⟩
  go_enter Tryz.func120,Tryz.ntmps120;go_wp2_with fail
  all_goals
   go_ret;exact⟨_,rfl,Ext.refl _⟩
 ·have h1:¬x<0:=h0;go_enter Tryz.func120,Tryz.ntmps120;go_wp2_with fail
  all_goals
   go_ret;exact⟨_,rfl,Ext.refl _⟩
def Parts7 (w:World) (n:Nat) (e:Ending) (w':World):Prop:=∃(A:Option Addr) (c:Nat) (l:List P7),e=.returned (.slice A n c)∧Rd w' 7 A n (recs p7C l)∧Ext w w'
theorem parts20_any (c:Int) (ak au ah:Option Addr) (n ck nu cu nh ch:Nat) (ks:List Sty) (us:List Us) (hs:List Int) (w:World) (rk:Rd w 43 ak n (recs styC ks)) (ru:Rd w 3 au nu (recs usC us)) (rh:Rd w 1 ah nh (ints hs)) (_hn:n≤300) (_hnu:nu≤1000000) (_hnh:nh≤1000000) (hc:c≤1099511627776) (hok:∀s∈ks,EdgesOk s) :
  Calls Tryz.prog 119 #[.int .i64 c,.slice ak n ck,.slice au nu cu,.slice ah nh ch] w (Parts7 w n):=by
 have hkl:=AB (rk.recN styC_len (by omega));have hul:=AB (ru.recN usC_len (by omega));have HOK:=AB hok;have HI:=AB part_row;clear hok;go_enter Tryz.func119,Tryz.ntmps119;go_wp2_with fail;go_loopw [9,10] (fun v9 v10 wq=>∃(k:Nat) (B:Option Addr) (d:Nat) (l:List P7),v10=.int .i64 k∧k≤n∧v9=.slice B k d∧wq.ownsRow w.heap.size 205 7 (.slice B k d) k (recs p7C l)∧Hid (Ext w wq)) (fun _ v10 _=>n-(intOf v10).toNat)
 case atStart=>exact⟨0,none,0,[],rfl,by omega,rfl,own_nil _ _ _ _,AB (Ext.refl _)⟩
 case round=>
  obtain⟨k,B,d,l,rfl,hk,rfl,OW,E⟩:=hrel;by_cases hkn:k<n
  ·as_aux_lemma=>
   have hkI:(0:Int)≤(k:Int)∧(k:Int)<(n:Int):=by omega
   obtain⟨s,hs_⟩:∃s,ks[k]?=some s:=⟨_,AE (by have:=AA hkl;omega)⟩
   have hed:=(AA HOK) s (List.mem_of_getElem? hs_);obtain⟨bk,ok,hA,lbk,hmk⟩:=rk.rec_ styC_len hs_ (by omega);subst hA;have HMK':=AB (fun x v hv=>((AA E).cells.1 bk _ lbk).trans (hmk x v hv));have LBK':=AB (Nat.lt_of_lt_of_le lbk (AA E).size);have cF:=fun w=>AB (ref_frame s hed.thin w)
   have cR:=fun l h w=>AB (ref_resolve l c h hc w)
   have HP0:=AB hed.ok.p0;have HP2:=AB hed.ok.p2;obtain⟨xA,hxA⟩:∃z,s.b3+s.b1+s.p3+s.p1=z:=⟨_,rfl⟩
   obtain⟨xD,hxD⟩:∃z,s.b0+s.b2+s.p0+s.p2=z:=⟨_,rfl⟩
   rw[hxA,hxD] at cF;clear hxA hxD hmk lbk hs_ hed;go_upto_region 5 with fail;go_step;refine wpList_alloc_var rfl 205 rfl (p7C zP7).toArray p7C_zero ?_;intro wa Ba Ea za;simp only[AC];have HG:=AB (show w.heap.size≤wr.heap.size from (AA E).size);generalize hgP:wr.heap.size=gP at *;have HE:=AB Ea;clear Ea;go_upto_if 23 with (fail);go_cut [] from 14 to 79 (fun wx=>(∃p:P7,Blk wx gP 205 (p7C p).toArray)∧Hid (Ext wr wx))
   case first=>
    by_cases hku:k<nu
    ·have hkuI:(0:Int)≤(k:Int)∧(k:Int)<(nu:Int):=by omega
     obtain⟨u,hu⟩:∃u,us[k]?=some u:=⟨_,AE (by have:=AA hul;omega)⟩
     obtain⟨bu,ou,hAu,lbu,hmu⟩:=((ru.ext (AA E)).ext (AA HE)).rec_ usC_len hu (by omega);subst hAu;have HMU:=AB hmu;clear hmu hu;go_upto_region 7 with fail
     iterate 10 go_step
     refine wpList_load_midg 120 (.tmp 26) rfl bu (ou+k*3) rfl rfl (usC u) _ (fun x v hv=>(AA HMU) x v hv) Tryz.underlying120 rfl (usC_szl _) ?_;simp only[AC]
     iterate 3 go_step
     refine wpList_store_in rfl 120 (.tmp 28) (.tmp 27) rfl gP 3 rfl (usC u).toArray rfl 205 (p7C zP7) Ba (by show 3+3≤7;decide) (by kernel_rfl) (by kernel_rfl) (p7C ⟨0,0,0,u.w,u.l,u.r,0⟩) rfl ?_;intro w1 B1 g1 z1;simp only[Act.put];go_wp2_with fail;go_meet
     case rel=>exact⟨⟨_,B1⟩,AB ((AA HE).grownBlk g1 (by omega))⟩
    ·have hkuI:¬(k:Int)<(nu:Int):=by omega
     go_wp2_with fail;go_meet
     case rel=>exact⟨⟨_,Ba⟩,HE⟩
   case rest=>
    clear Ba HE za;obtain⟨⟨p,Ba⟩,HE⟩:=hcut;go_upto_if 32 with (fail);have HE0:=HE;go_cut [] from 14 to 79 (fun wx=>(∃p:P7,Blk wx gP 205 (p7C p).toArray)∧Hid (Ext wr wx))
    case first=>
     by_cases hku:k<nh
     ·have hkuI:(0:Int)≤(k:Int)∧(k:Int)<(nh:Int):=by omega
      have rh':=(rh.ext (AA E)).ext (AA HE);obtain⟨z,hz⟩:∃z,hs[k]?=some z:=⟨_,AE (by have:=rh'.len;rw[ints_len] at this;omega)⟩
      obtain⟨bz,oz,hAz,lz,-⟩:=rh'.at_ (by omega);subst hAz;have q1:=(rh'.cellAt hku (show (ints hs)[k]?=some (Value.int .i64 z) by rw[ints,List.getElem?_map,hz];rfl)).2;clear rh' hz;go_upto_region 9 with fail
      iterate 16 go_step
      refine wpList_store_one rfl 2 (.tmp 37) (.tmp 36) rfl gP 6 rfl (.int .i64 z) rfl rfl 205 (p7C p) Ba (by show 6<7;decide) i64_sz1 (p7C { p with hi:=z }) rfl ?_;intro w1 B1 g1 z1;simp only[Act.put];go_wp2_with fail;go_meet
      case rel=>exact⟨⟨_,B1⟩,AB ((AA HE).grownBlk g1 (by omega))⟩
     ·have hkuI:¬(k:Int)<(nh:Int):=by omega
      go_wp2_with fail;go_meet
      case rel=>exact⟨⟨_,Ba⟩,HE⟩
    case rest=>
     clear Ba HE HE0 p;obtain⟨⟨p,Ba⟩,HE⟩:=hcut;go_upto_region 10 with fail
     iterate 10 go_step
     refine wpList_load_sty (.tmp 41) rfl bk (ok+k*43) rfl rfl s (fun x v hv=>((AA HE).cells.1 bk _ (by rw[hgP];exact AA LBK')).trans ((AA HMK') x v hv)) ?_;simp only[AC];go_wp2_with fail
     with_reducible refine (AA (cF _)).mono ?_
     rintro e w2 ⟨rfl,hx⟩;replace Ba:=Ba.ext hx;replace HE:=AB ((AA HE).trans hx);clear hx cF;obtain⟨p0,p1,p2,p3,p4,p5,p6⟩:=p;have k3:=(Ba.cell 3).trans (rfl:_=some (Value.int .i64 p3));have lP:=Ba.lt;obtain⟨s1,hs1⟩:∃z,IntKind.i64.wrap (p3+xA)=z:=⟨_,rfl⟩
     go_upto_region 11 with fail
     iterate 19 go_step
     refine wpList_store_one rfl 2 (.tmp 51) (.tmp 50) rfl gP 0 rfl (.int .i64 s1) rfl rfl 205 (p7C ⟨p0,p1,p2,p3,p4,p5,p6⟩) Ba (by show 0<7;decide) i64_sz1 (p7C ⟨s1,p1,p2,p3,p4,p5,p6⟩) rfl ?_;clear Ba k3 lP hs1;intro w3 Ba g3 z3;simp only[Act.put];replace HE:=AB ((AA HE).grownBlk g3 (by omega));clear g3 z3;have q16:=((AA HE).cells.1 bk _ (by rw[hgP];exact AA LBK')).trans ((AA HMK') 16 _ (show (styC s)[16]?=some (Value.int .u8 s.m0.k) from rfl));have q17:=((AA HE).cells.1 bk _ (by rw[hgP];exact AA LBK')).trans ((AA HMK') 17 _ (show (styC s)[17]?=some (Value.int .i64 s.m0.n) from rfl));have lB:bk<w3.heap.size:=by have:=(AA HE).size;have:=AA LBK';omega
     have cR0:=fun w=>cR s.m0 (AA HP0) w
     obtain⟨r0,hr0⟩:∃z,resV s.m0 c=z:=⟨_,rfl⟩
     obtain⟨rb0,hrb0⟩:∃z,resB s.m0=z:=⟨_,rfl⟩
     simp only[Ln.v,hr0,hrb0] at cR0;clear hr0 hrb0;go_wp2_with fail
     with_reducible refine (AA (cR0 _)).mono ?_
     rintro e w4 ⟨rfl,hx⟩;replace Ba:=Ba.ext hx;replace HE:=AB ((AA HE).trans hx);clear hx cR0 q16 q17 lB;dsimp only
     iterate 13 go_step
     refine wpList_store_one rfl 2 (.tmp 63) (.tmp 61) rfl gP 1 rfl (.int .i64 r0) rfl rfl 205 (p7C ⟨s1,p1,p2,p3,p4,p5,p6⟩) Ba (by show 1<7;decide) i64_sz1 (p7C ⟨s1,r0,p2,p3,p4,p5,p6⟩) rfl ?_;clear Ba;intro w5 Ba g5 z5;simp only[Act.put];replace HE:=AB ((AA HE).grownBlk g5 (by omega));clear g5 z5;have q20:=((AA HE).cells.1 bk _ (by rw[hgP];exact AA LBK')).trans ((AA HMK') 20 _ (show (styC s)[20]?=some (Value.int .u8 s.m2.k) from rfl));have q21:=((AA HE).cells.1 bk _ (by rw[hgP];exact AA LBK')).trans ((AA HMK') 21 _ (show (styC s)[21]?=some (Value.int .i64 s.m2.n) from rfl));have lB:bk<w5.heap.size:=by have:=(AA HE).size;have:=AA LBK';omega
     have cR2:=fun w=>cR s.m2 (AA HP2) w
     obtain⟨r2,hr2⟩:∃z,resV s.m2 c=z:=⟨_,rfl⟩
     obtain⟨rb2,hrb2⟩:∃z,resB s.m2=z:=⟨_,rfl⟩
     simp only[Ln.v,hr2,hrb2] at cR2;clear hr2 hrb2;go_wp2_with fail
     with_reducible refine (AA (cR2 _)).mono ?_
     rintro e w6 ⟨rfl,hx⟩;replace Ba:=Ba.ext hx;replace HE:=AB ((AA HE).trans hx);clear hx cR2 q20 q21 lB;dsimp only
     iterate 13 go_step
     refine wpList_store_one rfl 2 (.tmp 75) (.tmp 73) rfl gP 2 rfl (.int .i64 r2) rfl rfl 205 (p7C ⟨s1,r0,p2,p3,p4,p5,p6⟩) Ba (by show 2<7;decide) i64_sz1 (p7C ⟨s1,r0,r2,p3,p4,p5,p6⟩) rfl ?_;clear Ba;intro w7 Ba g7 z7;simp only[Act.put];replace HE:=AB ((AA HE).grownBlk g7 (by omega));clear g7 z7;go_upto_region 14 with fail
     iterate 4 go_step
     refine wpList_load_blk rfl 205 (.tmp 11) rfl gP rfl 205 (p7C ⟨s1,r0,r2,p3,p4,p5,p6⟩).toArray _ Ba Tryz.underlying205 rfl (p7C_size _) ?_;simp only[AC];refine Go.Great.wpList_buildSliceTo rfl 202 205 1 _ rfl _ rfl _ rfl Tryz.underlying202 (p7C ⟨s1,r0,r2,p3,p4,p5,p6⟩).toArray (by simp only[List.map_toArray,List.map_cons,List.map_nil];exact built_p7 _) ?_;simp only[AC];have hx:Ext w7 (w7.alloc (.cells (p7C ⟨s1,r0,r2,p3,p4,p5,p6⟩).toArray 205)):=(Ext.refl _).alloc _;have R5:Rd (w7.alloc (.cells (p7C ⟨s1,r0,r2,p3,p4,p5,p6⟩).toArray 205)) 7 (some ⟨w7.heap.size,0,none⟩) 1 (p7C ⟨s1,r0,r2,p3,p4,p5,p6⟩):=(Blk.new w7 205 (p7C ⟨s1,r0,r2,p3,p4,p5,p6⟩).toArray).rdk (n:=1) (k:=7) rfl;replace HE:=AB ((AA HE).trans hx);clear hx Ba;generalize w7.alloc (.cells (p7C ⟨s1,r0,r2,p3,p4,p5,p6⟩).toArray 205)=w8 at *;generalize w7.heap.size=gqw8 at *;have O8:=own_ext OW (AA HE);have E8:=(AA E).trans (AA HE);refine wpList_push (W:=w) rfl (.tmp 76) (.tmp 78) 202 rfl w.heap.size 205 7 Tryz.underlying202 HI (by omega) _ k (recs p7C l) rfl O8 _ 1 1 (p7C ⟨s1,r0,r2,p3,p4,p5,p6⟩) rfl R5 (p7C_one _) (by omega) E8 (Nat.le_refl _) E8.size ?_;intro A9 c9 w9 O9 E9 g9 at9;have O9':w9.ownsRow w.heap.size 205 7 (.slice A9 (k+1) c9) (k+1) (recs p7C (l++[⟨s1,r0,r2,p3,p4,p5,p6⟩])):=by rw[recs_append,recs_one];exact O9
     have E9':=AB E9;clear R5 O9 E9 g9 at9 O8 E8 OW HE;simp only[AC];go_wp2_with fail;go_roundw
     case rel=>exact⟨k+1,A9,c9,_,by go_num,by omega,rfl,O9',E9'⟩
     case measure=>simp[intOf];omega
  ·have hkI:¬(k:Int)<(n:Int):=by omega
   have hkn':k=n:=by omega
   have R:=Rd.of_own OW;rw[hkn'] at R;have HK:=AB hkn';clear hkn' OW;go_wp2_with fail;go_ret;exact⟨B,d,l,by rw[AA HK];rfl,R,AA E⟩
section
variable {ns:List Nd}
theorem kids_at {n p q:Nat} {z:Int} (h:(kidsN ns n p)[q]?=some z):∃k:Nat,z=(k:Int)∧k<n∧parN ns k=(p:Int):=by
 have h1:=List.mem_of_getElem? h;unfold kidsN at h1;obtain⟨k,hk,rfl⟩:=List.mem_map.1 h1;obtain⟨h2,h3⟩:=List.mem_filter.1 hk;exact⟨k,rfl,List.mem_range.1 h2,by simpa using h3⟩
theorem kids_rise {n p q q':Nat} {z z':Int} (h:(kidsN ns n p)[q]?=some z) (h':(kidsN ns n p)[q']?=some z') (hq:q<q'):z<z':=by
 have hp:(kidsN ns n p).Pairwise (·<·):=by
  unfold kidsN;refine List.Pairwise.map _ (fun a b hab=>?_) ((List.pairwise_lt_range (n:=n)).filter _);exact Int.ofNat_lt.2 hab
 obtain⟨l1,rfl⟩:=List.getElem?_eq_some_iff.1 h;obtain⟨l2,rfl⟩:=List.getElem?_eq_some_iff.1 h';exact (List.pairwise_iff_getElem.1 hp) q q' l1 l2 hq
theorem kids_par {p k:Nat} (h:parN ns k=(p:Int)):p<k:=by
 have:=parN_lt ns k;omega
theorem kids_next (hT:TOk ns) {n p q k k':Nat} (hn:n≤ns.length) (h:(kidsN ns n p)[q]?=some (k:Int)) (h':(kidsN ns n p)[q+1]?=some (k':Int)):endN ns k≤k':=by
 obtain⟨a,e1,ha,hpa⟩:=kids_at h;obtain⟨b,e2,hb,hpb⟩:=kids_at h';have hlt:=kids_rise h h' (by omega);obtain rfl:a=k:=by omega
 obtain rfl:b=k':=by omega
 have hpk:=kids_par hpa
 rcases Nat.lt_or_ge b (endN ns a) with h1|h1
 ·have h2:=ok_stretch hT (i:=a) (j:=b) (by omega);rw[decide_eq_true (by omega),sub,bel_par hpb] at h2;have hne:¬b=a:=by omega
  rw[decide_eq_false hne,Bool.false_or] at h2;have:=sub_le h2;omega
 ·exact h1
def limN (ns:List Nd) (p q:Nat):Nat:=match (kidsN ns ns.length p)[q]? with|some z=>z.toNat|none=>endN ns p
theorem lim_at {p q k:Nat} (h:(kidsN ns ns.length p)[q]?=some (k:Int)):limN ns p q=k:=by unfold limN;rw[h];rfl
theorem lim_end {p q:Nat} (h:(kidsN ns ns.length p).length≤q):limN ns p q=endN ns p:=by unfold limN;rw[List.getElem?_eq_none h]
theorem lim_next (hT:TOk ns) {p q k:Nat} (h:(kidsN ns ns.length p)[q]?=some (k:Int)):endN ns k≤limN ns p (q+1):=by
 obtain⟨a,e1,ha,hpa⟩:=kids_at h;obtain rfl:a=k:=by omega
 unfold limN;cases h2:(kidsN ns ns.length p)[q+1]? with
 |none=>exact ok_end_kid hT ha hpa
 |some z=>
  obtain⟨b,rfl,hb,hpb⟩:=kids_at h2;exact kids_next hT (Nat.le_refl _) h h2
theorem lim_0 (p:Nat):p≤limN ns p 0:=by
 unfold limN;cases h:(kidsN ns ns.length p)[0]? with
 |none=>have:=endN_gt ns p;simp only;omega
 |some z=>
  obtain⟨b,rfl,hb,hpb⟩:=kids_at h;have:=kids_par hpb;simp only[Int.toNat_natCast];omega
theorem kids_in (p:Nat):KidsIn ns (kidsN ns ns.length p):=fun z hz=>by
 obtain⟨q,hq⟩:=List.getElem?_of_mem hz;obtain⟨k,rfl,hk,_⟩:=kids_at hq;omega
theorem sum_filter_le (f g:Nat→Nat) (p:Nat→Bool) (h:∀i,f i≤g i):∀l:List Nat,((l.filter p).map f).sum≤(l.map g).sum
 |[]=>Nat.le_refl _
 |a :: l=>by
  have ih:=sum_filter_le f g p h l;have ha:=h a;rw[List.filter_cons]
  split
  ·rw[List.map_cons,List.map_cons,List.sum_cons,List.sum_cons];omega
  ·rw[List.map_cons,List.sum_cons];omega
theorem LT.words {w:World} {t:Tr} {av:List Int} {un:Nat→List Int} (h:LT w t ns av un) (p:Nat):wordsK un (kidsN ns ns.length p)≤4000:=by
 refine Nat.le_trans ?_ h.sum;unfold wordsK kidsN;rw[List.map_map];exact sum_filter_le (fun i=>wordsN (un i)) (fun i=>(un i).length) _ (fun i=>begN_le _ _) _
end
end Go.Proofs.YtamldoocjjdidaaGreat
