import Derived.Test.YtamldoocjjdidaaGreatMCpy
import Derived.Test.YtamldoocjjdidaaGreatMBigC
namespace Go.Proofs.YtamldoocjjdidaaGreat
open Go.RowKit
set_option maxRecDepth 100000
set_option maxHeartbeats 64000000
theorem ln_info:(Tryz.prog.info? 60).map (fun i=>(i.zero,i.size,i.bytes))=some (some (.agg #[.int .u8 0,.int .i64 0]),2,16):=by kernel_rfl
@[reducible] def lnC (l:Ln):List Value:=[.int .u8 l.k,.int .i64 l.n]
def lnsC (l:List Ln):List Value:=(l.map lnC).flatten
theorem lnsC_len (l:List Ln):(lnsC l).length=l.length*2:=by
 unfold lnsC
 induction l with
 |nil=>rfl
 |cons a r ih=>simp only[List.map_cons,List.flatten_cons,List.length_append,ih,List.length_cons,lnC,List.length_nil];omega
theorem lnsC_get:∀(l:List Ln) (i:Nat) (x:Ln),l[i]?=some x→(lnsC l)[i*2]?=some (.int .u8 x.k)∧(lnsC l)[i*2+1]?=some (.int .i64 x.n)
 |[],i,x,h=>by simp at h
 |a :: r,0,x,h=>by simp at h;subst h;exact⟨rfl,rfl⟩
 |a :: r,i+1,x,h=>by
  have ih:=lnsC_get r i x (by simpa using h);have e:lnsC (a :: r)=.int .u8 a.k :: .int .i64 a.n :: lnsC r:=rfl;rw[e,show (i+1)*2=i*2+1+1 by omega];exact ih
theorem Rd.one2 {w:World} (l:Ln) (t:TypeId):Rd (w.alloc (.cells #[.int .u8 l.k,.int .i64 l.n] t)) 2 (some ⟨w.heap.size,0,none⟩) 1 [.int .u8 l.k,.int .i64 l.n]:=
 ⟨rfl,fun _=>⟨w.heap.size,0,rfl,by simp,fun j u hu=>by rw[(Blk.new w t _).cell];simpa using hu⟩⟩
theorem Rd.cell2 {w:World} {A:Option Addr} {n:Nat} {l:List Ln} (h:Rd w 2 A n (lnsC l)) {i:Nat} {x:Ln} (hx:l[i]?=some x) :
  ∃b off,A=some ⟨b,off,none⟩∧b<w.heap.size∧w.cell? ⟨b,off+i*2,none⟩=some (.int .u8 x.k)∧w.cell? ⟨b,off+i*2+1,none⟩=some (.int .i64 x.n):=by
 have hl:=h.len;rw[lnsC_len] at hl;have hi:=(List.getElem?_eq_some_iff.1 hx).1;obtain⟨b,off,rfl,hb,hc⟩:=h.at_ (by omega);obtain⟨g1,g2⟩:=lnsC_get l i x hx;exact⟨b,off,rfl,hb,hc _ _ g1,by rw[Nat.add_assoc];exact hc _ _ g2⟩
def lensL (s:Sty):List Ln:=[s.w,s.h,s.minw,s.maxw,s.minh,s.maxh,s.basis,s.m0,s.m1,s.m2,s.m3]
theorem lens_take (s:Sty) {k:Nat} (h:k<4):lnsC ((lensL s).take (7+k))++[.int .u8 (mgL s k).k,.int .i64 (mgL s k).n]=lnsC ((lensL s).take (7+(k+1))):=by
 rcases nat4' h with rfl|rfl|rfl|rfl<;>rfl
theorem lens_at (s:Sty) {k:Nat} (h:k<11):∃x,(lensL s)[k]?=some x:=⟨(lensL s)[k]'(by simpa[lensL] using h),AE _⟩
def zbOk (s:Sty) (k:Nat):Bool:=!(bdN s k != 0)&&!(pdN s k != 0)
def zbV (s:Sty) (k:Nat):Bool:=if k<4 then zbOk s k&&zbV s (k+1) else true
termination_by 4-k
def zlOk (l:Ln):Bool:=!(l.k != 0)&&!(l.n != 0)
def zlV (s:Sty) (k:Nat):Bool:=if k<11 then (match (lensL s)[k]? with|some x=>zlOk x|none=>true)&&zlV s (k+1) else true
termination_by 11-k
def flags0 (s:Sty):Bool:=(((((((((((!s.flow)&&(!s.wrap))&&(s.float==0))&&(s.clear==0))&&(s.align==0))&&(s.justify==0))&&(s.items==0))&&(s.line==0))&&(s.order==0))&&(s.grow==0))&&(s.shrink==0))
def emptyV (s:Sty):Bool:=zbV s 0&&zlV s 0&&flags0 s
theorem rempty_any (s:Sty) (w:World):Calls Tryz.prog 101 #[.agg s.cells] w fun e w'=>e=.returned (.bool (emptyV s))∧Ext w w':=by
 obtain⟨i0,hi0,hz0,hz1,hz2⟩:=info_parts ln_info;have HI:=AB (And.intro hi0 (And.intro hz0 (And.intro hz1 hz2)));clear hi0 hz0 hz1 hz2;go_enter Tryz.func101,Tryz.ntmps101;go_upto_region 2 with fail;have B0:Blk ((w.alloc (.cells s.cells 65)).alloc (.cells #[.int .u8 s.w.k,.int .i64 s.w.n,.int .u8 s.h.k,.int .i64 s.h.n,.int .u8 s.minw.k,.int .i64 s.minw.n,.int .u8 s.maxw.k,.int .i64 s.maxw.n,.int .u8 s.minh.k,.int .i64 s.minh.n,.int .u8 s.maxh.k,.int .i64 s.maxh.n,.int .u8 s.basis.k,.int .i64 s.basis.n] 60)) w.heap.size 65 s.cells:=(Blk.new _ _ _).alloc _;have O0:((w.alloc (.cells s.cells 65)).alloc (.cells #[.int .u8 s.w.k,.int .i64 s.w.n,.int .u8 s.h.k,.int .i64 s.h.n,.int .u8 s.minw.k,.int .i64 s.minw.n,.int .u8 s.maxw.k,.int .i64 s.maxw.n,.int .u8 s.minh.k,.int .i64 s.minh.n,.int .u8 s.maxh.k,.int .i64 s.maxh.n,.int .u8 s.basis.k,.int .i64 s.basis.n] 60)).ownsRow (w.heap.size+1) 60 2 (.slice (some ⟨w.heap.size+1,0,none⟩) 7 7) 7 (lnsC ((lensL s).take (7+0))):=by
  have:=World.ownsRow_lit (base:=w.heap.size+1) (e:=60) (size:=2) (w.alloc (.cells s.cells 65)) #[.int .u8 s.w.k,.int .i64 s.w.n,.int .u8 s.h.k,.int .i64 s.h.n,.int .u8 s.minw.k,.int .i64 s.minw.n,.int .u8 s.maxw.k,.int .i64 s.maxw.n,.int .u8 s.minh.k,.int .i64 s.minh.n,.int .u8 s.maxh.k,.int .i64 s.maxh.n,.int .u8 s.basis.k,.int .i64 s.basis.n] 7 (by simp) (by simp[maxLen]) rfl;rw[World.size_alloc] at this;exact this
 have E0:Ext w ((w.alloc (.cells s.cells 65)).alloc (.cells #[.int .u8 s.w.k,.int .i64 s.w.n,.int .u8 s.h.k,.int .i64 s.h.n,.int .u8 s.minw.k,.int .i64 s.minw.n,.int .u8 s.maxw.k,.int .i64 s.maxw.n,.int .u8 s.minh.k,.int .i64 s.minh.n,.int .u8 s.maxh.k,.int .i64 s.maxh.n,.int .u8 s.basis.k,.int .i64 s.basis.n] 60)):=((Ext.refl _).alloc _).alloc _;generalize (w.alloc (.cells s.cells 65)).alloc (.cells #[.int .u8 s.w.k,.int .i64 s.w.n,.int .u8 s.h.k,.int .i64 s.h.n,.int .u8 s.minw.k,.int .i64 s.minw.n,.int .u8 s.maxw.k,.int .i64 s.maxw.n,.int .u8 s.minh.k,.int .i64 s.minh.n,.int .u8 s.maxh.k,.int .i64 s.maxh.n,.int .u8 s.basis.k,.int .i64 s.basis.n] 60)=w0 at *;generalize hg:w.heap.size=g at *;have HG:=AB hg;have hg1:w.heap.size≤g:=by omega
 clear hg;go_wp2_with fail;go_loopw [3,4] (fun v i wr=>∃(k:Nat) (A:Option Addr) (c:Nat),i=.int .i64 k∧v=.slice A (7+k) c∧k≤4∧Hid (zbV s k=zbV s 0)∧Ext w wr∧Blk wr g 65 s.cells∧wr.ownsRow (g+1) 60 2 (.slice A (7+k) c) (7+k) (lnsC ((lensL s).take (7+k)))) (fun _ i _=>4-(intOf i).toNat)
 case atStart=>exact⟨0,_,_,rfl,rfl,by omega,AB rfl,E0,B0,O0⟩
 case round=>
  clear E0 B0 O0 w0;obtain⟨k,A,c,rfl,rfl,q1,HQ,E1,B1,O1⟩:=hrel;have l1:=B1.lt;by_cases hk:k<4
  ·obtain⟨m1,m2,m3,m4⟩:=st_m s hk;have c1:=(B1.cell _).trans m1;have c2:=(B1.cell _).trans m2;have HT:=AB (lens_take s hk);have HB:=AB m3;have HP:=AB m4;have HOK:=AB (show zbOk s k=(!(bdN s k != 0)&&!(pdN s k != 0)) from rfl);have HN:=AB (fun h:zbOk s k=false=>(show false=emptyV s by rw[emptyV,←AA HQ,zbV,if_pos hk,h];rfl));have HY:=AB (fun h:zbOk s k=true=>(show zbV s (k+1)=zbV s 0 by rw[←AA HQ,zbV.eq_def s k,if_pos hk,h,Bool.true_and]));generalize mgL s k=L at *;generalize bdN s k=bd at *;generalize pdN s k=pd at *;have hkI:(0:Int)≤(k:Int)∧(k:Int)<4:=by omega
   clear m1 m2 m3 m4 HQ;go_wp2_with (first
    |(at_builtin
      refine wpList_append_rd rfl (.tmp 25) (.tmp 30) _ rfl (g+1) 60 i0 _ 2 16 Tryz.underlying210 (AA HI).1 (AA HI).2.1 (AA HI).2.2.1 (AA HI).2.2.2 rfl (by omega) _ (7+k) (lnsC ((lensL s).take (7+k))) rfl (O1.alloc _) _ 1 1 [.int .u8 L.k,.int .i64 L.n] rfl (Rd.one2 L _) (by simp[Value.oneCell']) (by simp only[maxLen];omega) (by omega) (by simp;omega) ?_;intro A4 c4 w4 own4 g4 at4;have E4:=(E1.alloc (.cells #[.int .u8 L.k,.int .i64 L.n] 60)).grown g4 (fun j e=>by have:=(O1.lt j e).1;omega);have B4:=(B1.alloc (.cells #[.int .u8 L.k,.int .i64 L.n] 60)).grown g4 (fun e=>by have:=(O1.lt _ e).1;omega);have c3:=(B4.cell _).trans (AA HB);have c4':=(B4.cell _).trans (AA HP);have l4:=B4.lt))
   all_goals first
    |(go_ret;exact⟨ret1b (AA HN (by rw[AA HOK];simp[*])),E4⟩)
    |(go_roundw
      case rel=>
       rw[AA HT] at own4;exact⟨k+1,A4,c4,by go_num,by rw[Nat.add_assoc],by omega,AB (AA HY (by rw[AA HOK];simp[*])),E4,B4,own4⟩
      case measure=>simp[intOf];omega)
  ·have HM:Hid (zbV s 0=true):=AB (by rw[←AA HQ,zbV,if_neg hk]);have R1:=Rd.of_own O1;obtain⟨b,off,rfl,hb,hc⟩:=R1.at_ (by omega);have HC:=AB hc;have hkI:¬((k:Int)<4):=by omega
   have HK:=AB (show 7+k=11 by omega);have hk11:7+k≤11∧11≤7+k:=by omega
   clear HQ O1 R1 hc q1;go_wp2_with fail;clear hk hkI
   go_loop [5] (fun i=>∃j:Nat,i=.int .i64 j∧j≤11∧Hid (zlV s j=zlV s 0)) (fun i=>11-(intOf i).toNat)
   case atStart=>exact⟨0,rfl,by omega,AB rfl⟩
   case round=>
    obtain⟨j,rfl,q1,HQ⟩:=hrel;by_cases hj:j<11
    ·obtain⟨x,hx⟩:=lens_at s hj;have hc:=AA HC;rw[show (lensL s).take (7+k)=lensL s by rw[AA HK];rfl] at hc;obtain⟨g1,g2⟩:=lnsC_get (lensL s) j x hx;have ck:=hc _ _ g1;have cn:=hc _ _ g2;rw[←Nat.add_assoc] at cn;have HOK:=AB (show zlOk x=(!(x.k != 0)&&!(x.n != 0)) from rfl);have HN:=AB (fun h:zlOk x=false=>(show false=emptyV s by rw[emptyV,←AA HQ,zlV,if_pos hj,hx];simp only[h];simp));have HY:=AB (fun h:zlOk x=true=>(show zlV s (j+1)=zlV s 0 by rw[←AA HQ,zlV.eq_def s j,if_pos hj,hx];simp only[h,Bool.true_and]));obtain⟨Lk,Lnn⟩:=x;simp only at ck cn HOK;have hin:(0:Int)≤(j:Int)∧(j:Int)<((7+k:Nat):Int):=by omega
     have hj2:j<7+k:=by omega
     clear hc g1 g2 hx HQ HC;go_wp2_with fail
     all_goals first
      |(go_ret;exact⟨ret1b (AA HN (by rw[AA HOK];simp[*])),E1⟩)
      |(go_round
        case rel=>exact⟨j+1,by go_num,by omega,AB (AA HY (by rw[AA HOK];simp[*]))⟩
        case measure=>simp[intOf];omega)
    ·have HL:Hid (zlV s 0=true):=AB (by rw[←AA HQ,zlV,if_neg hj]);have hj2:¬(j<7+k):=by omega
     have hjI:¬((j:Int)<((7+k:Nat):Int)):=by omega
     clear HQ q1 HC;go_upto_region 13 with fail;clear hj hj2 hjI;have cc:=B1.cell;have ll:=B1.lt;obtain⟨a1,h1⟩:∃y,s.flow=y:=⟨_,rfl⟩
     obtain⟨a2,h2⟩:∃y,s.wrap=y:=⟨_,rfl⟩
     obtain⟨a3,h3⟩:∃y,(s.float==0)=y:=⟨_,rfl⟩
     obtain⟨a4,h4⟩:∃y,(s.clear==0)=y:=⟨_,rfl⟩
     obtain⟨a5,h5⟩:∃y,(s.align==0)=y:=⟨_,rfl⟩
     obtain⟨a6,h6⟩:∃y,(s.justify==0)=y:=⟨_,rfl⟩
     obtain⟨a7,h7⟩:∃y,(s.items==0)=y:=⟨_,rfl⟩
     obtain⟨a8,h8⟩:∃y,(s.line==0)=y:=⟨_,rfl⟩
     obtain⟨a9,h9⟩:∃y,(s.order==0)=y:=⟨_,rfl⟩
     obtain⟨b1,i1⟩:∃y,(s.grow==0)=y:=⟨_,rfl⟩
     obtain⟨b2,i2⟩:∃y,(s.shrink==0)=y:=⟨_,rfl⟩
     have HR:Hid (emptyV s=(((((((((((!a1)&&(!a2))&&a3)&&a4)&&a5)&&a6)&&a7)&&a8)&&a9)&&b1)&&b2)):=AB (by rw[emptyV,AA HM,AA HL,flags0,h1,h2,h3,h4,h5,h6,h7,h8,h9,i1,i2];rfl);clear HM HL B1;cases a1
     cases a2
     cases a3
     rotate_left;cases a4
     rotate_left;cases a5
     rotate_left;cases a6
     rotate_left;cases a7
     rotate_left;cases a8
     rotate_left;cases a9
     rotate_left;cases b1
     rotate_left;cases b2
     all_goals
      go_wp2_with fail;go_ret;exact⟨ret1b (AA HR).symm,E1⟩
def rightV (s:Sty):Bool:=if s.kind=1∨s.kind=2 then boxV s else if s.kind=3 then emptyV s&&decide (s.ul≤65536) else false
theorem rright_any (s:Sty) (w:World):Calls Tryz.prog 72 #[.agg s.cells] w fun e w'=>e=.returned (.bool (rightV s))∧Ext w w':=by
 have B0:Blk (w.alloc (.cells s.cells 65)) w.heap.size 65 s.cells:=Blk.new _ _ _;have E0:Ext w (w.alloc (.cells s.cells 65)):=(Ext.refl _).alloc _;have HB:=AB (fun h:s.kind=1∨s.kind=2=>(show boxV s=rightV s by rw[rightV,if_pos h]));have HT:=AB (fun h:s.kind=3=>(show (emptyV s&&decide (s.ul≤65536))=rightV s by rw[rightV,if_neg (by omega),if_pos h]));have HF:=AB (fun (h1:s.kind≠1) (h2:s.kind≠2) (h3:s.kind≠3)=>(show false=rightV s by rw[rightV,if_neg (by omega),if_neg h3]));have c0:∀i:Nat,(w.alloc (.cells s.cells 65)).cell? ⟨w.heap.size,i,none⟩=s.cells[i]?:=B0.cell;have hk0:(w.alloc (.cells s.cells 65)).cell? ⟨w.heap.size,0,none⟩=some (.int .u8 s.kind):=c0 0;have hul:(w.alloc (.cells s.cells 65)).cell? ⟨w.heap.size,42,none⟩=some (.slice s.ua s.ul s.uc):=c0 42;have cb:=fun w=>AB (rbox_any s w)
 have ce:=fun w=>AB (rempty_any s w)
 clear c0;by_cases k1:s.kind=1
 ·have HV:=AB (AA HB (.inl k1));have e1:(s.kind==1)=true:=by simpa using k1
  clear k1;go_enter Tryz.func72,Tryz.ntmps72;go_upto_region 4 with fail;go_step;refine wpList_load_blk rfl 65 _ rfl w.heap.size rfl 65 s.cells _ B0 Tryz.underlying65 rfl (info_style s) ?_;simp only[AC];go_wp2_with fail;refine (AA (cb _)).mono ?_;rintro e w1 ⟨rfl,hx⟩;go_wp2_with fail;go_ret;exact⟨ret1b (AA HV),E0.trans hx⟩
 have e1:(s.kind==1)=false:=by simpa using k1
 by_cases k2:s.kind=2
 ·have HV:=AB (AA HB (.inr k2));have e2:(s.kind==2)=true:=by simpa using k2
  clear k1 k2;go_enter Tryz.func72,Tryz.ntmps72;go_upto_region 4 with fail;go_step;refine wpList_load_blk rfl 65 _ rfl w.heap.size rfl 65 s.cells _ B0 Tryz.underlying65 rfl (info_style s) ?_;simp only[AC];go_wp2_with fail;refine (AA (cb _)).mono ?_;rintro e w1 ⟨rfl,hx⟩;go_wp2_with fail;go_ret;exact⟨ret1b (AA HV),E0.trans hx⟩
 have e2:(s.kind==2)=false:=by simpa using k2
 by_cases k3:s.kind=3
 ·have HV:=AB (AA HT k3);have e3:(s.kind==3)=true:=by simpa using k3
  clear k1 k2 k3;go_enter Tryz.func72,Tryz.ntmps72;go_upto_region 6 with fail;go_step;refine wpList_load_blk rfl 65 _ rfl w.heap.size rfl 65 s.cells _ B0 Tryz.underlying65 rfl (info_style s) ?_;simp only[AC];go_wp2_with fail;refine (AA (ce _)).mono ?_;rintro e w1 ⟨rfl,hx⟩;have hul':=(hx.cells.1 w.heap.size 42 (by simp)).trans hul;have hz:=hx.size;simp only[World.size_alloc] at hz;generalize emptyV s=em at *;cases em
  ·go_wp2_with fail;go_ret;exact⟨ret1b (by rw[←AA HV];rfl),E0.trans hx⟩
  ·go_wp2_with fail;go_ret;exact⟨ret1b (by rw[←AA HV,Bool.true_and];exact decide_eq_decide.2 (by omega)),E0.trans hx⟩
 ·have e3:(s.kind==3)=false:=by simpa using k3
  have HV:=AB (AA HF k1 k2 k3);go_enter Tryz.func72,Tryz.ntmps72;go_wp2_with fail;go_ret;exact⟨ret1b (AA HV),E0⟩
theorem pwithin_any (x a b:Int) (w:World):Calls Tryz.prog 141 #[.int .i64 x,.int .i64 a,.int .i64 b] w fun e w'=>e=.returned (.bool (decide (a≤x∧x≤b)))∧w=w':=by
 go_enter Tryz.func141,Tryz.ntmps141
 go_wp2
 all_goals go_ret
 all_goals exact⟨ret1b (by rw[Bool.eq_iff_iff];simp;omega),rfl⟩
theorem pthick_any (x:Int) (w:World):Calls Tryz.prog 133 #[.int .i64 x] w fun e w'=>e=.returned (.bool (decide (0≤x∧x≤1099511627776)))∧w=w':=by
 have c:=fun w=>AB (pwithin_any x 0 1099511627776 w)
 go_enter Tryz.func133,Tryz.ntmps133;go_wp2_with fail;refine (AA (c _)).mono ?_;rintro e w' ⟨rfl,rfl⟩;go_wp2_with fail;go_ret;exact⟨ret1b (by simp),rfl⟩
def fromV (l:Ln) (p q:Int):Bool:=if l.k=0 then decide (l.n=0) else if l.k=1 then decide (p≤l.n∧l.n≤1099511627776) else if l.k=2 then decide (q≤l.n∧l.n≤100000) else false
theorem pfrom_any (l:Ln) (p q:Int) (w:World):Calls Tryz.prog 152 #[l.v,.int .i64 p,.int .i64 q] w fun e w'=>e=.returned (.bool (fromV l p q))∧Ext w w':=by
 obtain⟨k,n⟩:=l;by_cases k0:k=0
 ·subst k0;go_enter Tryz.func152,Tryz.ntmps152;go_wp2_with fail;go_ret;exact⟨ret1b (by rw[Bool.eq_iff_iff];simp[fromV]),(Ext.refl _).alloc _⟩
 have k0b:(k==0)=false:=by simpa using k0
 by_cases k1:k=1
 ·subst k1;have c:=fun w=>AB (pwithin_any n p 1099511627776 w)
  go_enter Tryz.func152,Tryz.ntmps152;go_wp2_with fail;refine (AA (c _)).mono ?_;rintro e w' ⟨rfl,rfl⟩;go_wp2_with fail;go_ret;exact⟨ret1b (by simp[fromV]),(Ext.refl _).alloc _⟩
 have k1b:(k==1)=false:=by simpa using k1
 by_cases k2:k=2
 ·subst k2;have c:=fun w=>AB (pwithin_any n q 100000 w)
  go_enter Tryz.func152,Tryz.ntmps152;go_wp2_with fail;refine (AA (c _)).mono ?_;rintro e w' ⟨rfl,rfl⟩;go_wp2_with fail;go_ret;exact⟨ret1b (by simp[fromV]),(Ext.refl _).alloc _⟩
 have k2b:(k==2)=false:=by simpa using k2
 go_enter Tryz.func152,Tryz.ntmps152;go_wp2_with fail;go_ret;exact⟨ret1b (by simp[fromV,k0,k1,k2]),(Ext.refl _).alloc _⟩
theorem from_may (l:Ln):fromV l 0 0=mayV l false:=by
 unfold fromV mayV
 split
 ·rfl
 ·split
  ·exact decide_eq_decide.2 (by simp;omega)
  ·split
   ·exact decide_eq_decide.2 (by simp;omega)
   ·rfl
theorem from_margin (l:Ln):fromV l (-1099511627776) (-100000)=mayV l true:=by
 unfold fromV mayV
 split
 ·rfl
 ·split
  ·exact decide_eq_decide.2 (by simp;omega)
  ·split
   ·exact decide_eq_decide.2 (by simp;omega)
   ·rfl
theorem pmay_any (l:Ln) (w:World):Calls Tryz.prog 126 #[l.v] w fun e w'=>e=.returned (.bool (mayV l false))∧Ext w w':=by
 have c:=fun w=>AB (pfrom_any l 0 0 w)
 rw[from_may] at c;obtain⟨k,n⟩:=l;go_enter Tryz.func126,Tryz.ntmps126;go_wp2_with fail;refine (AA (c _)).mono ?_;rintro e w' ⟨rfl,hx⟩;go_wp2_with fail;go_ret;exact⟨rfl,((Ext.refl _).alloc _).trans hx⟩
theorem pmargin_any (l:Ln) (w:World):Calls Tryz.prog 130 #[l.v] w fun e w'=>e=.returned (.bool (mayV l true))∧Ext w w':=by
 have c:=fun w=>AB (pfrom_any l (-1099511627776) (-100000) w)
 rw[from_margin] at c;obtain⟨k,n⟩:=l;go_enter Tryz.func130,Tryz.ntmps130;go_wp2_with fail;refine (AA (c _)).mono ?_;rintro e w' ⟨rfl,hx⟩;go_wp2_with fail;go_ret;exact⟨rfl,((Ext.refl _).alloc _).trans hx⟩
def tallS (l:Ln):Bool:=(l.k != 2)&&mayV l false
theorem ptall_any (l:Ln) (w:World):Calls Tryz.prog 128 #[l.v] w fun e w'=>e=.returned (.bool (tallS l))∧Ext w w':=by
 have c:=fun w=>AB (pmay_any l w)
 have HV:=AB (show tallS l=((l.k != 2)&&mayV l false) from rfl);generalize tallS l=V at *;generalize mayV l false=M at *;obtain⟨k,n⟩:=l;cases hk:(k != 2)
 ·go_enter Tryz.func128,Tryz.ntmps128;go_wp2_with fail;go_ret;exact⟨ret1b (by rw[AA HV];simp only[hk];rfl),(Ext.refl _).alloc _⟩
 ·go_enter Tryz.func128,Tryz.ntmps128;go_wp2_with fail;refine (AA (c _)).mono ?_;rintro e w' ⟨rfl,hx⟩;go_wp2_with fail;go_ret;exact⟨ret1b (by rw[AA HV];simp only[hk,Bool.true_and]),((Ext.refl _).alloc _).trans hx⟩
theorem call_enter {P:Program} {f:FuncId} {fn:Func} (hf:P.funcs[f]?=some fn) (hname:(fn.name=="runtime.NumGoroutine")=false) (hb:fn.body.isSome=true) (args:Array Value) (w:World):(callFunc f args).run P w=.ok (.enter f args) w:=by
 have h1:fn.name≠"runtime.NumGoroutine":=by simpa using hname
 cases hc:fn.body with
 |none=>rw[hc] at hb;cases hb
 |some c=>simp[callFunc,hf,h1,hc]
@[reducible] def fv (n:Nat):Value:=.func (.func n) #[] #[]
def allL (P:Ln→Bool) (ls:List Ln) (k:Nat):Bool:=if k<ls.length then (match ls[k]? with|some x=>P x|none=>true)&&allL P ls (k+1) else true
termination_by ls.length-k
theorem eachL_any (N:Nat) (P:Ln→Bool) (hent:∀args w,(callFunc N args).run Tryz.prog w=.ok (.enter N args) w) (hf:∀l w,Calls Tryz.prog N #[l.v] w fun e w'=>e=.returned (.bool (P l))∧Ext w w') (A:Option Addr) (n c:Nat) (ls:List Ln) (w:World) (h:Rd w 2 A n (lnsC ls)) (hn:n≤1000) :
  Calls Tryz.prog 125 #[fv N,.slice A n c] w fun e w'=>e=.returned (.bool (allL P ls 0))∧Ext w w':=by
 have hl:ls.length=n:=by have:=h.len;rw[lnsC_len] at this;omega
 have HL:=AB hl;have HF:=fun l w=>AB (hf l w)
 clear hl hf;go_enter Tryz.func125,Tryz.ntmps125;go_wp2_with fail;go_loopw [9] (fun i wr=>∃k:Nat,i=.int .i64 k∧k≤n∧Hid (allL P ls k=allL P ls 0)∧Ext w wr) (fun i _=>n-(intOf i).toNat)
 case atStart=>exact⟨0,rfl,by omega,AB rfl,Ext.refl _⟩
 case round=>
  obtain⟨k,rfl,q1,HQ,E1⟩:=hrel;by_cases hk:k<n
  ·have hkl:k<ls.length:=by rw[AA HL];exact hk
   have hx:=AE hkl;obtain⟨b,off,rfl,hb,ck,cn⟩:=(h.ext E1).cell2 hx;have HN:=AB (fun hp:P ls[k]=false=>(show false=allL P ls 0 by rw[←AA HQ,allL,if_pos hkl,hx];simp only[hp];simp));have HY:=AB (fun hp:P ls[k]=true=>(show allL P ls (k+1)=allL P ls 0 by rw[←AA HQ,allL.eq_def P ls k,if_pos hkl,hx];simp only[hp,Bool.true_and]));have cf:=HF ls[k];generalize ls[k]=L at *;have hkI:(0:Int)≤(k:Int)∧(k:Int)<(n:Int):=by omega
   obtain⟨Lk,Lnn⟩:=L;simp only at ck cn;generalize P ⟨Lk,Lnn⟩=R at *;clear hx HQ HF hkl;cases R
   ·go_wp2_with fail;refine (AA (cf _)).mono ?_;rintro e w2 ⟨rfl,hx⟩;go_wp2_with fail;go_ret;exact⟨ret1b (AA HN (by first|rfl|trivial)),(E1.alloc _).trans hx⟩
   ·go_wp2_with fail;refine (AA (cf _)).mono ?_;rintro e w2 ⟨rfl,hx⟩;go_wp2_with fail;go_roundw
    case rel=>exact⟨k+1,by go_num,by omega,AB (AA HY (by first|rfl|trivial)),(E1.alloc _).trans hx⟩
    case measure=>simp[intOf];omega
  ·have HV:=AB (show true=allL P ls 0 by rw[←AA HQ,allL,if_neg (by rw[AA HL];exact hk)]);have hkI:¬((k:Int)<(n:Int)):=by omega
   go_wp2_with fail;go_ret;exact⟨ret1b (AA HV),E1⟩
def allI (P:Int→Bool) (zs:List Int) (k:Nat):Bool:=if k<zs.length then (match zs[k]? with|some x=>P x|none=>true)&&allI P zs (k+1) else true
termination_by zs.length-k
theorem eachI_any (N:Nat) (P:Int→Bool) (hent:∀args w,(callFunc N args).run Tryz.prog w=.ok (.enter N args) w) (hf:∀x w,Calls Tryz.prog N #[.int .i64 x] w fun e w'=>e=.returned (.bool (P x))∧w=w') (A:Option Addr) (n c:Nat) (zs:List Int) (w:World) (h:Rd w 1 A n (zs.map (Value.int .i64))) (hn:n≤1000) :
  Calls Tryz.prog 132 #[fv N,.slice A n c] w fun e w'=>e=.returned (.bool (allI P zs 0))∧Ext w w':=by
 have hl:zs.length=n:=by have:=h.len;rw[List.length_map] at this;omega
 have HL:=AB hl;have HF:=fun l w=>AB (hf l w)
 clear hl hf;go_enter Tryz.func132,Tryz.ntmps132;go_wp2_with fail
 go_loop [9] (fun i=>∃k:Nat,i=.int .i64 k∧k≤n∧Hid (allI P zs k=allI P zs 0)) (fun i=>n-(intOf i).toNat)
 case atStart=>exact⟨0,rfl,by omega,AB rfl⟩
 case round=>
  obtain⟨k,rfl,q1,HQ⟩:=hrel;by_cases hk:k<n
  ·have hkl:k<zs.length:=by rw[AA HL];exact hk
   have hx:=AE hkl;obtain⟨b,off,u,rfl,hb,hu,hc⟩:=h.get hk;obtain rfl:Value.int .i64 zs[k]=u:=by
    rw[List.getElem?_map,hx] at hu;exact Option.some.inj hu
   have HN:=AB (fun hp:P zs[k]=false=>(show false=allI P zs 0 by rw[←AA HQ,allI,if_pos hkl,hx];simp only[hp];simp));have HY:=AB (fun hp:P zs[k]=true=>(show allI P zs (k+1)=allI P zs 0 by rw[←AA HQ,allI.eq_def P zs k,if_pos hkl,hx];simp only[hp,Bool.true_and]));have cf:=HF zs[k];clear hu;generalize zs[k]=X at *;have hkI:(0:Int)≤(k:Int)∧(k:Int)<(n:Int):=by omega
   generalize P X=R at *;clear hx HQ HF hkl;cases R
   ·go_wp2_with fail;refine (AA (cf _)).mono ?_;rintro e w2 ⟨rfl,rfl⟩;go_wp2_with fail;go_ret;exact⟨ret1b (AA HN (by first|rfl|trivial)),Ext.refl _⟩
   ·go_wp2_with fail;refine (AA (cf _)).mono ?_;rintro e w2 ⟨rfl,rfl⟩;go_wp2_with fail
    go_round
    case rel=>exact⟨k+1,by go_num,by omega,AB (AA HY (by first|rfl|trivial))⟩
    case measure=>simp[intOf];omega
  ·have HV:=AB (show true=allI P zs 0 by rw[←AA HQ,allI,if_neg (by rw[AA HL];exact hk)]);have hkI:¬((k:Int)<(n:Int)):=by omega
   go_wp2_with fail;go_ret;exact⟨ret1b (AA HV),Ext.refl _⟩
def thickP (x:Int):Bool:=decide (0≤x∧x≤1099511627776)
theorem pthickP (x:Int) (w:World):Calls Tryz.prog 133 #[.int .i64 x] w fun e w'=>e=.returned (.bool (thickP x))∧w=w':=pthick_any x w
def ruleV (s:Sty):Nat→Bool
 |0=>decide (s.float≤2)
 |1=>decide (s.clear≤3)
 |2=>allL (fun l=>mayV l false) [s.w,s.minw,s.maxw,s.basis] 0
 |3=>allL tallS [s.h,s.minh,s.maxh] 0
 |4=>allL (fun l=>mayV l true) [s.m0,s.m1,s.m2,s.m3] 0
 |5=>allI thickP [s.b0,s.b1,s.b2,s.b3] 0
 |6=>allI thickP [s.p0,s.p1,s.p2,s.p3] 0
 |7=>decide (s.align≤2)
 |8=>decide (s.justify≤3)
 |9=>decide (s.items≤3)
 |10=>decide (0≤s.line∧s.line≤1099511627776)
 |11=>decide (-1048576≤s.order∧s.order≤1048576)
 |12=>decide (0≤s.grow∧s.grow≤60)
 |13=>decide (0≤s.shrink∧s.shrink≤60)
 |_=>decide (s.ul=0)
theorem Blk.mid {w:World} {g:Nat} {t:TypeId} {cs:Array Value} (h:Blk w g t cs) (o k n:Nat) (xs:List Value) (hx:(cs.toList.drop o).take (n*k)=xs) (hl:xs.length=n*k):Rd w k (some ⟨g,o,none⟩) n xs:=
 ⟨hl,fun _=>⟨g,o,rfl,h.lt,fun j u hu=>by
  rw[h.cell];rw[←hx,List.getElem?_take] at hu
  split at hu
  ·rw[List.getElem?_drop] at hu;simpa using hu
  ·cases hu⟩⟩
theorem rule_0 (s:Sty) (g:Nat) (w:World) (B:Blk w g 65 s.cells):Calls Tryz.prog 122 #[.pointer (some ⟨g,0,none⟩)] w fun e w'=>e=.returned (.bool (ruleV s 0))∧Ext w w':=by
 have c0:=B.cell;have l0:=B.lt;go_enter Tryz.func122,Tryz.ntmps122
 go_wp2
 all_goals go_ret
 all_goals exact⟨ret1b (rfl),Ext.refl _⟩
theorem rule_1 (s:Sty) (g:Nat) (w:World) (B:Blk w g 65 s.cells):Calls Tryz.prog 123 #[.pointer (some ⟨g,0,none⟩)] w fun e w'=>e=.returned (.bool (ruleV s 1))∧Ext w w':=by
 have c0:=B.cell;have l0:=B.lt;go_enter Tryz.func123,Tryz.ntmps123
 go_wp2
 all_goals go_ret
 all_goals exact⟨ret1b (rfl),Ext.refl _⟩
theorem rule_7 (s:Sty) (g:Nat) (w:World) (B:Blk w g 65 s.cells):Calls Tryz.prog 135 #[.pointer (some ⟨g,0,none⟩)] w fun e w'=>e=.returned (.bool (ruleV s 7))∧Ext w w':=by
 have c0:=B.cell;have l0:=B.lt;go_enter Tryz.func135,Tryz.ntmps135
 go_wp2
 all_goals go_ret
 all_goals exact⟨ret1b (rfl),Ext.refl _⟩
theorem rule_8 (s:Sty) (g:Nat) (w:World) (B:Blk w g 65 s.cells):Calls Tryz.prog 136 #[.pointer (some ⟨g,0,none⟩)] w fun e w'=>e=.returned (.bool (ruleV s 8))∧Ext w w':=by
 have c0:=B.cell;have l0:=B.lt;go_enter Tryz.func136,Tryz.ntmps136
 go_wp2
 all_goals go_ret
 all_goals exact⟨ret1b (rfl),Ext.refl _⟩
theorem rule_9 (s:Sty) (g:Nat) (w:World) (B:Blk w g 65 s.cells):Calls Tryz.prog 137 #[.pointer (some ⟨g,0,none⟩)] w fun e w'=>e=.returned (.bool (ruleV s 9))∧Ext w w':=by
 have c0:=B.cell;have l0:=B.lt;go_enter Tryz.func137,Tryz.ntmps137
 go_wp2
 all_goals go_ret
 all_goals exact⟨ret1b (rfl),Ext.refl _⟩
theorem rule_11 (s:Sty) (g:Nat) (w:World) (B:Blk w g 65 s.cells):Calls Tryz.prog 139 #[.pointer (some ⟨g,0,none⟩)] w fun e w'=>e=.returned (.bool (ruleV s 11))∧Ext w w':=by
 have c0:=B.cell;have l0:=B.lt;go_enter Tryz.func139,Tryz.ntmps139
 go_wp2
 all_goals go_ret
 all_goals exact⟨ret1b (by rw[Bool.eq_iff_iff];simp[ruleV];omega),Ext.refl _⟩
theorem rule_14 (s:Sty) (g:Nat) (w:World) (B:Blk w g 65 s.cells):Calls Tryz.prog 143 #[.pointer (some ⟨g,0,none⟩)] w fun e w'=>e=.returned (.bool (ruleV s 14))∧Ext w w':=by
 have c0:=B.cell;have l0:=B.lt;go_enter Tryz.func143,Tryz.ntmps143
 go_wp2
 all_goals go_ret
 all_goals exact⟨ret1b (by rw[Bool.eq_iff_iff];simp[ruleV]),Ext.refl _⟩
theorem rule_10 (s:Sty) (g:Nat) (w:World) (B:Blk w g 65 s.cells):Calls Tryz.prog 138 #[.pointer (some ⟨g,0,none⟩)] w fun e w'=>e=.returned (.bool (ruleV s 10))∧Ext w w':=by
 have c:=fun w=>AB (pthick_any s.line w)
 have c0:=B.cell;have l0:=B.lt;go_enter Tryz.func138,Tryz.ntmps138;go_wp2_with fail;refine (AA (c _)).mono ?_;rintro e w' ⟨rfl,rfl⟩;go_wp2_with fail;go_ret;exact⟨ret1b (by simp[ruleV]),Ext.refl _⟩
theorem rule_12 (s:Sty) (g:Nat) (w:World) (B:Blk w g 65 s.cells):Calls Tryz.prog 140 #[.pointer (some ⟨g,0,none⟩)] w fun e w'=>e=.returned (.bool (ruleV s 12))∧Ext w w':=by
 have c:=fun w=>AB (pwithin_any s.grow 0 60 w)
 have c0:=B.cell;have l0:=B.lt;go_enter Tryz.func140,Tryz.ntmps140;go_wp2_with fail;refine (AA (c _)).mono ?_;rintro e w' ⟨rfl,rfl⟩;go_wp2_with fail;go_ret;exact⟨ret1b (by simp[ruleV]),Ext.refl _⟩
theorem rule_13 (s:Sty) (g:Nat) (w:World) (B:Blk w g 65 s.cells):Calls Tryz.prog 142 #[.pointer (some ⟨g,0,none⟩)] w fun e w'=>e=.returned (.bool (ruleV s 13))∧Ext w w':=by
 have c:=fun w=>AB (pwithin_any s.shrink 0 60 w)
 have c0:=B.cell;have l0:=B.lt;go_enter Tryz.func142,Tryz.ntmps142;go_wp2_with fail;refine (AA (c _)).mono ?_;rintro e w' ⟨rfl,rfl⟩;go_wp2_with fail;go_ret;exact⟨ret1b (by simp[ruleV]),Ext.refl _⟩
theorem rule_4 (s:Sty) (g:Nat) (w:World) (B:Blk w g 65 s.cells):Calls Tryz.prog 129 #[.pointer (some ⟨g,0,none⟩)] w fun e w'=>e=.returned (.bool (ruleV s 4))∧Ext w w':=by
 have c:=fun w h=>AB (eachL_any 130 (fun l=>mayV l true) (call_enter Tryz.func130 (by kernel_rfl) (by kernel_rfl)) pmargin_any (some ⟨g,16,none⟩) 4 4 [s.m0,s.m1,s.m2,s.m3] w h (by omega))
 have c0:=B.cell;have l0:=B.lt;go_enter Tryz.func129,Tryz.ntmps129;go_wp2_with fail;refine (AA (c _ (B.mid 16 2 4 _ rfl rfl))).mono ?_;rintro e w' ⟨rfl,hx⟩;go_wp2_with fail;go_ret;exact⟨rfl,hx⟩
theorem rule_5 (s:Sty) (g:Nat) (w:World) (B:Blk w g 65 s.cells):Calls Tryz.prog 131 #[.pointer (some ⟨g,0,none⟩)] w fun e w'=>e=.returned (.bool (ruleV s 5))∧Ext w w':=by
 have c:=fun w h=>AB (eachI_any 133 thickP (call_enter Tryz.func133 (by kernel_rfl) (by kernel_rfl)) pthickP (some ⟨g,24,none⟩) 4 4 [s.b0,s.b1,s.b2,s.b3] w h (by omega))
 have c0:=B.cell;have l0:=B.lt;go_enter Tryz.func131,Tryz.ntmps131;go_wp2_with fail;refine (AA (c _ (B.mid 24 1 4 _ rfl rfl))).mono ?_;rintro e w' ⟨rfl,hx⟩;go_wp2_with fail;go_ret;exact⟨rfl,hx⟩
theorem rule_6 (s:Sty) (g:Nat) (w:World) (B:Blk w g 65 s.cells):Calls Tryz.prog 134 #[.pointer (some ⟨g,0,none⟩)] w fun e w'=>e=.returned (.bool (ruleV s 6))∧Ext w w':=by
 have c:=fun w h=>AB (eachI_any 133 thickP (call_enter Tryz.func133 (by kernel_rfl) (by kernel_rfl)) pthickP (some ⟨g,28,none⟩) 4 4 [s.p0,s.p1,s.p2,s.p3] w h (by omega))
 have c0:=B.cell;have l0:=B.lt;go_enter Tryz.func134,Tryz.ntmps134;go_wp2_with fail;refine (AA (c _ (B.mid 28 1 4 _ rfl rfl))).mono ?_;rintro e w' ⟨rfl,hx⟩;go_wp2_with fail;go_ret;exact⟨rfl,hx⟩
theorem Blk.rdL {w:World} {g n:Nat} {cs:Array Value} {ls:List Ln} (h:Blk w g 60 cs) (hx:cs.toList=lnsC ls) (hn:ls.length=n):Rd w 2 (some ⟨g,0,none⟩) n (lnsC ls):=
 ⟨by rw[lnsC_len,hn],fun _=>⟨g,0,rfl,h.lt,fun j u hu=>by rw[h.cell];rw[←hx] at hu;simpa using hu⟩⟩
theorem rule_2 (s:Sty) (g:Nat) (w:World) (B:Blk w g 65 s.cells):Calls Tryz.prog 124 #[.pointer (some ⟨g,0,none⟩)] w fun e w'=>e=.returned (.bool (ruleV s 2))∧Ext w w':=by
 have c:=fun gq w h=>AB (eachL_any 126 (fun l=>mayV l false) (call_enter Tryz.func126 (by kernel_rfl) (by kernel_rfl)) pmay_any (some ⟨gq,0,none⟩) 4 4 [s.w,s.minw,s.maxw,s.basis] w h (by omega))
 go_enter Tryz.func124,Tryz.ntmps124;go_upto_region 1 with fail;have cc:=B.cell;have ll:=B.lt;refine wp_region_ord [(1,0),(1,1),(1,2),(0,3),(1,4),(1,5),(1,6),(0,7),(1,8),(1,9),(1,10),(0,11),(1,12),(1,13),(1,14),(0,15),(3,16),(3,17),(1,18)] 16 (fun w'=>Ext w w') (by kernel_rfl) (by kernel_rfl) rfl (by kernel_rfl) ((Ext.refl _).drew) ?_;simp only[AD]
 iterate 16 ((first|refine ordQA ?_|refine ordQB ?_);simp only[AC])
 have HX:=AB (Ext.refl w).drew;generalize w.drew=w0 at *;refine ord_last ?_;refine Go.Great.wpList_buildSliceTo rfl 210 60 4 _ rfl _ rfl _ rfl Tryz.underlying210 (lnsC [s.w,s.minw,s.maxw,s.basis]).toArray (by kernel_rfl) ?_;simp only[AC];have hx:Ext w0 (w0.alloc (.cells (lnsC [s.w,s.minw,s.maxw,s.basis]).toArray 60)):=(Ext.refl _).alloc _;have R5:=(Blk.new w0 60 (lnsC [s.w,s.minw,s.maxw,s.basis]).toArray).rdL (ls:=_) rfl rfl;refine⟨rfl,?_⟩;replace HX:=AB ((AA HX).trans hx);clear hx;refine ord_last ?_;go_wp2_with fail;refine (AA (c _ _ R5)).mono ?_;rintro e w2 ⟨rfl,hx⟩;replace HX:=AB ((AA HX).trans hx);clear hx;go_wp2_with fail
 iterate 1 ((first|refine ordQA ?_|refine ordQB ?_);simp only[AC])
 refine ord_nil ?_;go_wp2_with fail;go_ret;exact⟨rfl,AA HX⟩
theorem rule_3 (s:Sty) (g:Nat) (w:World) (B:Blk w g 65 s.cells):Calls Tryz.prog 127 #[.pointer (some ⟨g,0,none⟩)] w fun e w'=>e=.returned (.bool (ruleV s 3))∧Ext w w':=by
 have c:=fun gq w h=>AB (eachL_any 128 tallS (call_enter Tryz.func128 (by kernel_rfl) (by kernel_rfl)) ptall_any (some ⟨gq,0,none⟩) 3 3 [s.h,s.minh,s.maxh] w h (by omega))
 go_enter Tryz.func127,Tryz.ntmps127;go_upto_region 1 with fail;have cc:=B.cell;have ll:=B.lt;refine wp_region_ord [(1,0),(1,1),(1,2),(0,3),(1,4),(1,5),(1,6),(0,7),(1,8),(1,9),(1,10),(0,11),(3,12),(3,13),(1,14)] 12 (fun w'=>Ext w w') (by kernel_rfl) (by kernel_rfl) rfl (by kernel_rfl) ((Ext.refl _).drew) ?_;simp only[AD]
 iterate 12 ((first|refine ordQA ?_|refine ordQB ?_);simp only[AC])
 have HX:=AB (Ext.refl w).drew;generalize w.drew=w0 at *;refine ord_last ?_;refine Go.Great.wpList_buildSliceTo rfl 210 60 3 _ rfl _ rfl _ rfl Tryz.underlying210 (lnsC [s.h,s.minh,s.maxh]).toArray (by kernel_rfl) ?_;simp only[AC];have hx:Ext w0 (w0.alloc (.cells (lnsC [s.h,s.minh,s.maxh]).toArray 60)):=(Ext.refl _).alloc _;have R5:=(Blk.new w0 60 (lnsC [s.h,s.minh,s.maxh]).toArray).rdL (ls:=_) rfl rfl;refine⟨rfl,?_⟩;replace HX:=AB ((AA HX).trans hx);clear hx;refine ord_last ?_;go_wp2_with fail;refine (AA (c _ _ R5)).mono ?_;rintro e w2 ⟨rfl,hx⟩;replace HX:=AB ((AA HX).trans hx);clear hx;go_wp2_with fail
 iterate 1 ((first|refine ordQA ?_|refine ordQB ?_);simp only[AC])
 refine ord_nil ?_;go_wp2_with fail;go_ret;exact⟨rfl,AA HX⟩
end Go.Proofs.YtamldoocjjdidaaGreat
