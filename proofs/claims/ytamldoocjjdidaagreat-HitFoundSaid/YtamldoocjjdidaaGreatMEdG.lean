import Derived.Test.YtamldoocjjdidaaGreatMRow
import Derived.Laws.Externs
import Derived.Outline
import Derived.Deep.RegionWith
import Derived.Deep.RegionHeld3
namespace Go.Proofs.YtamldoocjjdidaaGreat
open Go.RowKit
set_option maxRecDepth 100000
set_option maxHeartbeats 64000000
theorem wide_cut (hi lo:Int) (h0:0≤lo) (h1:lo≤18446744073709551615) (w:World):Calls Tryz.prog 63 #[.agg #[.int .i64 hi,.int .u64 lo]] w fun e w'=>e=.returned (.tuple #[.int .i64 (cutV (hi*18446744073709551616+lo)),.bool (cutB (hi*18446744073709551616+lo))])∧Ext w w':=by
 go_enter Tryz.func63,Tryz.ntmps63;go_wp2_with (first|(go_at_call 44;(with_reducible refine (au_cut _ _).mono ?_);rintro e w' ⟨rfl,rfl⟩))
 ·rename_i h
  go_ret2;have e:hi*18446744073709551616+lo=wrap64 lo:=by simp[wrap64] at h ⊢;omega
  rw[e];exact⟨rfl,(Ext.refl _).alloc _⟩
 ·rename_i h h2
  go_ret2;have e:hi*18446744073709551616+lo < -1099511627776:=by simp[wrap64] at h ⊢;omega
  refine⟨ret2 ?_ ?_,(Ext.refl _).alloc _⟩
  ·unfold cutV;rw[if_neg (by omega),if_pos e]
  ·simp[cutB,e]
 ·rename_i h h2
  go_ret2;have e:1099511627776<hi*18446744073709551616+lo:=by simp[wrap64] at h ⊢;omega
  refine⟨ret2 ?_ ?_,(Ext.refl _).alloc _⟩
  ·unfold cutV;rw[if_pos e]
  ·simp[cutB,e]
theorem add64_run (x y:Int) (hx:0≤x) (hy:0≤y) (w:World):(callFunc 62 #[.int .u64 x,.int .u64 y,.int .u64 0]).run Tryz.prog w=.ok (.value (.tuple #[.int .u64 ((x+y) % 18446744073709551616),.int .u64 ((x+y) / 18446744073709551616)])) w:=by
 rw[run_callFunc_extern Tryz.func62 (by kernel_rfl) (by kernel_rfl) (by kernel_rfl) (e:=add64Entry) (by kernel_rfl),run_add64 x y 0 hx hy (by omega) (by omega)];rw[Int.add_zero];rfl
theorem grown_set {a w:World} {g i:Nat} (h:a.grownBy w (some g)) (u:Value):a.grownBy (w.setCell ⟨g,i,none⟩ u) (some g):=
 ⟨h.os,h.tape,h.output,by simpa[World.setCell] using h.size,fun k hk hne=>(Below.heap_setCell w ⟨g,i,none⟩ u k (by
  rintro rfl;exact hne rfl)).trans (h.block k hk hne)⟩
def PutPost (w:World) (g:Nat) (v:Int) (w':World):Prop:=
 ∃hi lo:Int,0≤lo∧lo≤18446744073709551615∧hi*18446744073709551616+lo=v∧Blk w' g 127 #[.int .i64 hi,.int .u64 lo]∧w.grownBy w' (some g)
theorem put_math (x hi lo:Int) (hx:-9223372036854775808≤x) (hx':x≤9223372036854775807) (hl:0≤lo) (hl':lo≤18446744073709551615) (hh:-4611686018427387904≤hi) (hh':hi≤4611686018427387904) :
  wrap64 (hi+wrap64 (x / 9223372036854775808+wrap64 ((lo+IntKind.u64.wrap x) / 18446744073709551616)))*18446744073709551616+(lo+IntKind.u64.wrap x) % 18446744073709551616=hi*18446744073709551616+lo+x:=by
 rw[IntKind.wrap_u64];by_cases h:x<0
 ·have h1:x / 9223372036854775808=-1:=by omega
  have h2:x % 18446744073709551616=x+18446744073709551616:=by omega
  rw[h1,h2];simp only[wrap64];omega
 ·have h1:x / 9223372036854775808=0:=by omega
  have h2:x % 18446744073709551616=x:=by omega
  rw[h1,h2];simp only[wrap64];omega
theorem put_any (x hi lo:Int) (g:Nat) (w:World) (hx:-9223372036854775808≤x) (hx':x≤9223372036854775807) (hl:0≤lo) (hl':lo≤18446744073709551615) (hh:-4611686018427387904≤hi) (hh':hi≤4611686018427387904) (hB:Blk w g 127 #[.int .i64 hi,.int .u64 lo]) :
  Calls Tryz.prog 61 #[.int .i64 x,.pointer (some ⟨g,0,none⟩)] w fun e w'=>e=.returned (.tuple #[])∧PutPost w g (hi*18446744073709551616+lo+x) w':=by
 have hc:=hB.cell;have hf:=hB.frozen;have hlt:=hB.lt;have hy0:0≤IntKind.u64.wrap x:=by rw[IntKind.wrap_u64];omega
 have ha:=fun w=>add64_run lo (IntKind.u64.wrap x) hl hy0 w
 go_enter Tryz.func61,Tryz.ntmps61
 go_wp2
 go_end0
 refine⟨rfl,_,_,?_,?_,put_math x hi lo hx hx' hl hl' hh hh',(hB.set_ 1 _).set_ 0 _,?_⟩
 ·omega
 ·omega
 ·exact grown_set (grown_set (World.grownBy.refl w _) _) _
def lsum:List Int→Int
 |[]=>0
 |x :: r=>x+lsum r
theorem lsum_append:∀a b:List Int,lsum (a++b)=lsum a+lsum b
 |[],b=>by simp[lsum]
 |x :: a,b=>by simp only[List.cons_append,lsum,lsum_append a b];omega
theorem lsum_take (l:List Int) (k:Nat) (h:k<l.length):lsum (l.take (k+1))=lsum (l.take k)+l[k]:=by
 rw[List.take_succ_eq_append_getElem h,lsum_append];simp[lsum]
def I64s (zs:List Int):Prop:=∀z∈zs,-9223372036854775808≤z∧z≤9223372036854775807
structure SumRel (w:World) (g:Nat) (zs:List Int) (k:Nat) (wr:World):Prop where
 (ext:Ext w wr) (lt:w.heap.size≤g)
 (blk:∃hi lo:Int,0≤lo∧lo≤18446744073709551615∧-k≤hi∧hi≤k∧hi*18446744073709551616+lo=lsum (zs.take k)∧Blk wr g 127 #[.int .i64 hi,.int .u64 lo])
theorem au_sum (A:Option Addr) (n c:Nat) (zs:List Int) (w:World) (hr:Rd w 1 A n (ints zs)) (hz:I64s zs) (hn:n≤4611686018427387000) :
  Calls Tryz.prog 45 #[.slice A n c] w fun e w'=>e=.returned (.tuple #[.int .i64 (cutV (lsum zs)),.bool (cutB (lsum zs))])∧Ext w w':=by
 have hlen:zs.length=n:=by have:=hr.len;simpa[ints] using this
 have Hlen:=AB hlen;clear hlen;go_enter Tryz.func45,Tryz.ntmps45
 go_wp2
 go_loopw [11] (fun i wr=>∃k:Nat,k≤n∧i=.int .i64 k∧SumRel w w.heap.size zs k wr) (fun i _=>n-(intOf i).toNat)
 case atStart=>exact⟨0,Nat.zero_le _,rfl,(Ext.refl _).alloc _,Nat.le_refl _,0,0,by omega,by omega,by omega,by omega,by simp[lsum],Blk.new _ _ _⟩
 case round=>
  obtain⟨k,hk,rfl,hrel⟩:=hrel;obtain⟨hE,hg,hi,lo,h0,h1,h2,h3,h4,hB⟩:=hrel;have H4:=AB h4;clear h4;have hBc:=hB.cell;have hBf:=hB.frozen;by_cases hlt:k<n
  ·obtain⟨b,off,u,rfl,hbl,hu,hcell0⟩:=hr.get hlt;have hcell:=(hE.cells.1 b (off+k) hbl).trans hcell0;clear hcell0;obtain⟨z,hz1,rfl⟩:∃z,zs[k]?=some z∧u=.int .i64 z:=by
    unfold ints at hu;rw[List.getElem?_map] at hu;cases hq:zs[k]? with
    |none=>simp[hq] at hu
    |some z=>exact⟨z,rfl,by simpa[hq] using hu.symm⟩
   obtain⟨z1,z2⟩:=hz z (List.mem_of_getElem? hz1);have HZ:=AB hz1;clear hz1 hu;go_wp2_with (first|(go_at_call 61;(with_reducible refine (put_any z hi lo w.heap.size _ z1 z2 h0 h1 (by omega) (by omega) hB).mono ?_);rintro e w' ⟨rfl,hP⟩));obtain⟨hi',lo',p0,p1,p2,p3,p4⟩:=hP;have P2:=AB p2;clear p2
   go_wp2
   go_roundw
   case rel=>
    have h4:=AA H4;have p2:=AA P2;have hs:=lsum_take zs k (by rw[AA Hlen];exact hlt);have hzk:zs[k]?=some z:=AA HZ;rw[AE (by rw[AA Hlen];exact hlt)] at hzk;injection hzk with hzk;rw[hzk] at hs;refine⟨k+1,by omega,by go_num,hE.grown p4 (fun g e=>by injection e;omega),Nat.le_refl _,hi',lo',p0,p1,by omega,by omega,by rw[hs];omega,p3⟩
   case measure=>simp[intOf];omega
  ·have hk2:k=n:=by omega
   have Hk:=AB hk2;clear hk2;go_wp2_with (first|(go_at_call 63;(with_reducible refine (wide_cut hi lo h0 h1 _).mono ?_);rintro e w' ⟨rfl,hX⟩));go_ret2;have h4:=AA H4;rw[AA Hk,←AA Hlen,List.take_length] at h4;rw[h4];exact⟨rfl,hE.trans hX⟩
structure Rc where
 (x y w h:Int)
@[reducible] def Rc.cs (r:Rc):Array Value:=#[.int .i64 r.x,.int .i64 r.y,.int .i64 r.w,.int .i64 r.h]
def Rc.some (r:Rc):Bool:=decide (0<r.w)&&decide (0<r.h)
structure Rc.Ok (r:Rc):Prop where
 (x1:-9223372036854775808≤r.x) (x2:r.x≤9223372036854775807)
 (y1:-9223372036854775808≤r.y) (y2:r.y≤9223372036854775807)
 (w1:-9223372036854775808≤r.w) (w2:r.w≤9223372036854775807)
 (h1:-9223372036854775808≤r.h) (h2:r.h≤9223372036854775807)
def meetB (a b:Rc):Bool:=a.some&&b.some&&decide (a.x<b.x+b.w)&&decide (b.x<a.x+a.w)&&decide (a.y<b.y+b.h)&&decide (b.y<a.y+a.h)
def insideB (a b:Rc):Bool:=!a.some||(b.some&&decide (b.x≤a.x∧a.x+a.w≤b.x+b.w)&&decide (b.y≤a.y∧a.y+a.h≤b.y+b.h))
theorem some_any (r:Rc) (w:World):Calls Tryz.prog 33 #[.agg r.cs] w fun e w'=>e=.returned (.bool r.some)∧Ext w w':=by
 obtain⟨x,y,a,b⟩:=r;by_cases ha:0<a
 ·by_cases hb:0<b
  all_goals
   go_enter Tryz.func33,Tryz.ntmps33
   go_wp2
   go_ret;exact⟨ret1b (by simp[Rc.some];omega),(Ext.refl _).alloc _⟩
 ·go_enter Tryz.func33,Tryz.ntmps33
  go_wp2
  go_ret;exact⟨ret1b (by simp[Rc.some];omega),(Ext.refl _).alloc _⟩
theorem starts_any (a b c:Int) (ha:-9223372036854775808≤a) (ha2:a≤9223372036854775807) (hb:-9223372036854775808≤b) (hb2:b≤9223372036854775807) (hc:0<c) (hc2:c≤9223372036854775807) (w:World) :
  Calls Tryz.prog 43 #[.int .i64 a,.int .i64 b,.int .i64 c] w fun e w'=>e=.returned (.bool (decide (a<b+c)))∧w=w':=by
 by_cases h:a<b
 ·have e:decide (a<b+c)=true:=by simp;omega
  rw[e];clear e;go_enter Tryz.func43,Tryz.ntmps43
  go_wp2
  go_ret;exact⟨rfl,rfl⟩
 ·obtain⟨r,hr⟩:∃r:Bool,decide (a<b+c)=r:=⟨_,rfl⟩
  have e1:IntKind.u64.wrap a=a % 18446744073709551616:=IntKind.wrap_u64 ..;have e2:IntKind.u64.wrap b=b % 18446744073709551616:=IntKind.wrap_u64 ..;have e3:IntKind.u64.wrap c=c:=by rw[IntKind.wrap_u64];omega
  have e4:IntKind.u64.wrap (a % 18446744073709551616-b % 18446744073709551616)=a-b:=by rw[IntKind.wrap_u64];omega
  have e5:decide (a-b<c)=r:=by rw[←hr];congr 1;exact propext ⟨fun h=>by omega,fun h=>by omega⟩
  rw[hr];clear hr;go_enter Tryz.func43,Tryz.ntmps43
  go_wp2
  go_ret;exact⟨rfl,rfl⟩
theorem holds_any (b m a n:Int) (ha:-9223372036854775808≤a) (ha2:a≤9223372036854775807) (hb:-9223372036854775808≤b) (hb2:b≤9223372036854775807) (hm:0<m) (hm2:m≤9223372036854775807) (hn:0<n) (hn2:n≤9223372036854775807) (w:World) :
  Calls Tryz.prog 34 #[.int .i64 b,.int .i64 m,.int .i64 a,.int .i64 n] w fun e w'=>e=.returned (.bool (decide (b≤a∧a+n≤b+m)))∧w=w':=by
 by_cases h:a<b
 ·have e:decide (b≤a∧a+n≤b+m)=false:=by simp;omega
  rw[e];clear e;go_enter Tryz.func34,Tryz.ntmps34
  go_wp2
  go_ret;exact⟨rfl,rfl⟩
 ·have e1:IntKind.u64.wrap a=a % 18446744073709551616:=IntKind.wrap_u64 ..;have e2:IntKind.u64.wrap b=b % 18446744073709551616:=IntKind.wrap_u64 ..;have e3:IntKind.u64.wrap m=m:=by rw[IntKind.wrap_u64];omega
  have e3':IntKind.u64.wrap n=n:=by rw[IntKind.wrap_u64];omega
  have e4:IntKind.u64.wrap (a % 18446744073709551616-b % 18446744073709551616)=a-b:=by rw[IntKind.wrap_u64];omega
  by_cases h2:a-b≤m
  ·have e5:IntKind.u64.wrap (m-(a-b))=m-(a-b):=by rw[IntKind.wrap_u64];omega
   have e6:decide (b≤a∧a+n≤b+m)=decide (n≤m-(a-b)):=by congr 1;exact propext ⟨fun h=>by omega,fun h=>by omega⟩
   rw[e6];clear e6;go_enter Tryz.func34,Tryz.ntmps34
   go_wp2
   go_ret;exact⟨rfl,rfl⟩
  ·have e:decide (b≤a∧a+n≤b+m)=false:=by simp;omega
   rw[e];clear e;go_enter Tryz.func34,Tryz.ntmps34
   go_wp2
   go_ret;exact⟨rfl,rfl⟩
def lessL (n:Int):List Int:=if n=-9223372036854775808 then [9223372036854775807,1] else [-n]
theorem less_l (n:Int) (h1:-9223372036854775808≤n) (h2:n≤9223372036854775807) (w:World):Calls Tryz.prog 46 #[.int .i64 n] w fun e w'=>
  e=.returned (.slice (some ⟨w.heap.size,0,none⟩) (lessL n).length (lessL n).length)∧w'=w.alloc (.cells (ints (lessL n)).toArray 2):=by
 by_cases h:n=-9223372036854775808
 ·subst h;go_enter Tryz.func46,Tryz.ntmps46
  go_wp2
  go_ret;exact⟨rfl,rfl⟩
 ·have e:lessL n=[-n]:=by rw[lessL,if_neg h]
  rw[e];have h':(n==-9223372036854775808)=false:=by simpa using h
  clear e;have g1:wrap64 (-n)=-n:=by simp[wrap64];omega
  have HH:=AB h;clear h;go_enter Tryz.func46,Tryz.ntmps46
  go_wp2
  go_ret;exact⟨rfl,rfl⟩
theorem meet_any (a b:Rc) (ha:a.Ok) (hb:b.Ok) (w:World):Calls Tryz.prog 28 #[.agg a.cs,.agg b.cs] w fun e w'=>e=.returned (.bool (meetB a b))∧Ext w w':=by
 obtain⟨x,y,p,q⟩:=a;obtain⟨x2,y2,p2,q2⟩:=b;obtain⟨a1,a2,a3,a4,a5,a6,a7,a8⟩:=ha;obtain⟨b1,b2,b3,b4,b5,b6,b7,b8⟩:=hb;simp only at a1 a2 a3 a4 a5 a6 a7 a8 b1 b2 b3 b4 b5 b6 b7 b8;have c1:=fun w=>AB (some_any ⟨x,y,p,q⟩ w)
 have c2:=fun w=>AB (some_any ⟨x2,y2,p2,q2⟩ w)
 have k1:Rc.some ⟨x,y,p,q⟩=true→0<p∧0<q:=by simp[Rc.some]
 have k2:Rc.some ⟨x2,y2,p2,q2⟩=true→0<p2∧0<q2:=by simp[Rc.some]
 have d1:=fun w (h:0<p2)=>AB (starts_any x x2 p2 a1 a2 b1 b2 h b6 w)
 have d2:=fun w (h:0<p)=>AB (starts_any x2 x p b1 b2 a1 a2 h a6 w)
 have d3:=fun w (h:0<q2)=>AB (starts_any y y2 q2 a3 a4 b3 b4 h b8 w)
 have d4:=fun w (h:0<q)=>AB (starts_any y2 y q b3 b4 a3 a4 h a8 w)
 have em:meetB ⟨x,y,p,q⟩ ⟨x2,y2,p2,q2⟩=(Rc.some ⟨x,y,p,q⟩&&Rc.some ⟨x2,y2,p2,q2⟩&&decide (x<x2+p2)&&decide (x2<x+p)&&decide (y<y2+q2)&&decide (y2<y+q)):=rfl;generalize Rc.some ⟨x,y,p,q⟩=s1 at *;generalize Rc.some ⟨x2,y2,p2,q2⟩=s2 at *;generalize decide (x<x2+p2)=t1 at *;generalize decide (x2<x+p)=t2 at *;generalize decide (y<y2+q2)=t3 at *;generalize decide (y2<y+q)=t4 at *;rw[em];clear em a1 a2 a3 a4 a5 a6 a7 a8 b1 b2 b3 b4 b5 b6 b7 b8;have K1:=AB k1;have K2:=AB k2;clear k1 k2;go_enter Tryz.func28,Tryz.ntmps28;go_wp2_with fail;have Ba:Blk ((w.alloc (.cells #[.int .i64 x,.int .i64 y,.int .i64 p,.int .i64 q] 33)).alloc (.cells #[.int .i64 x2,.int .i64 y2,.int .i64 p2,.int .i64 q2] 33)) (w.heap.size) 33 #[.int .i64 x,.int .i64 y,.int .i64 p,.int .i64 q]:=(Blk.new _ _ _).alloc _;have Bb:Blk ((w.alloc (.cells #[.int .i64 x,.int .i64 y,.int .i64 p,.int .i64 q] 33)).alloc (.cells #[.int .i64 x2,.int .i64 y2,.int .i64 p2,.int .i64 q2] 33)) (w.heap.size+1) 33 #[.int .i64 x2,.int .i64 y2,.int .i64 p2,.int .i64 q2]:=Blk.new1 _ _ _ _;have E0:Ext w ((w.alloc (.cells #[.int .i64 x,.int .i64 y,.int .i64 p,.int .i64 q] 33)).alloc (.cells #[.int .i64 x2,.int .i64 y2,.int .i64 p2,.int .i64 q2] 33)):=((Ext.refl _).alloc _).alloc _;generalize ((w.alloc (.cells #[.int .i64 x,.int .i64 y,.int .i64 p,.int .i64 q] 33)).alloc (.cells #[.int .i64 x2,.int .i64 y2,.int .i64 p2,.int .i64 q2] 33))=wa at *;have Bac:=Ba.cell;have Bal:=Ba.lt;have Bbc:=Bb.cell;have Bbl:=Bb.lt;go_wp2_with fail
 with_reducible refine (AA (c1 _)).mono ?_
 rintro e w1 ⟨rfl,hx⟩;have B2:=Ba.ext hx;have B3:=Bb.ext hx;have E4:=E0.trans hx;clear Bac Bal Bbc Bbl;clear Ba Bb E0 hx;have Bac:=B2.cell;have Bal:=B2.lt;have Bbc:=B3.cell;have Bbl:=B3.lt;cases s1
 ·go_wp2_with fail;go_ret;exact⟨rfl,E4⟩
 go_wp2_with fail
 with_reducible refine (AA (c2 _)).mono ?_
 rintro e w5 ⟨rfl,hx⟩;have B6:=B2.ext hx;have B7:=B3.ext hx;have E8:=E4.trans hx;clear Bac Bal Bbc Bbl;clear B2 B3 E4 hx;have Bac:=B6.cell;have Bal:=B6.lt;have Bbc:=B7.cell;have Bbl:=B7.lt;cases s2
 ·go_wp2_with fail;go_ret;exact⟨rfl,E8⟩
 obtain⟨h1,h2⟩:=AA K1 (by trivial);obtain⟨h3,h4⟩:=AA K2 (by trivial);replace d1:=fun w=>d1 w h3
 replace d2:=fun w=>d2 w h1
 replace d3:=fun w=>d3 w h4
 replace d4:=fun w=>d4 w h2
 clear h1 h2 h3 h4;go_wp2_with fail
 with_reducible refine (AA (d1 _)).mono ?_
 rintro e w9 ⟨rfl,rfl⟩;cases t1
 ·go_wp2_with fail;go_ret;exact⟨rfl,E8⟩
 go_wp2_with fail
 with_reducible refine (AA (d2 _)).mono ?_
 rintro e w10 ⟨rfl,rfl⟩;cases t2
 ·go_wp2_with fail;go_ret;exact⟨rfl,E8⟩
 go_wp2_with fail
 with_reducible refine (AA (d3 _)).mono ?_
 rintro e w11 ⟨rfl,rfl⟩;cases t3
 ·go_wp2_with fail;go_ret;exact⟨rfl,E8⟩
 go_wp2_with fail
 with_reducible refine (AA (d4 _)).mono ?_
 rintro e w12 ⟨rfl,rfl⟩;go_wp2_with fail;go_ret;exact⟨ret1b (by simp),E8⟩
theorem inside_any (a b:Rc) (ha:a.Ok) (hb:b.Ok) (w:World):Calls Tryz.prog 21 #[.agg a.cs,.agg b.cs] w fun e w'=>e=.returned (.bool (insideB a b))∧Ext w w':=by
 obtain⟨x,y,p,q⟩:=a;obtain⟨x2,y2,p2,q2⟩:=b;obtain⟨a1,a2,a3,a4,a5,a6,a7,a8⟩:=ha;obtain⟨b1,b2,b3,b4,b5,b6,b7,b8⟩:=hb;simp only at a1 a2 a3 a4 a5 a6 a7 a8 b1 b2 b3 b4 b5 b6 b7 b8;have c1:=fun w=>AB (some_any ⟨x,y,p,q⟩ w)
 have c2:=fun w=>AB (some_any ⟨x2,y2,p2,q2⟩ w)
 have k1:Rc.some ⟨x,y,p,q⟩=true→0<p∧0<q:=by simp[Rc.some]
 have k2:Rc.some ⟨x2,y2,p2,q2⟩=true→0<p2∧0<q2:=by simp[Rc.some]
 have d1:=fun w (h:0<p2) (h':0<p)=>AB (holds_any x2 p2 x p a1 a2 b1 b2 h b6 h' a6 w)
 have d2:=fun w (h:0<q2) (h':0<q)=>AB (holds_any y2 q2 y q a3 a4 b3 b4 h b8 h' a8 w)
 have em:insideB ⟨x,y,p,q⟩ ⟨x2,y2,p2,q2⟩=(!Rc.some ⟨x,y,p,q⟩||(Rc.some ⟨x2,y2,p2,q2⟩&&decide (x2≤x∧x+p≤x2+p2)&&decide (y2≤y∧y+q≤y2+q2))):=rfl;generalize Rc.some ⟨x,y,p,q⟩=s1 at *;generalize Rc.some ⟨x2,y2,p2,q2⟩=s2 at *;generalize decide (x2≤x∧x+p≤x2+p2)=t1 at *;generalize decide (y2≤y∧y+q≤y2+q2)=t2 at *;rw[em];clear em a1 a2 a3 a4 a5 a6 a7 a8 b1 b2 b3 b4 b5 b6 b7 b8;have K1:=AB k1;have K2:=AB k2;clear k1 k2;go_enter Tryz.func21,Tryz.ntmps21;go_wp2_with fail;have Ba:Blk ((w.alloc (.cells #[.int .i64 x,.int .i64 y,.int .i64 p,.int .i64 q] 33)).alloc (.cells #[.int .i64 x2,.int .i64 y2,.int .i64 p2,.int .i64 q2] 33)) (w.heap.size) 33 #[.int .i64 x,.int .i64 y,.int .i64 p,.int .i64 q]:=(Blk.new _ _ _).alloc _;have Bb:Blk ((w.alloc (.cells #[.int .i64 x,.int .i64 y,.int .i64 p,.int .i64 q] 33)).alloc (.cells #[.int .i64 x2,.int .i64 y2,.int .i64 p2,.int .i64 q2] 33)) (w.heap.size+1) 33 #[.int .i64 x2,.int .i64 y2,.int .i64 p2,.int .i64 q2]:=Blk.new1 _ _ _ _;have E0:Ext w ((w.alloc (.cells #[.int .i64 x,.int .i64 y,.int .i64 p,.int .i64 q] 33)).alloc (.cells #[.int .i64 x2,.int .i64 y2,.int .i64 p2,.int .i64 q2] 33)):=((Ext.refl _).alloc _).alloc _;generalize ((w.alloc (.cells #[.int .i64 x,.int .i64 y,.int .i64 p,.int .i64 q] 33)).alloc (.cells #[.int .i64 x2,.int .i64 y2,.int .i64 p2,.int .i64 q2] 33))=wa at *;have Bac:=Ba.cell;have Bal:=Ba.lt;have Bbc:=Bb.cell;have Bbl:=Bb.lt;go_wp2_with fail
 with_reducible refine (AA (c1 _)).mono ?_
 rintro e w1 ⟨rfl,hx⟩;have B2:=Ba.ext hx;have B3:=Bb.ext hx;have E4:=E0.trans hx;clear Bac Bal Bbc Bbl;clear Ba Bb E0 hx;have Bac:=B2.cell;have Bal:=B2.lt;have Bbc:=B3.cell;have Bbl:=B3.lt;cases s1
 ·go_wp2_with fail;go_ret;exact⟨rfl,E4⟩
 go_wp2_with fail
 with_reducible refine (AA (c2 _)).mono ?_
 rintro e w5 ⟨rfl,hx⟩;have B6:=B2.ext hx;have B7:=B3.ext hx;have E8:=E4.trans hx;clear Bac Bal Bbc Bbl;clear B2 B3 E4 hx;have Bac:=B6.cell;have Bal:=B6.lt;have Bbc:=B7.cell;have Bbl:=B7.lt;cases s2
 ·go_wp2_with fail;go_ret;exact⟨rfl,E8⟩
 obtain⟨h1,h2⟩:=AA K1 (by trivial);obtain⟨h3,h4⟩:=AA K2 (by trivial);replace d1:=fun w=>d1 w h3 h1
 replace d2:=fun w=>d2 w h4 h2
 clear h1 h2 h3 h4;go_wp2_with fail
 with_reducible refine (AA (d1 _)).mono ?_
 rintro e w9 ⟨rfl,rfl⟩;cases t1
 ·go_wp2_with fail;go_ret;exact⟨rfl,E8⟩
 go_wp2_with fail
 with_reducible refine (AA (d2 _)).mono ?_
 rintro e w10 ⟨rfl,rfl⟩;go_wp2_with fail;go_ret;exact⟨ret1b (by simp),E8⟩
theorem lessL_len (n:Int):(lessL n).length≤2:=by unfold lessL;split<;>simp
theorem lessL_sum (n:Int) (l:List Int):lsum (lessL n++l)=lsum l-n:=by unfold lessL;split<;>simp[lsum]<;>omega
theorem lessL_ok {n:Int} {l:List Int} (h1:-9223372036854775808≤n) (h2:n≤9223372036854775807) (h:I64s l):I64s (lessL n++l):=by
 unfold lessL I64s at *;intro z hz
 split at hz
 ·simp only[List.mem_append,List.mem_cons,List.not_mem_nil,or_false] at hz
  rcases hz with (rfl|rfl)|hz
  ·omega
  ·omega
  ·exact h z hz
 ·simp only[List.mem_append,List.mem_cons,List.not_mem_nil,or_false] at hz
  rcases hz with rfl|hz
  ·omega
  ·exact h z hz
theorem eq_bool4 (p q r s:Bool) (w:World):(Op.equalIn 10000 97 (.agg #[.bool p,.bool q,.bool r,.bool s]) (.agg #[.bool false,.bool false,.bool false,.bool false])).run Tryz.prog w=.ok (!(p||q||r||s)) w:=by
 cases p<;>cases q<;>cases r<;>cases s<;>kernel_rfl
end Go.Proofs.YtamldoocjjdidaaGreat
