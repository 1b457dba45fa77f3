import Derived.Test.YtamldoocjjdidaaGreatMCsT
import Derived.Test.YtamldoocjjdidaaGreatMHtP
namespace Go.Proofs.YtamldoocjjdidaaGreat
open Go.RowKit
set_option maxRecDepth 100000
set_option maxHeartbeats 64000000
theorem sty_info':(Tryz.prog.info? 65).map (fun i=>(i.zero,i.size,decide (i.bytes≤100000)))=some (some (.agg zsty.cells),43,true):=by kernel_rfl
theorem sty_row:RowInfo 65 43:=rowInfo (z:=.agg zsty.cells) sty_info' rfl
theorem us_info':(Tryz.prog.info? 120).map (fun i=>(i.zero,i.size,decide (i.bytes≤100000)))=some (some (.agg (usC ⟨0,0,0⟩).toArray),3,true):=by kernel_rfl
theorem us_row:RowInfo 120 3:=rowInfo (z:=.agg (usC ⟨0,0,0⟩).toArray) us_info' rfl
theorem ct_info':(Tryz.prog.info? 108).map (fun i=>(i.zero,i.size,decide (i.bytes≤100000)))=some (some (.agg (ctC zCt).toArray),4,true):=by kernel_rfl
theorem ct_row:RowInfo 108 4:=rowInfo (z:=.agg (ctC zCt).toArray) ct_info' rfl
theorem built_sty (x:Sty):Tryz.prog.builtSlice 65 1 [(0,.agg x.cells)]=some (styC x).toArray:=by kernel_rfl
theorem built_fg (x:Fg):Tryz.prog.builtSlice 58 1 [(0,.agg (fgC x).toArray)]=some (fgC x).toArray:=by kernel_rfl
theorem built_us (x:Us):Tryz.prog.builtSlice 120 1 [(0,.agg (usC x).toArray)]=some (usC x).toArray:=by kernel_rfl
theorem built_ct (x:Ct):Tryz.prog.builtSlice 108 1 [(0,.agg (ctC x).toArray)]=some (ctC x).toArray:=by kernel_rfl
theorem styC_one1 (s:Sty):∀v∈styC s,v.oneCell'=true:=by
 intro v hv;simp only[styC,List.mem_cons,List.not_mem_nil,or_false] at hv
 rcases hv with rfl|rfl|rfl|rfl|rfl|rfl|rfl|rfl|rfl|rfl|rfl|rfl|rfl|rfl|rfl|rfl|rfl|rfl|rfl|rfl|rfl|rfl|rfl|rfl|rfl|rfl|rfl|rfl|rfl|rfl|rfl|rfl|rfl|rfl|rfl|rfl|rfl|rfl|rfl|rfl|rfl|rfl|rfl<;>rfl
theorem getD_in2 {α:Type} (l:List α) (i:Nat) (d:α):l.getD i d∈l∨l.getD i d=d:=by
 rw[List.getD_eq_getElem?_getD];cases h:l[i]? with
 |none=>right;rfl
 |some x=>left;exact List.mem_of_getElem? h
theorem ExtX.grownRow {a b c:World} {xs:List Nat} (h:ExtX a b xs) {row:Option Nat} (hg:b.grownBy c row) (hr:∀q,row=some q→a.heap.size≤q∨q∈xs):ExtX a c xs:=
 ⟨hg.os.trans h.os,hg.tape.trans h.tape,hg.output.trans h.output,Nat.le_trans h.size hg.size,fun i hi hx=>(hg.block i (Nat.lt_of_lt_of_le hi h.size) (fun e=>by
  rcases hr i e.symm with h1|h1
  ·omega
  ·exact hx h1)).trans (h.block i hi hx)⟩
theorem ExtX.base {a b c:World} {xs:List Nat} (h:Ext a b) (k:ExtX b c xs) (hx:∀x∈xs,a.heap.size≤x):Ext a c:=
 ⟨k.os.trans h.os,k.tape.trans h.tape,k.output.trans h.output,Nat.le_trans h.size k.size,fun i hi=>(k.block i (Nat.lt_of_lt_of_le hi h.size) (fun hm=>by have:=hx i hm;omega)).trans (h.block i hi)⟩
structure ShI (A b c q r:Int):Prop where
 (e:q*c+r=A*b) (r0:0≤r) (rc:r<c) (q0:0≤q)
theorem ShI.twice {A b c q r:Int} (h:ShI A b c q r) (hr:¬c-r≤r):ShI (2*A) b c (2*q) (2*r):=by
 obtain⟨e,r0,rc,q0⟩:=h;refine⟨?_,by omega,by omega,by omega⟩;rw[Int.mul_assoc,Int.mul_assoc];omega
theorem ShI.twice1 {A b c q r:Int} (h:ShI A b c q r) (hr:c-r≤r):ShI (2*A) b c (2*q+1) (r-(c-r)):=by
 obtain⟨e,r0,rc,q0⟩:=h;refine⟨?_,by omega,by omega,by omega⟩;rw[Int.add_mul,Int.mul_assoc,Int.mul_assoc,Int.one_mul];omega
theorem ShI.add {A b c q r:Int} (h:ShI A b c q r) (hb:0≤b) (hr:¬c-b≤r):ShI (A+1) b c q (r+b):=by
 obtain⟨e,r0,rc,q0⟩:=h;refine⟨?_,by omega,by omega,by omega⟩;rw[Int.add_mul,Int.one_mul];omega
theorem ShI.add1 {A b c q r:Int} (h:ShI A b c q r) (hb:b≤c) (hr:c-b≤r):ShI (A+1) b c (q+1) (r-(c-b)):=by
 obtain⟨e,r0,rc,q0⟩:=h;refine⟨?_,by omega,by omega,by omega⟩;rw[Int.add_mul,Int.add_mul,Int.one_mul,Int.one_mul];omega
theorem ShI.le {A b c q r:Int} (h:ShI A b c q r) (hA:0≤A) (hb:b≤c) (hc:0<c):q≤A:=by
 obtain⟨e,r0,rc,q0⟩:=h;have h1:A*b≤A*c:=Int.mul_le_mul_of_nonneg_left hb hA;have h2:q*c≤A*c:=by omega
 exact Int.le_of_mul_le_mul_right h2 hc
theorem bits_one (x:Int) (h0:0≤x) (h1:x≤9223372036854775807):Go.bits .and .i64 x 1=x % 2:=by
 obtain⟨n,rfl⟩:∃n:Nat,x=(n:Int):=⟨x.toNat,by omega⟩
 unfold Go.bits;have h2:((BitVec.ofInt IntKind.i64.bits (n:Int)) &&& (BitVec.ofInt IntKind.i64.bits 1)).toNat=n % 2:=by
  have h3:(BitVec.ofInt IntKind.i64.bits (n:Int)).toNat=n:=by
   rw[BitVec.toNat_ofInt]
   show ((n:Int) % ((2 ^ 64:Nat):Int)).toNat=n
   have:((2 ^ 64:Nat):Int)=18446744073709551616:=by decide
   rw[this];omega
  rw[BitVec.toNat_and,h3]
  show n &&& 1=n % 2
  exact Nat.and_one_is_mod n
 show IntKind.i64.wrap (((BitVec.ofInt IntKind.i64.bits (n:Int)) &&& (BitVec.ofInt IntKind.i64.bits 1)).toNat:Int)=(n:Int) % 2
 rw[h2,IntWalk.i64_in _ (by omega)];omega
theorem half_pow (m d:Nat):m / 2 ^ d=2*(m / 2 ^ (d+1))+(m / 2 ^ d) % 2:=by
 have h1:m / 2 ^ (d+1)=m / 2 ^ d / 2:=by rw[Nat.pow_succ,Nat.div_div_eq_div_mul]
 omega
theorem pow_cast (d:Nat) (m:Nat):(m:Int) / 2 ^ d=((m / 2 ^ d:Nat):Int):=by
 rw[Int.natCast_ediv];simp
def ShareIs (w:World) (a:Int) (e:Ending) (w':World):Prop:=∃q:Int,e=.returned (.int .i64 q)∧(0≤q∧q≤a)∧w=w'
theorem share19_any (m:Nat) (b c:Int) (w:World) (hm:m≤1000000000000000000) (hb:0≤b∧b≤c) (hc:0<c∧c≤1000000000000000000) :
  Calls Tryz.prog 153 #[.int .i64 (m:Int),.int .i64 b,.int .i64 c] w (ShareIs w m):=by
 go_enter Tryz.func153,Tryz.ntmps153;go_wp2_with fail;go_loopw [7,8,9] (fun v7 v8 v9 wr=>∃(d:Nat) (q r:Int),v9=.int .i64 ((d:Int)-1)∧v7=.int .i64 q∧v8=.int .i64 r∧d≤63∧Hid (ShI ((m / 2 ^ d:Nat):Int) b c q r)∧wr=w) (fun _ _ v9 _=>(intOf v9+1).toNat)
 case atStart=>
  have h63:m / 2 ^ 63=0:=Nat.div_eq_of_lt (Nat.lt_of_le_of_lt hm (by decide));exact⟨63,0,0,rfl,rfl,rfl,by omega,AB ⟨by rw[h63];simp,by omega,by omega,by omega⟩,rfl⟩
 case round=>
  obtain⟨d,q,r,rfl,rfl,rfl,hd,HS,rfl⟩:=hrel
  rcases Nat.eq_zero_or_pos d with h0|h0
  ·subst h0;have hle:=(AA HS).le (by omega) hb.2 hc.1;have hq0:=(AA HS).q0;clear HS;go_wp2_with fail;go_ret;exact⟨q,rfl,⟨hq0,by simpa using hle⟩,rfl⟩
  ·obtain⟨d,rfl⟩:∃k,d=k+1:=⟨d-1,by omega⟩
   have hdI:((d+1:Nat):Int)-1=(d:Int):=by omega
   rw[hdI];have hdB:(0:Int)≤(d:Int)∧(d:Int)≤62:=by omega
   have hS:=AA HS;have hp:=half_pow m d;have hA1:m / 2 ^ (d+1)≤m / 2:=by
    rw[Nat.pow_succ,Nat.mul_comm,←Nat.div_div_eq_div_mul];exact Nat.div_le_self _ _
   have hsm:m / 2 ^ d≤m:=Nat.div_le_self _ _;have hbit:Go.bits .and .i64 ((m:Int) / 2 ^ d) 1=((m / 2 ^ d:Nat):Int) % 2:=by
    have hc:=pow_cast d m;rw[hc];have h3:((m / 2 ^ d:Nat):Int)≤9223372036854775807:=by
     have:((m / 2 ^ d:Nat):Int)≤(m:Int):=Int.ofNat_le.2 hsm;omega
    exact bits_one _ (Int.natCast_nonneg _) h3
   obtain⟨A1,hA⟩:∃a,m / 2 ^ (d+1)=a:=⟨_,rfl⟩
   obtain⟨A0,hA0⟩:∃a,m / 2 ^ d=a:=⟨_,rfl⟩
   rw[hA] at hS hp hA1;rw[hA0] at hp hsm hbit;have HA0:=AB hA0;clear HS hA hA0;have hqm:=hS.le (by omega) hb.2 hc.1;obtain⟨-,hr0,hrc,hq0⟩:=id hS;have hqB:q≤500000000000000000:=by omega
   have h2:A0=2*A1∨A0=2*A1+1:=by omega
   have HS:=AB hS;clear hA1 hqm hp hsm hS;have fin:∀(q' r':Int),ShI ((A0:Nat):Int) b c q' r'→Hid (ShI ((m / 2 ^ d:Nat):Int) b c q' r'):=fun q' r' h=>AB (by rw[AA HA0];exact h)
   rcases h2 with h2|h2
   ·have hb0:Go.bits .and .i64 ((m:Int) / 2 ^ d) 1=0:=by rw[hbit];omega
    have f2:∀(q' r':Int),ShI (2*(A1:Int)) b c q' r'→Hid (ShI ((m / 2 ^ d:Nat):Int) b c q' r'):=fun q' r' h=>fin q' r' (by rw[h2,show (((2*A1:Nat)):Int)=2*(A1:Int) by omega];exact h)
    have F2:=AB f2;clear hbit h2 fin f2;by_cases h1:c-r≤r
    ·go_wp2_with fail;go_roundw
     case rel=>exact⟨d,_,_,by go_num,rfl,rfl,by omega,AA F2 _ _ ((AA HS).twice1 h1),by first|trivial|rfl⟩
     case measure=>simp[intOf]<;>omega
    ·go_wp2_with fail;go_roundw
     case rel=>exact⟨d,_,_,by go_num,rfl,rfl,by omega,AA F2 _ _ ((AA HS).twice h1),by first|trivial|rfl⟩
     case measure=>simp[intOf]<;>omega
   ·have hb0:Go.bits .and .i64 ((m:Int) / 2 ^ d) 1=1:=by rw[hbit];omega
    have f2:∀(q' r':Int),ShI (2*(A1:Int)+1) b c q' r'→Hid (ShI ((m / 2 ^ d:Nat):Int) b c q' r'):=fun q' r' h=>fin q' r' (by rw[h2,show (((2*A1+1:Nat)):Int)=2*(A1:Int)+1 by omega];exact h)
    have F2:=AB f2;clear hbit h2 fin f2;by_cases h1:c-r≤r
    ·by_cases h3:c-b≤r-(c-r)
     ·go_wp2_with fail;go_roundw
      case rel=>exact⟨d,_,_,by go_num,rfl,rfl,by omega,AA F2 _ _ (((AA HS).twice1 h1).add1 hb.2 h3),by first|trivial|rfl⟩
      case measure=>simp[intOf]<;>omega
     ·go_wp2_with fail;go_roundw
      case rel=>exact⟨d,_,_,by go_num,rfl,rfl,by omega,AA F2 _ _ (((AA HS).twice1 h1).add hb.1 h3),by first|trivial|rfl⟩
      case measure=>simp[intOf]<;>omega
    ·by_cases h3:c-b≤2*r
     ·go_wp2_with fail;go_roundw
      case rel=>exact⟨d,_,_,by go_num,rfl,rfl,by omega,AA F2 _ _ (((AA HS).twice h1).add1 hb.2 h3),by first|trivial|rfl⟩
      case measure=>simp[intOf]<;>omega
     ·go_wp2_with fail;go_roundw
      case rel=>exact⟨d,_,_,by go_num,rfl,rfl,by omega,AA F2 _ _ (((AA HS).twice h1).add hb.1 h3),by first|trivial|rfl⟩
      case measure=>simp[intOf]<;>omega
theorem recs_set {α:Type} {f:α→List Value} {k:Nat} (hk:∀x,(f x).length=k) {v:Value} {y:α} {j:Nat} (hj:j<k):∀{l:List α} {i:Nat} {x:α},l[i]?=some x→(f x).set j v=f y→(recs f l).set (i*k+j) v=recs f (l.set i y)
 |[],i,x,h,_=>by simp at h
 |a :: l,0,x,h,hy=>by
  obtain rfl:a=x:=by simpa using h
  show (f a++recs f l).set (0*k+j) v=f y++recs f l
  rw[Nat.zero_mul,Nat.zero_add,List.set_append_left _ _ (by rw[hk];exact hj),hy]
 |a :: l,i+1,x,h,hy=>by
  show (f a++recs f l).set ((i+1)*k+j) v=f a++recs f (l.set i y)
  rw[List.set_append_right _ _ (by rw[hk,Nat.succ_mul];omega),hk,show (i+1)*k+j-k=i*k+j by rw[Nat.succ_mul];omega,recs_set hk hj (show l[i]?=some x by simpa using h) hy]
theorem own_setK {w:World} {B e k n c b i:Nat} {v:Value} {xs:List Value} (h:w.ownsRow B e k (.slice (some ⟨b,0,none⟩) n c) n xs):(w.setCell ⟨b,i,none⟩ v).ownsRow B e k (.slice (some ⟨b,0,none⟩) n c) n (xs.set i v):=by
 rcases h.2 with ⟨hv,h0⟩|⟨g,cap,cur,hv,hb,hg,hnc,hm,hs,hx⟩
 ·cases hv
 ·have hv':=hv;injection hv with h1;injection h1 with h1;injection h1 with h1;subst h1;refine⟨by rw[List.length_set];exact h.1,.inr ⟨b,cap,cur.setIfInBounds i v,hv',hb,(show Blk w b e cur from hg).set_ i v,hnc,hm,by simpa using hs,?_⟩⟩;rw[←hx,Array.toList_setIfInBounds,List.take_set]
def ptC (g k:Nat):Value:=.pointer (some ⟨g,k*51,none⟩)
def ipts (g:Nat) (ks:List Nat):List Value:=ks.map (ptC g)
def ItsIn (w:World) (B g n c:Nat) (its:List Im):Prop:=w.ownsRow B 201 51 (.slice (some ⟨g,0,none⟩) n c) n (recs imC its)
theorem ItsIn.at_ {w:World} {B g n c k:Nat} {its:List Im} {x:Im} (h:ItsIn w B g n c its) (hk:its[k]?=some x):g<w.heap.size∧∀j v,(imC x)[j]?=some v→w.cell? ⟨g,k*51+j,none⟩=some v:=by
 obtain⟨b,off,hA,hl,hc⟩:=(Rd.of_own h).rec_ imC_len hk (by omega);injection hA with hA;injection hA with h1 h2;subst h1 h2;exact⟨hl,fun j v hv=>by have:=hc j v hv;rwa [Nat.zero_add] at this⟩
theorem ItsIn.len {w:World} {B g n c:Nat} {its:List Im} (h:ItsIn w B g n c its):its.length=n:=by
 have h1:=h.1;rw[recs_len imC_len] at h1;omega
theorem ItsIn.put {w:World} {B g n c k j:Nat} {its:List Im} {x y:Im} {v:Value} (h:ItsIn w B g n c its) (hk:its[k]?=some x) (hj:j<51) (hv:(imC x).set j v=imC y):ItsIn (w.setCell ⟨g,k*51+j,none⟩ v) B g n c (its.set k y):=by
 unfold ItsIn;rw[←recs_set imC_len hj hk hv];exact own_setK h
theorem ipts_get {g i k:Nat} {ks:List Nat} (h:ks[i]?=some k):(ipts g ks)[i]?=some (ptC g k):=by simp[ipts,h]
structure RnS (w0 w:World) (B g n c:Nat) (its:List Im) (Ap:Option Addr) (m mc:Nat) (ks:List Nat):Prop where
 ext:ExtX w0 w [g]
 it:ItsIn w B g n c its
 row:w.ownsRow B 220 1 (.slice Ap m mc) m (ipts g ks)
 hg:g<w0.heap.size
 hi:∀q,Value.ownBlock (.slice Ap m mc)=some q→q<w0.heap.size
section
variable {w0 w w':World} {B g n c m mc:Nat} {Ap:Option Addr} {its:List Im} {ks:List Nat}
theorem RnS.len (h:RnS w0 w B g n c its Ap m mc ks):ks.length=m:=by
 have:=h.row.1;simp[ipts] at this;exact this
theorem RnS.step (h:RnS w0 w B g n c its Ap m mc ks) (hx:Ext w w'):RnS w0 w' B g n c its Ap m mc ks:=
 ⟨h.ext.trans hx,own_ext h.it hx,own_ext h.row hx,h.hg,h.hi⟩
theorem ItsIn.blk (h:ItsIn w B g n c its):∃cs,Blk w g 201 cs:=by
 rcases h.2 with ⟨hv,h0⟩|⟨g',cap,cur,hv,hb,hg,_⟩
 ·cases hv
 ·injection hv with h1;injection h1 with h1;injection h1 with h1;subst h1;exact⟨cur,hg⟩
theorem RnS.ne (h:RnS w0 w B g n c its Ap m mc ks):∀q,Value.ownBlock (.slice Ap m mc)=some q→q≠g:=by
 obtain⟨cs,hb⟩:=h.it.blk;exact own_blk_ne h.row hb (by decide)
theorem RnS.put (h:RnS w0 w B g n c its Ap m mc ks) {k j:Nat} {x y:Im} {v:Value} (hk:its[k]?=some x) (hj:j<51) (hv:(imC x).set j v=imC y):RnS w0 (w.setCell ⟨g,k*51+j,none⟩ v) B g n c (its.set k y) Ap m mc ks:=
 ⟨h.ext.set (by simp) _,h.it.put hk hj hv,own_grown h.row (gsCell g _) h.ne,h.hg,h.hi⟩
theorem RnS.far (h:RnS w0 w B g n c its Ap m mc ks) {q:Nat} (hg:w.grownBy w' (some q)) (hq:w0.heap.size≤q):RnS w0 w' B g n c its Ap m mc ks:=
 ⟨h.ext.grownRow hg (fun r e=>.inl (by have:=Option.some.inj e;omega)),own_grown h.it hg (fun r hr=>by
  have h1:some g=some r:=hr;have:=h.hg;injection h1 with h1;omega),own_grown h.row hg (fun r hr=>by have:=h.hi r hr;omega),h.hg,h.hi⟩
theorem RnS.ptr (h:RnS w0 w B g n c its Ap m mc ks) {i k:Nat} (hk:ks[i]?=some k):∃b,Ap=some ⟨b,0,none⟩∧b<w.heap.size∧w.cell? ⟨b,i,none⟩=some (.pointer (some ⟨g,k*51,none⟩)):=by
 have hi:i<m:=by rw[←h.len];exact (List.getElem?_eq_some_iff.1 hk).1
 obtain⟨b,rfl,-⟩:=own_addr h.row (by omega);have h1:=(Rd.of_own h.row).cellAt hi (ipts_get hk);rw[Nat.zero_add] at h1;exact⟨b,rfl,h1⟩
theorem RnS.new (h:RnS w0 w B g n c its Ap m mc ks):RnS w w B g n c its Ap m mc ks:=
 ⟨ExtX.refl _ _,h.it,h.row,Nat.lt_of_lt_of_le h.hg h.ext.size,fun q hq=>Nat.lt_of_lt_of_le (h.hi q hq) h.ext.size⟩
theorem RnS.then {its2:List Im} (h:RnS w0 w B g n c its Ap m mc ks) (k:RnS w w' B g n c its2 Ap m mc ks):RnS w0 w' B g n c its2 Ap m mc ks:=
 ⟨h.ext.transX k.ext (fun _ hy=>hy),k.it,k.row,h.hg,h.hi⟩
end
theorem ptr_info:(Tryz.prog.info? 220).map (fun i=>(i.zero,i.size,decide (i.bytes≤100000)))=some (some (.pointer none),1,true):=by kernel_rfl
theorem ptr_row:RowInfo 220 1:=rowInfo (z:=.pointer none) ptr_info rfl
def ItB (gr:Bool) (x:Im):Prop:=KidOk x.s∧(-30000000000000≤x.sd∧x.sd≤30000000000000)∧(0≤x.b∧x.b≤12000000000000)∧(0≤x.fa∧x.fa≤720000000000000)∧(x.hd=false→0<x.fa)∧(0≤x.w∧x.w≤10000000000000000)∧(gr=false→x.w≤50000000000000)
def RowB (gr:Bool) (its:List Im) (ks:List Nat):Prop:=∀k∈ks,∃x,its[k]?=some x∧ItB gr x
def SameI (x y:Im):Prop:=(y.s=x.s∧y.l=x.l∧y.r=x.r∧y.sd=x.sd∧y.b=x.b∧y.g=x.g∧y.fa=x.fa)∧(x.hd=true→y=x)
theorem SameI.refl (x:Im):SameI x x:=⟨⟨rfl,rfl,rfl,rfl,rfl,rfl,rfl⟩,fun _=>rfl⟩
theorem SameI.trans {x y z:Im} (h:SameI x y) (k:SameI y z):SameI x z:=by
 obtain⟨⟨a1,a2,a3,a4,a5,a6,a7⟩,a8⟩:=h;obtain⟨⟨b1,b2,b3,b4,b5,b6,b7⟩,b8⟩:=k;refine⟨⟨b1.trans a1,b2.trans a2,b3.trans a3,b4.trans a4,b5.trans a5,b6.trans a6,b7.trans a7⟩,fun hx=>?_⟩;have h1:=a8 hx;rw[h1] at b8;exact b8 hx
def Later (its its':List Im) (ks:List Nat):Prop:=its'.length=its.length∧(∀(k:Nat) (x:Im),its[k]?=some x→∃y,its'[k]?=some y∧SameI x y)∧(∀k:Nat,k∉ks→its'[k]?=its[k]?)
theorem Later.refl (its:List Im) (ks:List Nat):Later its its ks:=⟨rfl,fun _ x h=>⟨x,h,SameI.refl x⟩,fun _ _=>rfl⟩
theorem Later.trans {a b c:List Im} {ks:List Nat} (h:Later a b ks) (k:Later b c ks):Later a c ks:=
 ⟨k.1.trans h.1,fun i x hx=>by
  obtain⟨y,hy,s1⟩:=h.2.1 i x hx;obtain⟨z,hz,s2⟩:=k.2.1 i y hy;exact⟨z,hz,s1.trans s2⟩,fun i hi=>(k.2.2 i hi).trans (h.2.2 i hi)⟩
theorem Later.set {its:List Im} {ks:List Nat} {k:Nat} {x y:Im} (hk:its[k]?=some x) (hm:k∈ks) (hs:SameI x y):Later its (its.set k y) ks:=
 ⟨List.length_set,fun i z hz=>by
  by_cases hik:k=i
  ·subst hik;rw[hk] at hz;obtain rfl:=Option.some.inj hz;exact⟨y,by rw[List.getElem?_set_self (List.getElem?_eq_some_iff.1 hk).1],hs⟩
  ·exact⟨z,by rw[List.getElem?_set_ne hik];exact hz,SameI.refl z⟩,fun i hi=>List.getElem?_set_ne (fun e=>hi (by rw[←e];exact hm))⟩
theorem RowB.set {gr:Bool} {its:List Im} {ks:List Nat} {k:Nat} {y:Im} (h:RowB gr its ks) (hy:ItB gr y):RowB gr (its.set k y) ks:=fun i hi=>by
 obtain⟨x,hx,hb⟩:=h i hi;by_cases hik:k=i
 ·subst hik;exact⟨y,by rw[List.getElem?_set_self (List.getElem?_eq_some_iff.1 hx).1],hy⟩
 ·exact⟨x,by rw[List.getElem?_set_ne hik];exact hx,hb⟩
theorem clampV_le {s:Sty} {c x:Int} (hs:KidOk s) (hc:0≤c∧c≤1099511627776):clampV s c x≤max x 12000000000000:=by
 obtain⟨hed,hwm,hmin,hmax⟩:=may_facts hs.may;have h1:=len0_bd hmin hc;simp only[clampV]
 split<;>split<;>omega
def AimOk (gr:Bool) (z:Int):Prop:=-24500000000000000≤z∧z≤9300000000000000∧(gr=false→z≤12000000000000)
theorem aim_w {gr:Bool} {s:Sty} {c z:Int} (hz:AimOk gr z) (hs:KidOk s) (hc:0≤c∧c≤1099511627776):(0≤clampV s c z∧clampV s c z≤10000000000000000)∧(gr=false→clampV s c z≤50000000000000)∧(-25000000000000000≤clampV s c z-z∧clampV s c z-z≤25000000000000000):=by
 have h1:=clampV_le (x:=z) hs hc;have h2:=clampV_nn s c z;obtain⟨a1,a2,a3⟩:=hz;refine⟨by omega,fun h=>?_,by omega⟩;have:=a3 h;omega
structure L1 (its:List Im) (ks:List Nat) (gr:Bool) (cc:Int) (i:Nat) (rest fac:Int):Prop where
 lo:cc-i*11000000000000000≤rest
 lo2:gr=false→cc-i*80000000000000≤rest
 hi:rest≤cc+i*30000000000000
 f0:0≤fac
 f1:fac≤i*720000000000000
 fa:∀(j k:Nat) (x:Im),j<i→ks[j]?=some k→its[k]?=some x→x.hd=false→x.fa≤fac
structure L3 (its:List Im) (ks:List Nat) (gr:Bool) (cc give:Int) (i:Nat) (turns:Int) (zs:List Int):Prop where
 fut:∀(j:Nat) (z:Int),i≤j→zs[j]?=some z→0≤z∧z≤give
 old:∀(j k:Nat) (x:Im) (z:Int),j<i→ks[j]?=some k→its[k]?=some x→x.hd=false→zs[j]?=some z→AimOk gr z
 tp:0<turns→∃(j k:Nat) (x:Im) (z:Int),j<i∧ks[j]?=some k∧its[k]?=some x∧x.hd=false∧zs[j]?=some z∧0<clampV x.s cc z-z
 tn:turns<0→∃(j k:Nat) (x:Im) (z:Int),j<i∧ks[j]?=some k∧its[k]?=some x∧x.hd=false∧zs[j]?=some z∧clampV x.s cc z-z<0
 bd:-(i*25000000000000000)≤turns∧turns≤i*25000000000000000
def TurnC (turns t:Int):Prop:=turns=0∨(0<turns∧0<t)∨(turns<0∧t<0)
structure L4 (its:List Im) (ks:List Nat) (gr:Bool) (cc turns:Int) (zs:List Int) (i:Nat) (its2:List Im):Prop where
 later:Later its its2 ks
 row:RowB gr its2 ks
 dn:∀(j k:Nat) (x:Im) (z:Int),j<i→ks[j]?=some k→its[k]?=some x→x.hd=false→zs[j]?=some z→TurnC turns (clampV x.s cc z-z)→∃y,its2[k]?=some y∧y.hd=true
section
variable {its its2:List Im} {ks:List Nat} {gr:Bool} {cc rest fac give turns z:Int} {zs:List Int} {i k:Nat} {x y:Im}
theorem L1.held (h:L1 its ks gr cc i rest fac) (hk:ks[i]?=some k) (hx:its[k]?=some x) (hb:ItB gr x) (hd:x.hd=true):L1 its ks gr cc (i+1) (rest-x.sd-x.w) fac:=by
 obtain⟨_,b1,b2,b3,b4,b5,b6⟩:=hb;refine⟨by have:=h.lo;omega,fun hg=>by have:=h.lo2 hg;have:=b6 hg;omega,by have:=h.hi;omega,h.f0,by have:=h.f1;omega,fun j k' x' hj hk' hx' hd'=>?_⟩
 rcases Nat.lt_or_ge j i with h1|h1
 ·exact h.fa j k' x' h1 hk' hx' hd'
 ·obtain rfl:j=i:=by omega
  rw[hk] at hk';obtain rfl:=Option.some.inj hk';rw[hx] at hx';obtain rfl:=Option.some.inj hx';rw[hd] at hd';cases hd'
theorem L1.free (h:L1 its ks gr cc i rest fac) (hk:ks[i]?=some k) (hx:its[k]?=some x) (hb:ItB gr x):L1 its ks gr cc (i+1) (rest-x.sd-x.b) (fac+x.fa):=by
 obtain⟨_,b1,b2,b3,b4,b5,b6⟩:=hb;refine⟨by have:=h.lo;omega,fun hg=>by have:=h.lo2 hg;omega,by have:=h.hi;omega,by have:=h.f0;omega,by have:=h.f1;omega,fun j k' x' hj hk' hx' hd'=>?_⟩
 rcases Nat.lt_or_ge j i with h1|h1
 ·have:=h.fa j k' x' h1 hk' hx' hd';omega
 ·obtain rfl:j=i:=by omega
  rw[hk] at hk';obtain rfl:=Option.some.inj hk';rw[hx] at hx';obtain rfl:=Option.some.inj hx';have:=h.f0;omega
theorem L3.held (h:L3 its ks gr cc give i turns zs) (hk:ks[i]?=some k) (hx:its[k]?=some x) (hd:x.hd=true):L3 its ks gr cc give (i+1) turns zs:=by
 refine⟨fun j z hj hz=>h.fut j z (by omega) hz,fun j k' x' z hj hk' hx' hd' hz=>?_,fun ht=>?_,fun ht=>?_,by have:=h.bd;omega⟩
 ·rcases Nat.lt_or_ge j i with h1|h1
  ·exact h.old j k' x' z h1 hk' hx' hd' hz
  ·obtain rfl:j=i:=by omega
   rw[hk] at hk';obtain rfl:=Option.some.inj hk';rw[hx] at hx';obtain rfl:=Option.some.inj hx';rw[hd] at hd';cases hd'
 ·obtain⟨j,k,x,z,h1,h2⟩:=h.tp ht;exact⟨j,k,x,z,by omega,h2⟩
 ·obtain⟨j,k,x,z,h1,h2⟩:=h.tn ht;exact⟨j,k,x,z,by omega,h2⟩
theorem L3.free (h:L3 its ks gr cc give i turns zs) (hk:ks[i]?=some k) (hx:its[k]?=some x) (hd:x.hd=false) (hi:i<zs.length) (hb:KidOk x.s) (hc:0≤cc∧cc≤1099511627776) (hz:AimOk gr z):L3 its ks gr cc give (i+1) (turns+clampV x.s cc z-z) (zs.set i z):=by
 have hself:(zs.set i z)[i]?=some z:=List.getElem?_set_self hi;have hne:∀j,j<i→(zs.set i z)[j]?=zs[j]?:=fun j hj=>List.getElem?_set_ne (by omega)
 obtain⟨_,_,ht⟩:=aim_w hz hb hc;refine⟨fun j z' hj hz'=>h.fut j z' (by omega) (by rw[List.getElem?_set_ne (by omega)] at hz';exact hz'),fun j k' x' z' hj hk' hx' hd' hz'=>?_,fun h0=>?_,fun h0=>?_,by have:=h.bd;omega⟩
 ·rcases Nat.lt_or_ge j i with h1|h1
  ·rw[hne j h1] at hz';exact h.old j k' x' z' h1 hk' hx' hd' hz'
  ·obtain rfl:j=i:=by omega
   rw[hself] at hz';obtain rfl:=Option.some.inj hz';exact hz
 ·by_cases h1:0<turns
  ·obtain⟨j,k',x',z',h2,h3,h4,h5,h6,h7⟩:=h.tp h1;exact⟨j,k',x',z',by omega,h3,h4,h5,by rw[hne j h2];exact h6,h7⟩
  ·exact⟨i,k,x,z,by omega,hk,hx,hd,hself,by omega⟩
 ·by_cases h1:turns<0
  ·obtain⟨j,k',x',z',h2,h3,h4,h5,h6,h7⟩:=h.tn h1;exact⟨j,k',x',z',by omega,h3,h4,h5,by rw[hne j h2];exact h6,h7⟩
  ·exact⟨i,k,x,z,by omega,hk,hx,hd,hself,by omega⟩
theorem L4.skip (h:L4 its ks gr cc turns zs i its2) (hk:ks[i]?=some k) (hs:∀(x:Im) (z:Int),its[k]?=some x→x.hd=false→zs[i]?=some z→TurnC turns (clampV x.s cc z-z)→∃y,its2[k]?=some y∧y.hd=true):L4 its ks gr cc turns zs (i+1) its2:=
 ⟨h.later,h.row,fun j k' x z hj hk' hx hd hz ht=>by
  rcases Nat.lt_or_ge j i with h1|h1
  ·exact h.dn j k' x z h1 hk' hx hd hz ht
  ·obtain rfl:j=i:=by omega
   rw[hk] at hk';obtain rfl:=Option.some.inj hk';exact hs x z hx hd hz ht⟩
theorem L4.hold (h:L4 its ks gr cc turns zs i its2) (hk:ks[i]?=some k) (hy:its2[k]?=some x) (_hd:x.hd=false) (hz:ItB gr y) (hs:SameI x y) (hyd:y.hd=true):L4 its ks gr cc turns zs (i+1) (its2.set k y):=by
 have hL:=Later.set hy (List.mem_of_getElem? hk) hs;refine⟨h.later.trans hL,h.row.set hz,fun j k' x' z hj hk' hx hd' hz' ht=>?_⟩;have hself:(its2.set k y)[k]?=some y:=List.getElem?_set_self (List.getElem?_eq_some_iff.1 hy).1;by_cases hkk:k=k'
 ·subst hkk;exact⟨y,hself,hyd⟩
 ·rcases Nat.lt_or_ge j i with h1|h1
  ·obtain⟨u,hu,hud⟩:=h.dn j k' x' z h1 hk' hx hd' hz' ht;exact⟨u,by rw[List.getElem?_set_ne hkk];exact hu,hud⟩
  ·obtain rfl:j=i:=by omega
   rw[hk] at hk';exact absurd (Option.some.inj hk') hkk
theorem L4.done (h:L4 its ks gr cc turns zs ks.length its2) (h3:L3 its ks gr cc give ks.length turns zs) (hl:zs.length=ks.length) (hne:∃(j k:Nat) (x:Im),ks[j]?=some k∧its[k]?=some x∧x.hd=false):∃k∈ks,∃x y,its[k]?=some x∧its2[k]?=some y∧x.hd=false∧y.hd=true:=by
 have fin:∀(j k:Nat) (x:Im) (z:Int),j<ks.length→ks[j]?=some k→its[k]?=some x→x.hd=false→zs[j]?=some z→TurnC turns (clampV x.s cc z-z)→∃k∈ks,∃x y,its[k]?=some x∧its2[k]?=some y∧x.hd=false∧y.hd=true:=fun j k x z h1 h2 h3 h4 h5 h6=>by
  obtain⟨y,hy,hd⟩:=h.dn j k x z h1 h2 h3 h4 h5 h6;exact⟨k,List.mem_of_getElem? h2,x,y,h3,hy,h4,hd⟩
 rcases Int.lt_trichotomy turns 0 with h0|h0|h0
 ·obtain⟨j,k,x,z,a1,a2,a3,a4,a5,a6⟩:=h3.tn h0;exact fin j k x z a1 a2 a3 a4 a5 (.inr (.inr ⟨h0,a6⟩))
 ·obtain⟨j,k,x,a2,a3,a4⟩:=hne;have hj:=(List.getElem?_eq_some_iff.1 a2).1;exact fin j k x _ hj a2 a3 a4 (AE (by omega)) (.inl h0)
 ·obtain⟨j,k,x,z,a1,a2,a3,a4,a5,a6⟩:=h3.tp h0;exact fin j k x z a1 a2 a3 a4 a5 (.inr (.inl ⟨h0,a6⟩))
end
theorem set_same {l:List Int} {i:Nat} {x:Int} (h:l[i]?=some x):l.set i x=l:=by
 obtain⟨h1,rfl⟩:=List.getElem?_eq_some_iff.1 h;exact List.set_getElem_self h1
theorem aim_put {w:World} {gA i:Nat} {a:Int} {zs:List Int} (h:Blk w gA 2 (ints (zs.set i a)).toArray) (b:Int):Blk (w.setCell ⟨gA,i,none⟩ (.int .i64 b)) gA 2 (ints (zs.set i b)).toArray:=by
 have h1:=h.set_ i (.int .i64 b);rw[List.setIfInBounds_toArray,←ints_set,List.set_set] at h1;exact h1
theorem ItsIn.sty {w:World} {B g n c k:Nat} {its:List Im} {x:Im} (h:ItsIn w B g n c its) (hk:its[k]?=some x):w.rangeAt g (k*51) (styC x.s):=fun j v hv=>by
 have hj:j<43:=(List.getElem?_eq_some_iff.1 hv).1;exact (h.at_ hk).2 j v (by unfold imC;rw[List.getElem?_append_left (show j<(styC x.s).length from hj)];exact hv)
def RoundIs (w:World) (B g n c:Nat) (Ap:Option Addr) (m mc:Nat) (ks:List Nat) (gr:Bool) (its:List Im) (e:Ending) (w':World):Prop:=
 e=.returned (.tuple #[])∧∃its2,RnS w w' B g n c its2 Ap m mc ks∧Later its its2 ks∧RowB gr its2 ks∧∃k∈ks,∃x y,its[k]?=some x∧its2[k]?=some y∧x.hd=false∧y.hd=true
theorem i64_info2:(Tryz.prog.info? 2).map (fun i=>(i.zero,i.size,i.bytes))=some (some (.int .i64 0),1,8):=by kernel_rfl
section
variable {w:World} {its:List Im} {ks:List Nat}
theorem round19_any (gr:Bool) (B g n c:Nat) (Ap:Option Addr) (m mc:Nat) (cc:Int) (h:RnS w w B g n c its Ap m mc ks) (hks:RowB gr its ks) (hm:m≤300) (hc:0≤cc∧cc≤1099511627776) (hne:∃(j k:Nat) (x:Im),ks[j]?=some k∧its[k]?=some x∧x.hd=false) :
  Calls Tryz.prog 147 #[.slice Ap m mc,.int .i64 cc,.bool gr] w (RoundIs w B g n c Ap m mc ks gr its):=by
 have HR:=AB h;have hkl:=h.len;have HK:=AB hks;have HC:=AB hc;have HNE:=AB hne;have mi:=fun w=>(show (Instr.makeSlice 23 (.int .i64 (m:Int)) (.int .i64 (m:Int))).run Tryz.prog w=.ok (.slice (some ⟨w.heap.size,0,none⟩) m m) (w.alloc (.cells (ints (List.replicate m 0)).toArray 2)) by
  obtain⟨i0,hi0,hz0,hz1,hz2⟩:=info_parts i64_info2;have:=make_n (P:=Tryz.prog) 23 2 i0 _ Tryz.underlying23 hi0 hz0 hz1 rfl m (by rw[hz2];omega) (by omega) w
  simpa[ints] using this)
 clear h hks hne;go_enter Tryz.func147,Tryz.ntmps147;go_wp2_with fail;go_loopw [6,7,8] (fun v6 v7 v8 wq=>∃(i:Nat) (rest fac:Int),v8=.int .i64 i∧v6=.int .i64 rest∧v7=.int .i64 fac∧i≤m∧Hid (L1 its ks gr cc i rest fac)∧wq=w) (fun _ _ v8 _=>m-(intOf v8).toNat)
 case atStart=>exact⟨0,cc,0,rfl,rfl,rfl,by omega,AB ⟨by omega,fun _=>by omega,by omega,by omega,by omega,fun j k x hj=>absurd hj (by omega)⟩,rfl⟩
 case round=>
  obtain⟨i,rest,fac,rfl,rfl,rfl,hi,HL,rfl⟩:=hrel;by_cases him:i<m
  ·as_aux_lemma=>
   have hiI:(0:Int)≤(i:Int)∧(i:Int)<(m:Int):=by omega
   obtain⟨k,hk⟩:∃k,ks[i]?=some k:=⟨_,AE (by omega)⟩
   obtain⟨x,hx,hb⟩:=(AA HK) k (List.mem_of_getElem? hk);obtain⟨b,hAp,lb,c0⟩:=(AA HR).ptr hk;subst hAp;obtain⟨lg,hcl⟩:=(AA HR).it.at_ hx;have i45:=hcl 45 _ (rfl:_=some (Value.int .i64 x.sd));have i46:=hcl 46 _ (rfl:_=some (Value.int .i64 x.b));have i48:=hcl 48 _ (rfl:_=some (Value.int .i64 x.fa));have i49:=hcl 49 _ (rfl:_=some (Value.bool x.hd));have i50:=hcl 50 _ (rfl:_=some (Value.int .i64 x.w));have HBk:=AB hb;have hres:-4000000000000000000≤rest∧rest≤20000000000000000:=by have h1:=(AA HL).lo;have h2:=(AA HL).hi;have h3:=AA HC;omega
   have hfac:0≤fac∧fac≤220000000000000000:=by have h1:=(AA HL).f0;have h2:=(AA HL).f1;omega
   obtain⟨hkid,hsd,hbb,hfa,-,hw,-⟩:=hb;obtain⟨hv,hhv⟩:∃v,x.hd=v:=⟨_,rfl⟩
   rw[hhv] at i49;have HHV:=AB hhv;have HX:=AB hx;have HKi:=AB hk;clear hcl hkid hhv hx hk;cases hv
   ·go_wp2_with fail;go_roundw
    case rel=>exact⟨i+1,_,_,by go_num,rfl,rfl,by omega,AB ((AA HL).free (AA HKi) (AA HX) (AA HBk)),by first|trivial|rfl⟩
    case measure=>simp[intOf];omega
   ·go_wp2_with fail;go_roundw
    case rel=>exact⟨i+1,_,_,by go_num,rfl,rfl,by omega,AB ((AA HL).held (AA HKi) (AA HX) (AA HBk) (AA HHV)),by first|trivial|rfl⟩
    case measure=>simp[intOf];omega
  ·as_aux_lemma=>
   have hiI:¬(i:Int)<(m:Int):=by omega
   obtain rfl:m=i:=by omega
   have hres:-4000000000000000000≤rest∧rest≤20000000000000000:=by have h1:=(AA HL).lo;have h2:=(AA HL).hi;have h3:=AA HC;omega
   have hfac:0≤fac∧fac≤220000000000000000:=by have h1:=(AA HL).f0;have h2:=(AA HL).f1;omega
   have HG:=AB (show (rest≤9100000000000000)∧(gr=false→-24000000000000000≤rest) by
    have h1:=AA HC;have h2:=(AA HL).hi;refine⟨by omega,fun hg=>?_⟩;have:=(AA HL).lo2 hg;omega)
   have HF:=AB (AA HL).fa;clear HL;go_upto_region 11 with fail;go_cut [80] from 18 to 258 (fun v80 wx=>(∃bb:Bool,v80=.bool bb∧Hid (bb=true→(gr=true→0<rest)∧(gr=false→rest<0)))∧wx=wr)
   case first=>
    as_aux_lemma=>
    clear HG;cases gr
    ·by_cases h0:rest<0
     ·go_wp2_with fail;go_meet
      case rel=>exact⟨⟨_,rfl,AB (fun _=>⟨fun h=>by (cases h),fun _=>h0⟩)⟩,rfl⟩
     ·go_wp2_with fail;go_meet
      case rel=>exact⟨⟨_,rfl,AB (fun h=>by (cases h))⟩,rfl⟩
    ·by_cases h0:0<rest
     ·go_wp2_with fail;go_meet
      case rel=>exact⟨⟨_,rfl,AB (fun _=>⟨fun _=>h0,fun h=>by (cases h)⟩)⟩,rfl⟩
     ·go_wp2_with fail;go_meet
      case rel=>exact⟨⟨_,rfl,AB (fun h=>by (cases h))⟩,rfl⟩
   case rest=>
    as_aux_lemma=>
    obtain⟨⟨bb,rfl,hbb⟩,hwc⟩:=hcut;subst hwc;go_upto_if 80 with (fail);go_cut [9] from 18 to 258 (fun v9 wx=>(∃gn:Nat,v9=.int .i64 (gn:Int)∧Hid (gn≤24000000000000000∧(gr=true→gn≤9100000000000000)))∧wx=wc)
    case first=>
     as_aux_lemma=>
     cases bb
     ·go_wp2_with fail;go_meet
      case rel=>exact⟨⟨0,rfl,AB ⟨by omega,fun _=>by omega⟩⟩,rfl⟩
     ·obtain⟨h1,h2⟩:=(AA HG)
      obtain⟨h3,h4⟩:=(AA hbb) rfl;obtain⟨gn,hgn⟩:∃gn:Nat,max rest (-rest)=(gn:Int):=⟨(max rest (-rest)).toNat,by omega⟩
      have HGN:=AB (show gn≤24000000000000000∧(gr=true→gn≤9100000000000000) by
       cases gr
       ·have:=h2 rfl;have:=h4 rfl;exact⟨by omega,fun h=>by (cases h)⟩
       ·have:=h3 rfl;exact⟨by omega,fun _=>by omega⟩)
      clear h1 h2 h3 h4;go_wp2_with fail;go_meet
      case rel=>exact⟨⟨gn,rfl,HGN⟩,rfl⟩
    case rest=>
     as_aux_lemma=>
     clear hbb bb;obtain⟨⟨gn,rfl,hgn⟩,hwc2⟩:=hcut;subst hwc2;generalize hwb0:wc=wb at *;clear hwb0;clear HG hres;go_upto_region 14 with fail;have hx:=(Ext.refl wb).alloc (.cells (ints (List.replicate m 0)).toArray 2);have BA:=Blk.new wb 2 (ints (List.replicate m 0)).toArray;have R:=(AA HR).step hx;have HGA:=AB (show wb.heap.size≤wb.heap.size from Nat.le_refl _);generalize wb.alloc (.cells (ints (List.replicate m 0)).toArray 2)=w1 at *;obtain⟨gA,hgA⟩:∃q,wb.heap.size=q:=⟨_,rfl⟩
     replace HGA:=AB (show wb.heap.size≤gA by omega);rw[hgA] at BA ⊢;clear hx hgA mi;go_wp2_with fail;go_loopw [11,12] (fun v11 v12 wq=>∃(i:Nat) (left:Int) (zs:List Int),v12=.int .i64 i∧v11=.int .i64 left∧i≤m∧Hid (-(i*24000000000000000)≤left∧left≤24000000000000000)∧zs.length=m∧Hid (∀z∈zs,0≤z∧z≤(gn:Int))∧RnS wb wq B g n c its Ap m mc ks∧Blk wq gA 2 (ints zs).toArray) (fun _ v12 _=>m-(intOf v12).toNat)
     case atStart=>exact⟨0,gn,List.replicate m 0,rfl,rfl,by omega,AB (by have:=(AA hgn).1;omega),by simp,AB (fun z hz=>by rw[(List.mem_replicate.1 hz).2];omega),R,BA⟩
     case round=>
      clear R BA;obtain⟨i,left,zs,rfl,rfl,hi,HLf,hzl,HZ,R,BA⟩:=hrel;by_cases him:i<m
      ·as_aux_lemma=>
       have hiI:(0:Int)≤(i:Int)∧(i:Int)<(m:Int):=by omega
       obtain⟨k,hk⟩:∃k,ks[i]?=some k:=⟨_,AE (by omega)⟩
       obtain⟨x,hx,hb⟩:=(AA HK) k (List.mem_of_getElem? hk);obtain⟨b,hAp,lb,c0⟩:=R.ptr hk;subst hAp;obtain⟨lg,hcl⟩:=R.it.at_ hx;have i48:=hcl 48 _ (rfl:_=some (Value.int .i64 x.fa));have i49:=hcl 49 _ (rfl:_=some (Value.bool x.hd));obtain⟨zi,hzi⟩:∃z,zs[i]?=some z:=⟨_,AE (by omega)⟩
       have cA:=(BA.cell i).trans (show _=some (Value.int .i64 zi) by rw[List.getElem?_toArray,ints,List.getElem?_map,hzi];rfl);have lA:=BA.lt;have fA:=BA.frozen i;have hlf:-7300000000000000000≤left∧left≤24000000000000000:=by have:=AA HLf;omega
       have hfa:=hb.2.2.2.1;have hpos:=hb.2.2.2.2.1;have hfc:=(AA HF) i k x (by omega) hk hx;clear hcl hb hk hzi;obtain⟨hv,hhv⟩:∃v,x.hd=v:=⟨_,rfl⟩
       rw[hhv] at i49 hpos hfc;cases hv
       ·have hpos':=hpos rfl;have hfc':=hfc rfl;have cS:=fun w=>AB (share19_any gn x.fa fac w (by have:=(AA hgn).1;omega) ⟨hfa.1,hfc'⟩ ⟨by omega,by omega⟩)
        clear hpos hfc hhv hx hfa hpos' hfc' hfac;go_wp2_with fail
        with_reducible refine (AA (cS _)).mono ?_
        rintro e w2 ⟨q,rfl,hq,rfl⟩;have hq2:0≤q∧q≤24000000000000000:=by have:=(AA hgn).1;omega
        have HQ:=AB hq;clear cS hq;go_wp2_with fail;go_roundw
        case rel=>exact⟨i+1,_,zs.set i q,by go_num,rfl,by omega,AB (by have:=AA HLf;omega),by rw[List.length_set];exact hzl,AB (fun z hz=>by
          rcases List.mem_or_eq_of_mem_set hz with h1|h1
          ·exact (AA HZ) z h1
          ·rw[h1];exact AA HQ),R.far (gsCell gA i) (AA HGA),by rw[ints_set,←List.setIfInBounds_toArray];exact BA.set_ i _⟩
        case measure=>simp[intOf];omega
       ·clear hpos hfc hhv hx hfa hfac;go_wp2_with fail;go_roundw
        case rel=>exact⟨i+1,_,zs,by go_num,rfl,by omega,AB (by have:=AA HLf;omega),hzl,HZ,R,BA⟩
        case measure=>simp[intOf];omega
      ·as_aux_lemma=>
       have hiI:¬(i:Int)<(m:Int):=by omega
       obtain rfl:m=i:=by omega
       have HL3:=AB (show L3 its ks gr cc gn 0 0 zs from ⟨fun j z _ hz=>(AA HZ) z (List.mem_of_getElem? hz),fun j k x z hj=>absurd hj (by omega),fun h=>absurd h (by omega),fun h=>absurd h (by omega),by omega⟩);have HLf2:=AB (show -7300000000000000000≤left∧left≤24000000000000000 by have:=AA HLf;omega);clear HZ HLf HF;go_wp2_with fail;go_loopw [11,13,14] (fun v11 v13 v14 wq=>∃(i:Nat) (left turns:Int) (zs:List Int),v14=.int .i64 i∧v11=.int .i64 left∧v13=.int .i64 turns∧i≤m∧Hid (-7300000000000000000≤left∧left≤24000000000000000)∧zs.length=m∧Hid (L3 its ks gr cc gn i turns zs)∧RnS wb wq B g n c its Ap m mc ks∧Blk wq gA 2 (ints zs).toArray) (fun _ _ v14 _=>m-(intOf v14).toNat)
       case atStart=>exact⟨0,left,0,zs,rfl,rfl,rfl,by omega,HLf2,hzl,HL3,R,BA⟩
       case round=>
        clear R BA HL3 HLf2 hzl;obtain⟨i,left,turns,zs,rfl,rfl,rfl,hi,HLf,hzl,HL,R,BA⟩:=hrel;by_cases him:i<m
        ·as_aux_lemma=>
         have hiI:(0:Int)≤(i:Int)∧(i:Int)<(m:Int):=by omega
         obtain⟨k,hk⟩:∃k,ks[i]?=some k:=⟨_,AE (by omega)⟩
         obtain⟨x,hx,hb⟩:=(AA HK) k (List.mem_of_getElem? hk);obtain⟨b,hAp,lb,c0⟩:=R.ptr hk;subst hAp;obtain⟨lg,hcl⟩:=R.it.at_ hx;have i49:=hcl 49 _ (rfl:_=some (Value.bool x.hd));obtain⟨zi,hzi⟩:∃z,zs[i]?=some z:=⟨_,AE (by omega)⟩
         have cA:=(BA.cell i).trans (show _=some (Value.int .i64 zi) by rw[List.getElem?_toArray,ints,List.getElem?_map,hzi];rfl);have lA:=BA.lt;have fA:=BA.frozen i;have hlf:=AA HLf;have hz0:0≤zi∧zi≤24000000000000000:=by have h1:=(AA HL).fut i zi (Nat.le_refl _) hzi;have:=(AA hgn).1;omega
         have HZ0:=AB (show 0≤zi∧zi≤(gn:Int) from (AA HL).fut i zi (Nat.le_refl _) hzi);have HB:=AB hb;have HX:=AB hx;have HKi:=AB hk;have HZI:=AB hzi;clear hb hzi hx hk;obtain⟨hv,hhv⟩:∃v,x.hd=v:=⟨_,rfl⟩
         rw[hhv] at i49;have HHV:=AB hhv;clear hhv hcl;cases hv
         ·go_upto_if 136 with (fail);clear i49;go_cut [11] from 122 to 195 (fun v11 wx=>∃(left' z1:Int),v11=.int .i64 left'∧Hid (-7300000000000000000≤left'∧left'≤24000000000000000)∧Hid (0≤z1∧z1≤(gn:Int)+1)∧RnS wb wx B g n c its (some ⟨b,0,none⟩) m mc ks∧Blk wx gA 2 (ints (zs.set i z1)).toArray)
          case first=>
           as_aux_lemma=>
           by_cases h0:0<left
           ·go_wp2_with fail;go_meet
            case rel=>exact⟨_,zi+1,rfl,AB (by omega),AB (by have:=AA HZ0;omega),R.far (gsCell gA i) (AA HGA),by rw[ints_set,←List.setIfInBounds_toArray];exact BA.set_ i _⟩
           ·go_wp2_with fail;go_meet
            case rel=>exact⟨_,zi,rfl,AB (by omega),AB (by have:=AA HZ0;omega),R,by rw[set_same (AA HZI)];exact BA⟩
          case rest=>
           as_aux_lemma=>
           clear R BA HLf hlf cA lA fA lb c0 lg hz0 HZ0;obtain⟨left',z1,rfl,HLf,HZ1,R,BA⟩:=hcut;obtain⟨lg,hcl⟩:=R.it.at_ (AA HX);obtain⟨b2,hAp,lb,c0⟩:=R.ptr (AA HKi);injection hAp with hAp;injection hAp with hAp;subst hAp;have i46:=hcl 46 _ (rfl:_=some (Value.int .i64 x.b));have hbb:=(AA HB).2.2.1;have cA:=(BA.cell i).trans (show _=some (Value.int .i64 z1) by rw[List.getElem?_toArray,ints,List.getElem?_map,List.getElem?_set_self (by have:=hzl;omega)];rfl);have lA:=BA.lt;have fA:=BA.frozen i;have hz1:0≤z1∧z1≤24000000000000001:=by have h1:=AA HZ1;have:=(AA hgn).1;omega
           clear hcl;go_upto_if 145 with (fail);go_cut [] from 122 to 195 (fun wx=>∃z2:Int,Hid (AimOk gr z2)∧RnS wb wx B g n c its (some ⟨b,0,none⟩) m mc ks∧Blk wx gA 2 (ints (zs.set i z2)).toArray)
           case first=>
            as_aux_lemma=>
            cases gr
            ·go_upto_region 31 with fail;refine wp_region_ord [(1,0),(1,1),(1,2),(1,3),(1,4),(0,5),(1,6),(1,7),(0,8),(1,9),(1,10),(1,11),(0,12),(1,13),(1,14),(3,15)] 15 (fun w'=>Ext wc w') (by kernel_rfl) (by kernel_rfl) rfl (by kernel_rfl) ((Ext.refl _).drew) ?_;simp only[AD]
             iterate 15 ((first|refine ordQA ?_|refine ordQB ?_);simp only[AC])
             refine ord_last ?_;go_wp2_with fail;refine ord_nil ?_;go_wp2_with fail;go_meet
             case rel=>exact⟨x.b-z1,AB ⟨by omega,by omega,fun _=>by omega⟩,(R.far (gsCell gA i) (AA HGA)).step (Ext.refl _).drew,(aim_put BA _).ext (Ext.refl _).drew⟩
            ·go_upto_region 30 with fail;refine wp_region_ord [(1,0),(1,1),(1,2),(1,3),(1,4),(0,5),(1,6),(1,7),(0,8),(1,9),(1,10),(1,11),(0,12),(1,13),(1,14),(3,15)] 15 (fun w'=>Ext wc w') (by kernel_rfl) (by kernel_rfl) rfl (by kernel_rfl) ((Ext.refl _).drew) ?_;simp only[AD]
             iterate 15 ((first|refine ordQA ?_|refine ordQB ?_);simp only[AC])
             refine ord_last ?_;go_wp2_with fail;refine ord_nil ?_;go_wp2_with fail;go_meet
             case rel=>exact⟨x.b+z1,AB ⟨by omega,by have h1:=AA HZ1;have h2:=(AA hgn).2 (by first|trivial|rfl);omega,fun h=>by (cases h)⟩,(R.far (gsCell gA i) (AA HGA)).step (Ext.refl _).drew,(aim_put BA _).ext (Ext.refl _).drew⟩
           case rest=>
            as_aux_lemma=>
            clear R BA cA lA fA lb c0 lg i46 hbb hz1 HZ1;obtain⟨z2,hz2,R,BA⟩:=hcut;obtain⟨lg,-⟩:=R.it.at_ (AA HX);obtain⟨b3,hAp,lb,c0⟩:=R.ptr (AA HKi);injection hAp with hAp;injection hAp with hAp;subst hAp;have HST:=AB (R.it.sty (AA HX));have cA:=(BA.cell i).trans (show _=some (Value.int .i64 z2) by rw[List.getElem?_toArray,ints,List.getElem?_map,List.getElem?_set_self (by have:=hzl;omega)];rfl);have lA:=BA.lt;obtain⟨hed,hwm,hmin,hmax⟩:=may_facts (AA HB).1.may;have hwb:=aim_w (AA hz2) (AA HB).1 (AA HC);have cCl:=fun w=>AB (ref_clamp x.s cc z2 (may_part0 hmax) (may_part0 hmin) (AA HC).2 w)
            obtain⟨W,hW⟩:∃z,clampV x.s cc z2=z:=⟨_,rfl⟩
            simp only[hW] at cCl hwb;have HW:=AB hW;have htb:-7500000000000000000≤turns∧turns≤7500000000000000000:=by have:=(AA HL).bd;omega
            have hz2b:-24500000000000000≤z2∧z2≤9300000000000000:=by have:=AA hz2;exact⟨this.1,this.2.1⟩
            have hWb:0≤W∧W≤10000000000000000:=hwb.1;have HLG:=AB lg;obtain⟨e1,he1⟩:∃q,turns+W=q:=⟨_,rfl⟩
            obtain⟨e2,he2⟩:∃q,e1-z2=q:=⟨_,rfl⟩
            have hw1:IntKind.i64.wrap (turns+W)=e1:=by rw[IntWalk.i64_in _ (by omega)];exact he1
            have hw2:IntKind.i64.wrap (e1-z2)=e2:=by rw[IntWalk.i64_in _ (by omega)];exact he2
            have HE2:=AB (show e2=turns+W-z2 by omega);clear hed hwm hmin hmax hwb hW he1 he2;go_upto_region 32 with fail;refine wp_region_ord [(1,0),(1,1),(1,2),(1,3),(0,4),(1,5),(1,6),(0,7),(1,8),(1,9),(1,10),(1,11),(0,12),(1,15),(1,16),(1,17),(0,18),(2,13),(1,14),(1,19),(1,20)] 21 (fun w'=>Ext wc w') (by kernel_rfl) (by kernel_rfl) rfl (by kernel_rfl) ((Ext.refl _).drew) ?_;simp only[AD]
            iterate 7 ((first|refine ordQA ?_|refine ordQB ?_);simp only[AC])
            refine ord_hold (v:=.agg x.s.cells) rfl (fun w' hI=>run_load_sty (.tmp 182) rfl rfl (fun y v hv=>(hI.cells.1 g _ (AA HLG)).trans ((AA HST) y v hv))) ?_;simp only[AC]
            iterate 9 ((first|refine ordQA ?_|refine ordQB ?_);simp only[AC])
            refine ord_keep ?_;go_wp2_with fail
            with_reducible refine (AA (cCl _)).mono ?_
            rintro e w3 ⟨rfl,hx⟩;have HX2:=AB ((Ext.refl wc).drew.trans hx);clear hx cCl;go_wp2_with fail;refine⟨AA HX2,?_⟩
            iterate 3 ((first|refine ordQA ?_|refine ordQB ?_);simp only[AC])
            refine ord_nil ?_;replace R:=R.step (AA HX2);replace BA:=BA.ext (AA HX2);clear lg lb c0 cA lA HST HLG;go_wp2_with fail;go_roundw
            case rel=>exact⟨i+1,_,_,zs.set i z2,by go_num,rfl,rfl,by omega,HLf,by rw[List.length_set];exact hzl,AB (by have h1:=(AA HL).free (AA HKi) (AA HX) (AA HHV) (by omega) (AA HB).1 (AA HC) (AA hz2);rw[AA HW] at h1;rw[AA HE2];exact h1),R,BA⟩
            case measure=>simp[intOf];omega
         ·go_wp2_with fail;go_roundw
          case rel=>exact⟨i+1,_,_,zs,by go_num,rfl,rfl,by omega,HLf,hzl,AB ((AA HL).held (AA HKi) (AA HX) (AA HHV)),R,BA⟩
          case measure=>simp[intOf];omega
        ·as_aux_lemma=>
         have hiI:¬(i:Int)<(m:Int):=by omega
         obtain rfl:m=i:=by omega
         clear HLf;go_wp2_with fail;go_loopw [15] (fun v15 wq=>∃(i:Nat) (its2:List Im),v15=.int .i64 i∧i≤m∧RnS wb wq B g n c its2 Ap m mc ks∧Hid (L4 its ks gr cc turns zs i its2)∧Blk wq gA 2 (ints zs).toArray) (fun v15 _=>m-(intOf v15).toNat)
         case atStart=>exact⟨0,its,rfl,by omega,R,AB ⟨Later.refl _ _,AA HK,fun j k x z hj=>absurd hj (by omega)⟩,BA⟩
         case round=>
          clear R BA;obtain⟨i,its2,rfl,hi,R,H4,BA⟩:=hrel;by_cases him:i<m
          ·as_aux_lemma=>
           have hiI:(0:Int)≤(i:Int)∧(i:Int)<(m:Int):=by omega
           obtain⟨k,hk⟩:∃k,ks[i]?=some k:=⟨_,AE (by omega)⟩
           obtain⟨x,hx,hbx⟩:=(AA HK) k (List.mem_of_getElem? hk);obtain⟨y,hy,hs⟩:=(AA H4).later.2.1 k x hx;have hb:ItB gr y:=by
            obtain⟨y',hy',h1⟩:=(AA H4).row k (List.mem_of_getElem? hk);rw[hy] at hy';rw[Option.some.inj hy'];exact h1
           obtain⟨b,hAp,lb,c0⟩:=R.ptr hk;subst hAp;obtain⟨lg,hcl⟩:=R.it.at_ hy;have i49:=hcl 49 _ (rfl:_=some (Value.bool y.hd));obtain⟨z,hz⟩:∃z,zs[i]?=some z:=⟨_,AE (by omega)⟩
           have cA:=(BA.cell i).trans (show _=some (Value.int .i64 z) by rw[List.getElem?_toArray,ints,List.getElem?_map,hz];rfl);have lA:=BA.lt;have HBx:=AB hbx;have HB:=AB hb;have HX:=AB hx;have HY:=AB hy;have HS:=AB hs;have HKi:=AB hk;have HZi:=AB hz;have HST:=AB (R.it.sty hy);have HLG:=AB lg;obtain⟨hv,hhv⟩:∃v,y.hd=v:=⟨_,rfl⟩
           rw[hhv] at i49;have HHV:=AB hhv;clear hhv hcl hbx hb hx hy hs hk hz;cases hv
           ·
            have HXD:=AB (show x.hd=false by
             cases hd:x.hd with
             |false=>rfl
             |true=>have h1:=(AA HS).2 hd;have h2:=AA HHV;rw[h1,hd] at h2;cases h2)
            have HAO:=AB ((AA HL).old i k x z him (AA HKi) (AA HX) (AA HXD) (AA HZi));obtain⟨hed,hwm,hmin,hmax⟩:=may_facts (AA HB).1.may;have hwb:=aim_w (AA HAO) (AA HB).1 (AA HC);have cCl:=fun w=>AB (ref_clamp y.s cc z (may_part0 hmax) (may_part0 hmin) (AA HC).2 w)
            obtain⟨W,hW⟩:∃q,clampV y.s cc z=q:=⟨_,rfl⟩
            simp only[hW] at cCl hwb;have HW:=AB hW;have HWB:=AB hwb;have hzb:-24500000000000000≤z∧z≤9300000000000000:=by have:=AA HAO;exact⟨this.1,this.2.1⟩
            have hWb:0≤W∧W≤10000000000000000:=hwb.1;clear hed hwm hmin hmax hwb hW;go_upto_region 37 with fail;refine wp_region_ord [(1,0),(1,1),(1,2),(0,3),(1,4),(1,5),(0,6),(1,7),(1,8),(1,9),(1,10),(0,11),(3,12),(1,13)] 12 (fun w'=>Ext wr w') (by kernel_rfl) (by kernel_rfl) rfl (by kernel_rfl) ((Ext.refl _).drew) ?_;simp only[AD]
            iterate 6 ((first|refine ordQA ?_|refine ordQB ?_);simp only[AC])
            refine ord_hold (v:=.agg y.s.cells) rfl (fun w' hI=>run_load_sty (.tmp 214) rfl rfl (fun q v hv=>(hI.cells.1 g _ (AA HLG)).trans ((AA HST) q v hv))) ?_;simp only[AC]
            iterate 5 ((first|refine ordQA ?_|refine ordQB ?_);simp only[AC])
            refine ord_last ?_;go_wp2_with fail
            with_reducible refine (AA (cCl _)).mono ?_
            rintro e w3 ⟨rfl,hx⟩;have HX2:=AB ((Ext.refl wr).drew.trans hx);clear hx cCl;go_wp2_with fail
            iterate 1 ((first|refine ordQA ?_|refine ordQB ?_);simp only[AC])
            refine ord_nil ?_;replace R:=R.step (AA HX2);replace BA:=BA.ext (AA HX2);clear lg lb c0 cA lA HST HLG i49 HX2;have cA:=(BA.cell i).trans (show _=some (Value.int .i64 z) by rw[List.getElem?_toArray,ints,List.getElem?_map,AA HZi];rfl);have lA:=BA.lt;go_upto_region 38 with fail;obtain⟨tt,htt⟩:∃q,W-z=q:=⟨_,rfl⟩
            have htw:IntKind.i64.wrap (W-z)=tt:=by rw[IntWalk.i64_in _ (by omega)];exact htt
            have HTT:=AB htt;clear htt;go_upto_region 39 with fail;clear htw cA lA;go_cut [245] from 196 to 258 (fun v245 wx=>(∃bb:Bool,v245=.bool bb∧Hid (TurnC turns tt→bb=true))∧wx=w3)
            case first=>
             as_aux_lemma=>
             rcases Int.lt_trichotomy turns 0 with h0|h0|h0
             ·by_cases h1:tt<0
              ·go_wp2_with fail;go_meet
               case rel=>exact⟨⟨true,rfl,AB (fun _=>rfl)⟩,rfl⟩
              ·go_wp2_with fail;go_meet
               case rel=>exact⟨⟨_,rfl,AB (fun h=>absurd h (by unfold TurnC;omega))⟩,rfl⟩
             ·subst h0;go_wp2_with fail;go_meet
              case rel=>exact⟨⟨true,rfl,AB (fun _=>rfl)⟩,rfl⟩
             ·by_cases h1:0<tt
              ·go_wp2_with fail;go_meet
               case rel=>exact⟨⟨true,rfl,AB (fun _=>rfl)⟩,rfl⟩
              ·go_wp2_with fail;go_meet
               case rel=>exact⟨⟨_,rfl,AB (fun h=>absurd h (by unfold TurnC;omega))⟩,rfl⟩
            case rest=>
             as_aux_lemma=>
             obtain⟨⟨bb,rfl,hbb⟩,hwc⟩:=hcut;subst hwc;have hys:y.s=x.s:=(AA HS).1.1;cases bb
             ·go_wp2_with fail;go_roundw
              case rel=>exact⟨i+1,its2,by go_num,by omega,R,AB ((AA H4).skip (AA HKi) (fun x' z' hx' _ hz' ht=>by
                have hx:=AA HX;have hz:=AA HZi;rw[hx] at hx';rw[hz] at hz';obtain rfl:=Option.some.inj hx';obtain rfl:=Option.some.inj hz';rw[←hys,AA HW,AA HTT] at ht;cases (AA hbb) ht)),BA⟩
              case measure=>simp[intOf];omega
             ·clear hbb;obtain⟨b3,hAp,lb,c0⟩:=R.ptr (AA HKi);injection hAp with hAp;injection hAp with hAp;subst hAp;have hbg:b≠g:=R.ne b rfl;obtain⟨lg,hcl⟩:=R.it.at_ (AA HY);have i49:=hcl 49 _ (rfl:_=some (Value.bool y.hd));have i50:=hcl 50 _ (rfl:_=some (Value.int .i64 y.w));have f49:=own_thaw R.it (k*51+49);have f50:=own_thaw R.it (k*51+50);have R2:=(R.put (y:={ y with hd:=true }) (v:=.bool true) (AA HY) (show 49<51 by decide) rfl).put (y:={ y with hd:=true,w:=W }) (v:=.int .i64 W) (List.getElem?_set_self (List.getElem?_eq_some_iff.1 (AA HY)).1) (show 50<51 by decide) rfl;rw[List.set_set] at R2;have BA2:=(BA.far (p:=⟨g,k*51+49,none⟩) (by have:=(AA HR).hg;have:=AA HGA;simp;omega) (.bool true)).far (p:=⟨g,k*51+50,none⟩) (by have:=(AA HR).hg;have:=AA HGA;simp;omega) (.int .i64 W);have H5:=AB ((AA H4).hold (AA HKi) (AA HY) (AA HHV) (y:={ y with hd:=true,w:=W }) (by
               obtain⟨b1,b2,b3,b4,b5,b6,b7⟩:=AA HB;exact⟨b1,b2,b3,b4,fun h=>by (cases h),(AA HWB).1,(AA HWB).2.1⟩) ⟨⟨rfl,rfl,rfl,rfl,rfl,rfl,rfl⟩,fun h=>by have:=AA HHV;rw[h] at this;cases this⟩ rfl)
              have HR2:=AB R2;have HBA2:=AB BA2;clear hcl R BA R2 BA2;go_wp2_with fail;go_roundw
              case rel=>exact⟨i+1,_,by go_num,by omega,AA HR2,H5,AA HBA2⟩
              case measure=>simp[intOf];omega
           ·go_wp2_with fail;go_roundw
            case rel=>exact⟨i+1,its2,by go_num,by omega,R,AB ((AA H4).skip (AA HKi) (fun _ _ _ _ _ _=>⟨y,AA HY,AA HHV⟩)),BA⟩
            case measure=>simp[intOf];omega
          ·as_aux_lemma=>
           have hiI:¬(i:Int)<(m:Int):=by omega
           obtain rfl:m=i:=by omega
           go_wp2_with fail
           go_end0
           exact⟨rfl,its2,R,(AA H4).later,(AA H4).row,by
            have h4:=AA H4;have h3:=AA HL;rw[←hkl] at h4 h3 hzl;exact h4.done h3 hzl (AA HNE)⟩
end
end Go.Proofs.YtamldoocjjdidaaGreat
