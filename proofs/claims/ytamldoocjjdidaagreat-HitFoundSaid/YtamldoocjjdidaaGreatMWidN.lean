import Derived.Test.YtamldoocjjdidaaGreatRows
import Derived.WalkKit
import Derived.WalkSpells
import Derived.WalkLawsBesides
import Derived.Deep.QuietTactic
import Derived.BigQuiet
import Derived.Handy
import Derived.ProofKit
import Derived.OpenShut
import Derived.ChangeOld
namespace Go.Proofs.YtamldoocjjdidaaGreat
open Go.RowKit
theorem AE{α:Type}{l:List α}{i:Nat}(h:i<l.length):l[i]?=some l[i]:=List.getElem?_eq_getElem h
theorem AC:(∀(l:List Value)(s:List Deferred)(d:Tmp)(v:Value),Act.put ⟨l.toArray,s⟩ (some d) v=⟨(l.set d v).toArray,s⟩)∧(∀(a:Act)(v:Value),a.put none v=a)∧(∀(x:Value)(l:List Value)(n:Nat)(v:Value),(x::l).set (n+1) v=x::l.set n v)∧(∀(x:Value)(l:List Value)(v:Value),(x::l).set 0 v=v::l):=⟨fun _ _ _ _=>by simp only[Act.put,List.setIfInBounds_toArray],fun _ _=>rfl,fun _ _ _ _=>rfl,fun _ _ _=>rfl⟩
theorem AD:(∀(f:Nat×Nat→Nat×Nat×Option Oper)(a:Nat×Nat)(l:List (Nat×Nat)),(a::l).map f=f a::l.map f)∧(∀(f:Nat×Nat→Nat×Nat×Option Oper),([]:List (Nat×Nat)).map f=[])∧(∀(l:List Oper)(i:Nat),l.toArray[i]?=l[i]?)∧(∀(a:Oper)(l:List Oper)(i:Nat),(a::l)[i+1]?=l[i]?)∧(∀(a:Oper)(l:List Oper),(a::l)[0]?=some a):=⟨fun _ _ _=>rfl,fun _=>rfl,fun _ _=>List.getElem?_toArray,fun _ _ _=>rfl,fun _ _=>rfl⟩
set_option maxRecDepth 100000
set_option maxHeartbeats 64000000
theorem ret1 {k:IntKind} {a b:Int} (h:a=b):Ending.returned (.int k a)=.returned (.int k b):=by rw[h]
theorem ret1b {a b:Bool} (h:a=b):Ending.returned (.bool a)=.returned (.bool b):=by rw[h]
theorem ret2 {k:IntKind} {a b:Int} {p q:Bool} (h:a=b) (h':p=q):Ending.returned (.tuple #[.int k a,.bool p])=.returned (.tuple #[.int k b,.bool q]):=by rw[h,h']
theorem ret2i {k k':IntKind} {a b c d:Int} (h:a=b) (h':c=d):Ending.returned (.tuple #[.int k a,.int k' c])=.returned (.tuple #[.int k b,.int k' d]):=by rw[h,h']
theorem div_facts (a b:Int) (hb:0<b):b*(a / b)+a % b=a∧0≤a % b∧a % b<b:=⟨Int.mul_ediv_add_emod a b,Int.emod_nonneg _ (by omega),Int.emod_lt_of_pos _ hb⟩
theorem tdiv_lit (x k:Int) (_hk:0<k):x.tdiv k=if 0≤x then x / k else -((-x) / k):=by
 split
 ·rename_i h;exact Int.tdiv_eq_ediv_of_nonneg h
 ·rename_i h
  have:x.tdiv k=-((-x).tdiv k):=by rw[Int.neg_tdiv,Int.neg_neg]
  rw[this,Int.tdiv_eq_ediv_of_nonneg (by omega)]
theorem tmod_lit (x k:Int):x.tmod k=if 0≤x then x % k else -((-x) % k):=by
 split
 ·rename_i h;exact Int.tmod_eq_emod_of_nonneg h
 ·rename_i h
  have:x.tmod k=-((-x).tmod k):=by rw[Int.neg_tmod,Int.neg_neg]
  rw[this,Int.tmod_eq_emod_of_nonneg (by omega)]
theorem floor_eq (a b:Int) (hb:0<b):a / b=if a.tmod b<0 then a.tdiv b-1 else a.tdiv b:=by
 obtain⟨d1,d2,d3⟩:=div_facts a b hb;obtain⟨e1,e2,e3⟩:=div_facts (-a) b hb;rw[tmod_lit,tdiv_lit _ _ hb];by_cases h:0≤a
 ·simp only[h,if_true];rw[if_neg (by omega)]
 ·simp only[h,if_false];by_cases h2:(-a) % b=0
  ·rw[if_neg (by omega)];rw[h2] at e1;refine Int.ediv_eq_of_eq_mul_right (by omega) ?_;rw[Int.mul_neg];omega
  ·rw[if_pos (by omega)];have:a / b=-((-a) / b)-1:=by
    refine (Int.ediv_emod_unique hb (r:=b-(-a) % b)).2 ⟨?_,by omega,by omega⟩ |>.1
    rw[Int.mul_sub,Int.mul_neg];omega
   exact this
theorem tdiv_bound (a b:Int) (hb:0<b) (h1:-9000000000000000000≤a) (h2:a≤9000000000000000000):-9000000000000000000≤a.tdiv b∧a.tdiv b≤9000000000000000000:=by
 have hd:∀x:Int,0≤x→0≤x / b∧x / b≤x:=fun x hx=>⟨Int.ediv_nonneg hx (by omega),Int.ediv_le_self _ hx⟩
 rw[tdiv_lit _ _ hb]
 split
 ·have:=hd a (by assumption);omega
 ·have:=hd (-a) (by omega);omega
def Ext (w w':World):Prop:=Below w.heap.size w w'
theorem Ext.refl (w:World):Ext w w:=Below.refl _ _
theorem Ext.size {w w':World} (h:Ext w w'):w.heap.size≤w'.heap.size:=Below.size h
theorem Ext.trans {a b c:World} (h:Ext a b) (k:Ext b c):Ext a c:=Below.trans h (Below.mono k (Below.size h))
theorem Ext.alloc {a w:World} (h:Ext a w) (o:Obj):Ext a (w.alloc o):=Below.alloc h (Below.size h) o
theorem Ext.drew {a w:World} (h:Ext a w):Ext a w.drew:=Below.drew h
theorem Ext.drewN {a w:World} (h:Ext a w) (n:Nat):Ext a (w.drewN n):=⟨h.os,h.tape,h.output,h.size,h.block⟩
theorem Ext.set {a w:World} (h:Ext a w) {p:Addr} (hp:a.heap.size≤p.block) (v:Value):Ext a (w.setCell p v):=Below.setCell h hp v
theorem Ext.cells {W w1:World} (hb:Ext W w1):(∀b o,b<W.heap.size→w1.cell? ⟨b,o,none⟩=W.cell? ⟨b,o,none⟩)∧(∀b o,b<W.heap.size→w1.frozen? ⟨b,o,none⟩=W.frozen? ⟨b,o,none⟩):=
 ⟨fun b o h=>Below.cell hb (p:=⟨b,o,none⟩) h,fun b o h=>Below.frozen hb (p:=⟨b,o,none⟩) h⟩
def Blk (w:World) (g:Nat) (t:TypeId) (cs:Array Value):Prop:=w.heap[g]?=some (.cells cs t (0,0))
section
variable {w w':World} {g:Nat} {t:TypeId} {cs:Array Value}
theorem Blk.lt (h:Blk w g t cs):g<w.heap.size:=by
 rcases Nat.lt_or_ge g w.heap.size with hlt|hge
 ·exact hlt
 ·unfold Blk at h;rw[Array.getElem?_eq_none hge] at h;cases h
theorem Blk.cell (h:Blk w g t cs) (i:Nat):w.cell? ⟨g,i,none⟩=cs[i]?:=cell_of_row w g i cs t (0,0) h
theorem Blk.frozen (h:Blk w g t cs) (i:Nat):w.frozen? ⟨g,i,none⟩=false:=by
 unfold Blk at h;simp[World.frozen?,h]
theorem Blk.new (w:World) (t:TypeId) (cs:Array Value):Blk (w.alloc (.cells cs t)) w.heap.size t cs:=heap_alloc_new w _
theorem Blk.new1 (w:World) (A:Obj) (t:TypeId) (cs:Array Value):Blk ((w.alloc A).alloc (.cells cs t)) (w.heap.size+1) t cs:=by
 have h:=Blk.new (w.alloc A) t cs
 rwa [World.size_alloc] at h
theorem Blk.new2 (w:World) (A B:Obj) (t:TypeId) (cs:Array Value):Blk (((w.alloc A).alloc B).alloc (.cells cs t)) (w.heap.size+2) t cs:=by
 have h:=Blk.new ((w.alloc A).alloc B) t cs
 rwa [World.size_alloc,World.size_alloc] at h
theorem Blk.drew (h:Blk w g t cs):Blk w.drew g t cs:=h
theorem Blk.drewN (h:Blk w g t cs) (n:Nat):Blk (w.drewN n) g t cs:=h
theorem Blk.alloc (h:Blk w g t cs) (o:Obj):Blk (w.alloc o) g t cs:=(Below.heap_alloc w o g h.lt).trans h
theorem Blk.set_ (h:Blk w g t cs) (i:Nat) (u:Value):Blk (w.setCell ⟨g,i,none⟩ u) g t (cs.setIfInBounds i u):=by
 unfold Blk at h ⊢;simp[World.setCell,Array.getElem?_modify,h]
theorem Blk.far (h:Blk w g t cs) {p:Addr} (hp:g≠p.block) (u:Value):Blk (w.setCell p u) g t cs:=(Below.heap_setCell w p u g hp).trans h
theorem Blk.ext (h:Blk w g t cs) (hb:Ext w w'):Blk w' g t cs:=(Below.block hb g h.lt).trans h
theorem wpList_load_blk {P:Program} {ops:Array Oper} {rest:List Oper} {o:Oper} {a:Act} {Q:Exit→Act→World→Prop} (hgd:o.guard=none) (ty:TypeId) (x:Operand) (ho:o.op=.load ty x)
  (g:Nat) (hx:a.eval x=.pointer (some ⟨g,0,none⟩)) (t:TypeId) (cs:Array Value) (d:TypeDesc) (hg:Blk w g t cs)
  (hu:P.underlying ty=some d) (hd:(match d with| .struct _| .array _ _=>true|_=>false)=true) (hi:(P.info? ty).map (·.size)=some cs.size)
  (h:wpList P ops Q rest (a.put o.dst (.agg cs)) w):wpList P ops Q (o :: rest) a w:=
 wpList_load_row hgd ty x ho g hx t cs (0,0) d hg hu hd hi h
theorem results_cell_tmp {P:Program} {fn:Func} {p t:Tmp} {ty:TypeId} (h:fn.results=#[.cell p ty,.tmp t]) (tmps:Array Value) (w:World) (g:Nat) (T:TypeId) (cs:Array Value) (d:TypeDesc)
  (hp:tmps.getD p undef=.pointer (some ⟨g,0,none⟩)) (hg:Blk w g T cs)
  (hu:P.underlying ty=some d) (hd:(match d with| .struct _| .array _ _=>true|_=>false)=true) (hi:(P.info? ty).map (·.size)=some cs.size) :
  (results fn tmps).run P w=.ok (.tuple #[.agg cs,tmps.getD t undef]) w:=by
 have hp':tmps[p]?.getD undef=.pointer (some ⟨g,0,none⟩):=by simpa using hp
 simp[results,h,hp',asAddr,run_loadVar_row w g T ty cs (0,0) d hg hu hd hi]
end
end Go.Proofs.YtamldoocjjdidaaGreat
namespace Go.Proofs.YtamldoocjjdidaaGreat
open Go.RowKit
set_option maxRecDepth 100000
set_option maxHeartbeats 64000000
def cutV (x:Int):Int:=if 1099511627776<x then 1099511627776 else if x < -1099511627776 then -1099511627776 else x
def cutB (x:Int):Bool:=decide (1099511627776<x)||decide (x < -1099511627776)
theorem au_cut (x:Int) (w:World):Calls Tryz.prog 44 #[.int .i64 x] w fun e w'=>e=.returned (.tuple #[.int .i64 (cutV x),.bool (cutB x)])∧w=w':=by
 go_enter Tryz.func44,Tryz.ntmps44
 go_wp2
 all_goals go_ret2
 all_goals (refine⟨ret2 ?_ ?_,rfl⟩<;>simp[cutV,cutB]<;>omega)
theorem ref_cut (x:Int) (w:World):Calls Tryz.prog 80 #[.int .i64 x] w fun e w'=>e=.returned (.tuple #[.int .i64 (cutV x),.bool (cutB x)])∧w=w':=by
 go_enter Tryz.func80,Tryz.ntmps80
 go_wp2
 all_goals go_ret2
 all_goals (refine⟨ret2 ?_ ?_,rfl⟩<;>simp[cutV,cutB]<;>omega)
theorem part_lo (c n:Int) (hn:-100000≤n) (hn':n≤100000):-1000000000≤c % 10000*n∧c % 10000*n≤1000000000:=by
 have h1:0≤c % 10000:=by omega
 have h2:c % 10000≤10000:=by omega
 constructor
 ·have:(c % 10000)*(-100000)≤c % 10000*n:=Int.mul_le_mul_of_nonneg_left hn h1;omega
 ·have:c % 10000*n≤(c % 10000)*100000:=Int.mul_le_mul_of_nonneg_left hn' h1;omega
theorem part_hi (c n:Int) (hc:0≤c) (hc':c≤1099511627776) (hn:-100000≤n) (hn':n≤100000):-11000000000000≤c / 10000*n∧c / 10000*n≤11000000000000:=by
 have h1:0≤c / 10000:=by omega
 have h2:c / 10000≤110000000:=by omega
 constructor
 ·have:(c / 10000)*(-100000)≤c / 10000*n:=Int.mul_le_mul_of_nonneg_left hn h1;omega
 ·have:c / 10000*n≤(c / 10000)*100000:=Int.mul_le_mul_of_nonneg_left hn' h1;omega
theorem part_split (c n:Int):c*n=c / 10000*n*10000+c % 10000*n:=by
 have h:c=c / 10000*10000+c % 10000:=by omega
 have:c*n=(c / 10000*10000+c % 10000)*n:=by rw[←h]
 rw[this,Int.add_mul];congr 1;rw[Int.mul_right_comm]
theorem floor_any (a b:Int) (ha:-9000000000000000000≤a) (ha':a≤9000000000000000000) (hb:0<b) (hb':b≤9000000000000000000) (w:World):Calls Tryz.prog 121 #[.int .i64 a,.int .i64 b] w fun e w'=>e=.returned (.int .i64 (a / b))∧w=w':=by
 have hb0:(b==0)=false:=by simp;omega
 obtain⟨t1,t2⟩:=tdiv_bound a b hb ha ha';have hf:Hid _:=floor_eq a b hb;go_enter Tryz.func121,Tryz.ntmps121
 go_wp2
 all_goals go_ret
 all_goals refine⟨ret1 ?_,rfl⟩
 all_goals (rw[hf.out];first|rw[if_pos (by assumption)]|rw[if_neg (by omega)])
structure Ln where
 k:Int
 n:Int
@[reducible] def Ln.v (l:Ln):Value:=.agg #[.int .u8 l.k,.int .i64 l.n]
structure Sty where
 (kind:Int) (flow:Bool) (float clear:Int)
 (w h minw maxw minh maxh m0 m1 m2 m3:Ln)
 (b0 b1 b2 b3 p0 p1 p2 p3:Int)
 (align line:Int) (wrap:Bool) (justify items order grow shrink:Int) (basis:Ln) (ua:Option Addr) (ul uc:Nat)
@[reducible] def Sty.cells (s:Sty):Array Value:=#[.int .u8 s.kind,.bool s.flow,.int .u8 s.float,.int .u8 s.clear,
 .int .u8 s.w.k,.int .i64 s.w.n,.int .u8 s.h.k,.int .i64 s.h.n,.int .u8 s.minw.k,.int .i64 s.minw.n,.int .u8 s.maxw.k,.int .i64 s.maxw.n,
 .int .u8 s.minh.k,.int .i64 s.minh.n,.int .u8 s.maxh.k,.int .i64 s.maxh.n,
 .int .u8 s.m0.k,.int .i64 s.m0.n,.int .u8 s.m1.k,.int .i64 s.m1.n,.int .u8 s.m2.k,.int .i64 s.m2.n,.int .u8 s.m3.k,.int .i64 s.m3.n,
 .int .i64 s.b0,.int .i64 s.b1,.int .i64 s.b2,.int .i64 s.b3,.int .i64 s.p0,.int .i64 s.p1,.int .i64 s.p2,.int .i64 s.p3,
 .int .u8 s.align,.int .i64 s.line,.bool s.wrap,.int .u8 s.justify,.int .u8 s.items,.int .i64 s.order,.int .i64 s.grow,.int .i64 s.shrink,
 .int .u8 s.basis.k,.int .i64 s.basis.n,.slice s.ua s.ul s.uc]
theorem info_style (s:Sty):(Tryz.prog.info? 65).map (·.size)=some s.cells.size:=by kernel_rfl
structure Sty.thin (s:Sty):Prop where
 (b0:0≤s.b0∧s.b0≤1099511627776) (b1:0≤s.b1∧s.b1≤1099511627776) (b2:0≤s.b2∧s.b2≤1099511627776) (b3:0≤s.b3∧s.b3≤1099511627776)
 (p0:0≤s.p0∧s.p0≤1099511627776) (p1:0≤s.p1∧s.p1≤1099511627776) (p2:0≤s.p2∧s.p2≤1099511627776) (p3:0≤s.p3∧s.p3≤1099511627776)
theorem ref_frame (s:Sty) (hs:s.thin) (w:World):Calls Tryz.prog 89 #[.agg s.cells] w fun e w'=>e=.returned (.tuple #[.int .i64 (s.b3+s.b1+s.p3+s.p1),.int .i64 (s.b0+s.b2+s.p0+s.p2)])∧Ext w w':=by
 obtain⟨⟨a1,a2⟩,⟨a3,a4⟩,⟨a5,a6⟩,⟨a7,a8⟩,⟨a9,a10⟩,⟨a11,a12⟩,⟨a13,a14⟩,⟨a15,a16⟩⟩:=hs;go_enter Tryz.func89,Tryz.ntmps89
 go_wp2
 go_quiet (fail)
 go_wp2
 go_ret2;exact⟨ret2i (by omega) (by omega),((Ext.refl _).alloc _).drewN _⟩
theorem mul_bound (c n:Int) (hc:0≤c) (hc':c≤1099511627776) (hn:-100000≤n) (hn':n≤100000):-200000000000000000≤c*n∧c*n≤200000000000000000:=by
 have h1:c*(-100000)≤c*n:=Int.mul_le_mul_of_nonneg_left hn hc;have h2:c*n≤c*100000:=Int.mul_le_mul_of_nonneg_left hn' hc;omega
def resV (l:Ln) (c:Int):Int:=if l.k=1 then l.n else if l.k=2 then max c 0*l.n / 10000 else 0
def resB (l:Ln):Bool:=decide (l.k=1)||decide (l.k=2)
def partOk (l:Ln):Prop:=l.k=2→-100000≤l.n∧l.n≤100000
theorem resV_part_lo (c n:Int) (h:c≤0):0=resV ⟨2,n⟩ c:=by simp[resV,Int.max_eq_right h]
theorem resV_part_hi (c n:Int) (h:0≤c):c*n / 10000=resV ⟨2,n⟩ c:=by simp[resV,Int.max_eq_left h]
theorem ref_resolve (l:Ln) (c:Int) (hl:partOk l) (hc:c≤1099511627776) (w:World):Calls Tryz.prog 91 #[l.v,.int .i64 c] w fun e w'=>e=.returned (.tuple #[.int .i64 (resV l c),.bool (resB l)])∧Ext w w':=by
 obtain⟨k,n⟩:=l;by_cases k2:k=2
 ·subst k2;obtain⟨n1,n2⟩:=hl rfl;by_cases hc0:0≤c
  ·obtain⟨m1,m2⟩:=mul_bound c n hc0 hc n1 n2;go_enter Tryz.func91,Tryz.ntmps91;go_wp2_with (go_at_call 121;refine (floor_any _ _ (by omega) (by omega) (by omega) (by omega) _).mono ?_;rintro e w' ⟨rfl,rfl⟩)
   all_goals go_ret2
   all_goals exact⟨ret2 (by exact resV_part_hi _ _ hc0) (by simp[resB]),(Ext.refl _).alloc _⟩
  ·go_enter Tryz.func91,Tryz.ntmps91;go_wp2_with (go_at_call 121;refine (floor_any 0 10000 (by omega) (by omega) (by omega) (by omega) _).mono ?_;rintro e w' ⟨rfl,rfl⟩)
   all_goals go_ret2
   all_goals exact⟨ret2 (by exact resV_part_lo _ _ (by omega)) (by simp[resB]),(Ext.refl _).alloc _⟩
 ·by_cases k1:k=1
  ·subst k1;go_enter Tryz.func91,Tryz.ntmps91
   go_wp2
   go_ret2;exact⟨ret2 (by simp[resV]) (by simp[resB]),(Ext.refl _).alloc _⟩
  ·go_enter Tryz.func91,Tryz.ntmps91
   go_wp2
   go_ret2;exact⟨ret2 (by simp[resV, *]) (by simp[resB, *]),(Ext.refl _).alloc _⟩
def clampV (s:Sty) (c w:Int):Int:=
 let w1:=if resB s.maxw then min w (resV s.maxw c) else w
 let w2:=if resB s.minw then max w1 (resV s.minw c) else w1
 max w2 0
section
variable {s:Sty} {c x:Int}
theorem clamp_tt (h1:resB s.maxw=true) (h2:resB s.minw=true):clampV s c x=max (max (min x (resV s.maxw c)) (resV s.minw c)) 0:=by simp[clampV,h1,h2]
theorem clamp_tf (h1:resB s.maxw=true) (h2:resB s.minw=false):clampV s c x=max (min x (resV s.maxw c)) 0:=by simp[clampV,h1,h2]
theorem clamp_ft (h1:resB s.maxw=false) (h2:resB s.minw=true):clampV s c x=max (max x (resV s.minw c)) 0:=by simp[clampV,h1,h2]
theorem clamp_ff (h1:resB s.maxw=false) (h2:resB s.minw=false):clampV s c x=max x 0:=by simp[clampV,h1,h2]
end
theorem ref_clamp (s:Sty) (c x:Int) (h1:partOk s.maxw) (h2:partOk s.minw) (hc:c≤1099511627776) (w:World):Calls Tryz.prog 145 #[.agg s.cells,.int .i64 c,.int .i64 x] w fun e w'=>e=.returned (.int .i64 (clampV s c x))∧Ext w w':=by
 cases hm:resB s.maxw<;>cases hn:resB s.minw
 all_goals
  go_enter Tryz.func145,Tryz.ntmps145;go_wp2_with (go_at_call 91;(first|(with_reducible refine (ref_resolve s.maxw _ h1 hc _).mono ?_)|(with_reducible refine (ref_resolve s.minw _ h2 hc _).mono ?_));rintro e w' ⟨rfl,hb⟩;obtain⟨hcc,hff⟩:=hb.cells;have hz:=hb.size;try simp only[World.size_alloc] at hz)
 all_goals go_ret
 all_goals refine⟨ret1 ?_,?_⟩
 all_goals first
  |((repeat (first|exact Ext.refl _|(with_reducible refine Ext.trans ?_ (by assumption))|(with_reducible refine Ext.alloc ?_ _)));done)
  |(rw[clamp_tt hm hn];omega)
  |(rw[clamp_tf hm hn];omega)
  |(rw[clamp_ft hm hn];omega)
  |(rw[clamp_ff hm hn];omega)
def lenMayB (l:Ln) (lo lop:Int):Bool:=
 if l.k=0 then decide (l.n=0) else if l.k=1 then decide (lo≤l.n)&&decide (l.n≤1099511627776) else if l.k=2 then decide (lop≤l.n)&&decide (l.n≤100000) else false
structure EdgesOk (s:Sty):Prop where
 (m0:lenMayB s.m0 (-1099511627776) (-100000)=true) (m1:lenMayB s.m1 (-1099511627776) (-100000)=true) (m2:lenMayB s.m2 (-1099511627776) (-100000)=true) (m3:lenMayB s.m3 (-1099511627776) (-100000)=true)
 (thin:s.thin)
def edgeB (m:Ln) (b p:Int):Bool:=lenMayB m (-1099511627776) (-100000)&&(decide (0≤b)&&decide (b≤1099511627776))&&(decide (0≤p)&&decide (p≤1099511627776))
def edgesB (s:Sty):Bool:=edgeB s.m0 s.b0 s.p0&&edgeB s.m1 s.b1 s.p1&&edgeB s.m2 s.b2 s.p2&&edgeB s.m3 s.b3 s.p3
def mayB (s:Sty):Bool:=edgesB s&&(lenMayB s.w 0 0&&lenMayB s.minw 0 0&&lenMayB s.maxw 0 0)
theorem edgesB_iff (s:Sty):edgesB s=true↔EdgesOk s:=by
 constructor
 ·intro h;simp only[edgesB,edgeB,Bool.and_eq_true,decide_eq_true_eq] at h;obtain⟨⟨⟨⟨⟨a1,a2⟩,a3⟩,⟨a4,a5⟩,a6⟩,⟨a7,a8⟩,a9⟩,⟨a10,a11⟩,a12⟩:=h;exact⟨a1,a4,a7,a10,⟨a2,a5,a8,a11,a3,a6,a9,a12⟩⟩
 ·rintro⟨a1,a4,a7,a10,⟨a2,a5,a8,a11,a3,a6,a9,a12⟩⟩;simp only[edgesB,edgeB,Bool.and_eq_true,decide_eq_true_eq];exact⟨⟨⟨⟨⟨a1,a2⟩,a3⟩,⟨a4,a5⟩,a6⟩,⟨a7,a8⟩,a9⟩,⟨a10,a11⟩,a12⟩
theorem may_facts {s:Sty} (h:mayB s=true):EdgesOk s∧lenMayB s.w 0 0=true∧lenMayB s.minw 0 0=true∧lenMayB s.maxw 0 0=true:=by
 simp only[mayB,Bool.and_eq_true] at h;exact⟨(edgesB_iff s).1 h.1,h.2.1.1,h.2.1.2,h.2.2⟩
theorem AB {p:Prop} (h:p):Hid p:=h
theorem AA {p:Prop} (h:Hid p):p:=h
structure Rd (w:World) (k:Nat) (A:Option Addr) (n:Nat) (xs:List Value):Prop where
 len:xs.length=n*k
 at_:0<n→∃b off,A=some ⟨b,off,none⟩∧b<w.heap.size∧∀j u,xs[j]?=some u→w.cell? ⟨b,off+j,none⟩=some u
section
variable {w w':World} {k n:Nat} {A:Option Addr} {xs:List Value}
theorem Rd.nil (w:World) (k:Nat) (A:Option Addr):Rd w k A 0 []:=⟨by simp,fun h=>by omega⟩
theorem Rd.keep (h:Rd w k A n xs) (hs:w.heap.size≤w'.heap.size) (hk:∀b o,b<w.heap.size→w'.cell? ⟨b,o,none⟩=w.cell? ⟨b,o,none⟩):Rd w' k A n xs:=
 ⟨h.len,fun hn=>by
  obtain⟨b,off,rfl,hb,hc⟩:=h.at_ hn;exact⟨b,off,rfl,by omega,fun j u hu=>(hk b _ hb).trans (hc j u hu)⟩⟩
theorem Rd.ext (h:Rd w k A n xs) (hb:Ext w w'):Rd w' k A n xs:=h.keep hb.size hb.cells.1
theorem Rd.alloc (h:Rd w k A n xs) (o:Obj):Rd (w.alloc o) k A n xs:=h.ext ((Ext.refl _).alloc o)
theorem Rd.drew (h:Rd w k A n xs):Rd w.drew k A n xs:=h.ext (Ext.refl _).drew
theorem Rd.drewN (h:Rd w k A n xs) (m:Nat):Rd (w.drewN m) k A n xs:=h.ext ((Ext.refl _).drewN m)
theorem Rd.get (h:Rd w 1 A n xs) {i:Nat} (hi:i<n):∃b off u,A=some ⟨b,off,none⟩∧b<w.heap.size∧xs[i]?=some u∧w.cell? ⟨b,off+i,none⟩=some u:=by
 obtain⟨b,off,rfl,hb,hc⟩:=h.at_ (by omega);have hl:i<xs.length:=by rw[h.len];omega
 exact⟨b,off,xs[i],rfl,hb,AE hl,hc i _ (AE hl)⟩
theorem Rd.of_own {base:Nat} {e:TypeId} {c:Nat} (h:w.ownsRow base e k (.slice A n c) n xs):Rd w k A n xs:=by
 refine⟨h.1,fun hn=>?_⟩
 rcases h.2 with ⟨hv,h0⟩|⟨g,cap,cur,hv,hb,hg,hnc,hm,hs,hx⟩
 ·omega
 ·injection hv with hA;subst hA;have hlt:g<w.heap.size:=(Array.getElem?_eq_some_iff.1 hg).1;refine⟨g,0,rfl,hlt,fun j u hu=>?_⟩;rw[Nat.zero_add,cell_of_row w g j cur e (0,0) hg];rw[←hx] at hu;have:cur.toList[j]?=some u:=by
   rw[List.getElem?_take] at hu
   split at hu
   ·exact hu
   ·cases hu
  simpa using this
theorem Ext.grown {a w w':World} {row:Option Nat} (h:Ext a w) (hg:w.grownBy w' row) (hr:∀g,row=some g→a.heap.size≤g):Ext a w':=by
 refine⟨hg.os.trans h.os,hg.tape.trans h.tape,hg.output.trans h.output,Nat.le_trans h.size hg.size,fun i hi=>?_⟩;exact (hg.block i (Nat.lt_of_lt_of_le hi h.size) (fun e=>by have:=hr _ e.symm;omega)).trans (h.block i hi)
theorem Rd.grown (h:Rd w k A n xs) {row:Option Nat} (hg:w.grownBy w' row) (hne:∀b off,A=some ⟨b,off,none⟩→row≠some b):Rd w' k A n xs:=
 ⟨h.len,fun hn=>by
  obtain⟨b,off,rfl,hb,hc⟩:=h.at_ hn;refine⟨b,off,rfl,Nat.lt_of_lt_of_le hb hg.size,fun j u hu=>?_⟩;rw[World.cell?_of_block (hg.block b hb (fun e=>hne b off rfl e.symm))];exact hc j u hu⟩
end
end Go.Proofs.YtamldoocjjdidaaGreat
namespace Go.Proofs.YtamldoocjjdidaaGreat
open Go.ChangeShapes Go.WideShapes Go.ChangeAt Go.RowKit
set_option maxRecDepth 100000
set_option maxHeartbeats 64000000
inductive Leaf where
 |bool
 |int (k:IntKind)
 |slice (e:TypeId)
 |str
def flatFields (P:Program) (rec:TypeId→Option (List Leaf)) (total:Nat):Nat→List Field→Option (List Leaf)
 |off,[]=>if off=total then some [] else none
 |off,f :: r=>if f.offset=off then (rec f.type).bind fun l=>if l.length=P.cellsOf f.type then (flatFields P rec total (off+P.cellsOf f.type) r).map (l++·) else none else none
def flat (P:Program):Nat→TypeId→Option (List Leaf)
 |0,_=>none
 |n+1,t=>
  match P.underlying t with
  |some .bool=>some [.bool]
  |some (.int k)=>some [.int k]
  |some .string=>some [.str]
  |some (.slice e)=>some [.slice e]
  |some (.struct fs)=>flatFields P (flat P n) (P.cellsOf t) 0 fs.toList
  |some (.array m e)=>(flat P n e).bind fun l=>if P.cellsOf t=m*P.cellsOf e∧l.length=P.cellsOf e then some (List.replicate m l).flatten else none
  |_=>none
section
variable {H:Type} (enc:TypeId×Value→H) (P:Program) (w:World) (base:Nat) (spare:Nat→Bool) (held:Bool)
def SliceOk (e:TypeId) (a:Option Addr) (len cap:Nat):Prop:=
 len≤cap∧cap≤maxLen∧(a=none→len=0∧cap=0) ∧
  ∀ad,a=some ad→base≤ad.block∧∀i,i<len→∃cs x fuel,w.cells? base (ad.add (i*P.cellsOf e)) (P.cellsOf e)=some cs∧DataW.trod enc P w base spare held fuel e cs=some x
def Leaf.ok:Leaf→Value→Prop
 | .bool,v=>∃b,v=.bool b
 | .int k,v=>∃n,v=.int k n∧(Lit.int k n).wf=true
 | .str,v=>∃s,v=.string s∧s.size≤maxLen
 | .slice e,v=>∃a len cap,v=.slice a len cap∧SliceOk enc P w base spare held e a len cap
def LeavesOk:List Leaf→List Value→Prop
 |[],[]=>True
 |l :: r,v :: s=>l.ok enc P w base spare held v∧LeavesOk r s
 |_,_=>False
end
section
variable {H:Type} {enc:TypeId×Value→H} {P:Program} {w:World} {base:Nat} {spare:Nat→Bool} {held:Bool}
theorem LeavesOk.cons {l:Leaf} {r:List Leaf} {cs:List Value} (h:LeavesOk enc P w base spare held (l :: r) cs) :
  ∃v s,cs=v :: s∧l.ok enc P w base spare held v∧LeavesOk enc P w base spare held r s:=by
 cases cs with
 |nil=>exact h.elim
 |cons v s=>exact⟨v,s,rfl,h.1,h.2⟩
theorem LeavesOk.nil {cs:List Value} (h:LeavesOk enc P w base spare held [] cs):cs=[]:=by
 cases cs with
 |nil=>rfl
 |cons v s=>exact h.elim
theorem LeavesOk.append:∀{a b:List Leaf} {x y:List Value},LeavesOk enc P w base spare held a x→LeavesOk enc P w base spare held b y→LeavesOk enc P w base spare held (a++b) (x++y)
 |[],_,[],_,_,h=>h
 |[],_,_ :: _,_,h,_=>h.elim
 |_ :: _,_,[],_,h,_=>h.elim
 |_ :: _,_,_ :: _,_,h,k=>⟨h.1,LeavesOk.append h.2 k⟩
theorem LeavesOk.length:∀{a:List Leaf} {x:List Value},LeavesOk enc P w base spare held a x→a.length=x.length
 |[],[],_=>rfl
 |[],_ :: _,h=>h.elim
 |_ :: _,[],h=>h.elim
 |_ :: _,_ :: _,h=>by simp[LeavesOk.length h.2]
theorem slice_of_trod {fuel:Nat} {t e:TypeId} {cs:List Value} {x:DataW H×List MemPlace} (ht:P.underlying t=some (.slice e)) (h:DataW.trod enc P w base spare held fuel t cs=some x) :
  ∃a len cap,cs=[.slice a len cap]∧SliceOk enc P w base spare held e a len cap:=by
 cases fuel with
 |zero=>simp[DataW.trod] at h
 |succ n=>
  unfold DataW.trod at h;rw[ht] at h
  split at h<;>simp_all
  ·exact⟨none,0,0,⟨rfl,rfl,rfl⟩,Nat.le_refl _,Nat.zero_le _,(fun _=>⟨rfl,rfl⟩),(fun _ h=>by cases h)⟩
  ·rename_i e a len cap _
   obtain⟨⟨h1,h2,h3⟩,h⟩:=h;refine⟨some a,len,cap,⟨rfl,rfl,rfl⟩,h2,h3,(fun h=>by cases h),(fun ad had=>?_)⟩;cases had
   refine⟨h1,fun i hi=>?_⟩;cases hm:(List.range len).mapM (fun i=>(w.cells? base (a.add (i*P.cellsOf e)) (P.cellsOf e)).bind (DataW.trod enc P w base spare held n e)) with
   |none=>simp[hm] at h
   |some elems=>
    have key:∀(l:List Nat) (r:List (DataW H×List MemPlace)),l.mapM (fun i=>(w.cells? base (a.add (i*P.cellsOf e)) (P.cellsOf e)).bind (DataW.trod enc P w base spare held n e))=some r →
      ∀i∈l,∃cs x,w.cells? base (a.add (i*P.cellsOf e)) (P.cellsOf e)=some cs∧DataW.trod enc P w base spare held n e cs=some x:=by
     intro l
     induction l with
     |nil=>intro r _ i hi;cases hi
     |cons j l ih=>
      intro r hr i hi;simp only[List.mapM_cons] at hr;cases hj:(w.cells? base (a.add (j*P.cellsOf e)) (P.cellsOf e)).bind (DataW.trod enc P w base spare held n e) with
      |none=>simp[hj] at hr
      |some y=>
       cases hl:l.mapM (fun i=>(w.cells? base (a.add (i*P.cellsOf e)) (P.cellsOf e)).bind (DataW.trod enc P w base spare held n e)) with
       |none=>simp[hj,hl] at hr
       |some r'=>
        cases hi with
        |head=>
         cases hc:w.cells? base (a.add (j*P.cellsOf e)) (P.cellsOf e) with
         |none=>simp[hc] at hj
         |some cs=>exact⟨cs,y,rfl,by simpa[hc] using hj⟩
        |tail _ hi=>exact ih r' hl i hi
    obtain⟨cs',x',h4,h5⟩:=key _ _ hm i (by simpa using hi);exact⟨cs',x',n,h4,h5⟩
theorem leaf_bool {fuel:Nat} {t:TypeId} {cs:List Value} {x:DataW H×List MemPlace} (ht:P.underlying t=some .bool) (h:DataW.trod enc P w base spare held fuel t cs=some x):∃b,cs=[.bool b]:=by
 cases fuel with
 |zero=>simp[DataW.trod] at h
 |succ n=>
  unfold DataW.trod at h;rw[ht] at h
  split at h<;>simp_all
theorem leaf_int {k:IntKind} {fuel:Nat} {t:TypeId} {cs:List Value} {x:DataW H×List MemPlace} (ht:P.underlying t=some (.int k)) (h:DataW.trod enc P w base spare held fuel t cs=some x):∃n,cs=[.int k n]∧(Lit.int k n).wf=true:=by
 cases fuel with
 |zero=>simp[DataW.trod] at h
 |succ n=>
  unfold DataW.trod at h;rw[ht] at h
  split at h<;>simp_all
theorem leaf_str {fuel:Nat} {t:TypeId} {cs:List Value} {x:DataW H×List MemPlace} (ht:P.underlying t=some .string) (h:DataW.trod enc P w base spare held fuel t cs=some x):∃s,cs=[.string s]∧s.size≤maxLen:=by
 cases fuel with
 |zero=>simp[DataW.trod] at h
 |succ n=>
  unfold DataW.trod at h;rw[ht] at h
  split at h<;>simp_all
theorem flatFields_ok {rec:TypeId→Option (List Leaf)} {total:Nat} {cs:List Value} (hlen:cs.length=total) :
  ∀(fs:List Field) (off:Nat) (l:List Leaf),flatFields P rec total off fs=some l →
   (∀f∈fs,∀lf,rec f.type=some lf→LeavesOk enc P w base spare held lf ((cs.drop f.offset).take (P.cellsOf f.type))) →
   LeavesOk enc P w base spare held l (cs.drop off)
 |[],off,l,h,_=>by
  simp only[flatFields] at h
  split at h
  ·rename_i ho
   obtain rfl:[]=l:=by simpa using h
   rw[List.drop_eq_nil_of_le (by omega)];trivial
  ·cases h
 |f :: r,off,l,h,hf=>by
  simp only[flatFields] at h
  split at h
  ·rename_i ho
   cases hr:rec f.type with
   |none=>simp[hr] at h
   |some lf=>
    simp only[hr,Option.bind_some] at h
    split at h
    ·rename_i hl
     cases hrest:flatFields P rec total (off+P.cellsOf f.type) r with
     |none=>simp[hrest] at h
     |some lr=>
      simp only[hrest,Option.map_some,Option.some.injEq] at h;subst h;have h1:=hf f (List.mem_cons_self ..) lf hr;have h2:=flatFields_ok hlen r _ lr hrest (fun g hg=>hf g (List.mem_cons_of_mem _ hg));rw[ho] at h1;have e:cs.drop off=(cs.drop off).take (P.cellsOf f.type)++cs.drop (off+P.cellsOf f.type):=by
       rw[←List.drop_drop,List.take_append_drop]
      rw[e];exact LeavesOk.append h1 h2
    ·cases h
  ·cases h
theorem LeavesOk.replicate {l:List Leaf} {C:Nat}:∀(m:Nat) (cs:List Value),cs.length=m*C→l.length=C →
  (∀i,i<m→LeavesOk enc P w base spare held l ((cs.drop (i*C)).take C))→LeavesOk enc P w base spare held (List.replicate m l).flatten cs
 |0,cs,h,_,_=>by
  obtain rfl:cs=[]:=List.eq_nil_of_length_eq_zero (by simpa using h);trivial
 |m+1,cs,h,hl,hi=>by
  have h0:=hi 0 (by omega);simp only[Nat.zero_mul,List.drop_zero] at h0;have h1:=LeavesOk.replicate m (cs.drop C) (by rw[List.length_drop,h,Nat.add_mul];omega) hl (fun i him=>by
   have:=hi (i+1) (by omega);rw[List.drop_drop,Nat.add_comm C,←Nat.succ_mul];exact this)
  rw[List.replicate_succ,List.flatten_cons];have:=LeavesOk.append h0 h1
  rwa [List.take_append_drop] at this
theorem flat_ok:∀(n:Nat) (t:TypeId) (l:List Leaf) (fuel:Nat) (cs:List Value) (x:DataW H×List MemPlace),flat P n t=some l →
  DataW.trod enc P w base spare held fuel t cs=some x→LeavesOk enc P w base spare held l cs
 |0,_,_,_,_,_,h,_=>by simp[flat] at h
 |n+1,t,l,fuel,cs,x,h,ht=>by
  simp only[flat] at h
  split at h
  ·rename_i hu
   obtain rfl:[Leaf.bool]=l:=by simpa using h
   obtain⟨b,rfl⟩:=leaf_bool hu ht;exact⟨⟨b,rfl⟩,trivial⟩
  ·rename_i k hu
   obtain rfl:[Leaf.int k]=l:=by simpa using h
   obtain⟨m,rfl,hm⟩:=leaf_int hu ht;exact⟨⟨m,rfl,hm⟩,trivial⟩
  ·rename_i hu
   obtain rfl:[Leaf.str]=l:=by simpa using h
   obtain⟨s,rfl,hs⟩:=leaf_str hu ht;exact⟨⟨s,rfl,hs⟩,trivial⟩
  ·rename_i e hu
   obtain rfl:[Leaf.slice e]=l:=by simpa using h
   obtain⟨a,len,cap,rfl,hs⟩:=slice_of_trod hu ht;exact⟨⟨a,len,cap,rfl,hs⟩,trivial⟩
  ·rename_i fs hu
   obtain⟨xs,m,_,_,hlen,hxs,hf⟩:=DataW.trod_struct hu ht;have:=flatFields_ok (enc:=enc) (w:=w) (base:=base) (spare:=spare) (held:=held) hlen fs.toList 0 l h (fun f hfm lf hlf=>by
    obtain⟨i,hi⟩:=List.mem_iff_getElem?.1 hfm;have hi':fs[i]?=some f:=by simpa using hi
    have hti:=hf i f hi';have hix:i<xs.length:=by
     rw[hxs];exact (Array.getElem?_eq_some_iff.1 hi').1
    rw[AE hix] at hti;exact flat_ok n f.type lf m _ _ hlf hti)
   simpa using this
  ·rename_i m e hu
   obtain⟨xs,q,_,_,hlen,hxs,hf⟩:=DataW.trod_array hu ht;cases he:flat P n e with
   |none=>simp[he] at h
   |some le=>
    simp only[he,Option.bind_some] at h
    split at h
    ·rename_i hc
     obtain rfl:(List.replicate m le).flatten=l:=by simpa using h
     refine LeavesOk.replicate m cs (by rw[hlen,hc.1]) hc.2 (fun i him=>?_);have hti:=hf i him;rw[AE (by omega)] at hti;exact flat_ok n e le q _ _ he hti
    ·cases h
  ·cases h
end
section
variable {H:Type} {enc:TypeId×Value→H} {P:Program} {w:World} {spare:Nat→Bool} {held:Bool}
theorem flatten_get (k:Nat):∀(xss:List (List Value)),(∀xs∈xss,xs.length=k)→∀(i j:Nat) (xs:List Value),xss[i]?=some xs→j<k→xss.flatten[i*k+j]?=xs[j]?
 |[],_,i,j,xs,h,_=>by simp at h
 |a :: r,hl,0,j,xs,h,hj=>by
  simp at h;subst h;have:=hl a (List.mem_cons_self ..);rw[List.flatten_cons,Nat.zero_mul,Nat.zero_add,List.getElem?_append_left (by omega)]
 |a :: r,hl,i+1,j,xs,h,hj=>by
  have ha:=hl a (List.mem_cons_self ..);have ih:=flatten_get k r (fun y hy=>hl y (List.mem_cons_of_mem _ hy)) i j xs (by simpa using h) hj;rw[List.flatten_cons,List.getElem?_append_right (by rw[ha,Nat.succ_mul];omega),ha,←ih]
  congr 1
  rw[Nat.succ_mul];omega
theorem flatten_len (k:Nat):∀(xss:List (List Value)),(∀xs∈xss,xs.length=k)→xss.flatten.length=xss.length*k
 |[],_=>by simp
 |a :: r,hl=>by
  have ha:=hl a (List.mem_cons_self ..);rw[List.flatten_cons,List.length_append,flatten_len k r (fun y hy=>hl y (List.mem_cons_of_mem _ hy)),ha,List.length_cons,Nat.succ_mul];omega
theorem SliceOk.rd {e:TypeId} {a:Option Addr} {len cap k:Nat} (h:SliceOk enc P w 0 spare held e a len cap) (hk:P.cellsOf e=k) (hk0:0<k) :
  ∃xss:List (List Value),xss.length=len∧(∀xs∈xss,xs.length=k)∧Rd w k a len xss.flatten∧∀xs∈xss,∃x fuel,DataW.trod enc P w 0 spare held fuel e xs=some x:=by
 obtain⟨h1,h2,h3,h4⟩:=h;rw[hk] at h4;cases a with
 |none=>
  obtain⟨rfl,rfl⟩:=h3 rfl;exact⟨[],rfl,by simp,Rd.nil _ _ _,by simp⟩
 |some ad=>
  obtain⟨_,h5⟩:=h4 ad rfl;have mk:∀n,n≤len→∃xss:List (List Value),xss.length=n∧∀i xs,xss[i]?=some xs→∃x fuel,w.cells? 0 (ad.add (i*k)) k=some xs∧DataW.trod enc P w 0 spare held fuel e xs=some x:=by
   intro n
   induction n with
   |zero=>intro _;exact⟨[],rfl,by simp⟩
   |succ n ih=>
    intro hn;obtain⟨xss,hl,hx⟩:=ih (by omega);obtain⟨cs,x,fuel,hc,ht⟩:=h5 n (by omega);refine⟨xss++[cs],by simp[hl],fun i xs hi=>?_⟩
    rcases Nat.lt_or_ge i xss.length with h|h
    ·rw[List.getElem?_append_left h] at hi;exact hx i xs hi
    ·rw[List.getElem?_append_right h] at hi;have:i=n:=by
      have hlt:=(List.getElem?_eq_some_iff.1 hi).1;simp at hlt;omega
     subst this;rw[←hl] at hi ⊢;simp at hi;subst hi;rw[hl];exact⟨x,fuel,hc,ht⟩
  obtain⟨xss,hl,hx⟩:=mk len (Nat.le_refl _);have hlen:∀xs∈xss,xs.length=k:=by
   intro xs hm;obtain⟨i,hi⟩:=List.getElem?_of_mem hm;obtain⟨_,_,hc,_⟩:=hx i xs hi;exact (World.cells?_some hc).2.1
  refine⟨xss,hl,hlen,⟨by rw[flatten_len k xss hlen,hl],fun hn=>?_⟩,fun xs hm=>?_⟩
  ·obtain⟨xs0,h0⟩:∃xs,xss[0]?=some xs:=⟨xss[0],AE (by omega)⟩
   obtain⟨_,_,hc,_⟩:=hx 0 xs0 h0;rw[Nat.zero_mul] at hc;have hb:=World.cells?_block hc hk0;have hsp:ad.spot=none:=by
    have h6:=(World.cells?_some hc).2.2 0 hk0;have hl0:=(World.cells?_some hc).2.1;rw[AE (by omega)] at h6;have:=World.cell?_spot h6
    simpa[Addr.add] using this
   obtain⟨b,off,sp⟩:=ad;simp only at hsp hb;subst hsp;have hadd:∀o n,(⟨b,o,none⟩:Addr).add n=⟨b,o+n,none⟩:=by
    intro o n;unfold Addr.add;split<;>simp_all
   refine⟨b,off,rfl,hb,fun j u hu=>?_⟩;have hjl:j<len*k:=by
    have:=(List.getElem?_eq_some_iff.1 hu).1
    rwa [flatten_len k xss hlen,hl] at this
   have hi:j / k<len:=Nat.div_lt_of_lt_mul (by rw[Nat.mul_comm];exact hjl);have hr:j % k<k:=Nat.mod_lt _ hk0;have hj:j / k*k+j % k=j:=by rw[Nat.mul_comm];exact Nat.div_add_mod j k
   obtain⟨xs,hxs⟩:∃xs,xss[j / k]?=some xs:=⟨xss[j / k],AE (by omega)⟩
   obtain⟨_,_,hc',_⟩:=hx _ xs hxs;have hcell:=(World.cells?_some hc').2.2 (j % k) hr;have hfl:=flatten_get k xss hlen (j / k) (j % k) xs hxs hr;rw[hj,hu] at hfl;rw[←hfl,hadd,hadd,Nat.add_assoc,hj] at hcell;exact hcell
  ·obtain⟨i,hi⟩:=List.getElem?_of_mem hm;obtain⟨x,fuel,_,ht⟩:=hx i xs hi;exact⟨x,fuel,ht⟩
end
theorem own:ownKnob Tryz.prog.godebug=none:=by kernel_rfl
theorem laidOut:laidOutB Tryz.prog=true:=by kernel_rfl
theorem trodAll_ext {H:Type} {enc:TypeId×Value→H} {P:Program} (hl:laidOutB P=true) {W W':World} (hb:Below W.heap.size W W') :
  ∀{ts:List TypeId} {vs:List Value} {ds:List (DataW H)} {ps:List MemPlace},(∀t∈ts,P.readableRec t=true∧t<P.types.size)→(∀x∈ps,x.block<W.heap.size) →
   DataW.TrodAll enc P W 0 (fun _=>true) true ts vs ds ps→DataW.TrodAll enc P W' 0 (fun b=>decide (b<W.heap.size)) true ts vs ds ps
 |[],[],[],_,_,_,h=>h
 |[],_ :: _,_,_,_,_,h=>by simp[DataW.TrodAll] at h
 |[],[],_ :: _,_,_,_,h=>by simp[DataW.TrodAll] at h
 |_ :: _,[],_,_,_,_,h=>by simp[DataW.TrodAll] at h
 |_ :: _,_ :: _,[],_,_,_,h=>by simp[DataW.TrodAll] at h
 |t :: ts,v :: vs,d :: ds,ps,ht,hlt,h=>by
  obtain⟨p,q,h1,h2,rfl⟩:=h;exact⟨p,q,Below.trod hl (ht t (List.mem_cons_self ..)).1 (ht t (List.mem_cons_self ..)).2 h1 hb (fun x hx=>hlt x (List.mem_append.2 (.inl hx))),
   trodAll_ext hl hb (fun t' h'=>ht t' (List.mem_cons_of_mem _ h')) (fun x hx=>hlt x (List.mem_append.2 (.inr hx))) h2,rfl⟩
theorem trodAll_len {H:Type} {enc:TypeId×Value→H} {P:Program} {W:World} {base:Nat} {sp:Nat→Bool} {held:Bool} :
  ∀{ts:List TypeId} {vs:List Value} {ds:List (DataW H)} {ps:List MemPlace},DataW.TrodAll enc P W base sp held ts vs ds ps→ds.length=ts.length
 |[],[],[],_,_=>rfl
 |[],_ :: _,_,_,h=>by simp[DataW.TrodAll] at h
 |[],[],_ :: _,_,h=>by simp[DataW.TrodAll] at h
 |_ :: _,[],_,_,h=>by simp[DataW.TrodAll] at h
 |_ :: _,_ :: _,[],_,h=>by simp[DataW.TrodAll] at h
 |t :: ts,v :: vs,d :: ds,ps,h=>by
  obtain⟨p,q,h1,h2,rfl⟩:=h;simp[trodAll_len h2]
theorem law_post {H:Type} {enc:TypeId×Value→H} {P:Program} {f:FuncId} {fn:Func} {s:ChangeSpec} {tb:TypeId} (hl:laidOutB P=true)
  (hread:fn.params.toList.all (fun t=>P.readableRec t&&decide (t<P.types.size))=true) (hrt:fn.resultTypes=#[tb]) (htb:P.underlying tb=some .bool) (hvars:s.vars=[])
  (hspec:∀ds:List (DataW H),ds.length=fn.params.toList.length→(s.fn H ds).results=[.lit (.bool true)]∧(s.fn H ds).args=ds∧(s.fn H ds).vars=[])
  {W:World} {args:Array Value} {ds gs:List (DataW H)} {before:List MemPlace}
  (hW:DataW.Whole enc P fn.params.toList s.vars false W args.toList ds gs before)
  (walk:Calls P f args W fun e W'=>e=.returned (.bool true)∧Ext W W') :
  Calls P f args W fun e W'=>∃v,e=.returned v∧s.post enc P fn false true false false W args v W':=by
 refine walk.mono fun e W' ⟨he,hb⟩=>⟨_,he,?_⟩
 have hlt:=hW.lt;have hW':=hW;obtain⟨p,q,hA,hV,rfl,hfz,hnd⟩:=hW;have hg:gs=[]∧q=[]:=by
  rw[hvars] at hV;cases gs with
  |nil=>exact⟨rfl,hV⟩
  |cons d ds=>exact hV.elim
 obtain⟨rfl,rfl⟩:=hg;obtain⟨e1,e2,e3⟩:=hspec ds (trodAll_len hA);have hA':=trodAll_ext hl (W':=W') hb (fun t ht=>by have:=List.all_eq_true.1 hread t ht;simpa using this) (fun x hx=>hlt x (by simpa using hx)) hA;refine⟨ds,[],p++[],[],p,[],hW',?_,?_,?_,?_,fun h=>by cases h⟩
 ·rw[List.append_nil,e1,hrt];exact trodAll_mk1 (shut_bool htb true)
 ·rw[List.append_nil,e2];exact hA'
 ·rw[hvars,List.append_nil,e3];rfl
 ·exact Below.frame hb _
def okI (k:IntKind) (n:Int):Prop:=(Lit.int k n).wf=true
structure Ln.Wf (l:Ln):Prop where
 (k:okI .u8 l.k) (n:okI .i64 l.n)
structure Sty.Wf (s:Sty):Prop where
 (kind:okI .u8 s.kind)
 (float:okI .u8 s.float)
 (clear:okI .u8 s.clear)
 (w:s.w.Wf)
 (h:s.h.Wf)
 (minw:s.minw.Wf)
 (maxw:s.maxw.Wf)
 (minh:s.minh.Wf)
 (maxh:s.maxh.Wf)
 (m0:s.m0.Wf)
 (m1:s.m1.Wf)
 (m2:s.m2.Wf)
 (m3:s.m3.Wf)
 (b0:okI .i64 s.b0)
 (b1:okI .i64 s.b1)
 (b2:okI .i64 s.b2)
 (b3:okI .i64 s.b3)
 (p0:okI .i64 s.p0)
 (p1:okI .i64 s.p1)
 (p2:okI .i64 s.p2)
 (p3:okI .i64 s.p3)
 (align:okI .u8 s.align)
 (line:okI .i64 s.line)
 (justify:okI .u8 s.justify)
 (items:okI .u8 s.items)
 (order:okI .i64 s.order)
 (grow:okI .i64 s.grow)
 (shrink:okI .i64 s.shrink)
 (basis:s.basis.Wf)
end Go.Proofs.YtamldoocjjdidaaGreat
namespace Go.Proofs.YtamldoocjjdidaaGreat
set_option maxRecDepth 100000
set_option maxHeartbeats 64000000
theorem bd_i64 {n:Int} (h:(Lit.int .i64 n).wf=true):-9223372036854775808≤n∧n≤9223372036854775807:=by simpa[Lit.wf,IntKind.min,IntKind.max,IntKind.signed,IntKind.bits] using h
theorem bd_i32 {n:Int} (h:(Lit.int .i32 n).wf=true):-2147483648≤n∧n≤2147483647:=by simpa[Lit.wf,IntKind.min,IntKind.max,IntKind.signed,IntKind.bits] using h
theorem bd_u16 {n:Int} (h:(Lit.int .u16 n).wf=true):0≤n∧n≤65535:=by simpa[Lit.wf,IntKind.min,IntKind.max,IntKind.signed,IntKind.bits] using h
theorem bd_u8 {n:Int} (h:(Lit.int .u8 n).wf=true):0≤n∧n≤255:=by simpa[Lit.wf,IntKind.min,IntKind.max,IntKind.signed,IntKind.bits] using h
end Go.Proofs.YtamldoocjjdidaaGreat
namespace Go.Proofs.YtamldoocjjdidaaGreat
open Go.RowKit
set_option maxRecDepth 100000
set_option maxHeartbeats 64000000
def mayV (l:Ln) (b:Bool):Bool:=
 if l.k=0 then decide (l.n=0) else if l.k=1 then decide (l.n≤1099511627776∧(if b then -1099511627776 else 0)≤l.n) else if l.k=2 then decide (l.n≤100000∧(if b then -100000 else 0)≤l.n) else false
theorem rmay_any (l:Ln) (b:Bool) (w:World):Calls Tryz.prog 144 #[l.v,.bool b] w fun e w'=>e=.returned (.bool (mayV l b))∧Ext w w':=by
 obtain⟨k,n⟩:=l;by_cases k0:k=0
 ·subst k0;cases b
  all_goals
   go_enter Tryz.func144,Tryz.ntmps144
   go_wp2
   go_ret;exact⟨ret1b (by rw[Bool.eq_iff_iff];simp[mayV]),(Ext.refl _).alloc _⟩
 have k0b:(k==0)=false:=by simpa using k0
 by_cases k1:k=1
 ·subst k1;cases b
  all_goals
   go_enter Tryz.func144,Tryz.ntmps144
   go_wp2
   all_goals go_ret
   all_goals exact⟨ret1b (by rw[Bool.eq_iff_iff];simp[mayV];omega),(Ext.refl _).alloc _⟩
 have k1b:(k==1)=false:=by simpa using k1
 by_cases k2:k=2
 ·subst k2;cases b
  all_goals
   go_enter Tryz.func144,Tryz.ntmps144
   go_wp2
   all_goals go_ret
   all_goals exact⟨ret1b (by rw[Bool.eq_iff_iff];simp[mayV];omega),(Ext.refl _).alloc _⟩
 have k2b:(k==2)=false:=by simpa using k2
 cases b
 all_goals
  go_enter Tryz.func144,Tryz.ntmps144
  go_wp2
  go_ret;exact⟨ret1b (by simp[mayV,k0,k1,k2]),(Ext.refl _).alloc _⟩
end Go.Proofs.YtamldoocjjdidaaGreat
namespace Go.Proofs.YtamldoocjjdidaaGreat
set_option maxRecDepth 100000
set_option maxHeartbeats 64000000
def val:List Bool→Nat
 |[]=>0
 |b :: r=>b.toNat+2*val r
def atN (l:List Bool) (i:Nat):Nat:=(l.getD i false).toNat
theorem toNat_le1 (b:Bool):b.toNat≤1:=by cases b<;>simp
theorem atN_le (l:List Bool) (i:Nat):atN l i≤1:=toNat_le1 _
theorem val_append:∀(a b:List Bool),val (a++b)=val a+2 ^ a.length*val b
 |[],b=>by simp[val]
 |x :: a,b=>by
  simp only[List.cons_append,val,val_append a b,List.length_cons,Nat.pow_succ];rw[Nat.mul_add,Nat.mul_comm (2 ^ a.length) 2,Nat.mul_assoc];omega
theorem val_lt:∀(a:List Bool),val a<2 ^ a.length
 |[]=>by simp[val]
 |x :: a=>by
  have:=val_lt a;have:=toNat_le1 x;simp only[val,List.length_cons,Nat.pow_succ];omega
theorem val_snoc (a:List Bool) (b:Bool):val (a++[b])=val a+b.toNat*2 ^ a.length:=by
 rw[val_append];simp[val,Nat.mul_comm]
theorem val_take_succ (l:List Bool) (i:Nat):val (l.take (i+1))=val (l.take i)+atN l i*2 ^ i:=by
 by_cases h:i<l.length
 ·rw[List.take_succ_eq_append_getElem h,val_snoc,List.length_take,Nat.min_eq_left (by omega)];simp[atN,h]
 ·rw[List.take_of_length_le (by omega),List.take_of_length_le (by omega)];simp[atN,List.getD,List.getElem?_eq_none (Nat.le_of_not_lt h)]
theorem val_take_ge (l:List Bool) (i:Nat) (h:l.length≤i):val (l.take i)=val l:=by rw[List.take_of_length_le h]
theorem val_split (l:List Bool) (i:Nat):val l=val (l.take i)+2 ^ i*val (l.drop i):=by
 by_cases h:i≤l.length
 ·have:=val_append (l.take i) (l.drop i);rw[List.take_append_drop,List.length_take,Nat.min_eq_left h] at this;exact this
 ·rw[List.take_of_length_le (by omega),List.drop_eq_nil_of_le (by omega)];simp[val]
theorem val_drop (l:List Bool) (i:Nat):val (l.drop i)=atN l i+2*val (l.drop (i+1)):=by
 by_cases h:i<l.length
 ·rw[List.drop_eq_getElem_cons h];simp[val,atN,h]
 ·rw[List.drop_eq_nil_of_le (by omega),List.drop_eq_nil_of_le (by omega)];simp[val,atN,List.getD,List.getElem?_eq_none (Nat.le_of_not_lt h)]
theorem val_take_lt (l:List Bool) (i:Nat):val (l.take i)<2 ^ i:=by
 refine Nat.lt_of_lt_of_le (val_lt _) (Nat.pow_le_pow_right (by omega) ?_);rw[List.length_take];omega
theorem val_drop_of_lt (l:List Bool) (i:Nat) (h:val l<2 ^ i):val (l.drop i)=0:=by
 have:=val_split l i
 rcases Nat.eq_zero_or_pos (val (l.drop i)) with h0|h0
 ·exact h0
 ·have:2 ^ i*1≤2 ^ i*val (l.drop i):=Nat.mul_le_mul_left _ h0;omega
theorem val_take_of_lt (l:List Bool) (i:Nat) (h:val l<2 ^ i):val (l.take i)=val l:=by
 have:=val_split l i;rw[val_drop_of_lt l i h] at this;omega
theorem less_at {a b:List Bool} {i:Nat} (h:val (a.drop (i+1))=val (b.drop (i+1))) (hl:atN a i<atN b i):val a<val b:=by
 have h1:=val_split a i;have h2:=val_split b i;rw[val_drop,h] at h1;rw[val_drop] at h2;have h3:=val_take_lt a i;generalize val (b.drop (i+1))=D at *;have ha:atN a i=0:=by have:=atN_le b i;omega
 have hb:atN b i=1:=by have:=atN_le b i;omega
 rw[ha] at h1;rw[hb,Nat.mul_add] at h2;have:2 ^ i*(0+2*D)=2 ^ i*(2*D):=by rw[Nat.zero_add]
 omega
theorem less_same {a b:List Bool} {i:Nat} (h:val (a.drop (i+1))=val (b.drop (i+1))) (hl:atN a i=atN b i):val (a.drop i)=val (b.drop i):=by
 rw[val_drop,val_drop b,h,hl]
def PlusI (a b o:List Bool) (i more:Nat):Prop:=o.length=i∧more≤1∧val o+more*2 ^ i=val (a.take i)+val (b.take i)
theorem plus_start (a b:List Bool):PlusI a b [] 0 0:=⟨rfl,by omega,by simp[val]⟩
theorem plus_step {a b o:List Bool} {i more:Nat} (h:PlusI a b o i more) :
  PlusI a b (o++[(atN a i+atN b i+more) % 2==1]) (i+1) ((atN a i+atN b i+more) / 2):=by
 obtain⟨h1,h2,h3⟩:=h;have ha:=atN_le a i;have hb:=atN_le b i;refine⟨by simp[h1],by omega,?_⟩;rw[val_snoc,val_take_succ,val_take_succ,h1];have e:((atN a i+atN b i+more) % 2==1).toNat=(atN a i+atN b i+more) % 2:=by
  rcases Nat.mod_two_eq_zero_or_one (atN a i+atN b i+more) with h|h<;>rw[h]<;>rfl
 rw[e];have hs:(atN a i+atN b i+more) % 2+2*((atN a i+atN b i+more) / 2)=atN a i+atN b i+more:=by omega
 generalize (atN a i+atN b i+more) % 2=m at *;generalize (atN a i+atN b i+more) / 2=d at *;have hp:d*2 ^ (i+1)=2*d*2 ^ i:=by rw[Nat.pow_succ];rw[Nat.mul_comm (2 ^ i) 2,←Nat.mul_assoc,Nat.mul_comm d 2]
 rw[hp];have:(m+2*d)*2 ^ i=(atN a i+atN b i+more)*2 ^ i:=by rw[hs]
 simp only[Nat.add_mul] at this;omega
theorem plus_end {a b o:List Bool} {i more:Nat} (h:PlusI a b o i more) (hi:i=max a.length b.length+1):val o=val a+val b∧o.length=max a.length b.length+1:=by
 obtain⟨h1,h2,h3⟩:=h;rw[val_take_ge a i (by omega),val_take_ge b i (by omega)] at h3;have ha:=val_lt a;have hb:=val_lt b;have ha':2 ^ a.length≤2 ^ (max a.length b.length):=Nat.pow_le_pow_right (by omega) (by omega);have hb':2 ^ b.length≤2 ^ (max a.length b.length):=Nat.pow_le_pow_right (by omega) (by omega);subst hi;rw[Nat.pow_succ] at h3;have:more=0:=by
  rcases Nat.eq_zero_or_pos more with h|h
  ·exact h
  ·have:more=1:=by omega
   subst this;omega
 subst this;exact⟨by omega,h1⟩
def MinusI (a b o:List Bool) (i less:Nat):Prop:=o.length=i∧less≤1∧val o+val (b.take i)=val (a.take i)+less*2 ^ i
theorem minus_start (a b:List Bool):MinusI a b [] 0 0:=⟨rfl,by omega,by simp[val]⟩
theorem minus_step0 {a b o:List Bool} {i less:Nat} (h:MinusI a b o i less) (s:Int) (hs:s=(atN a i:Int)-atN b i-less) (h0:0≤s):MinusI a b (o++[s==1]) (i+1) 0:=by
 obtain⟨h1,h2,h3⟩:=h;have ha:=atN_le a i;have hb:=atN_le b i;refine⟨by simp[h1],by omega,?_⟩;rw[val_snoc,val_take_succ,val_take_succ,h1];obtain⟨k,rfl⟩:=Int.eq_ofNat_of_zero_le h0;have hk:k+atN b i+less=atN a i:=by omega
 have hk1:k≤1:=by omega
 have e:(((k:Int)==1)).toNat=k:=by
  rcases (by omega:k=0∨k=1) with rfl|rfl<;>rfl
 rw[e];have:(k+atN b i+less)*2 ^ i=atN a i*2 ^ i:=by rw[hk]
 simp only[Nat.add_mul] at this;omega
theorem minus_step1 {a b o:List Bool} {i less:Nat} (h:MinusI a b o i less) (s:Int) (hs:s=(atN a i:Int)-atN b i-less) (h0:s<0):MinusI a b (o++[s+2==1]) (i+1) 1:=by
 obtain⟨h1,h2,h3⟩:=h;have ha:=atN_le a i;have hb:=atN_le b i;refine⟨by simp[h1],by omega,?_⟩;rw[val_snoc,val_take_succ,val_take_succ,h1];obtain⟨k,hk⟩:=Int.eq_ofNat_of_zero_le (a:=s+2) (by omega);have hk2:k+atN b i+less=atN a i+2:=by omega
 have hk1:k≤1:=by omega
 have e:((s+2==1)).toNat=k:=by
  rw[hk];rcases (by omega:k=0∨k=1) with rfl|rfl<;>rfl
 rw[e];have:(k+atN b i+less)*2 ^ i=(atN a i+2)*2 ^ i:=by rw[hk2]
 simp only[Nat.add_mul] at this;have hp:1*2 ^ (i+1)=2*2 ^ i:=by rw[Nat.pow_succ];omega
 rw[hp];omega
theorem minus_end {a b o:List Bool} {i less:Nat} (h:MinusI a b o i less) (hi:i=a.length) (hle:val b≤val a):val o=val a-val b∧o.length=a.length:=by
 obtain⟨h1,h2,h3⟩:=h;have ha:=val_lt a;subst hi;rw[val_take_ge a _ (Nat.le_refl _),val_take_of_lt b _ (by omega)] at h3;have ho:=val_lt o;rw[h1] at ho;have:less=0:=by
  rcases Nat.eq_zero_or_pos less with h|h
  ·exact h
  ·have:less=1:=by omega
   subst this;omega
 subst this;exact⟨by omega,h1⟩
theorem short_step {l:List Bool} {n:Nat} (h:val (l.take (n+1))=val l) (hn:l.getD n false=false):val (l.take n)=val l:=by
 rw[val_take_succ] at h;simp only[atN,hn] at h
 simpa using h
theorem short_pos {l:List Bool} {n:Nat} (hn:l.getD n false=true) (h:val (l.take (n+1))=val l):2 ^ n≤val l:=by
 rw[val_take_succ] at h;simp only[atN,hn] at h;simp at h;omega
end Go.Proofs.YtamldoocjjdidaaGreat
namespace Go.Proofs.YtamldoocjjdidaaGreat
open Go.RowKit
set_option maxRecDepth 100000
set_option maxHeartbeats 64000000
@[reducible] def usedV (w l r:Int):Value:=.agg #[.int .i64 w,.int .i64 l,.int .i64 r]
theorem cutAll_any (x l r:Int) (w:World):Calls Tryz.prog 146 #[usedV x l r] w fun e w'=>e=.returned (.tuple #[usedV (cutV x) (cutV l) (cutV r),.bool (cutB x||cutB l||cutB r)])∧Ext w w':=by
 go_enter Tryz.func146,Tryz.ntmps146;go_wp2_with (go_at_call 80;(with_reducible refine (ref_cut _ _).mono ?_);rintro e w' ⟨rfl,rfl⟩)
 all_goals go_returns
 all_goals refine⟨?_,((Ext.refl _).alloc _).alloc _⟩
 all_goals simp_all
end Go.Proofs.YtamldoocjjdidaaGreat
