import Derived.Test.YtamldoocjjdidaaGreatMCrA
import Derived.Test.YtamldoocjjdidaaGreatMRow
import Derived.Deep.MidRow
namespace Go.Proofs.YtamldoocjjdidaaGreat
open Go.RowKit
set_option maxRecDepth 100000
set_option maxHeartbeats 64000000
def recs {α:Type} (f:α→List Value) (l:List α):List Value:=(l.map f).flatten
section
variable {α:Type} {f:α→List Value} {k:Nat}
theorem recs_len (hk:∀x,(f x).length=k) (l:List α):(recs f l).length=l.length*k:=by
 have:=flatten_len k (l.map f) (by intro xs h;obtain⟨n,_,rfl⟩:=List.mem_map.1 h;exact hk n)
 simpa[recs] using this
theorem recs_get (hk:∀x,(f x).length=k) {l:List α} {i j:Nat} {x:α} (h:l[i]?=some x) (hj:j<k):(recs f l)[i*k+j]?=(f x)[j]?:=
 flatten_get k (l.map f) (by intro xs h;obtain⟨n,_,rfl⟩:=List.mem_map.1 h;exact hk n) i j (f x) (by simp[h]) hj
theorem recs_append (l m:List α):recs f (l++m)=recs f l++recs f m:=by simp[recs]
theorem recs_one (x:α):recs f [x]=f x:=by simp[recs]
theorem recs_ones (h:∀x,∀u∈f x,u.oneCell'=true) (l:List α):∀u∈recs f l,u.oneCell'=true:=by
 intro u hu;obtain⟨ys,hy,hu⟩:=List.mem_flatten.1 hu;obtain⟨x,_,rfl⟩:=List.mem_map.1 hy;exact h x u hu
theorem Rd.rec_ (hk:∀x,(f x).length=k) {w:World} {A:Option Addr} {n:Nat} {l:List α} (h:Rd w k A n (recs f l)) {i:Nat} {x:α} (hi:l[i]?=some x) (hk0:0<k) :
  ∃b off,A=some ⟨b,off,none⟩∧b<w.heap.size∧∀j u,(f x)[j]?=some u→w.cell? ⟨b,off+i*k+j,none⟩=some u:=by
 have hl:=(List.getElem?_eq_some_iff.1 hi).1;have hn:n=l.length:=by have:=h.len;rw[recs_len hk] at this;exact (Nat.eq_of_mul_eq_mul_right hk0 this).symm
 obtain⟨b,off,rfl,hb,hc⟩:=h.at_ (by omega);refine⟨b,off,rfl,hb,fun j u hu=>?_⟩;have hj:j<k:=by have:=(List.getElem?_eq_some_iff.1 hu).1;rwa [hk] at this
 rw[Nat.add_assoc];exact hc _ _ ((recs_get hk hi hj).trans hu)
theorem Rd.recN (hk:∀x,(f x).length=k) {w:World} {A:Option Addr} {n:Nat} {l:List α} (h:Rd w k A n (recs f l)) (hk0:0<k):l.length=n:=by
 have:=h.len;rw[recs_len hk] at this;exact Nat.eq_of_mul_eq_mul_right hk0 this
end
structure Us where
 (w l r:Int)
def usC (u:Us):List Value:=[.int .i64 u.w,.int .i64 u.l,.int .i64 u.r]
theorem usC_len (u:Us):(usC u).length=3:=rfl
theorem usC_one (u:Us):∀v∈usC u,v.oneCell'=true:=by
 intro v hv;simp only[usC,List.mem_cons,List.not_mem_nil,or_false] at hv
 rcases hv with rfl|rfl|rfl<;>rfl
def styC (s:Sty):List Value:=s.cells.toList
theorem styC_len (s:Sty):(styC s).length=43:=rfl
structure It where
 s:Sty
 (left right wide high down above below x y:Int)
 st:Bool
def It.cells (i:It):List Value:=i.s.cells.toList++[.int .i64 i.left,.int .i64 i.right,.int .i64 i.wide,.int .i64 i.high,.int .i64 i.down,.int .i64 i.above,.int .i64 i.below,.int .i64 i.x,.int .i64 i.y,.bool i.st]
theorem It.len (i:It):i.cells.length=53:=rfl
@[reducible] def ptrV (g:Nat):Value:=.pointer (some ⟨g,0,none⟩)
def ptrs (g:Nat→Nat) (ks:List Nat):List Value:=ks.map fun k=>ptrV (g k)
theorem ptrs_get {g:Nat→Nat} {ks:List Nat} {p k:Nat} (h:ks[p]?=some k):(ptrs g ks)[p]?=some (ptrV (g k)):=by simp[ptrs,h]
theorem ptrs_len (g:Nat→Nat) (ks:List Nat):(ptrs g ks).length=ks.length:=by simp[ptrs]
structure StyOk (s:Sty):Prop where
 thin:s.thin
 (p0:partOk s.m0) (p2:partOk s.m2)
structure Ct where
 (l:Int) (g:Int) (ol:Int) (og:Int)
def ctC (x:Ct):List Value:=[.int .i64 x.l,.int .i64 x.g,.int .i64 x.ol,.int .i64 x.og]
theorem ctC_len (x:Ct):(ctC x).length=4:=rfl
theorem ctC_one (x:Ct):∀v∈ctC x,v.oneCell'=true:=by
 intro v hv;simp only[ctC,List.mem_cons,List.not_mem_nil,or_false] at hv
 rcases hv with rfl|rfl|rfl|rfl<;>rfl
def zCt:Ct:=⟨0,0,0,0⟩
theorem ctC_size (x:Ct):(Tryz.prog.info? 108).map (·.size)=some (ctC x).toArray.size:=by kernel_rfl
structure Wd where
 (f:Int) (t:Int) (w:Int) (gap:Int) (forced:Int)
def wrdC (x:Wd):List Value:=[.int .i64 x.f,.int .i64 x.t,.int .i64 x.w,.int .i64 x.gap,.int .i64 x.forced]
theorem wrdC_len (x:Wd):(wrdC x).length=5:=rfl
theorem wrdC_one (x:Wd):∀v∈wrdC x,v.oneCell'=true:=by
 intro v hv;simp only[wrdC,List.mem_cons,List.not_mem_nil,or_false] at hv
 rcases hv with rfl|rfl|rfl|rfl|rfl<;>rfl
def zWd:Wd:=⟨0,0,0,0,0⟩
theorem wrdC_size (x:Wd):(Tryz.prog.info? 174).map (·.size)=some (wrdC x).toArray.size:=by kernel_rfl
theorem wrdC_zero:(Tryz.prog.info? 174).bind (·.zero)=some (.agg (wrdC zWd).toArray):=by kernel_rfl
theorem wrdC_info:(Tryz.prog.info? 174).map (fun i=>(i.zero,i.size,decide (i.bytes≤100000)))=some (some (.agg (wrdC zWd).toArray),5,true):=by kernel_rfl
structure Fl where
 (side:Int) (x:Int) (y:Int) (w:Int) (h:Int)
def flC (x:Fl):List Value:=[.int .u8 x.side,.int .i64 x.x,.int .i64 x.y,.int .i64 x.w,.int .i64 x.h]
theorem flC_len (x:Fl):(flC x).length=5:=rfl
theorem flC_one (x:Fl):∀v∈flC x,v.oneCell'=true:=by
 intro v hv;simp only[flC,List.mem_cons,List.not_mem_nil,or_false] at hv
 rcases hv with rfl|rfl|rfl|rfl|rfl<;>rfl
def zFl:Fl:=⟨0,0,0,0,0⟩
theorem flC_size (x:Fl):(Tryz.prog.info? 229).map (·.size)=some (flC x).toArray.size:=by kernel_rfl
theorem flC_info:(Tryz.prog.info? 229).map (fun i=>(i.zero,i.size,decide (i.bytes≤100000)))=some (some (.agg (flC zFl).toArray),5,true):=by kernel_rfl
structure Rw where
 (y:Int) (f:Int) (t:Int) (xA:Option Addr) (xn xc:Nat)
def rwC (x:Rw):List Value:=[.int .i64 x.y,.int .i64 x.f,.int .i64 x.t,.slice x.xA x.xn x.xc]
theorem rwC_len (x:Rw):(rwC x).length=4:=rfl
theorem rwC_one (x:Rw):∀v∈rwC x,v.oneCell'=true:=by
 intro v hv;simp only[rwC,List.mem_cons,List.not_mem_nil,or_false] at hv
 rcases hv with rfl|rfl|rfl|rfl<;>rfl
def zRw:Rw:=⟨0,0,0,none,0,0⟩
theorem rwC_size (x:Rw):(Tryz.prog.info? 227).map (·.size)=some (rwC x).toArray.size:=by kernel_rfl
theorem rwC_zero:(Tryz.prog.info? 227).bind (·.zero)=some (.agg (rwC zRw).toArray):=by kernel_rfl
theorem rwC_info:(Tryz.prog.info? 227).map (fun i=>(i.zero,i.size,decide (i.bytes≤100000)))=some (some (.agg (rwC zRw).toArray),4,true):=by kernel_rfl
structure Pc where
 (node:Int) (f:Int) (t:Int) (x:Int) (w:Int)
def pcC (x:Pc):List Value:=[.int .i64 x.node,.int .i64 x.f,.int .i64 x.t,.int .i64 x.x,.int .i64 x.w]
theorem pcC_len (x:Pc):(pcC x).length=5:=rfl
theorem pcC_one (x:Pc):∀v∈pcC x,v.oneCell'=true:=by
 intro v hv;simp only[pcC,List.mem_cons,List.not_mem_nil,or_false] at hv
 rcases hv with rfl|rfl|rfl|rfl|rfl<;>rfl
def zPc:Pc:=⟨0,0,0,0,0⟩
theorem pcC_size (x:Pc):(Tryz.prog.info? 75).map (·.size)=some (pcC x).toArray.size:=by kernel_rfl
theorem pcC_zero:(Tryz.prog.info? 75).bind (·.zero)=some (.agg (pcC zPc).toArray):=by kernel_rfl
theorem pcC_info:(Tryz.prog.info? 75).map (fun i=>(i.zero,i.size,decide (i.bytes≤100000)))=some (some (.agg (pcC zPc).toArray),5,true):=by kernel_rfl
structure Ll where
 (y:Int) (h:Int) (pA:Option Addr) (pn pc:Nat)
def llC (x:Ll):List Value:=[.int .i64 x.y,.int .i64 x.h,.slice x.pA x.pn x.pc]
theorem llC_len (x:Ll):(llC x).length=3:=rfl
theorem llC_one (x:Ll):∀v∈llC x,v.oneCell'=true:=by
 intro v hv;simp only[llC,List.mem_cons,List.not_mem_nil,or_false] at hv
 rcases hv with rfl|rfl|rfl<;>rfl
def zLl:Ll:=⟨0,0,none,0,0⟩
theorem llC_size (x:Ll):(Tryz.prog.info? 73).map (·.size)=some (llC x).toArray.size:=by kernel_rfl
theorem llC_zero:(Tryz.prog.info? 73).bind (·.zero)=some (.agg (llC zLl).toArray):=by kernel_rfl
theorem llC_info:(Tryz.prog.info? 73).map (fun i=>(i.zero,i.size,decide (i.bytes≤100000)))=some (some (.agg (llC zLl).toArray),3,true):=by kernel_rfl
structure Fg where
 (x:Int) (y:Int) (w:Int) (h:Int) (lA:Option Addr) (ln lc:Nat)
def fgC (x:Fg):List Value:=[.int .i64 x.x,.int .i64 x.y,.int .i64 x.w,.int .i64 x.h,.slice x.lA x.ln x.lc]
theorem fgC_len (x:Fg):(fgC x).length=5:=rfl
theorem fgC_one (x:Fg):∀v∈fgC x,v.oneCell'=true:=by
 intro v hv;simp only[fgC,List.mem_cons,List.not_mem_nil,or_false] at hv
 rcases hv with rfl|rfl|rfl|rfl|rfl<;>rfl
def zFg:Fg:=⟨0,0,0,0,none,0,0⟩
theorem fgC_size (x:Fg):(Tryz.prog.info? 58).map (·.size)=some (fgC x).toArray.size:=by kernel_rfl
theorem fgC_zero:(Tryz.prog.info? 58).bind (·.zero)=some (.agg (fgC zFg).toArray):=by kernel_rfl
theorem fgC_info:(Tryz.prog.info? 58).map (fun i=>(i.zero,i.size,decide (i.bytes≤100000)))=some (some (.agg (fgC zFg).toArray),5,true):=by kernel_rfl
structure Su where
 (m:Int) (l:Int)
def suC (x:Su):List Value:=[.int .i64 x.m,.int .i64 x.l]
def InM (x:Int):Prop:=-1099511627776≤x∧x≤1099511627776
structure PcOk (p:Pc):Prop where
 (x:InM p.x) (w:InM p.w)
def Pieces (w:World) (A:Option Addr) (n:Nat):Prop:=∃ps:List Pc,Rd w 5 A n (recs pcC ps)∧∀p∈ps,PcOk p
structure LlOk (w:World) (l:Ll):Prop where
 (y:InM l.y) (h:InM l.h) (ps:Pieces w l.pA l.pn)
def Lns (w:World) (A:Option Addr) (n:Nat):Prop:=∃ls:List Ll,Rd w 3 A n (recs llC ls)∧∀l∈ls,LlOk w l
structure FgOk (W:World) (f:Fg):Prop where
 (x:InM f.x) (y:InM f.y) (w:InM f.w) (h:InM f.h) (ls:Lns W f.lA f.ln)
def Frags (w:World) (A:Option Addr) (n:Nat):Prop:=∃fs:List Fg,Rd w 5 A n (recs fgC fs)∧∀f∈fs,FgOk w f
section
variable {w w':World} {A:Option Addr} {n:Nat}
theorem Pieces.ext (h:Pieces w A n) (hx:Ext w w'):Pieces w' A n:=h.imp fun _ k=>⟨k.1.ext hx,k.2⟩
theorem LlOk.ext {l:Ll} (h:LlOk w l) (hx:Ext w w'):LlOk w' l:=⟨h.y,h.h,h.ps.ext hx⟩
theorem Lns.ext (h:Lns w A n) (hx:Ext w w'):Lns w' A n:=h.imp fun _ k=>⟨k.1.ext hx,fun l hl=>(k.2 l hl).ext hx⟩
theorem FgOk.ext {f:Fg} (h:FgOk w f) (hx:Ext w w'):FgOk w' f:=⟨h.x,h.y,h.w,h.h,h.ls.ext hx⟩
theorem Frags.ext (h:Frags w A n) (hx:Ext w w'):Frags w' A n:=h.imp fun _ k=>⟨k.1.ext hx,fun f hf=>(k.2 f hf).ext hx⟩
end
structure RwOk (w:World) (N:Nat) (r:Rw):Prop where
 f:0≤r.f∧r.f+(r.xn:Int)≤(N:Int)
 x:∃xs:List Int,Rd w 1 r.xA r.xn (ints xs)
def RowsW (w:World) (N:Nat) (A:Option Addr) (n:Nat):Prop:=∃rs:List Rw,Rd w 4 A n (recs rwC rs)∧∀r∈rs,RwOk w N r
theorem RwOk.ext {w w':World} {N:Nat} {r:Rw} (h:RwOk w N r) (hx:Ext w w'):RwOk w' N r:=⟨h.f,h.x.imp fun _ k=>k.ext hx⟩
theorem RowsW.ext {w w':World} {N:Nat} {A:Option Addr} {n:Nat} (h:RowsW w N A n) (hx:Ext w w'):RowsW w' N A n:=h.imp fun _ k=>⟨k.1.ext hx,fun r hr=>(k.2 r hr).ext hx⟩
end Go.Proofs.YtamldoocjjdidaaGreat
