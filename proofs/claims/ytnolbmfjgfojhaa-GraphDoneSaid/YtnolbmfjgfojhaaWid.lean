/- Lengths and styles, as cells. -/
import Derived.Test.YtnolbmfjgfojhaaU
namespace Go.Proofs.Ytnolbmfjgfojhaa
open Go.RowKit

/-! ### lengths and styles -/
structure Ln where
  k : Int
  n : Int
@[reducible] def Ln.v (l : Ln) : Value := .agg #[.int .u8 l.k, .int .i64 l.n]
structure Sty where
  (kind : Int) (flow : Bool) (float clear : Int)
  (w h minw maxw minh maxh m0 m1 m2 m3 : Ln)
  (b0 b1 b2 b3 p0 p1 p2 p3 : Int)
  (align line : Int) (wrap : Bool) (justify items order grow shrink : Int) (basis : Ln) (ua : Option Addr) (ul uc : Nat)
@[reducible] def Sty.cells (s : Sty) : Array Value := #[.int .u8 s.kind, .bool s.flow, .int .u8 s.float, .int .u8 s.clear,
  .int .u8 s.w.k, .int .i64 s.w.n, .int .u8 s.h.k, .int .i64 s.h.n, .int .u8 s.minw.k, .int .i64 s.minw.n, .int .u8 s.maxw.k, .int .i64 s.maxw.n,
  .int .u8 s.minh.k, .int .i64 s.minh.n, .int .u8 s.maxh.k, .int .i64 s.maxh.n,
  .int .u8 s.m0.k, .int .i64 s.m0.n, .int .u8 s.m1.k, .int .i64 s.m1.n, .int .u8 s.m2.k, .int .i64 s.m2.n, .int .u8 s.m3.k, .int .i64 s.m3.n,
  .int .i64 s.b0, .int .i64 s.b1, .int .i64 s.b2, .int .i64 s.b3, .int .i64 s.p0, .int .i64 s.p1, .int .i64 s.p2, .int .i64 s.p3,
  .int .u8 s.align, .int .i64 s.line, .bool s.wrap, .int .u8 s.justify, .int .u8 s.items, .int .i64 s.order, .int .i64 s.grow, .int .i64 s.shrink,
  .int .u8 s.basis.k, .int .i64 s.basis.n, .slice s.ua s.ul s.uc]

theorem info_style (s : Sty) : (Try.prog.info? 45).map (·.size) = some s.cells.size := by kernel_rfl
end Go.Proofs.Ytnolbmfjgfojhaa
