/- Layer 20: two frags alike, without lines; two items' widths alike. -/
import Derived.Test.YtkkkdjkjggofkaaCrJ
namespace Go.Proofs.Ytkkkdjkjggofkaa
open Go.RowKit
theorem eq_us (u : Us) (w : World) : (Op.equalIn 10000 48 (.agg (usC u).toArray) (.agg (usC u).toArray)).run Try.prog w = .ok true w := by
  have hu := Try.underlying2
  have a3 := Try.isAgg2
  have z3 := Try.sizeOf2
  obtain ⟨x, y, p⟩ := u
  have hS : Try.prog.underlying 48 = some (.struct (Try.prog.fieldsOf 48)) := by kernel_rfl
  have hp : Try.prog.stoodInHeld 48 = false := by kernel_rfl
  rw [show (10000 : Nat) = 9999 + 1 from rfl, run_equalIn_agg w 9999 48 _ _ hS hp]
  simp only [Program.fieldsOf, Try.underlying48, usC]
  go_simp
set_option maxRecDepth 100000 in
set_option maxHeartbeats 4000000 in
theorem sameFrag_any (f : Fr) (w : World) : Calls Try.prog 14 #[.agg (frC f).toArray, .agg (frC f).toArray] w fun e w' => e = .returned (.bool true) ∧ Ext w w' := by
  obtain ⟨x, y, p, q⟩ := f
  have e0 : (x == x) = true := by simp
  have e1 : (y == y) = true := by simp
  have e2 : (p == p) = true := by simp
  have e3 : (q == q) = true := by simp
  show Calls Try.prog 14 #[.agg #[.int .i64 x, .int .i64 y, .int .i64 p, .int .i64 q, .slice none 0 0], .agg #[.int .i64 x, .int .i64 y, .int .i64 p, .int .i64 q, .slice none 0 0]] w _
  go_enter Try.func14, Try.ntmps14
  go_upto_region 1 with fail
  have B0 : Blk ((w.alloc (.cells #[.int .i64 x, .int .i64 y, .int .i64 p, .int .i64 q, .slice none 0 0] 46)).alloc (.cells #[.int .i64 x, .int .i64 y, .int .i64 p, .int .i64 q, .slice none 0 0] 46)) w.heap.size 46 #[.int .i64 x, .int .i64 y, .int .i64 p, .int .i64 q, .slice none 0 0] := (Blk.new _ _ _).alloc _
  have B1 : Blk ((w.alloc (.cells #[.int .i64 x, .int .i64 y, .int .i64 p, .int .i64 q, .slice none 0 0] 46)).alloc (.cells #[.int .i64 x, .int .i64 y, .int .i64 p, .int .i64 q, .slice none 0 0] 46)) (w.heap.size + 1) 46 #[.int .i64 x, .int .i64 y, .int .i64 p, .int .i64 q, .slice none 0 0] := Blk.new1 _ _ _ _
  have E : Ext w ((w.alloc (.cells #[.int .i64 x, .int .i64 y, .int .i64 p, .int .i64 q, .slice none 0 0] 46)).alloc (.cells #[.int .i64 x, .int .i64 y, .int .i64 p, .int .i64 q, .slice none 0 0] 46)) := ((Ext.refl _).alloc _).alloc _
  generalize (w.alloc (.cells #[.int .i64 x, .int .i64 y, .int .i64 p, .int .i64 q, .slice none 0 0] 46)).alloc (.cells #[.int .i64 x, .int .i64 y, .int .i64 p, .int .i64 q, .slice none 0 0] 46) = w1 at *
  generalize w.heap.size = g at *
  have c0 := B0.cell
  have c1 := B1.cell
  have l0 := B0.lt
  have l1 := B1.lt
  go_wp2_with fail
  go_loopw [5] (fun v5 wr => v5 = .int .i64 0 ∧ wr = w1) (fun _ _ => 0)
  case atStart => exact ⟨rfl, rfl⟩
  case round =>
    obtain ⟨rfl, rfl⟩ := hrel
    go_wp2_with fail
    go_ret
    exact ⟨rfl, E⟩
end Go.Proofs.Ytkkkdjkjggofkaa
