/- Widths: lengths, cuts (walks). -/
import Derived.Test.YtkajcipfmdpneaaWidM
namespace Go.Proofs.Ytkajcipfmdpneaa
open Go.RowKit

set_option maxHeartbeats 400000 in
theorem within_any (c : Int) (w : World) : Calls Try.prog 13 #[.int .i64 c] w fun e w' => e = .returned (.bool (decide (-1099511627776 ≤ c) && decide (c ≤ 1099511627776))) ∧ w = w' := by
  go_enter Try.func13, Try.ntmps13
  go_wp2
  all_goals go_ret
  all_goals refine ⟨ret1b ?_, rfl⟩
  all_goals (rw [Bool.eq_iff_iff]; simp; try omega)
theorem px_any (n : Int) (w : World) : Calls Try.prog 12 #[.int .i64 n] w fun e w' => e = .returned (Ln.v ⟨1, n⟩) ∧ Ext w w' := by
  go_enter Try.func12, Try.ntmps12
  go_wp2
  go_returns
  exact ⟨rfl, (Ext.refl _).alloc _⟩
theorem part_any (n : Int) (w : World) : Calls Try.prog 15 #[.int .i64 n] w fun e w' => e = .returned (Ln.v ⟨2, n⟩) ∧ Ext w w' := by
  go_enter Try.func15, Try.ntmps15
  go_wp2
  go_returns
  exact ⟨rfl, (Ext.refl _).alloc _⟩

@[reducible] def usedV (w l r : Int) : Value := .agg #[.int .i64 w, .int .i64 l, .int .i64 r]
theorem eq_bool3 (p q r : Bool) (w : World) : (Op.equalIn 10000 54 (.agg #[.bool p, .bool q, .bool r]) (.agg #[.bool false, .bool false, .bool false])).run Try.prog w = .ok (!(p || q || r)) w := by
  cases p <;> cases q <;> cases r <;> kernel_rfl
theorem cut_any (x l r : Int) (w : World) : Calls Try.prog 24 #[.int .i64 x, .int .i64 l, .int .i64 r] w fun e w' => e = .returned (.tuple #[usedV (cutV x) (cutV l) (cutV r), .bool (cutB x || cutB l || cutB r)]) ∧ Ext w w' := by
  go_enter Try.func24, Try.ntmps24
  go_wp2_with (go_at_call 28; (with_reducible refine (au_cut _ _).mono ?_); rintro e w' ⟨rfl, rfl⟩)
  have heq := eq_bool3
  go_region
  go_wp2
  go_returns
  exact ⟨rfl, (((Ext.refl _).alloc _).alloc _).drew⟩
theorem cutAll_any (x l r : Int) (w : World) : Calls Try.prog 26 #[usedV x l r] w fun e w' => e = .returned (.tuple #[usedV (cutV x) (cutV l) (cutV r), .bool (cutB x || cutB l || cutB r)]) ∧ Ext w w' := by
  go_enter Try.func26, Try.ntmps26
  go_wp2_with (go_at_call 29; (with_reducible refine (ref_cut _ _).mono ?_); rintro e w' ⟨rfl, rfl⟩)
  all_goals go_returns
  all_goals refine ⟨?_, ((Ext.refl _).alloc _).alloc _⟩
  all_goals simp_all
end Go.Proofs.Ytkajcipfmdpneaa
