/-
  The law EdgesPoints returns true for every two rectangles, and leaves its arguments as they were.
  Conditions: none
-/
import Derived.Test.YtphckjnmbbjenaaEdO
import Derived.Test.YtphckjnmbbjenaaRcO
namespace Go.Proofs.Ytphckjnmbbjenaa
open Go.ChangeShapes Go.WideShapes Go.ChangeAt Go.RowKit

theorem edgesPoints_spec {H : Type} (ds : List (DataW H)) (h : ds.length = Try.f6.params.toList.length) : (Rows.edgesPointsSpec.fn H ds).results = [.lit (.bool true)] ∧ (Rows.edgesPointsSpec.fn H ds).args = ds ∧ (Rows.edgesPointsSpec.fn H ds).vars = [] := by
  match ds, h with
  | [d1, d2], _ => exact ⟨rfl, rfl, rfl⟩

set_option maxRecDepth 100000 in
theorem edgesPoints_lifted (os : Os) (started : os.Started) (H : Type) (enc : TypeId × Value → H) :
    ReturnsInHanded {} Try.checked os 6 .any (Rows.edgesPointsSpec.pre6 enc Try.prog Try.f6 Rows.edgesPointsRow.domain false) (Rows.edgesPointsSpec.post enc Try.prog Try.f6 false true false false) := by
  refine returnsInHanded_of_change (C := Try.checked) own started (by kernel_rfl) Try.func6
    (ChangeSpec.witness6 (enc := enc) (C := Try.checked) false ⟨#[], #[.agg #[.int .i64 0, .int .i64 0, .int .i64 0, .int .i64 0], .agg #[.int .i64 0, .int .i64 0, .int .i64 0, .int .i64 0]], []⟩ 8 (by kernel_rfl) (by kernel_rfl) (by kernel_rfl) (by kernel_rfl)) ?_
  intro W base args ds gs before hval0 hW hcnd _
  have hval : ∀ (j : Nat) t v, Try.f6.params[j]? = some t → args[j]? = some v → Value.okWide Try.prog W .any base t v := hval0
  have hW' := hW
  refine law_post (P := Try.prog) (fn := Try.f6) (s := Rows.edgesPointsSpec) (tb := 4) laidOut (by kernel_rfl) rfl Try.underlying4 rfl edgesPoints_spec hW' ?_
  obtain ⟨p, q, hA0, hV, rfl, hfz, hnd⟩ := hW
  have hA : DataW.TrodAll enc Try.prog W 0 (fun _ => true) true Try.f6.params.toList args.toList ds p := hA0
  rw [Try.params6] at hA hval
  obtain ⟨v0, vs0, d0, ds0, p0, q0, hargs, rfl, rfl, h0, r0⟩ := trodAll_cons hA
  obtain ⟨v1, vs1, d1, ds1, p1, q1, rfl, rfl, rfl, h1, r1⟩ := trodAll_cons r0
  obtain ⟨rfl, rfl, rfl⟩ := trodAll_nil r1
  obtain rfl : args = #[v0, v1] := by cases args; simp_all
  clear hW' hA0 hval0 hV hfz hnd hcnd hargs
  obtain ⟨a0, rfl, ok0⟩ := open_rect (hval 0 33 v0 rfl rfl) h0
  obtain ⟨a1, rfl, ok1⟩ := open_rect (hval 1 33 v1 rfl rfl) h1
  clear hval
  exact law_points a0 a1 W

theorem edgesPoints_holds : Rows.EdgesPointsSaid :=
  OpenClaim.holds_of_wide 6 Try.f6 rfl rfl rfl rfl rfl rfl rfl ⟨rfl, rfl, rfl, rfl, rfl⟩ rfl rfl rfl rfl rfl (by kernel_rfl) Try.func6 (by kernel_rfl)
    (of_decide_eq_true (by kernel_rfl)) (by unfold Func.isWrapper; first | (rw [if_pos (by decide +kernel)]; kernel_rfl) | (rw [if_neg (by decide +kernel)]; exact ⟨rfl, rfl⟩))
    (fun os started H enc _ => edgesPoints_lifted os started H enc)
end Go.Proofs.Ytphckjnmbbjenaa

