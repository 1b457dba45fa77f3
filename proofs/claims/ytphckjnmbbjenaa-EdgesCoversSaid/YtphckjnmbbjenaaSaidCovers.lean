/-
  The law EdgesCovers returns true for every list of rectangles, and leaves its argument as it was.
  Conditions: none
-/
import Derived.Test.YtphckjnmbbjenaaEdK
import Derived.Test.YtphckjnmbbjenaaRcO
namespace Go.Proofs.Ytphckjnmbbjenaa
open Go.ChangeShapes Go.WideShapes Go.ChangeAt Go.RowKit

theorem edgesCovers_spec {H : Type} (ds : List (DataW H)) (h : ds.length = Try.f5.params.toList.length) : (Rows.edgesCoversSpec.fn H ds).results = [.lit (.bool true)] ∧ (Rows.edgesCoversSpec.fn H ds).args = ds ∧ (Rows.edgesCoversSpec.fn H ds).vars = [] := by
  match ds, h with
  | [d1], _ => exact ⟨rfl, rfl, rfl⟩

set_option maxRecDepth 100000 in
theorem edgesCovers_lifted (os : Os) (started : os.Started) (H : Type) (enc : TypeId × Value → H) :
    ReturnsInHanded {} Try.checked os 5 .any (Rows.edgesCoversSpec.pre6 enc Try.prog Try.f5 Rows.edgesCoversRow.domain false) (Rows.edgesCoversSpec.post enc Try.prog Try.f5 false true false false) := by
  refine returnsInHanded_of_change (C := Try.checked) own started (by kernel_rfl) Try.func5
    (ChangeSpec.witness6 (enc := enc) (C := Try.checked) false ⟨#[], #[.slice none 0 0], []⟩ 8 (by kernel_rfl) (by kernel_rfl) (by kernel_rfl) (by kernel_rfl)) ?_
  intro W base args ds gs before hval0 hW hcnd _
  have hval : ∀ (j : Nat) t v, Try.f5.params[j]? = some t → args[j]? = some v → Value.okWide Try.prog W .any base t v := hval0
  have hW' := hW
  refine law_post (P := Try.prog) (fn := Try.f5) (s := Rows.edgesCoversSpec) (tb := 4) laidOut (by kernel_rfl) rfl Try.underlying4 rfl edgesCovers_spec hW' ?_
  obtain ⟨p, q, hA0, hV, rfl, hfz, hnd⟩ := hW
  have hA : DataW.TrodAll enc Try.prog W 0 (fun _ => true) true Try.f5.params.toList args.toList ds p := hA0
  rw [Try.params5] at hA hval
  obtain ⟨v0, vs0, d0, ds0, p0, q0, hargs, rfl, rfl, h0, r0⟩ := trodAll_cons hA
  obtain ⟨rfl, rfl, rfl⟩ := trodAll_nil r0
  obtain rfl : args = #[v0] := by cases args; simp_all
  clear hW' hA0 hval0 hV hfz hnd hcnd hargs
  obtain ⟨A0, n0, c0, a0, rfl, mx0, rd0, ok0⟩ := open_rcs Try.underlying38 cells_rect flat_rect (hval 0 38 v0 rfl rfl) h0
  clear hval
  exact law_covers A0 n0 c0 a0 W rd0 ok0

theorem edgesCovers_holds : Rows.EdgesCoversSaid :=
  OpenClaim.holds_of_wide 5 Try.f5 rfl rfl rfl rfl rfl rfl rfl ⟨rfl, rfl, rfl, rfl, rfl⟩ rfl rfl rfl rfl rfl (by kernel_rfl) Try.func5 (by kernel_rfl)
    (of_decide_eq_true (by kernel_rfl)) (by unfold Func.isWrapper; first | (rw [if_pos (by decide +kernel)]; kernel_rfl) | (rw [if_neg (by decide +kernel)]; exact ⟨rfl, rfl⟩))
    (fun os started H enc _ => edgesCovers_lifted os started H enc)
end Go.Proofs.Ytphckjnmbbjenaa

