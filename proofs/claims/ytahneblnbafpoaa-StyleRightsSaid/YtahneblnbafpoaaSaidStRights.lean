/-
  The law StyleRights returns true for every style, and leaves its argument as it was.
  Conditions: none
-/
import Derived.Test.YtahneblnbafpoaaStRi
import Derived.Test.YtahneblnbafpoaaUniO
namespace Go.Proofs.Ytahneblnbafpoaa
open Go.ChangeShapes Go.WideShapes Go.ChangeAt Go.RowKit

theorem styleRights_spec {H : Type} (ds : List (DataW H)) (h : ds.length = Try.f3.params.toList.length) : (Rows.styleRightsSpec.fn H ds).results = [.lit (.bool true)] ∧ (Rows.styleRightsSpec.fn H ds).args = ds ∧ (Rows.styleRightsSpec.fn H ds).vars = [] := by
  match ds, h with
  | [d1], _ => exact ⟨rfl, rfl, rfl⟩

set_option maxRecDepth 100000 in
theorem styleRights_lifted (os : Os) (started : os.Started) (H : Type) (enc : TypeId × Value → H) :
    ReturnsInHanded {} Try.checked os 3 .any (Rows.styleRightsSpec.pre6 enc Try.prog Try.f3 Rows.styleRightsRow.domain false) (Rows.styleRightsSpec.post enc Try.prog Try.f3 false true false false) := by
  refine returnsInHanded_of_change (C := Try.checked) own started (by kernel_rfl) Try.func3
    (ChangeSpec.witness6 (enc := enc) (C := Try.checked) false ⟨#[], #[.agg #[.int .u8 0, .bool false, .int .u8 0, .int .u8 0, .int .u8 0, .int .i64 0, .int .u8 0, .int .i64 0, .int .u8 0, .int .i64 0, .int .u8 0, .int .i64 0, .int .u8 0, .int .i64 0, .int .u8 0, .int .i64 0, .int .u8 0, .int .i64 0, .int .u8 0, .int .i64 0, .int .u8 0, .int .i64 0, .int .u8 0, .int .i64 0, .int .i64 0, .int .i64 0, .int .i64 0, .int .i64 0, .int .i64 0, .int .i64 0, .int .i64 0, .int .i64 0, .int .u8 0, .int .i64 0, .bool false, .int .u8 0, .int .u8 0, .int .i64 0, .int .i64 0, .int .i64 0, .int .u8 0, .int .i64 0, .slice none 0 0]], []⟩ 8 (by kernel_rfl) (by kernel_rfl) (by kernel_rfl) (by kernel_rfl)) ?_
  intro W base args ds gs before hval0 hW hcnd _
  have hval : ∀ (j : Nat) t v, Try.f3.params[j]? = some t → args[j]? = some v → Value.okWide Try.prog W .any base t v := hval0
  have hW' := hW
  refine law_post (P := Try.prog) (fn := Try.f3) (s := Rows.styleRightsSpec) (tb := 4) laidOut (by kernel_rfl) rfl Try.underlying4 rfl styleRights_spec hW' ?_
  obtain ⟨p, q, hA0, hV, rfl, hfz, hnd⟩ := hW
  have hA : DataW.TrodAll enc Try.prog W 0 (fun _ => true) true Try.f3.params.toList args.toList ds p := hA0
  rw [Try.params3] at hA hval
  obtain ⟨v0, vs0, d0, ds0, p0, q0, hargs, rfl, rfl, h0, r0⟩ := trodAll_cons hA
  obtain ⟨rfl, rfl, rfl⟩ := trodAll_nil r0
  obtain rfl : args = #[v0] := by cases args; simp_all
  clear hW' hA0 hval0 hV hfz hnd hcnd hargs
  obtain ⟨a0, rfl, wf0, sl0⟩ := open_style (hval 0 28 v0 rfl rfl) h0
  clear hval
  exact law_rights a0 W (.inr (units_rd sl0))

theorem styleRights_holds : Rows.StyleRightsSaid :=
  OpenClaim.holds_of_wide 3 Try.f3 rfl rfl rfl rfl rfl rfl rfl ⟨rfl, rfl, rfl, rfl, rfl⟩ rfl rfl rfl rfl rfl (by kernel_rfl) Try.func3 (by kernel_rfl)
    (of_decide_eq_true (by kernel_rfl)) (by unfold Func.isWrapper; first | (rw [if_pos (by decide +kernel)]; kernel_rfl) | (rw [if_neg (by decide +kernel)]; exact ⟨rfl, rfl⟩))
    (fun os started H enc _ => styleRights_lifted os started H enc)
end Go.Proofs.Ytahneblnbafpoaa

