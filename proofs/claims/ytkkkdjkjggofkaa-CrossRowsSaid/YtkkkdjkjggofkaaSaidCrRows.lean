/-
  The law CrossRows returns true for every case, and leaves its argument as it was.
  Conditions: none
-/
import Derived.Test.YtkkkdjkjggofkaaCsW
import Derived.Test.YtkkkdjkjggofkaaLaw
import Derived.Test.YtkkkdjkjggofkaaOk
namespace Go.Proofs.Ytkkkdjkjggofkaa
open Go.ChangeShapes Go.WideShapes Go.ChangeAt Go.RowKit

theorem crossRows_spec {H : Type} (ds : List (DataW H)) (h : ds.length = Try.f4.params.toList.length) : (Rows.crossRowsSpec.fn H ds).results = [.lit (.bool true)] ∧ (Rows.crossRowsSpec.fn H ds).args = ds ∧ (Rows.crossRowsSpec.fn H ds).vars = [] := by
  match ds, h with
  | [d1], _ => exact ⟨rfl, rfl, rfl⟩

set_option maxRecDepth 100000 in
theorem crossRows_lifted (os : Os) (started : os.Started) (H : Type) (enc : TypeId × Value → H) :
    ReturnsInHanded {} Try.checked os 4 .any (Rows.crossRowsSpec.pre6 enc Try.prog Try.f4 Rows.crossRowsRow.domain false) (Rows.crossRowsSpec.post enc Try.prog Try.f4 false true false false) := by
  refine returnsInHanded_of_change (C := Try.checked) own started (by kernel_rfl) Try.func4
    (ChangeSpec.witness6 (enc := enc) (C := Try.checked) false ⟨#[], #[.agg #[.int .u8 0, .bool false, .int .u8 0, .int .u8 0, .int .u8 0, .int .i64 0, .int .u8 0, .int .i64 0, .int .u8 0, .int .i64 0, .int .u8 0, .int .i64 0, .int .u8 0, .int .i64 0, .int .u8 0, .int .i64 0, .int .u8 0, .int .i64 0, .int .u8 0, .int .i64 0, .int .u8 0, .int .i64 0, .int .u8 0, .int .i64 0, .int .i64 0, .int .i64 0, .int .i64 0, .int .i64 0, .int .i64 0, .int .i64 0, .int .i64 0, .int .i64 0, .int .u8 0, .int .i64 0, .bool false, .int .u8 0, .int .u8 0, .int .i64 0, .int .i64 0, .int .i64 0, .int .u8 0, .int .i64 0, .slice none 0 0, .int .i64 0, .slice none 0 0, .slice none 0 0, .slice none 0 0]], []⟩ 8 (by kernel_rfl) (by kernel_rfl) (by kernel_rfl) (by kernel_rfl)) ?_
  intro W base args ds gs before hval0 hW hcnd _
  have hval : ∀ (j : Nat) t v, Try.f4.params[j]? = some t → args[j]? = some v → Value.okWide Try.prog W .any base t v := hval0
  have hW' := hW
  refine law_post (P := Try.prog) (fn := Try.f4) (s := Rows.crossRowsSpec) (tb := 4) laidOut (by kernel_rfl) rfl Try.underlying4 rfl crossRows_spec hW' ?_
  obtain ⟨p, q, hA0, hV, rfl, hfz, hnd⟩ := hW
  have hA : DataW.TrodAll enc Try.prog W 0 (fun _ => true) true Try.f4.params.toList args.toList ds p := hA0
  rw [Try.params4] at hA hval
  obtain ⟨v0, vs0, d0, ds0, p0, q0, hargs, rfl, rfl, h0, r0⟩ := trodAll_cons hA
  obtain ⟨rfl, rfl, rfl⟩ := trodAll_nil r0
  obtain rfl : args = #[v0] := by cases args; simp_all
  clear hW' hA0 hval0 hV hfz hnd hcnd hargs
  obtain ⟨a0, ks0, us0, hs0, rfl, in0⟩ := open_case (hval 0 33 v0 rfl rfl) h0
  clear hval
  exact law_crossRows a0 ks0 us0 hs0 W in0

theorem crossRows_holds : Rows.CrossRowsSaid :=
  OpenClaim.holds_of_wide 4 Try.f4 rfl rfl rfl rfl rfl rfl rfl ⟨rfl, rfl, rfl, rfl, rfl⟩ rfl rfl rfl rfl rfl (by kernel_rfl) Try.func4 (by kernel_rfl)
    (of_decide_eq_true (by kernel_rfl)) (by unfold Func.isWrapper; first | (rw [if_pos (by decide +kernel)]; kernel_rfl) | (rw [if_neg (by decide +kernel)]; exact ⟨rfl, rfl⟩))
    (fun os started H enc _ => crossRows_lifted os started H enc)
end Go.Proofs.Ytkkkdjkjggofkaa

