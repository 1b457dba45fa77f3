/-
  The law CrossJustify returns true for every number of 32 bits and every list of numbers of 16 bits, and leaves its arguments as they were.
  Conditions: none
-/
import Derived.Test.YtkkkdjkjggofkaaCrQ
import Derived.Test.YtkkkdjkjggofkaaLaw
import Derived.Test.YtkkkdjkjggofkaaOk
namespace Go.Proofs.Ytkkkdjkjggofkaa
open Go.ChangeShapes Go.WideShapes Go.ChangeAt Go.RowKit

theorem crossJustify_spec {H : Type} (ds : List (DataW H)) (h : ds.length = Try.f5.params.toList.length) : (Rows.crossJustifySpec.fn H ds).results = [.lit (.bool true)] ∧ (Rows.crossJustifySpec.fn H ds).args = ds ∧ (Rows.crossJustifySpec.fn H ds).vars = [] := by
  match ds, h with
  | [d1, d2], _ => exact ⟨rfl, rfl, rfl⟩

set_option maxRecDepth 100000 in
theorem crossJustify_lifted (os : Os) (started : os.Started) (H : Type) (enc : TypeId × Value → H) :
    ReturnsInHanded {} Try.checked os 5 .any (Rows.crossJustifySpec.pre6 enc Try.prog Try.f5 Rows.crossJustifyRow.domain false) (Rows.crossJustifySpec.post enc Try.prog Try.f5 false true false false) := by
  refine returnsInHanded_of_change (C := Try.checked) own started (by kernel_rfl) Try.func5
    (ChangeSpec.witness6 (enc := enc) (C := Try.checked) false ⟨#[], #[.int .u32 0, .slice none 0 0], []⟩ 8 (by kernel_rfl) (by kernel_rfl) (by kernel_rfl) (by kernel_rfl)) ?_
  intro W base args ds gs before hval0 hW hcnd _
  have hval : ∀ (j : Nat) t v, Try.f5.params[j]? = some t → args[j]? = some v → Value.okWide Try.prog W .any base t v := hval0
  have hW' := hW
  refine law_post (P := Try.prog) (fn := Try.f5) (s := Rows.crossJustifySpec) (tb := 4) laidOut (by kernel_rfl) rfl Try.underlying4 rfl crossJustify_spec hW' ?_
  obtain ⟨p, q, hA0, hV, rfl, hfz, hnd⟩ := hW
  have hA : DataW.TrodAll enc Try.prog W 0 (fun _ => true) true Try.f5.params.toList args.toList ds p := hA0
  rw [Try.params5] at hA hval
  obtain ⟨v0, vs0, d0, ds0, p0, q0, hargs, rfl, rfl, h0, r0⟩ := trodAll_cons hA
  obtain ⟨v1, vs1, d1, ds1, p1, q1, rfl, rfl, rfl, h1, r1⟩ := trodAll_cons r0
  obtain ⟨rfl, rfl, rfl⟩ := trodAll_nil r1
  obtain rfl : args = #[v0, v1] := by cases args; simp_all
  clear hW' hA0 hval0 hV hfz hnd hcnd hargs
  obtain ⟨a0, rfl, rfl, rfl, wf0⟩ := open_int Try.underlying51 (hval 0 51 v0 rfl rfl) h0
  obtain ⟨A1, n1, c1, a1, rfl, rd1⟩ := open_units (hval 1 26 v1 rfl rfl) h1
  clear hval
  exact law_crossJustify a0 A1 n1 c1 a1 (bd_u32 wf0) rd1.2 W rd1.1

theorem crossJustify_holds : Rows.CrossJustifySaid :=
  OpenClaim.holds_of_wide 5 Try.f5 rfl rfl rfl rfl rfl rfl rfl ⟨rfl, rfl, rfl, rfl, rfl⟩ rfl rfl rfl rfl rfl (by kernel_rfl) Try.func5 (by kernel_rfl)
    (of_decide_eq_true (by kernel_rfl)) (by unfold Func.isWrapper; first | (rw [if_pos (by decide +kernel)]; kernel_rfl) | (rw [if_neg (by decide +kernel)]; exact ⟨rfl, rfl⟩))
    (fun os started H enc _ => crossJustify_lifted os started H enc)
end Go.Proofs.Ytkkkdjkjggofkaa

