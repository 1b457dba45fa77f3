/-
  The law CrossPlays returns true for every case and every number, and leaves its arguments as they were.
  Conditions: none
-/
import Derived.Test.YtkkkdjkjggofkaaCqF
import Derived.Test.YtkkkdjkjggofkaaLaw
import Derived.Test.YtkkkdjkjggofkaaOk
namespace Go.Proofs.Ytkkkdjkjggofkaa
open Go.ChangeShapes Go.WideShapes Go.ChangeAt Go.RowKit

theorem crossPlays_spec {H : Type} (ds : List (DataW H)) (h : ds.length = Try.f3.params.toList.length) : (Rows.crossPlaysSpec.fn H ds).results = [.lit (.bool true)] ∧ (Rows.crossPlaysSpec.fn H ds).args = ds ∧ (Rows.crossPlaysSpec.fn H ds).vars = [] := by
  match ds, h with
  | [d1, d2], _ => exact ⟨rfl, rfl, rfl⟩

set_option maxRecDepth 100000 in
theorem crossPlays_lifted (os : Os) (started : os.Started) (H : Type) (enc : TypeId × Value → H) :
    ReturnsInHanded {} Try.checked os 3 .any (Rows.crossPlaysSpec.pre6 enc Try.prog Try.f3 Rows.crossPlaysRow.domain false) (Rows.crossPlaysSpec.post enc Try.prog Try.f3 false true false false) := by
  refine returnsInHanded_of_change (C := Try.checked) own started (by kernel_rfl) Try.func3
    (ChangeSpec.witness6 (enc := enc) (C := Try.checked) false ⟨#[], #[.agg #[.int .u8 0, .bool false, .int .u8 0, .int .u8 0, .int .u8 0, .int .i64 0, .int .u8 0, .int .i64 0, .int .u8 0, .int .i64 0, .int .u8 0, .int .i64 0, .int .u8 0, .int .i64 0, .int .u8 0, .int .i64 0, .int .u8 0, .int .i64 0, .int .u8 0, .int .i64 0, .int .u8 0, .int .i64 0, .int .u8 0, .int .i64 0, .int .i64 0, .int .i64 0, .int .i64 0, .int .i64 0, .int .i64 0, .int .i64 0, .int .i64 0, .int .i64 0, .int .u8 0, .int .i64 0, .bool false, .int .u8 0, .int .u8 0, .int .i64 0, .int .i64 0, .int .i64 0, .int .u8 0, .int .i64 0, .slice none 0 0, .int .i64 0, .slice none 0 0, .slice none 0 0, .slice none 0 0], .int .i64 0], []⟩ 8 (by kernel_rfl) (by kernel_rfl) (by kernel_rfl) (by kernel_rfl)) ?_
  intro W base args ds gs before hval0 hW hcnd _
  have hval : ∀ (j : Nat) t v, Try.f3.params[j]? = some t → args[j]? = some v → Value.okWide Try.prog W .any base t v := hval0
  have hW' := hW
  refine law_post (P := Try.prog) (fn := Try.f3) (s := Rows.crossPlaysSpec) (tb := 4) laidOut (by kernel_rfl) rfl Try.underlying4 rfl crossPlays_spec hW' ?_
  obtain ⟨p, q, hA0, hV, rfl, hfz, hnd⟩ := hW
  have hA : DataW.TrodAll enc Try.prog W 0 (fun _ => true) true Try.f3.params.toList args.toList ds p := hA0
  rw [Try.params3] at hA hval
  obtain ⟨v0, vs0, d0, ds0, p0, q0, hargs, rfl, rfl, h0, r0⟩ := trodAll_cons hA
  obtain ⟨v1, vs1, d1, ds1, p1, q1, rfl, rfl, rfl, h1, r1⟩ := trodAll_cons r0
  obtain ⟨rfl, rfl, rfl⟩ := trodAll_nil r1
  obtain rfl : args = #[v0, v1] := by cases args; simp_all
  clear hW' hA0 hval0 hV hfz hnd hcnd hargs
  obtain ⟨a0, ks0, us0, hs0, rfl, in0⟩ := open_case (hval 0 33 v0 rfl rfl) h0
  obtain ⟨a1, rfl, rfl, rfl, wf1⟩ := open_int Try.underlying2 (hval 1 2 v1 rfl rfl) h1
  clear hval
  exact law_crossPlays a0 ks0 us0 hs0 a1 W in0

theorem crossPlays_holds : Rows.CrossPlaysSaid :=
  OpenClaim.holds_of_wide 3 Try.f3 rfl rfl rfl rfl rfl rfl rfl ⟨rfl, rfl, rfl, rfl, rfl⟩ rfl rfl rfl rfl rfl (by kernel_rfl) Try.func3 (by kernel_rfl)
    (of_decide_eq_true (by kernel_rfl)) (by unfold Func.isWrapper; first | (rw [if_pos (by decide +kernel)]; kernel_rfl) | (rw [if_neg (by decide +kernel)]; exact ⟨rfl, rfl⟩))
    (fun os started H enc _ => crossPlays_lifted os started H enc)
end Go.Proofs.Ytkkkdjkjggofkaa

