/-
  The law CrossOne returns true for every number of 32 bits, three of 16 bits and one of 8 bits, and leaves its arguments as they were.
  Conditions: none
-/
import Derived.Test.YtkkkdjkjggofkaaCrO
import Derived.Test.YtkkkdjkjggofkaaLaw
import Derived.Test.YtkkkdjkjggofkaaOk
namespace Go.Proofs.Ytkkkdjkjggofkaa
open Go.ChangeShapes Go.WideShapes Go.ChangeAt Go.RowKit

theorem crossOne_spec {H : Type} (ds : List (DataW H)) (h : ds.length = Try.f6.params.toList.length) : (Rows.crossOneSpec.fn H ds).results = [.lit (.bool true)] ∧ (Rows.crossOneSpec.fn H ds).args = ds ∧ (Rows.crossOneSpec.fn H ds).vars = [] := by
  match ds, h with
  | [d1, d2, d3, d4, d5], _ => exact ⟨rfl, rfl, rfl⟩

set_option maxRecDepth 100000 in
theorem crossOne_lifted (os : Os) (started : os.Started) (H : Type) (enc : TypeId × Value → H) :
    ReturnsInHanded {} Try.checked os 6 .any (Rows.crossOneSpec.pre6 enc Try.prog Try.f6 Rows.crossOneRow.domain false) (Rows.crossOneSpec.post enc Try.prog Try.f6 false true false false) := by
  refine returnsInHanded_of_change (C := Try.checked) own started (by kernel_rfl) Try.func6
    (ChangeSpec.witness6 (enc := enc) (C := Try.checked) false ⟨#[], #[.int .u32 0, .int .u16 0, .int .u16 0, .int .u16 0, .int .u8 0], []⟩ 8 (by kernel_rfl) (by kernel_rfl) (by kernel_rfl) (by kernel_rfl)) ?_
  intro W base args ds gs before hval0 hW hcnd _
  have hval : ∀ (j : Nat) t v, Try.f6.params[j]? = some t → args[j]? = some v → Value.okWide Try.prog W .any base t v := hval0
  have hW' := hW
  refine law_post (P := Try.prog) (fn := Try.f6) (s := Rows.crossOneSpec) (tb := 4) laidOut (by kernel_rfl) rfl Try.underlying4 rfl crossOne_spec hW' ?_
  obtain ⟨p, q, hA0, hV, rfl, hfz, hnd⟩ := hW
  have hA : DataW.TrodAll enc Try.prog W 0 (fun _ => true) true Try.f6.params.toList args.toList ds p := hA0
  rw [Try.params6] at hA hval
  obtain ⟨v0, vs0, d0, ds0, p0, q0, hargs, rfl, rfl, h0, r0⟩ := trodAll_cons hA
  obtain ⟨v1, vs1, d1, ds1, p1, q1, rfl, rfl, rfl, h1, r1⟩ := trodAll_cons r0
  obtain ⟨v2, vs2, d2, ds2, p2, q2, rfl, rfl, rfl, h2, r2⟩ := trodAll_cons r1
  obtain ⟨v3, vs3, d3, ds3, p3, q3, rfl, rfl, rfl, h3, r3⟩ := trodAll_cons r2
  obtain ⟨v4, vs4, d4, ds4, p4, q4, rfl, rfl, rfl, h4, r4⟩ := trodAll_cons r3
  obtain ⟨rfl, rfl, rfl⟩ := trodAll_nil r4
  obtain rfl : args = #[v0, v1, v2, v3, v4] := by cases args; simp_all
  clear hW' hA0 hval0 hV hfz hnd hcnd hargs
  obtain ⟨a0, rfl, rfl, rfl, wf0⟩ := open_int Try.underlying51 (hval 0 51 v0 rfl rfl) h0
  obtain ⟨a1, rfl, rfl, rfl, wf1⟩ := open_int Try.underlying52 (hval 1 52 v1 rfl rfl) h1
  obtain ⟨a2, rfl, rfl, rfl, wf2⟩ := open_int Try.underlying52 (hval 2 52 v2 rfl rfl) h2
  obtain ⟨a3, rfl, rfl, rfl, wf3⟩ := open_int Try.underlying52 (hval 3 52 v3 rfl rfl) h3
  obtain ⟨a4, rfl, rfl, rfl, wf4⟩ := open_int Try.underlying5 (hval 4 5 v4 rfl rfl) h4
  clear hval
  exact law_crossOne a0 a1 a2 a3 a4 (bd_u32 wf0) (bd_u16 wf1) (bd_u16 wf2) (bd_u16 wf3) (bd_u8 wf4) W

theorem crossOne_holds : Rows.CrossOneSaid :=
  OpenClaim.holds_of_wide 6 Try.f6 rfl rfl rfl rfl rfl rfl rfl ⟨rfl, rfl, rfl, rfl, rfl⟩ rfl rfl rfl rfl rfl (by kernel_rfl) Try.func6 (by kernel_rfl)
    (of_decide_eq_true (by kernel_rfl)) (by unfold Func.isWrapper; first | (rw [if_pos (by decide +kernel)]; kernel_rfl) | (rw [if_neg (by decide +kernel)]; exact ⟨rfl, rfl⟩))
    (fun os started H enc _ => crossOne_lifted os started H enc)
end Go.Proofs.Ytkkkdjkjggofkaa

