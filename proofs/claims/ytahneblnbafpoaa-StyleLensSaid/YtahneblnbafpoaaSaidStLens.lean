/-
  The law StyleLens returns true for every three lengths and every number, and leaves its arguments as they were.
  Conditions: none
-/
import Derived.Test.YtahneblnbafpoaaStLens
import Derived.Test.YtahneblnbafpoaaLenO
namespace Go.Proofs.Ytahneblnbafpoaa
open Go.ChangeShapes Go.WideShapes Go.ChangeAt Go.RowKit

theorem styleLens_spec {H : Type} (ds : List (DataW H)) (h : ds.length = Try.f4.params.toList.length) : (Rows.styleLensSpec.fn H ds).results = [.lit (.bool true)] ∧ (Rows.styleLensSpec.fn H ds).args = ds ∧ (Rows.styleLensSpec.fn H ds).vars = [] := by
  match ds, h with
  | [d1, d2, d3, d4], _ => exact ⟨rfl, rfl, rfl⟩

set_option maxRecDepth 100000 in
theorem styleLens_lifted (os : Os) (started : os.Started) (H : Type) (enc : TypeId × Value → H) :
    ReturnsInHanded {} Try.checked os 4 .any (Rows.styleLensSpec.pre6 enc Try.prog Try.f4 Rows.styleLensRow.domain false) (Rows.styleLensSpec.post enc Try.prog Try.f4 false true false false) := by
  refine returnsInHanded_of_change (C := Try.checked) own started (by kernel_rfl) Try.func4
    (ChangeSpec.witness6 (enc := enc) (C := Try.checked) false ⟨#[], #[.agg #[.int .u8 0, .int .i64 0], .agg #[.int .u8 0, .int .i64 0], .agg #[.int .u8 0, .int .i64 0], .int .i64 0], []⟩ 8 (by kernel_rfl) (by kernel_rfl) (by kernel_rfl) (by kernel_rfl)) ?_
  intro W base args ds gs before hval0 hW hcnd _
  have hval : ∀ (j : Nat) t v, Try.f4.params[j]? = some t → args[j]? = some v → Value.okWide Try.prog W .any base t v := hval0
  have hW' := hW
  refine law_post (P := Try.prog) (fn := Try.f4) (s := Rows.styleLensSpec) (tb := 4) laidOut (by kernel_rfl) rfl Try.underlying4 rfl styleLens_spec hW' ?_
  obtain ⟨p, q, hA0, hV, rfl, hfz, hnd⟩ := hW
  have hA : DataW.TrodAll enc Try.prog W 0 (fun _ => true) true Try.f4.params.toList args.toList ds p := hA0
  rw [Try.params4] at hA hval
  obtain ⟨v0, vs0, d0, ds0, p0, q0, hargs, rfl, rfl, h0, r0⟩ := trodAll_cons hA
  obtain ⟨v1, vs1, d1, ds1, p1, q1, rfl, rfl, rfl, h1, r1⟩ := trodAll_cons r0
  obtain ⟨v2, vs2, d2, ds2, p2, q2, rfl, rfl, rfl, h2, r2⟩ := trodAll_cons r1
  obtain ⟨v3, vs3, d3, ds3, p3, q3, rfl, rfl, rfl, h3, r3⟩ := trodAll_cons r2
  obtain ⟨rfl, rfl, rfl⟩ := trodAll_nil r3
  obtain rfl : args = #[v0, v1, v2, v3] := by cases args; simp_all
  clear hW' hA0 hval0 hV hfz hnd hcnd hargs
  obtain ⟨a0, rfl, wf0⟩ := open_len (hval 0 23 v0 rfl rfl) h0
  obtain ⟨a1, rfl, wf1⟩ := open_len (hval 1 23 v1 rfl rfl) h1
  obtain ⟨a2, rfl, wf2⟩ := open_len (hval 2 23 v2 rfl rfl) h2
  obtain ⟨a3, rfl, rfl, rfl, wf3⟩ := open_int Try.underlying2 (hval 3 2 v3 rfl rfl) h3
  clear hval
  exact law_lens a0 a1 a2 a3 (okI_i64 wf0.n) (okI_i64 wf1.n) (okI_i64 wf2.n) (bd_i64 wf3) W

theorem styleLens_holds : Rows.StyleLensSaid :=
  OpenClaim.holds_of_wide 4 Try.f4 rfl rfl rfl rfl rfl rfl rfl ⟨rfl, rfl, rfl, rfl, rfl⟩ rfl rfl rfl rfl rfl (by kernel_rfl) Try.func4 (by kernel_rfl)
    (of_decide_eq_true (by kernel_rfl)) (by unfold Func.isWrapper; first | (rw [if_pos (by decide +kernel)]; kernel_rfl) | (rw [if_neg (by decide +kernel)]; exact ⟨rfl, rfl⟩))
    (fun os started H enc _ => styleLens_lifted os started H enc)
end Go.Proofs.Ytahneblnbafpoaa

