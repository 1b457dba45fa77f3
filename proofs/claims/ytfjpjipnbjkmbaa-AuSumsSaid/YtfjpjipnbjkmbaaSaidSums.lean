/-
  The law AuSums returns true for every list of numbers, and leaves its argument as it was.
  Conditions: none
-/
import Derived.Test.YtfjpjipnbjkmbaaAuV
import Derived.Test.YtfjpjipnbjkmbaaRo
namespace Go.Proofs.Ytfjpjipnbjkmbaa
open Go.ChangeShapes Go.WideShapes Go.ChangeAt Go.RowKit

theorem auSums_spec {H : Type} (ds : List (DataW H)) (h : ds.length = Try.f4.params.toList.length) : (Rows.auSumsSpec.fn H ds).results = [.lit (.bool true)] ∧ (Rows.auSumsSpec.fn H ds).args = ds ∧ (Rows.auSumsSpec.fn H ds).vars = [] := by
  match ds, h with
  | [d1], _ => exact ⟨rfl, rfl, rfl⟩

set_option maxRecDepth 100000 in
theorem auSums_lifted (os : Os) (started : os.Started) (H : Type) (enc : TypeId × Value → H) :
    ReturnsInHanded {} Try.checked os 4 .any (Rows.auSumsSpec.pre6 enc Try.prog Try.f4 Rows.auSumsRow.domain false) (Rows.auSumsSpec.post enc Try.prog Try.f4 false true false false) := by
  refine returnsInHanded_of_change_sized (C := Try.checked) own started (by kernel_rfl) Try.func4
    (ChangeSpec.witness6 (enc := enc) (C := Try.checked) false ⟨#[], #[.slice none 0 0], []⟩ 8 (by kernel_rfl) (by kernel_rfl) (by kernel_rfl) (by kernel_rfl)) ?_
  intro W base args ds gs before hval0 hW hcnd hsz0 _
  have hsz : (DataW.weightsEach Try.prog (Try.f4.params.toList ++ Rows.auSumsSpec.plain.varTypes Try.prog) (ds ++ gs)).all (· ≤ reachBytes) = true := hsz0
  clear hsz0
  have hval : ∀ (j : Nat) t v, Try.f4.params[j]? = some t → args[j]? = some v → Value.okWide Try.prog W .any base t v := hval0
  have hW' := hW
  refine law_post (P := Try.prog) (fn := Try.f4) (s := Rows.auSumsSpec) (tb := 4) laidOut (by kernel_rfl) rfl Try.underlying4 rfl auSums_spec hW' ?_
  obtain ⟨p, q, hA0, hV, rfl, hfz, hnd⟩ := hW
  have hA : DataW.TrodAll enc Try.prog W 0 (fun _ => true) true Try.f4.params.toList args.toList ds p := hA0
  rw [Try.params4] at hA hval hsz
  obtain ⟨v0, vs0, d0, ds0, p0, q0, hargs, rfl, rfl, h0, r0⟩ := trodAll_cons hA
  obtain ⟨rfl, rfl, rfl⟩ := trodAll_nil r0
  have hgs : gs = [] := by
    cases gs with
    | nil => rfl
    | cons d ds => exact hV.elim
  subst hgs
  obtain rfl : args = #[v0] := by cases args; simp_all
  clear hW' hA0 hval0 hV hfz hnd hcnd hargs
  obtain ⟨A0, n0, c0, a0, rfl, rd0, iz0, sz0⟩ := open_rd (hval 0 32 v0 rfl rfl) h0
  have bd0 : n0 ≤ 4611686018427387000 := by
    rcases sz0 with rfl | ⟨e, s, rfl, hle⟩
    · omega
    · have := sized_slice hsz (j := 0) (t := 32) (e := 2) rfl rfl Try.underlying32
      rw [bytes_i64] at this
      simp only [reachBytes] at this
      omega
  clear hval
  exact law_sums A0 n0 c0 a0 W rd0 iz0 bd0

theorem auSums_holds : Rows.AuSumsSaid :=
  OpenClaim.holds_of_wide 4 Try.f4 rfl rfl rfl rfl rfl rfl rfl ⟨rfl, rfl, rfl, rfl, rfl⟩ rfl rfl rfl rfl rfl (by kernel_rfl) Try.func4 (by kernel_rfl)
    (of_decide_eq_true (by kernel_rfl)) (by unfold Func.isWrapper; first | (rw [if_pos (by decide +kernel)]; kernel_rfl) | (rw [if_neg (by decide +kernel)]; exact ⟨rfl, rfl⟩))
    (fun os started H enc _ => auSums_lifted os started H enc)
end Go.Proofs.Ytfjpjipnbjkmbaa

