/-
  The law GraphDone returns true for every tree, and leaves its argument as it was.
  Conditions: none
-/
import Derived.Test.YtnolbmfjgfojhaaGrX
import Derived.Test.YtnolbmfjgfojhaaTreeO
namespace Go.Proofs.Ytnolbmfjgfojhaa
open Go.ChangeShapes Go.WideShapes Go.ChangeAt Go.RowKit

theorem graphDone_spec {H : Type} (ds : List (DataW H)) (h : ds.length = Try.f13.params.toList.length) : (Rows.graphDoneSpec.fn H ds).results = [.lit (.bool true)] ∧ (Rows.graphDoneSpec.fn H ds).args = ds ∧ (Rows.graphDoneSpec.fn H ds).vars = [] := by
  match ds, h with
  | [d1], _ => exact ⟨rfl, rfl, rfl⟩

set_option maxRecDepth 100000 in
theorem graphDone_lifted (os : Os) (started : os.Started) (H : Type) (enc : TypeId × Value → H) :
    ReturnsInHanded {} Try.checked os 13 .any (Rows.graphDoneSpec.pre6 enc Try.prog Try.f13 Rows.graphDoneRow.domain false) (Rows.graphDoneSpec.post enc Try.prog Try.f13 false true false false) := by
  refine returnsInHanded_of_change (C := Try.checked) own started (by kernel_rfl) Try.func13
    (ChangeSpec.witness6 (enc := enc) (C := Try.checked) false ⟨#[], #[.agg #[.slice none 0 0, .slice none 0 0, .int .i64 0]], []⟩ 8 (by kernel_rfl) (by kernel_rfl) (by kernel_rfl) (by kernel_rfl)) ?_
  intro W base args ds gs before hval0 hW hcnd _
  have hval : ∀ (j : Nat) t v, Try.f13.params[j]? = some t → args[j]? = some v → Value.okWide Try.prog W .any base t v := hval0
  have hW' := hW
  refine law_post (P := Try.prog) (fn := Try.f13) (s := Rows.graphDoneSpec) (tb := 4) laidOut (by kernel_rfl) rfl Try.underlying4 rfl graphDone_spec hW' ?_
  obtain ⟨p, q, hA0, hV, rfl, hfz, hnd⟩ := hW
  have hA : DataW.TrodAll enc Try.prog W 0 (fun _ => true) true Try.f13.params.toList args.toList ds p := hA0
  rw [Try.params13] at hA hval
  obtain ⟨v0, vs0, d0, ds0, p0, q0, hargs, rfl, rfl, h0, r0⟩ := trodAll_cons hA
  obtain ⟨rfl, rfl, rfl⟩ := trodAll_nil r0
  obtain rfl : args = #[v0] := by cases args; simp_all
  clear hW' hA0 hval0 hV hfz hnd hcnd hargs
  obtain ⟨a0, ns0, av0, rfl, ti0, mn0, ma0, vw0, wf0, cp0⟩ := open_tree (hval 0 25 v0 rfl rfl) h0
  clear hval
  exact law_grDone a0 ns0 av0 W ti0 mn0 ma0

theorem graphDone_holds : Rows.GraphDoneSaid :=
  OpenClaim.holds_of_wide 13 Try.f13 rfl rfl rfl rfl rfl rfl rfl ⟨rfl, rfl, rfl, rfl, rfl⟩ rfl rfl rfl rfl rfl (by kernel_rfl) Try.func13 (by kernel_rfl)
    (of_decide_eq_true (by kernel_rfl)) (by unfold Func.isWrapper; first | (rw [if_pos (by decide +kernel)]; kernel_rfl) | (rw [if_neg (by decide +kernel)]; exact ⟨rfl, rfl⟩))
    (fun os started H enc _ => graphDone_lifted os started H enc)
end Go.Proofs.Ytnolbmfjgfojhaa

