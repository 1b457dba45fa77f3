/-
  The law TreeParts returns true for every tree and every number of 16 bits, and leaves its arguments as they were.
  Conditions: none
-/
import Derived.Test.YtnolbmfjgfojhaaPaZ
import Derived.Test.YtnolbmfjgfojhaaTreeO
namespace Go.Proofs.Ytnolbmfjgfojhaa
open Go.ChangeShapes Go.WideShapes Go.ChangeAt Go.RowKit

theorem treeParts_spec {H : Type} (ds : List (DataW H)) (h : ds.length = Try.f8.params.toList.length) : (Rows.treePartsSpec.fn H ds).results = [.lit (.bool true)] ∧ (Rows.treePartsSpec.fn H ds).args = ds ∧ (Rows.treePartsSpec.fn H ds).vars = [] := by
  match ds, h with
  | [d1, d2], _ => exact ⟨rfl, rfl, rfl⟩

set_option maxRecDepth 100000 in
theorem treeParts_lifted (os : Os) (started : os.Started) (H : Type) (enc : TypeId × Value → H) :
    ReturnsInHanded {} Try.checked os 8 .any (Rows.treePartsSpec.pre6 enc Try.prog Try.f8 Rows.treePartsRow.domain false) (Rows.treePartsSpec.post enc Try.prog Try.f8 false true false false) := by
  refine returnsInHanded_of_change_sized (C := Try.checked) own started (by kernel_rfl) Try.func8
    (ChangeSpec.witness6 (enc := enc) (C := Try.checked) false ⟨#[], #[.agg #[.slice none 0 0, .slice none 0 0, .int .i64 0], .int .u16 0], []⟩ 8 (by kernel_rfl) (by kernel_rfl) (by kernel_rfl) (by kernel_rfl)) ?_
  intro W base args ds gs before hval0 hW hcnd hsz0 _
  have hsz : (DataW.weightsEach Try.prog (Try.f8.params.toList ++ Rows.treePartsSpec.plain.varTypes Try.prog) (ds ++ gs)).all (· ≤ reachBytes) = true := hsz0
  clear hsz0
  have hval : ∀ (j : Nat) t v, Try.f8.params[j]? = some t → args[j]? = some v → Value.okWide Try.prog W .any base t v := hval0
  have hW' := hW
  refine law_post (P := Try.prog) (fn := Try.f8) (s := Rows.treePartsSpec) (tb := 4) laidOut (by kernel_rfl) rfl Try.underlying4 rfl treeParts_spec hW' ?_
  obtain ⟨p, q, hA0, hV, rfl, hfz, hnd⟩ := hW
  have hA : DataW.TrodAll enc Try.prog W 0 (fun _ => true) true Try.f8.params.toList args.toList ds p := hA0
  rw [Try.params8] at hA hval hsz
  obtain ⟨v0, vs0, d0, ds0, p0, q0, hargs, rfl, rfl, h0, r0⟩ := trodAll_cons hA
  obtain ⟨v1, vs1, d1, ds1, p1, q1, rfl, rfl, rfl, h1, r1⟩ := trodAll_cons r0
  obtain ⟨rfl, rfl, rfl⟩ := trodAll_nil r1
  have hgs : gs = [] := by
    cases gs with
    | nil => rfl
    | cons d ds => exact hV.elim
  subst hgs
  obtain rfl : args = #[v0, v1] := by cases args; simp_all
  clear hW' hA0 hval0 hV hfz hnd hcnd hargs
  obtain ⟨a0, ns0, av0, rfl, ti0, mn0, ma0, vw0, wf0, cp0⟩ := open_tree (hval 0 25 v0 rfl rfl) h0
  have sz0 := sized_tree hsz (j := 0) rfl rfl h0
  obtain ⟨a1, rfl, rfl, rfl, wf1⟩ := open_int Try.underlying48 (hval 1 48 v1 rfl rfl) h1
  clear hval
  exact law_tyParts a0 ns0 av0 a1 (bd_u16 wf1) W ti0 sz0.1 sz0.2

theorem treeParts_holds : Rows.TreePartsSaid :=
  OpenClaim.holds_of_wide 8 Try.f8 rfl rfl rfl rfl rfl rfl rfl ⟨rfl, rfl, rfl, rfl, rfl⟩ rfl rfl rfl rfl rfl (by kernel_rfl) Try.func8 (by kernel_rfl)
    (of_decide_eq_true (by kernel_rfl)) (by unfold Func.isWrapper; first | (rw [if_pos (by decide +kernel)]; kernel_rfl) | (rw [if_neg (by decide +kernel)]; exact ⟨rfl, rfl⟩))
    (fun os started H enc _ => treeParts_lifted os started H enc)
end Go.Proofs.Ytnolbmfjgfojhaa

