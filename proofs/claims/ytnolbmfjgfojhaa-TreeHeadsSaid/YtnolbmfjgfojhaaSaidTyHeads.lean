/-
  The law TreeHeads returns true for every tree, every number and every list of nodes, and leaves its arguments as they were.
  Conditions: none
-/
import Derived.Test.YtnolbmfjgfojhaaTyU
import Derived.Test.YtnolbmfjgfojhaaTreeO
namespace Go.Proofs.Ytnolbmfjgfojhaa
open Go.ChangeShapes Go.WideShapes Go.ChangeAt Go.RowKit

theorem treeHeads_spec {H : Type} (ds : List (DataW H)) (h : ds.length = Try.f6.params.toList.length) : (Rows.treeHeadsSpec.fn H ds).results = [.lit (.bool true)] ∧ (Rows.treeHeadsSpec.fn H ds).args = ds ∧ (Rows.treeHeadsSpec.fn H ds).vars = [] := by
  match ds, h with
  | [d1, d2, d3], _ => exact ⟨rfl, rfl, rfl⟩

set_option maxRecDepth 100000 in
theorem treeHeads_lifted (os : Os) (started : os.Started) (H : Type) (enc : TypeId × Value → H) :
    ReturnsInHanded {} Try.checked os 6 .any (Rows.treeHeadsSpec.pre6 enc Try.prog Try.f6 Rows.treeHeadsRow.domain false) (Rows.treeHeadsSpec.post enc Try.prog Try.f6 false true false false) := by
  refine returnsInHanded_of_change_sized (C := Try.checked) own started (by kernel_rfl) Try.func6
    (ChangeSpec.witness6 (enc := enc) (C := Try.checked) false ⟨#[], #[.agg #[.slice none 0 0, .slice none 0 0, .int .i64 0], .int .u16 0, .slice none 0 0], []⟩ 8 (by kernel_rfl) (by kernel_rfl) (by kernel_rfl) (by kernel_rfl)) ?_
  intro W base args ds gs before hval0 hW hcnd hsz0 _
  have hsz : (DataW.weightsEach Try.prog (Try.f6.params.toList ++ Rows.treeHeadsSpec.plain.varTypes Try.prog) (ds ++ gs)).all (· ≤ reachBytes) = true := hsz0
  clear hsz0
  have hval : ∀ (j : Nat) t v, Try.f6.params[j]? = some t → args[j]? = some v → Value.okWide Try.prog W .any base t v := hval0
  have hW' := hW
  refine law_post (P := Try.prog) (fn := Try.f6) (s := Rows.treeHeadsSpec) (tb := 4) laidOut (by kernel_rfl) rfl Try.underlying4 rfl treeHeads_spec hW' ?_
  obtain ⟨p, q, hA0, hV, rfl, hfz, hnd⟩ := hW
  have hA : DataW.TrodAll enc Try.prog W 0 (fun _ => true) true Try.f6.params.toList args.toList ds p := hA0
  rw [Try.params6] at hA hval hsz
  obtain ⟨v0, vs0, d0, ds0, p0, q0, hargs, rfl, rfl, h0, r0⟩ := trodAll_cons hA
  obtain ⟨v1, vs1, d1, ds1, p1, q1, rfl, rfl, rfl, h1, r1⟩ := trodAll_cons r0
  obtain ⟨v2, vs2, d2, ds2, p2, q2, rfl, rfl, rfl, h2, r2⟩ := trodAll_cons r1
  obtain ⟨rfl, rfl, rfl⟩ := trodAll_nil r2
  have hgs : gs = [] := by
    cases gs with
    | nil => rfl
    | cons d ds => exact hV.elim
  subst hgs
  obtain rfl : args = #[v0, v1, v2] := by cases args; simp_all
  clear hW' hA0 hval0 hV hfz hnd hcnd hargs
  obtain ⟨a0, ns0, av0, rfl, ti0, mn0, ma0, vw0, wf0, cp0⟩ := open_tree (hval 0 25 v0 rfl rfl) h0
  have sz0 := sized_tree hsz (j := 0) rfl rfl h0
  obtain ⟨a1, rfl, rfl, rfl, wf1⟩ := open_int Try.underlying48 (hval 1 48 v1 rfl rfl) h1
  obtain ⟨A2, n2, c2, a2, rfl, rd2, mx2⟩ := open_nodes (hval 2 22 v2 rfl rfl) h2
  clear hval
  exact law_tyHeads a0 ns0 av0 a1 (bd_u16 wf1) A2 n2 c2 a2 W ti0 sz0.1 sz0.2 cp0 rd2

theorem treeHeads_holds : Rows.TreeHeadsSaid :=
  OpenClaim.holds_of_wide 6 Try.f6 rfl rfl rfl rfl rfl rfl rfl ⟨rfl, rfl, rfl, rfl, rfl⟩ rfl rfl rfl rfl rfl (by kernel_rfl) Try.func6 (by kernel_rfl)
    (of_decide_eq_true (by kernel_rfl)) (by unfold Func.isWrapper; first | (rw [if_pos (by decide +kernel)]; kernel_rfl) | (rw [if_neg (by decide +kernel)]; exact ⟨rfl, rfl⟩))
    (fun os started H enc _ => treeHeads_lifted os started H enc)
end Go.Proofs.Ytnolbmfjgfojhaa

