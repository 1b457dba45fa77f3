/- Layer 1: the chapter's examples; laws without the document's answer (walks). -/
import Derived.Test.YtfjpjipnbjkmbaaAuM
namespace Go.Proofs.Ytfjpjipnbjkmbaa
open Go.RowKit

theorem Rd.of_blk {w : World} {g : Nat} {t : TypeId} {cs : Array Value} (h : Blk w g t cs) : Rd w 1 (some ⟨g, 0, none⟩) cs.size cs.toList :=
  ⟨by simp, fun _ => ⟨g, 0, rfl, h.lt, fun j u hu => by rw [h.cell]; simpa using hu⟩⟩
theorem wk_sum (w : World) (g : Nat) (t : TypeId) (h : Blk w g t #[.int .i64 1, .int .i64 2, .int .i64 (-4)]) : Calls Try.prog 16 #[.slice (some ⟨g, 0, none⟩) 3 3] w fun e w' => e = .returned (.tuple #[.int .i64 (-1), .bool false]) ∧ Ext w w' := by
  have := au_sum (some ⟨g, 0, none⟩) 3 3 [1, 2, -4] w (Rd.of_blk h) (by unfold I64s; simp) (by omega)
  exact this
theorem wk_div (w : World) : Calls Try.prog 18 #[.int .i64 (-7), .int .i64 3, .int .i64 2] w fun e w' => e = .returned (.tuple #[.int .i64 (-11), .bool false]) ∧ Ext w w' :=
  muldiv_any (-7) 3 2 (by omega) (by omega) (by omega) (by omega) (by omega) (by omega) (by omega) w
theorem wk_part (w : World) : Calls Try.prog 20 #[.int .i64 600, .int .i64 3333] w fun e w' => e = .returned (.tuple #[.int .i64 199, .bool false]) ∧ Ext w w' :=
  part_any 600 3333 (by omega) (by omega) (by omega) (by omega) w
theorem wk_cut (w : World) : Calls Try.prog 10 #[.int .i64 1099511627777] w fun e w' => e = .returned (.tuple #[.int .i64 1099511627776, .bool true]) ∧ w = w' := au_cut 1099511627777 w
theorem wk_within (w : World) : Calls Try.prog 13 #[.int .i64 5, .int .i64 4, .int .i64 3] w fun e w' => e = .returned (.int .i64 4) ∧ w = w' := au_within 5 4 3 w

set_option maxRecDepth 100000 in
set_option maxHeartbeats 2000000 in
theorem works_any (w : World) : Calls Try.prog 15 #[] w fun e w' => e = .returned (.bool true) ∧ Ext w w' := by
  go_enter Try.func15, Try.ntmps15
  go_wp2_with (first
    | (go_at_call 10; ((with_reducible refine (wk_cut _).mono ?_); rintro e w' ⟨rfl, rfl⟩))
    | (go_at_call 13; ((with_reducible refine (wk_within _).mono ?_); rintro e w' ⟨rfl, rfl⟩))
    | (go_at_call 18; ((with_reducible refine (wk_div _).mono ?_); rintro e w' ⟨rfl, hb2⟩))
    | (go_at_call 20; ((with_reducible refine (wk_part _).mono ?_); rintro e w' ⟨rfl, hb3⟩))
    | (go_at_call 16; ((refine (wk_sum _ _ _ (Blk.new _ _ _)).mono ?_); rintro e w' ⟨rfl, hb1⟩)))
  go_ret
  exact ⟨rfl, ((((Ext.refl _).alloc _).trans hb1).trans hb2).trans hb3⟩

theorem law_within (x l m : Int) (w : World) : Calls Try.prog 8 #[.int .i64 x, .int .i64 l, .int .i64 m] w fun e w' => e = .returned (.bool true) ∧ Ext w w' := by
  have hv : withinV x l m = max l (min x m) := rfl
  have c1 := fun w => au_within x l m w
  have c2 := fun w => au_within (max l (min x m)) l m w
  have hv2 : m < l ∨ withinV (max l (min x m)) l m = max l (min x m) := by unfold withinV; omega
  rw [hv] at c1
  clear hv
  by_cases h : m < l
  · have e : max l (min x m) = l := by omega
    rw [e] at c1
    clear c2 hv2 e
    go_enter Try.func8, Try.ntmps8
    go_wp2_with (first
      | (go_at_call 13; ((with_reducible refine (c1 _).mono ?_); rintro e w' ⟨rfl, rfl⟩))
      | (go_at_call 15; ((with_reducible refine (works_any _).mono ?_); rintro e w' ⟨rfl, hb⟩)))
    all_goals go_ret
    all_goals exact ⟨rfl, hb⟩
  · have hv3 : withinV (max l (min x m)) l m = max l (min x m) := by omega
    rw [hv3] at c2
    clear hv2 hv3
    have hA : l ≤ x ∧ x ≤ m ∧ max l (min x m) = x ∨ x < l ∧ max l (min x m) = l ∨ l < m ∧ m < x ∧ max l (min x m) = m ∨ l = m ∧ m < x ∧ max l (min x m) = m := by omega
    generalize max l (min x m) = A at *
    rcases hA with ⟨h1, h2, rfl⟩ | ⟨h1, rfl⟩ | ⟨h0, h1, rfl⟩ | ⟨rfl, h1, rfl⟩
    all_goals
      go_enter Try.func8, Try.ntmps8
      go_wp2_with (first
        | (go_at_call 13; ((first | (with_reducible refine (c1 _).mono ?_) | (with_reducible refine (c2 _).mono ?_)); rintro e w' ⟨rfl, rfl⟩))
        | (go_at_call 15; ((with_reducible refine (works_any _).mono ?_); rintro e w' ⟨rfl, hb⟩)))
      all_goals go_ret
      all_goals exact ⟨rfl, hb⟩
end Go.Proofs.Ytfjpjipnbjkmbaa
