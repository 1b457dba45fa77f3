/- The law on clamped widths: its walk. -/
import Derived.Test.YtkajcipfmdpneaaWidW
namespace Go.Proofs.Ytkajcipfmdpneaa
open Go.RowKit

set_option maxRecDepth 100000 in
set_option maxHeartbeats 8000000 in
theorem law_clamp (s : Sty) (c v x : Int) (hn : -9223372036854775808 ≤ s.w.n) (hn' : s.w.n ≤ 9223372036854775807) (w : World) : Calls Try.prog 5 #[.agg s.cells, .int .i64 c, .int .i64 v, .int .i64 x] w fun e w' => e = .returned (.bool true) ∧ Ext w w' := by
  have B00 : Blk (w.alloc (.cells s.cells 28)) w.heap.size 28 s.cells := Blk.new _ _ _
  cases hM : mayB s
  · -- what may not be
    go_enter Try.func5, Try.ntmps5
    go_wp2_with (first
      | (refine wpList_load_blkg rfl 28 _ rfl w.heap.size rfl 28 s.cells _ (by assumption) Try.underlying28 rfl (info_style s) ?_)
      | (go_at_call 8; (((with_reducible refine (may_f s hM _).mono ?_)); rintro e w' ⟨rfl, hb⟩; have B0 : Blk w' w.heap.size 28 s.cells := Blk.ext (by repeat (first | assumption | exact Blk.new _ _ _ | (with_reducible apply Blk.alloc))) hb; have C0 := B0.cell))
      | (go_at_call 9; (((with_reducible refine (works_any _).mono ?_)); rintro e w' ⟨rfl, hb⟩; have B0 : Blk w' w.heap.size 28 s.cells := Blk.ext (by repeat (first | assumption | exact Blk.new _ _ _ | (with_reducible apply Blk.alloc))) hb; have C0 := B0.cell)))
    all_goals go_ret
    all_goals refine ⟨rfl, ?_⟩
    all_goals ((repeat (first | exact Ext.refl _ | (with_reducible refine Ext.trans ?_ (by assumption)) | (with_reducible refine Ext.alloc ?_ _) | (with_reducible refine Ext.drew ?_) | (with_reducible refine Ext.drewN ?_ _) | (with_reducible refine Ext.set ?_ (by simp) _))); done)
  obtain ⟨⟨e0, e1, e2, e3, et⟩, ew, emi, ema⟩ := may_facts hM
  have qi := lenMay_part (by decide) emi
  have qa := lenMay_part (by decide) ema
  have hM : Hid _ := hM
  have hM := hM.out
  clear e0 e1 e2 e3 et ew emi ema
  by_cases hc : -1099511627776 ≤ c ∧ c ≤ 1099511627776
  rotate_left
  · skip
    go_enter Try.func5, Try.ntmps5
    go_wp2_with (first
      | (refine wpList_load_blkg rfl 28 _ rfl w.heap.size rfl 28 s.cells _ (by assumption) Try.underlying28 rfl (info_style s) ?_)
      | (go_at_call 8; (((with_reducible refine (may_t s hM _).mono ?_)); rintro e w' ⟨rfl, hb⟩; have B0 : Blk w' w.heap.size 28 s.cells := Blk.ext (by repeat (first | assumption | exact Blk.new _ _ _ | (with_reducible apply Blk.alloc))) hb; have C0 := B0.cell))
      | (go_at_call 13; ((first | (with_reducible refine (within_t _ (by omega) (by omega) _).mono ?_) | (with_reducible refine (within_f _ (by omega) _).mono ?_)); rintro e w' ⟨rfl, rfl⟩))
      | (go_at_call 9; (((with_reducible refine (works_any _).mono ?_)); rintro e w' ⟨rfl, hb⟩; have B0 : Blk w' w.heap.size 28 s.cells := Blk.ext (by repeat (first | assumption | exact Blk.new _ _ _ | (with_reducible apply Blk.alloc))) hb; have C0 := B0.cell)))
    all_goals go_ret
    all_goals refine ⟨rfl, ?_⟩
    all_goals ((repeat (first | exact Ext.refl _ | (with_reducible refine Ext.trans ?_ (by assumption)) | (with_reducible refine Ext.alloc ?_ _) | (with_reducible refine Ext.drew ?_) | (with_reducible refine Ext.drewN ?_ _) | (with_reducible refine Ext.set ?_ (by simp) _))); done)
  by_cases hv : -1099511627776 ≤ v ∧ v ≤ 1099511627776
  rotate_left
  · skip
    go_enter Try.func5, Try.ntmps5
    go_wp2_with (first
      | (refine wpList_load_blkg rfl 28 _ rfl w.heap.size rfl 28 s.cells _ (by assumption) Try.underlying28 rfl (info_style s) ?_)
      | (go_at_call 8; (((with_reducible refine (may_t s hM _).mono ?_)); rintro e w' ⟨rfl, hb⟩; have B0 : Blk w' w.heap.size 28 s.cells := Blk.ext (by repeat (first | assumption | exact Blk.new _ _ _ | (with_reducible apply Blk.alloc))) hb; have C0 := B0.cell))
      | (go_at_call 13; ((first | (with_reducible refine (within_t _ (by omega) (by omega) _).mono ?_) | (with_reducible refine (within_f _ (by omega) _).mono ?_)); rintro e w' ⟨rfl, rfl⟩))
      | (go_at_call 9; (((with_reducible refine (works_any _).mono ?_)); rintro e w' ⟨rfl, hb⟩; have B0 : Blk w' w.heap.size 28 s.cells := Blk.ext (by repeat (first | assumption | exact Blk.new _ _ _ | (with_reducible apply Blk.alloc))) hb; have C0 := B0.cell)))
    all_goals go_ret
    all_goals refine ⟨rfl, ?_⟩
    all_goals ((repeat (first | exact Ext.refl _ | (with_reducible refine Ext.trans ?_ (by assumption)) | (with_reducible refine Ext.alloc ?_ _) | (with_reducible refine Ext.drew ?_) | (with_reducible refine Ext.drewN ?_ _) | (with_reducible refine Ext.set ?_ (by simp) _))); done)
  by_cases hx : -1099511627776 ≤ x ∧ x ≤ 1099511627776
  rotate_left
  · skip
    go_enter Try.func5, Try.ntmps5
    go_wp2_with (first
      | (refine wpList_load_blkg rfl 28 _ rfl w.heap.size rfl 28 s.cells _ (by assumption) Try.underlying28 rfl (info_style s) ?_)
      | (go_at_call 8; (((with_reducible refine (may_t s hM _).mono ?_)); rintro e w' ⟨rfl, hb⟩; have B0 : Blk w' w.heap.size 28 s.cells := Blk.ext (by repeat (first | assumption | exact Blk.new _ _ _ | (with_reducible apply Blk.alloc))) hb; have C0 := B0.cell))
      | (go_at_call 13; ((first | (with_reducible refine (within_t _ (by omega) (by omega) _).mono ?_) | (with_reducible refine (within_f _ (by omega) _).mono ?_)); rintro e w' ⟨rfl, rfl⟩))
      | (go_at_call 9; (((with_reducible refine (works_any _).mono ?_)); rintro e w' ⟨rfl, hb⟩; have B0 : Blk w' w.heap.size 28 s.cells := Blk.ext (by repeat (first | assumption | exact Blk.new _ _ _ | (with_reducible apply Blk.alloc))) hb; have C0 := B0.cell)))
    all_goals go_ret
    all_goals refine ⟨rfl, ?_⟩
    all_goals ((repeat (first | exact Ext.refl _ | (with_reducible refine Ext.trans ?_ (by assumption)) | (with_reducible refine Ext.alloc ?_ _) | (with_reducible refine Ext.drew ?_) | (with_reducible refine Ext.drewN ?_ _) | (with_reducible refine Ext.set ?_ (by simp) _))); done)
  obtain ⟨w1, w2⟩ := hc
  have cv := fun w => clamp_any s c v qa qi w2 w
  have cx := fun w => clamp_any s c x qa qi w2 w
  have ca := fun w => clamp_any s c (clampV s c v) qa qi w2 w
  rw [clamp_idem] at ca
  have m1 := clamp_mono s c v x
  have m2 := clamp_mono s c x v
  have m0 := clamp_nn s c v
  generalize clampV s c v = A at *
  generalize clampV s c x = B at *
  have t1 : -1000 ≤ s.w.n.tmod 1000 ∧ s.w.n.tmod 1000 ≤ 1000 := by rw [tmod_lit]; split <;> omega
  have t2 : -100000 ≤ s.w.n.tmod 1000 ∧ s.w.n.tmod 1000 ≤ 100000 := by omega
  have c0 := fun w => resolve_any ⟨2, s.w.n.tmod 1000⟩ 0 (fun _ => t2) (by decide) w
  rw [← resV_part_lo 0 _ (by decide)] at c0
  have m3 : v ≤ x → A ≤ B := m1
  have m4 : x ≤ v → B ≤ A := m2
  clear m1 m2 t1 t2
  have G : v < x ∧ A ≤ B ∨ v = x ∧ A = B ∨ x < v ∧ B ≤ A := by omega
  clear m3 m4
  rcases G with ⟨g1, g2⟩ | ⟨g1, g2⟩ | ⟨g1, g2⟩
  · skip
    go_enter Try.func5, Try.ntmps5
    go_wp2_with (first
      | (refine wpList_load_blkg rfl 28 _ rfl w.heap.size rfl 28 s.cells _ (by assumption) Try.underlying28 rfl (info_style s) ?_)
      | (go_at_call 8; (((with_reducible refine (may_t s hM _).mono ?_)); rintro e w' ⟨rfl, hb⟩; have B0 : Blk w' w.heap.size 28 s.cells := Blk.ext (by repeat (first | assumption | exact Blk.new _ _ _ | (with_reducible apply Blk.alloc))) hb; have C0 := B0.cell))
      | (go_at_call 13; ((first | (with_reducible refine (within_t _ (by omega) (by omega) _).mono ?_) | (with_reducible refine (within_f _ (by omega) _).mono ?_)); rintro e w' ⟨rfl, rfl⟩))
      | (go_at_call 9; (((with_reducible refine (works_any _).mono ?_)); rintro e w' ⟨rfl, hb⟩; have B0 : Blk w' w.heap.size 28 s.cells := Blk.ext (by repeat (first | assumption | exact Blk.new _ _ _ | (with_reducible apply Blk.alloc))) hb; have C0 := B0.cell))
      | (go_at_call 14; ((first | (with_reducible refine (cv _).mono ?_) | (with_reducible refine (cx _).mono ?_) | (with_reducible refine (ca _).mono ?_)); rintro e w' ⟨rfl, hb⟩; have B0 : Blk w' w.heap.size 28 s.cells := Blk.ext (by repeat (first | assumption | exact Blk.new _ _ _ | (with_reducible apply Blk.alloc))) hb; have C0 := B0.cell))
      | (go_at_call 11; (((with_reducible refine (c0 _).mono ?_)); rintro e w' ⟨rfl, hb⟩; have B0 : Blk w' w.heap.size 28 s.cells := Blk.ext (by repeat (first | assumption | exact Blk.new _ _ _ | (with_reducible apply Blk.alloc))) hb; have C0 := B0.cell))
      | (go_at_call 15; (((with_reducible refine (part_any _ _).mono ?_)); rintro e w' ⟨rfl, hb⟩; have B0 : Blk w' w.heap.size 28 s.cells := Blk.ext (by repeat (first | assumption | exact Blk.new _ _ _ | (with_reducible apply Blk.alloc))) hb; have C0 := B0.cell)))
    all_goals go_ret
    all_goals refine ⟨rfl, ?_⟩
    all_goals ((repeat (first | exact Ext.refl _ | (with_reducible refine Ext.trans ?_ (by assumption)) | (with_reducible refine Ext.alloc ?_ _) | (with_reducible refine Ext.drew ?_) | (with_reducible refine Ext.drewN ?_ _) | (with_reducible refine Ext.set ?_ (by simp) _))); done)
  · subst g1 g2
    go_enter Try.func5, Try.ntmps5
    go_wp2_with (first
      | (refine wpList_load_blkg rfl 28 _ rfl w.heap.size rfl 28 s.cells _ (by assumption) Try.underlying28 rfl (info_style s) ?_)
      | (go_at_call 8; (((with_reducible refine (may_t s hM _).mono ?_)); rintro e w' ⟨rfl, hb⟩; have B0 : Blk w' w.heap.size 28 s.cells := Blk.ext (by repeat (first | assumption | exact Blk.new _ _ _ | (with_reducible apply Blk.alloc))) hb; have C0 := B0.cell))
      | (go_at_call 13; ((first | (with_reducible refine (within_t _ (by omega) (by omega) _).mono ?_) | (with_reducible refine (within_f _ (by omega) _).mono ?_)); rintro e w' ⟨rfl, rfl⟩))
      | (go_at_call 9; (((with_reducible refine (works_any _).mono ?_)); rintro e w' ⟨rfl, hb⟩; have B0 : Blk w' w.heap.size 28 s.cells := Blk.ext (by repeat (first | assumption | exact Blk.new _ _ _ | (with_reducible apply Blk.alloc))) hb; have C0 := B0.cell))
      | (go_at_call 14; ((first | (with_reducible refine (cv _).mono ?_) | (with_reducible refine (cx _).mono ?_) | (with_reducible refine (ca _).mono ?_)); rintro e w' ⟨rfl, hb⟩; have B0 : Blk w' w.heap.size 28 s.cells := Blk.ext (by repeat (first | assumption | exact Blk.new _ _ _ | (with_reducible apply Blk.alloc))) hb; have C0 := B0.cell))
      | (go_at_call 11; (((with_reducible refine (c0 _).mono ?_)); rintro e w' ⟨rfl, hb⟩; have B0 : Blk w' w.heap.size 28 s.cells := Blk.ext (by repeat (first | assumption | exact Blk.new _ _ _ | (with_reducible apply Blk.alloc))) hb; have C0 := B0.cell))
      | (go_at_call 15; (((with_reducible refine (part_any _ _).mono ?_)); rintro e w' ⟨rfl, hb⟩; have B0 : Blk w' w.heap.size 28 s.cells := Blk.ext (by repeat (first | assumption | exact Blk.new _ _ _ | (with_reducible apply Blk.alloc))) hb; have C0 := B0.cell)))
    all_goals go_ret
    all_goals refine ⟨rfl, ?_⟩
    all_goals ((repeat (first | exact Ext.refl _ | (with_reducible refine Ext.trans ?_ (by assumption)) | (with_reducible refine Ext.alloc ?_ _) | (with_reducible refine Ext.drew ?_) | (with_reducible refine Ext.drewN ?_ _) | (with_reducible refine Ext.set ?_ (by simp) _))); done)
  · skip
    go_enter Try.func5, Try.ntmps5
    go_wp2_with (first
      | (refine wpList_load_blkg rfl 28 _ rfl w.heap.size rfl 28 s.cells _ (by assumption) Try.underlying28 rfl (info_style s) ?_)
      | (go_at_call 8; (((with_reducible refine (may_t s hM _).mono ?_)); rintro e w' ⟨rfl, hb⟩; have B0 : Blk w' w.heap.size 28 s.cells := Blk.ext (by repeat (first | assumption | exact Blk.new _ _ _ | (with_reducible apply Blk.alloc))) hb; have C0 := B0.cell))
      | (go_at_call 13; ((first | (with_reducible refine (within_t _ (by omega) (by omega) _).mono ?_) | (with_reducible refine (within_f _ (by omega) _).mono ?_)); rintro e w' ⟨rfl, rfl⟩))
      | (go_at_call 9; (((with_reducible refine (works_any _).mono ?_)); rintro e w' ⟨rfl, hb⟩; have B0 : Blk w' w.heap.size 28 s.cells := Blk.ext (by repeat (first | assumption | exact Blk.new _ _ _ | (with_reducible apply Blk.alloc))) hb; have C0 := B0.cell))
      | (go_at_call 14; ((first | (with_reducible refine (cv _).mono ?_) | (with_reducible refine (cx _).mono ?_) | (with_reducible refine (ca _).mono ?_)); rintro e w' ⟨rfl, hb⟩; have B0 : Blk w' w.heap.size 28 s.cells := Blk.ext (by repeat (first | assumption | exact Blk.new _ _ _ | (with_reducible apply Blk.alloc))) hb; have C0 := B0.cell))
      | (go_at_call 11; (((with_reducible refine (c0 _).mono ?_)); rintro e w' ⟨rfl, hb⟩; have B0 : Blk w' w.heap.size 28 s.cells := Blk.ext (by repeat (first | assumption | exact Blk.new _ _ _ | (with_reducible apply Blk.alloc))) hb; have C0 := B0.cell))
      | (go_at_call 15; (((with_reducible refine (part_any _ _).mono ?_)); rintro e w' ⟨rfl, hb⟩; have B0 : Blk w' w.heap.size 28 s.cells := Blk.ext (by repeat (first | assumption | exact Blk.new _ _ _ | (with_reducible apply Blk.alloc))) hb; have C0 := B0.cell)))
    all_goals go_ret
    all_goals refine ⟨rfl, ?_⟩
    all_goals ((repeat (first | exact Ext.refl _ | (with_reducible refine Ext.trans ?_ (by assumption)) | (with_reducible refine Ext.alloc ?_ _) | (with_reducible refine Ext.drew ?_) | (with_reducible refine Ext.drewN ?_ _) | (with_reducible refine Ext.set ?_ (by simp) _))); done)
end Go.Proofs.Ytkajcipfmdpneaa

