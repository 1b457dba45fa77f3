/- Widths: used values (walks). -/
import Derived.Test.YtkajcipfmdpneaaWidF
namespace Go.Proofs.Ytkajcipfmdpneaa
open Go.RowKit

/-- what a box that floats is as wide as -/
def shr0 (s : Sty) (c l g : Int) : Int := if resB s.w then resV s.w c else min g (max l (c - (s.b3 + s.b1 + s.p3 + s.p1) - resV s.m3 c - resV s.m1 c))
def shrW (s : Sty) (c l g : Int) : Int := clampV s c (shr0 s c l g)

set_option maxRecDepth 100000 in
set_option maxHeartbeats 8000000 in
theorem shr_any (s : Sty) (c l g : Int) (hs : mayB s = true) (hc : c ≤ 1099511627776) (hl : -1099511627776 ≤ l) (hl' : l ≤ 1099511627776) (hg : -1099511627776 ≤ g) (hg' : g ≤ 1099511627776) (w : World) : Calls Try.prog 17 #[.agg s.cells, .int .i64 c, .int .i64 l, .int .i64 g] w fun e w' => e = .returned (.tuple #[usedV (cutV (shrW s (max c 0) l g)) (cutV (resV s.m3 (max c 0))) (cutV (resV s.m1 (max c 0))), .bool (cutB (shrW s (max c 0) l g) || cutB (resV s.m3 (max c 0)) || cutB (resV s.m1 (max c 0)))]) ∧ Ext w w' := by
  obtain ⟨⟨e0, e1, e2, e3, et⟩, ew, emi, ema⟩ := may_facts hs
  obtain ⟨C, hC⟩ : ∃ C : Int, (if c < 0 then (0 : Int) else c) = C := ⟨_, rfl⟩
  have hCm : Hid (max c 0 = C) := by unfold Hid; rw [← hC]; split <;> omega
  have hC0 : 0 ≤ C := by rw [← hC]; split <;> omega
  have hC1 : C ≤ 1099511627776 := by rw [← hC]; split <;> omega
  have q1 := lenMay_part (by decide) e1
  have q3 := lenMay_part (by decide) e3
  have qw := lenMay_part (by decide) ew
  have qi := lenMay_part (by decide) emi
  have qa := lenMay_part (by decide) ema
  obtain ⟨r1, r1'⟩ := res_bd (c := C) (by decide) (by decide) e1 hC1
  obtain ⟨r3, r3'⟩ := res_bd (c := C) (by decide) (by decide) e3 hC1
  obtain ⟨rw1, rw1'⟩ := res_bd (c := C) (by decide) (by decide) ew hC1
  have ri := res_bd (c := C) (by decide) (by decide) emi hC1
  have ra := res_bd (c := C) (by decide) (by decide) ema hC1
  obtain ⟨hf1, hf2⟩ : 0 ≤ s.b3 + s.b1 + s.p3 + s.p1 ∧ s.b3 + s.b1 + s.p3 + s.p1 ≤ 4398046511104 := by
    have := et.b3; have := et.b1; have := et.p3; have := et.p1; omega
  have c3 := fun w => resolve_any s.m3 C q3 hC1 w
  have c1 := fun w => resolve_any s.m1 C q1 hC1 w
  have cw := fun w => resolve_any s.w C qw hC1 w
  have cf := fun w => frame_any s et w
  have cc := fun x w => clamp_any s C x qa qi hC1 w
  have hcl := fun x hx => clamp_bd (s := s) (c := C) (x := x) ra ri hx
  have B00 : Blk ((w.alloc (.cells s.cells 28)).alloc (.cells #[.int .i64 0, .int .i64 0, .int .i64 0] 32)) w.heap.size 28 s.cells := (Blk.new _ _ _).alloc _
  rw [hCm.out]
  have hx0 : shr0 s C l g ≤ 50000000000000 := by unfold shr0; split <;> omega
  obtain ⟨k1, k2⟩ := hcl _ hx0
  have e0W : shrW s C l g = clampV s C (shr0 s C l g) := rfl
  have e00 : shr0 s C l g = if resB s.w then resV s.w C else min g (max l (C - (s.b3 + s.b1 + s.p3 + s.p1) - resV s.m3 C - resV s.m1 C)) := rfl
  have cc := fun w => cc (shr0 s C l g) w
  rw [← e0W] at cc k1 k2
  clear e0W hcl ri ra e0 e1 e2 e3 ew emi ema hs q1 q3 qw qi qa
  generalize shrW s C l g = K at *
  generalize shr0 s C l g = X at *
  generalize resV s.m3 C = M at *
  generalize resV s.m1 C = N at *
  generalize resV s.w C = V at *
  generalize hF : s.b3 + s.b1 + s.p3 + s.p1 = F at *
  clear hF hCm
  cases hbw : resB s.w
  · rw [hbw] at e00
    simp only [Bool.false_eq_true, if_false] at e00
    obtain ⟨Y, hY⟩ : ∃ Y : Int, (if l < C - F - M - N then C - F - M - N else l) = Y := ⟨_, rfl⟩
    have hX : (if Y < g then Y else g) = X := by rw [e00, ← hY]; split <;> split <;> omega
    have hX0 : -1099511627776 ≤ X := by rw [← hX, ← hY]; split <;> split <;> omega
    clear e00
    go_enter Try.func17, Try.ntmps17
    go_wp2_with (first
      | (refine wpList_load_blk rfl 28 _ rfl w.heap.size rfl 28 s.cells _ (by assumption) Try.underlying28 rfl (info_style s) ?_)
      | (go_at_call 11; ((first | (with_reducible refine (c3 _).mono ?_) | (with_reducible refine (c1 _).mono ?_) | (with_reducible refine (cw _).mono ?_)); rintro e w' ⟨rfl, hb⟩; have B0 : Blk w' w.heap.size 28 s.cells := Blk.ext (by first | assumption | exact (Blk.new _ _ _).alloc _ | exact Blk.new _ _ _) hb; have C0 := B0.cell; have B1 : Blk w' (w.heap.size + 1) 32 #[.int .i64 0, .int .i64 0, .int .i64 0] := Blk.ext (by first | assumption | exact Blk.new1 _ _ _ _) hb; have C1 := B1.cell; have F1 := B1.frozen))
      | (go_at_call 19; ((with_reducible refine (cf _).mono ?_); rintro e w' ⟨rfl, hb⟩; have B0 : Blk w' w.heap.size 28 s.cells := Blk.ext (by first | assumption | exact (Blk.new _ _ _).alloc _ | exact Blk.new _ _ _) hb; have C0 := B0.cell; have B1 : Blk w' (w.heap.size + 1) 32 #[.int .i64 0, .int .i64 0, .int .i64 0] := Blk.ext (by first | assumption | exact Blk.new1 _ _ _ _) hb; have C1 := B1.cell; have F1 := B1.frozen))
      | (go_at_call 14; ((with_reducible refine (cc _).mono ?_); rintro e w' ⟨rfl, hb⟩; have B0 : Blk w' w.heap.size 28 s.cells := Blk.ext (by first | assumption | exact (Blk.new _ _ _).alloc _ | exact Blk.new _ _ _) hb; have C0 := B0.cell; have B1 : Blk w' (w.heap.size + 1) 32 #[.int .i64 0, .int .i64 0, .int .i64 0] := Blk.ext (by first | assumption | exact Blk.new1 _ _ _ _) hb; have C1 := B1.cell; have F1 := B1.frozen))
      | (go_at_call 24; ((with_reducible refine (cut_any _ _ _ _).mono ?_); rintro e w' ⟨rfl, hb⟩; have B0 : Blk w' w.heap.size 28 s.cells := Blk.ext (by first | assumption | exact (Blk.new _ _ _).alloc _ | exact Blk.new _ _ _) hb; have C0 := B0.cell; have B1 : Blk w' (w.heap.size + 1) 32 #[.int .i64 0, .int .i64 0, .int .i64 0] := Blk.ext (by first | assumption | exact Blk.new1 _ _ _ _) hb; have C1 := B1.cell; have F1 := B1.frozen)))
    all_goals refine bodyPost_ret (results_cell_tmp rfl _ _ (w.heap.size + 1) 32 _ _ rfl (((B1.set_ 0 _).set_ 1 _).set_ 2 _) Try.underlying32 rfl (by kernel_rfl)) rfl ⟨?_, ?_⟩
    all_goals first
      | ((repeat (first | exact Ext.refl _ | (with_reducible refine Ext.trans ?_ (by assumption)) | (with_reducible refine Ext.alloc ?_ _) | (with_reducible refine Ext.drew ?_) | (with_reducible refine Ext.drewN ?_ _) | (with_reducible refine Ext.set ?_ (by simp) _))); done)
      | rfl
  · rw [hbw] at e00
    simp only [if_true] at e00
    subst e00
    go_enter Try.func17, Try.ntmps17
    go_wp2_with (first
      | (refine wpList_load_blk rfl 28 _ rfl w.heap.size rfl 28 s.cells _ (by assumption) Try.underlying28 rfl (info_style s) ?_)
      | (go_at_call 11; ((first | (with_reducible refine (c3 _).mono ?_) | (with_reducible refine (c1 _).mono ?_) | (with_reducible refine (cw _).mono ?_)); rintro e w' ⟨rfl, hb⟩; have B0 : Blk w' w.heap.size 28 s.cells := Blk.ext (by first | assumption | exact (Blk.new _ _ _).alloc _ | exact Blk.new _ _ _) hb; have C0 := B0.cell; have B1 : Blk w' (w.heap.size + 1) 32 #[.int .i64 0, .int .i64 0, .int .i64 0] := Blk.ext (by first | assumption | exact Blk.new1 _ _ _ _) hb; have C1 := B1.cell; have F1 := B1.frozen))
      | (go_at_call 19; ((with_reducible refine (cf _).mono ?_); rintro e w' ⟨rfl, hb⟩; have B0 : Blk w' w.heap.size 28 s.cells := Blk.ext (by first | assumption | exact (Blk.new _ _ _).alloc _ | exact Blk.new _ _ _) hb; have C0 := B0.cell; have B1 : Blk w' (w.heap.size + 1) 32 #[.int .i64 0, .int .i64 0, .int .i64 0] := Blk.ext (by first | assumption | exact Blk.new1 _ _ _ _) hb; have C1 := B1.cell; have F1 := B1.frozen))
      | (go_at_call 14; ((with_reducible refine (cc _).mono ?_); rintro e w' ⟨rfl, hb⟩; have B0 : Blk w' w.heap.size 28 s.cells := Blk.ext (by first | assumption | exact (Blk.new _ _ _).alloc _ | exact Blk.new _ _ _) hb; have C0 := B0.cell; have B1 : Blk w' (w.heap.size + 1) 32 #[.int .i64 0, .int .i64 0, .int .i64 0] := Blk.ext (by first | assumption | exact Blk.new1 _ _ _ _) hb; have C1 := B1.cell; have F1 := B1.frozen))
      | (go_at_call 24; ((with_reducible refine (cut_any _ _ _ _).mono ?_); rintro e w' ⟨rfl, hb⟩; have B0 : Blk w' w.heap.size 28 s.cells := Blk.ext (by first | assumption | exact (Blk.new _ _ _).alloc _ | exact Blk.new _ _ _) hb; have C0 := B0.cell; have B1 : Blk w' (w.heap.size + 1) 32 #[.int .i64 0, .int .i64 0, .int .i64 0] := Blk.ext (by first | assumption | exact Blk.new1 _ _ _ _) hb; have C1 := B1.cell; have F1 := B1.frozen)))
    all_goals refine bodyPost_ret (results_cell_tmp rfl _ _ (w.heap.size + 1) 32 _ _ rfl (((B1.set_ 0 _).set_ 1 _).set_ 2 _) Try.underlying32 rfl (by kernel_rfl)) rfl ⟨?_, ?_⟩
    all_goals first
      | ((repeat (first | exact Ext.refl _ | (with_reducible refine Ext.trans ?_ (by assumption)) | (with_reducible refine Ext.alloc ?_ _) | (with_reducible refine Ext.drew ?_) | (with_reducible refine Ext.drewN ?_ _) | (with_reducible refine Ext.set ?_ (by simp) _))); done)
      | rfl
end Go.Proofs.Ytkajcipfmdpneaa
