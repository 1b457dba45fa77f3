/- Widths: used values (walks). -/
import Derived.Test.YtkajcipfmdpneaaWidN
namespace Go.Proofs.Ytkajcipfmdpneaa
open Go.RowKit

theorem lenMay_part {l : Ln} {lo lop : Int} (hl : -100000 ≤ lop) (h : lenMayB l lo lop = true) : partOk l := by
  intro hk
  simp only [lenMayB, hk] at h
  simp at h
  omega
theorem res_bd {l : Ln} {lo lop c : Int} (hlo : -1099511627776 ≤ lo) (hl : -100000 ≤ lop) (h : lenMayB l lo lop = true) (hc : c ≤ 1099511627776) : -20000000000000 ≤ resV l c ∧ resV l c ≤ 20000000000000 := by
  have hp := lenMay_part hl h
  unfold resV
  split
  · rename_i k1
    simp only [lenMayB, k1] at h
    simp at h
    omega
  · split
    · rename_i k2
      obtain ⟨n1, n2⟩ := hp k2
      obtain ⟨m1, m2⟩ := mul_bound (max c 0) l.n (by omega) (by omega) n1 n2
      omega
    · omega
theorem res_nn {l : Ln} {c : Int} (h : lenMayB l 0 0 = true) : 0 ≤ resV l c := by
  unfold resV
  split
  · rename_i k1
    simp only [lenMayB, k1] at h
    simp at h
    omega
  · split
    · rename_i k2
      simp only [lenMayB, k2] at h
      simp at h
      have : 0 ≤ max c 0 * l.n := Int.mul_nonneg (by omega) (by omega)
      omega
    · omega
theorem clamp_bd {s : Sty} {c x : Int} (h1 : -20000000000000 ≤ resV s.maxw c ∧ resV s.maxw c ≤ 20000000000000) (h2 : -20000000000000 ≤ resV s.minw c ∧ resV s.minw c ≤ 20000000000000) (hx : x ≤ 50000000000000) : 0 ≤ clampV s c x ∧ clampV s c x ≤ 50000000000000 := by
  simp only [clampV]
  split <;> split <;> omega

/-- what a box that flows is as wide as, ahead of its least and greatest width -/
def flow0 (s : Sty) (c : Int) : Int := if resB s.w then resV s.w c else max (c - (s.b3 + s.b1 + s.p3 + s.p1) - resV s.m3 c - resV s.m1 c) 0
def flowW (s : Sty) (c : Int) : Int := clampV s c (flow0 s c)
def flowL (s : Sty) (c : Int) : Int :=
  if resB s.w = true ∨ flowW s c ≠ flow0 s c then
    (if resB s.m3 = false ∧ resB s.m1 = false then max (c - (s.b3 + s.b1 + s.p3 + s.p1) - flowW s c) 0 / 2
     else if resB s.m3 = false then max (c - (s.b3 + s.b1 + s.p3 + s.p1) - flowW s c - resV s.m1 c) 0 else resV s.m3 c)
  else resV s.m3 c
def flowR (s : Sty) (c : Int) : Int := c - (s.b3 + s.b1 + s.p3 + s.p1) - flowW s c - flowL s c


/-- a left margin, of numbers alone -/
def leftN (bw bm bn : Bool) (c f m n x0 k : Int) : Int :=
  if bw = true ∨ k ≠ x0 then (if bm = false ∧ bn = false then max (c - f - k) 0 / 2 else if bm = false then max (c - f - k - n) 0 else m) else m
section
variable {bw bm bn : Bool} {c f m n x0 k : Int}
theorem leftN_m (h : bm = true) : leftN bw bm bn c f m n x0 k = m := by simp [leftN, h]
theorem leftN_0 (h : bw = false) (h' : k = x0) : leftN bw bm bn c f m n x0 k = m := by simp [leftN, h, h']
theorem leftN_2 (h0 : bw = true ∨ k ≠ x0) (h : ¬ bm = true) (h' : (!bn) = true) : leftN bw bm bn c f m n x0 k = max (c - f - k) 0 / 2 := by simp at h h'; simp [leftN, h0, h, h']
theorem leftN_3 (h0 : bw = true ∨ k ≠ x0) (h : ¬ bm = true) (h' : (!bn) = false) : leftN bw bm bn c f m n x0 k = max (c - f - k - n) 0 := by simp at h h'; simp [leftN, h0, h, h']
end
theorem flowL_eq (s : Sty) (c : Int) : flowL s c = leftN (resB s.w) (resB s.m3) (resB s.m1) c (s.b3 + s.b1 + s.p3 + s.p1) (resV s.m3 c) (resV s.m1 c) (flow0 s c) (flowW s c) := rfl


set_option maxRecDepth 100000 in
set_option maxHeartbeats 8000000 in
theorem flow_any (s : Sty) (c : Int) (hs : mayB s = true) (hc : c ≤ 1099511627776) (w : World) : Calls Try.prog 10 #[.agg s.cells, .int .i64 c] w fun e w' => e = .returned (.tuple #[usedV (cutV (flowW s (max c 0))) (cutV (flowL s (max c 0))) (cutV (flowR s (max c 0))), .bool (cutB (flowW s (max c 0)) || cutB (flowL s (max c 0)) || cutB (flowR s (max c 0)))]) ∧ Ext w w' := by
  obtain ⟨⟨e0, e1, e2, e3, et⟩, ew, emi, ema⟩ := may_facts hs
  obtain ⟨C, hC⟩ : ∃ C : Int, (if c < 0 then (0 : Int) else c) = C := ⟨_, rfl⟩
  have hCm : Hid (max c 0 = C) := by unfold Hid; rw [← hC]; split <;> omega
  have hC0 : 0 ≤ C := by rw [← hC]; split <;> omega
  have hC1 : C ≤ 1099511627776 := by rw [← hC]; split <;> omega
  have q1 := lenMay_part (by decide) e1
  have q3 := lenMay_part (by decide) e3
  have qw := lenMay_part (by decide) ew
  have qi := lenMay_part (by decide) emi
  have qa := lenMay_part (by decide) ema
  obtain ⟨r1, r1'⟩ := res_bd (c := C) (by decide) (by decide) e1 hC1
  obtain ⟨r3, r3'⟩ := res_bd (c := C) (by decide) (by decide) e3 hC1
  obtain ⟨rw1, rw1'⟩ := res_bd (c := C) (by decide) (by decide) ew hC1
  have ri := res_bd (c := C) (by decide) (by decide) emi hC1
  have ra := res_bd (c := C) (by decide) (by decide) ema hC1
  obtain ⟨hf1, hf2⟩ : 0 ≤ s.b3 + s.b1 + s.p3 + s.p1 ∧ s.b3 + s.b1 + s.p3 + s.p1 ≤ 4398046511104 := by
    have := et.b3; have := et.b1; have := et.p3; have := et.p1; omega
  have c3 := fun w => resolve_any s.m3 C q3 hC1 w
  have c1 := fun w => resolve_any s.m1 C q1 hC1 w
  have cw := fun w => resolve_any s.w C qw hC1 w
  have cf := fun w => frame_any s et w
  have cc := fun x w => clamp_any s C x qa qi hC1 w
  have hcl := fun x hx => clamp_bd (s := s) (c := C) (x := x) ra ri hx
  rw [hCm.out]
  rw [flowL_eq]
  unfold flowR
  rw [flowL_eq]
  have hx0 : flow0 s C ≤ 50000000000000 := by unfold flow0; split <;> omega
  obtain ⟨k1, k2⟩ := hcl _ hx0
  have e0W : flowW s C = clampV s C (flow0 s C) := rfl
  have e00 : flow0 s C = if resB s.w then resV s.w C else max (C - (s.b3 + s.b1 + s.p3 + s.p1) - resV s.m3 C - resV s.m1 C) 0 := rfl
  have cc := fun w => cc (flow0 s C) w
  rw [← e0W] at cc k1 k2
  clear e0W hcl ri ra e0 e1 e2 e3 ew emi ema hs q1 q3 qw qi qa
  generalize flowW s C = K at *
  generalize flow0 s C = X at *
  generalize resV s.m3 C = M at *
  generalize resV s.m1 C = N at *
  generalize resV s.w C = V at *
  generalize hF : s.b3 + s.b1 + s.p3 + s.p1 = F at *
  clear hF hCm
  obtain ⟨D2, hD2⟩ : ∃ D : Int, (if C - F - K < 0 then (0 : Int) else C - F - K) = D := ⟨_, rfl⟩
  obtain ⟨D3, hD3⟩ : ∃ D : Int, (if C - F - K - N < 0 then (0 : Int) else C - F - K - N) = D := ⟨_, rfl⟩
  have h2 : 0 ≤ D2 ∧ D2 ≤ 99999999999999 ∧ Hid (D2 = max (C - F - K) 0) := ⟨by rw [← hD2]; split <;> omega, by rw [← hD2]; split <;> omega, by unfold Hid; rw [← hD2]; split <;> omega⟩
  have h3 : 0 ≤ D3 ∧ D3 ≤ 99999999999999 ∧ Hid (D3 = max (C - F - K - N) 0) := ⟨by rw [← hD3]; split <;> omega, by rw [← hD3]; split <;> omega, by unfold Hid; rw [← hD3]; split <;> omega⟩
  obtain ⟨h2a, h2b, h2c⟩ := h2
  obtain ⟨h3a, h3b, h3c⟩ := h3
  cases hbw : resB s.w
  · rw [hbw] at e00
    simp only [Bool.false_eq_true, if_false] at e00
    have hX : (if C - F - M - N < 0 then (0 : Int) else C - F - M - N) = X := by rw [e00]; split <;> omega
    have hX0 : 0 ≤ X := by omega
    clear e00
    by_cases hk : K = X
    · subst hk
      go_enter Try.func10, Try.ntmps10
      go_wp2_with (first
      | (refine wpList_load_blk rfl 28 _ rfl w.heap.size rfl 28 s.cells _ (by assumption) Try.underlying28 rfl (info_style s) ?_)
      | (go_at_call 11; ((first | (with_reducible refine (c3 _).mono ?_) | (with_reducible refine (c1 _).mono ?_) | (with_reducible refine (cw _).mono ?_)); rintro e w' ⟨rfl, hb⟩; have B0 : Blk w' w.heap.size 28 s.cells := Blk.ext (by first | assumption | exact (Blk.new _ _ _).alloc _ | exact Blk.new _ _ _) hb; have C0 := B0.cell; have B1 : Blk w' (w.heap.size + 1) 32 #[.int .i64 0, .int .i64 0, .int .i64 0] := Blk.ext (by first | assumption | exact Blk.new1 _ _ _ _) hb; have C1 := B1.cell; have F1 := B1.frozen))
      | (go_at_call 19; ((with_reducible refine (cf _).mono ?_); rintro e w' ⟨rfl, hb⟩; have B0 : Blk w' w.heap.size 28 s.cells := Blk.ext (by first | assumption | exact (Blk.new _ _ _).alloc _ | exact Blk.new _ _ _) hb; have C0 := B0.cell; have B1 : Blk w' (w.heap.size + 1) 32 #[.int .i64 0, .int .i64 0, .int .i64 0] := Blk.ext (by first | assumption | exact Blk.new1 _ _ _ _) hb; have C1 := B1.cell; have F1 := B1.frozen))
      | (go_at_call 14; ((with_reducible refine (cc _).mono ?_); rintro e w' ⟨rfl, hb⟩; have B0 : Blk w' w.heap.size 28 s.cells := Blk.ext (by first | assumption | exact (Blk.new _ _ _).alloc _ | exact Blk.new _ _ _) hb; have C0 := B0.cell; have B1 : Blk w' (w.heap.size + 1) 32 #[.int .i64 0, .int .i64 0, .int .i64 0] := Blk.ext (by first | assumption | exact Blk.new1 _ _ _ _) hb; have C1 := B1.cell; have F1 := B1.frozen))
      | (go_at_call 24; ((with_reducible refine (cut_any _ _ _ _).mono ?_); rintro e w' ⟨rfl, hb⟩; have B0 : Blk w' w.heap.size 28 s.cells := Blk.ext (by first | assumption | exact (Blk.new _ _ _).alloc _ | exact Blk.new _ _ _) hb; have C0 := B0.cell; have B1 : Blk w' (w.heap.size + 1) 32 #[.int .i64 0, .int .i64 0, .int .i64 0] := Blk.ext (by first | assumption | exact Blk.new1 _ _ _ _) hb; have C1 := B1.cell; have F1 := B1.frozen)))
      all_goals refine bodyPost_ret (results_cell_tmp rfl _ _ (w.heap.size + 1) 32 _ _ rfl (((B1.set_ 0 _).set_ 1 _).set_ 2 _) Try.underlying32 rfl (by kernel_rfl)) rfl ⟨?_, ?_⟩
      all_goals first
        | ((repeat (first | exact Ext.refl _ | (with_reducible refine Ext.trans ?_ (by assumption)) | (with_reducible refine Ext.alloc ?_ _) | (with_reducible refine Ext.drew ?_) | (with_reducible refine Ext.drewN ?_ _) | (with_reducible refine Ext.set ?_ (by simp) _))); done)
        | (rw [leftN_0 rfl rfl]; rfl)
    · have hk' : (K != X) = true := by simpa using hk
      have hk2 : (K == X) = false := by simpa using hk
      go_enter Try.func10, Try.ntmps10
      go_wp2_with (first
      | (refine wpList_load_blk rfl 28 _ rfl w.heap.size rfl 28 s.cells _ (by assumption) Try.underlying28 rfl (info_style s) ?_)
      | (go_at_call 11; ((first | (with_reducible refine (c3 _).mono ?_) | (with_reducible refine (c1 _).mono ?_) | (with_reducible refine (cw _).mono ?_)); rintro e w' ⟨rfl, hb⟩; have B0 : Blk w' w.heap.size 28 s.cells := Blk.ext (by first | assumption | exact (Blk.new _ _ _).alloc _ | exact Blk.new _ _ _) hb; have C0 := B0.cell; have B1 : Blk w' (w.heap.size + 1) 32 #[.int .i64 0, .int .i64 0, .int .i64 0] := Blk.ext (by first | assumption | exact Blk.new1 _ _ _ _) hb; have C1 := B1.cell; have F1 := B1.frozen))
      | (go_at_call 19; ((with_reducible refine (cf _).mono ?_); rintro e w' ⟨rfl, hb⟩; have B0 : Blk w' w.heap.size 28 s.cells := Blk.ext (by first | assumption | exact (Blk.new _ _ _).alloc _ | exact Blk.new _ _ _) hb; have C0 := B0.cell; have B1 : Blk w' (w.heap.size + 1) 32 #[.int .i64 0, .int .i64 0, .int .i64 0] := Blk.ext (by first | assumption | exact Blk.new1 _ _ _ _) hb; have C1 := B1.cell; have F1 := B1.frozen))
      | (go_at_call 14; ((with_reducible refine (cc _).mono ?_); rintro e w' ⟨rfl, hb⟩; have B0 : Blk w' w.heap.size 28 s.cells := Blk.ext (by first | assumption | exact (Blk.new _ _ _).alloc _ | exact Blk.new _ _ _) hb; have C0 := B0.cell; have B1 : Blk w' (w.heap.size + 1) 32 #[.int .i64 0, .int .i64 0, .int .i64 0] := Blk.ext (by first | assumption | exact Blk.new1 _ _ _ _) hb; have C1 := B1.cell; have F1 := B1.frozen))
      | (go_at_call 24; ((with_reducible refine (cut_any _ _ _ _).mono ?_); rintro e w' ⟨rfl, hb⟩; have B0 : Blk w' w.heap.size 28 s.cells := Blk.ext (by first | assumption | exact (Blk.new _ _ _).alloc _ | exact Blk.new _ _ _) hb; have C0 := B0.cell; have B1 : Blk w' (w.heap.size + 1) 32 #[.int .i64 0, .int .i64 0, .int .i64 0] := Blk.ext (by first | assumption | exact Blk.new1 _ _ _ _) hb; have C1 := B1.cell; have F1 := B1.frozen)))
      all_goals refine bodyPost_ret (results_cell_tmp rfl _ _ (w.heap.size + 1) 32 _ _ rfl (((B1.set_ 0 _).set_ 1 _).set_ 2 _) Try.underlying32 rfl (by kernel_rfl)) rfl ⟨?_, ?_⟩
      all_goals first
      | ((repeat (first | exact Ext.refl _ | (with_reducible refine Ext.trans ?_ (by assumption)) | (with_reducible refine Ext.alloc ?_ _) | (with_reducible refine Ext.drew ?_) | (with_reducible refine Ext.drewN ?_ _) | (with_reducible refine Ext.set ?_ (by simp) _))); done)
      | (rw [leftN_m (by assumption)]; rfl)
      | (rw [leftN_2 (.inr hk) (by assumption) (by assumption), ← h2c.out]; rfl)
      | (rw [leftN_3 (.inr hk) (by assumption) (by assumption), ← h3c.out]; rfl)
  · rw [hbw] at e00
    simp only [if_true] at e00
    subst e00
    go_enter Try.func10, Try.ntmps10
    go_wp2_with (first
      | (refine wpList_load_blk rfl 28 _ rfl w.heap.size rfl 28 s.cells _ (by assumption) Try.underlying28 rfl (info_style s) ?_)
      | (go_at_call 11; ((first | (with_reducible refine (c3 _).mono ?_) | (with_reducible refine (c1 _).mono ?_) | (with_reducible refine (cw _).mono ?_)); rintro e w' ⟨rfl, hb⟩; have B0 : Blk w' w.heap.size 28 s.cells := Blk.ext (by first | assumption | exact (Blk.new _ _ _).alloc _ | exact Blk.new _ _ _) hb; have C0 := B0.cell; have B1 : Blk w' (w.heap.size + 1) 32 #[.int .i64 0, .int .i64 0, .int .i64 0] := Blk.ext (by first | assumption | exact Blk.new1 _ _ _ _) hb; have C1 := B1.cell; have F1 := B1.frozen))
      | (go_at_call 19; ((with_reducible refine (cf _).mono ?_); rintro e w' ⟨rfl, hb⟩; have B0 : Blk w' w.heap.size 28 s.cells := Blk.ext (by first | assumption | exact (Blk.new _ _ _).alloc _ | exact Blk.new _ _ _) hb; have C0 := B0.cell; have B1 : Blk w' (w.heap.size + 1) 32 #[.int .i64 0, .int .i64 0, .int .i64 0] := Blk.ext (by first | assumption | exact Blk.new1 _ _ _ _) hb; have C1 := B1.cell; have F1 := B1.frozen))
      | (go_at_call 14; ((with_reducible refine (cc _).mono ?_); rintro e w' ⟨rfl, hb⟩; have B0 : Blk w' w.heap.size 28 s.cells := Blk.ext (by first | assumption | exact (Blk.new _ _ _).alloc _ | exact Blk.new _ _ _) hb; have C0 := B0.cell; have B1 : Blk w' (w.heap.size + 1) 32 #[.int .i64 0, .int .i64 0, .int .i64 0] := Blk.ext (by first | assumption | exact Blk.new1 _ _ _ _) hb; have C1 := B1.cell; have F1 := B1.frozen))
      | (go_at_call 24; ((with_reducible refine (cut_any _ _ _ _).mono ?_); rintro e w' ⟨rfl, hb⟩; have B0 : Blk w' w.heap.size 28 s.cells := Blk.ext (by first | assumption | exact (Blk.new _ _ _).alloc _ | exact Blk.new _ _ _) hb; have C0 := B0.cell; have B1 : Blk w' (w.heap.size + 1) 32 #[.int .i64 0, .int .i64 0, .int .i64 0] := Blk.ext (by first | assumption | exact Blk.new1 _ _ _ _) hb; have C1 := B1.cell; have F1 := B1.frozen)))
    all_goals refine bodyPost_ret (results_cell_tmp rfl _ _ (w.heap.size + 1) 32 _ _ rfl (((B1.set_ 0 _).set_ 1 _).set_ 2 _) Try.underlying32 rfl (by kernel_rfl)) rfl ⟨?_, ?_⟩
    all_goals first
      | ((repeat (first | exact Ext.refl _ | (with_reducible refine Ext.trans ?_ (by assumption)) | (with_reducible refine Ext.alloc ?_ _) | (with_reducible refine Ext.drew ?_) | (with_reducible refine Ext.drewN ?_ _) | (with_reducible refine Ext.set ?_ (by simp) _))); done)
      | (rw [leftN_m (by assumption)]; rfl)
      | (rw [leftN_2 (.inl rfl) (by assumption) (by assumption), ← h2c.out]; rfl)
      | (rw [leftN_3 (.inl rfl) (by assumption) (by assumption), ← h3c.out]; rfl)
end Go.Proofs.Ytkajcipfmdpneaa
