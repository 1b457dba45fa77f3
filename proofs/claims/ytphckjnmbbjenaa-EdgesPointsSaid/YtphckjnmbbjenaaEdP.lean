/- Layer 2: plain laws on rectangles. -/
import Derived.Test.YtphckjnmbbjenaaEdC
namespace Go.Proofs.Ytphckjnmbbjenaa

structure Rc.Near (r : Rc) (m : Int) : Prop where
  (x1 : -m ≤ r.x) (x2 : r.x ≤ m) (y1 : -m ≤ r.y) (y2 : r.y ≤ m) (w1 : -m ≤ r.w) (w2 : r.w ≤ m) (h1 : -m ≤ r.h) (h2 : r.h ≤ m)
theorem Rc.Near.ok {r : Rc} {m : Int} (h : r.Near m) (hm : m ≤ 9223372036854775807) : r.Ok := by
  obtain ⟨a, b, c, d, e, f, g, i⟩ := h
  constructor <;> omega
theorem Rc.Near.mono {r : Rc} {m n : Int} (h : r.Near m) (hm : m ≤ n) : r.Near n := by
  obtain ⟨a, b, c, d, e, f, g, i⟩ := h
  constructor <;> omega
theorem cut_id {x : Int} (h1 : -1099511627776 ≤ x) (h2 : x ≤ 1099511627776) : cutV x = x ∧ cutB x = false := by
  constructor
  · unfold cutV; rw [if_neg (by omega), if_neg (by omega)]
  · simp [cutB]; omega
def joinR (a b : Rc) : Rc := ⟨min a.x b.x, min a.y b.y, max (a.x + a.w) (b.x + b.w) - min a.x b.x, max (a.y + a.h) (b.y + b.h) - min a.y b.y⟩
def cov2 (a b : Rc) : Rc := if a.some then (if b.some then joinR a b else a) else (if b.some then b else ⟨0, 0, 0, 0⟩)
theorem some_t {r : Rc} (h : r.some = true) : 0 < r.w ∧ 0 < r.h := by simpa [Rc.some] using h
theorem some_f {r : Rc} (h : r.some = false) : r.w ≤ 0 ∨ r.h ≤ 0 := by
  simp [Rc.some] at h; omega
theorem some_iff {r : Rc} : r.some = true ↔ (0 < r.w ∧ 0 < r.h) := by simp [Rc.some]
theorem Rc.eq {a b : Rc} (h1 : a.x = b.x) (h2 : a.y = b.y) (h3 : a.w = b.w) (h4 : a.h = b.h) : a = b := by
  cases a; cases b; simp at *; exact ⟨h1, h2, h3, h4⟩

theorem cover2 (a b : Rc) (ha : a.Near 17179869184) (hb : b.Near 17179869184) : coverR [a, b] = cov2 a b ∧ coverB [a, b] = false := by
  obtain ⟨ax, ay, aw, ah⟩ := a
  obtain ⟨bx, bY, bw, bh⟩ := b
  obtain ⟨a1, a2, a3, a4, a5, a6, a7, a8⟩ := ha
  obtain ⟨b1, b2, b3, b4, b5, b6, b7, b8⟩ := hb
  simp only at *
  cases hsa : Rc.some ⟨ax, ay, aw, ah⟩ <;> cases hsb : Rc.some ⟨bx, bY, bw, bh⟩
  · simp [coverR, coverB, covA, stepA, cov2, hsa, hsb]
  · have := some_t hsb
    simp only at this
    simp only [coverR, coverB, covA, covB, stepA, stepB, cov2, hsa, hsb, List.foldl_cons, List.foldl_nil, if_true, Bool.false_eq_true, if_false]
    rw [(cut_id (x := bx) (by omega) (by omega)).1, (cut_id (x := bY) (by omega) (by omega)).1, (cut_id (x := bx) (by omega) (by omega)).2, (cut_id (x := bY) (by omega) (by omega)).2,
      (cut_id (x := bx + bw - bx) (by omega) (by omega)).1, (cut_id (x := bY + bh - bY) (by omega) (by omega)).1, (cut_id (x := bx + bw - bx) (by omega) (by omega)).2, (cut_id (x := bY + bh - bY) (by omega) (by omega)).2]
    exact ⟨Rc.eq rfl rfl (by simp; omega) (by simp; omega), rfl⟩
  · have := some_t hsa
    simp only at this
    simp only [coverR, coverB, covA, covB, stepA, stepB, cov2, hsa, hsb, List.foldl_cons, List.foldl_nil, if_true, Bool.false_eq_true, if_false]
    rw [(cut_id (x := ax) (by omega) (by omega)).1, (cut_id (x := ay) (by omega) (by omega)).1, (cut_id (x := ax) (by omega) (by omega)).2, (cut_id (x := ay) (by omega) (by omega)).2,
      (cut_id (x := ax + aw - ax) (by omega) (by omega)).1, (cut_id (x := ay + ah - ay) (by omega) (by omega)).1, (cut_id (x := ax + aw - ax) (by omega) (by omega)).2, (cut_id (x := ay + ah - ay) (by omega) (by omega)).2]
    exact ⟨Rc.eq rfl rfl (by simp; omega) (by simp; omega), rfl⟩
  · have h1 := some_t hsa
    have h2 := some_t hsb
    simp only at h1 h2
    simp only [coverR, coverB, covA, covB, stepA, stepB, cov2, hsa, hsb, List.foldl_cons, List.foldl_nil, if_true, Bool.false_eq_true, if_false, joinR]
    generalize hX : min ax bx = X
    generalize hY : min ay bY = Y
    have e : X ≤ ax ∧ X ≤ bx ∧ (X = ax ∨ X = bx) := by omega
    have f : Y ≤ ay ∧ Y ≤ bY ∧ (Y = ay ∨ Y = bY) := by omega
    rw [(cut_id (x := X) (by omega) (by omega)).1, (cut_id (x := Y) (by omega) (by omega)).1, (cut_id (x := X) (by omega) (by omega)).2, (cut_id (x := Y) (by omega) (by omega)).2,
      (cut_id (x := ax + aw - X) (by omega) (by omega)).1, (cut_id (x := ay + ah - Y) (by omega) (by omega)).1, (cut_id (x := ax + aw - X) (by omega) (by omega)).2, (cut_id (x := ay + ah - Y) (by omega) (by omega)).2,
      (cut_id (x := bx + bw - X) (by omega) (by omega)).1, (cut_id (x := bY + bh - Y) (by omega) (by omega)).1, (cut_id (x := bx + bw - X) (by omega) (by omega)).2, (cut_id (x := bY + bh - Y) (by omega) (by omega)).2]
    exact ⟨Rc.eq rfl rfl (by simp; omega) (by simp; omega), rfl⟩

def movedR (r : Rc) (dx dy : Int) : Rc := ⟨r.x + dx, r.y + dy, r.w, r.h⟩
theorem moved_some (r : Rc) (dx dy : Int) : (movedR r dx dy).some = r.some := rfl
theorem moved_meet (a b : Rc) (dx dy : Int) : meetB (movedR a dx dy) (movedR b dx dy) = meetB a b := by
  unfold meetB
  rw [moved_some, moved_some, show decide ((movedR a dx dy).x < (movedR b dx dy).x + (movedR b dx dy).w) = decide (a.x < b.x + b.w) from decide_eq_decide.2 (by simp only [movedR]; omega), show decide ((movedR b dx dy).x < (movedR a dx dy).x + (movedR a dx dy).w) = decide (b.x < a.x + a.w) from decide_eq_decide.2 (by simp only [movedR]; omega), show decide ((movedR a dx dy).y < (movedR b dx dy).y + (movedR b dx dy).h) = decide (a.y < b.y + b.h) from decide_eq_decide.2 (by simp only [movedR]; omega), show decide ((movedR b dx dy).y < (movedR a dx dy).y + (movedR a dx dy).h) = decide (b.y < a.y + a.h) from decide_eq_decide.2 (by simp only [movedR]; omega)]
theorem moved_inside (a b : Rc) (dx dy : Int) : insideB (movedR a dx dy) (movedR b dx dy) = insideB a b := by
  unfold insideB
  rw [moved_some, moved_some, show decide ((movedR b dx dy).x ≤ (movedR a dx dy).x ∧ (movedR a dx dy).x + (movedR a dx dy).w ≤ (movedR b dx dy).x + (movedR b dx dy).w) = decide (b.x ≤ a.x ∧ a.x + a.w ≤ b.x + b.w) from decide_eq_decide.2 (by simp only [movedR]; omega), show decide ((movedR b dx dy).y ≤ (movedR a dx dy).y ∧ (movedR a dx dy).y + (movedR a dx dy).h ≤ (movedR b dx dy).y + (movedR b dx dy).h) = decide (b.y ≤ a.y ∧ a.y + a.h ≤ b.y + b.h) from decide_eq_decide.2 (by simp only [movedR]; omega)]
theorem moved_cov (a b : Rc) (dx dy : Int) (h : a.some = true ∨ b.some = true) : cov2 (movedR a dx dy) (movedR b dx dy) = movedR (cov2 a b) dx dy := by
  unfold cov2
  rw [moved_some, moved_some]
  cases ha : a.some <;> cases hb : b.some
  · rw [ha, hb] at h; simp at h
  · simp
  · simp
  · simp only [if_true, joinR, movedR]
    refine Rc.eq ?_ ?_ ?_ ?_ <;> simp <;> omega
theorem cov2_some (a b : Rc) : (cov2 a b).some = (a.some || b.some) := by
  unfold cov2
  cases ha : a.some <;> cases hb : b.some
  · rfl
  · simp [hb]
  · simp [ha]
  · have h1 := some_t ha
    have h2 := some_t hb
    simp only [if_true, Bool.or_true]
    rw [some_iff]
    simp only [joinR]
    omega
theorem cov2_none {a b : Rc} (ha : a.some = false) (hb : b.some = false) : cov2 a b = ⟨0, 0, 0, 0⟩ := by simp [cov2, ha, hb]
end Go.Proofs.Ytphckjnmbbjenaa
