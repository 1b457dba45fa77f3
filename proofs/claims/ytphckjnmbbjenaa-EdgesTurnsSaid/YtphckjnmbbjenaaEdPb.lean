/- Layer 2: plain laws on three rectangles. -/
import Derived.Test.YtphckjnmbbjenaaEdP
namespace Go.Proofs.Ytphckjnmbbjenaa
theorem inside_iff (a b : Rc) : insideB a b = true ↔ ((0 < a.w ∧ 0 < a.h) → ((0 < b.w ∧ 0 < b.h) ∧ (b.x ≤ a.x ∧ a.x + a.w ≤ b.x + b.w) ∧ (b.y ≤ a.y ∧ a.y + a.h ≤ b.y + b.h))) := by
  unfold insideB Rc.some
  by_cases h1 : 0 < a.w <;> by_cases h2 : 0 < a.h <;> simp [h1, h2, and_assoc]
theorem meet_iff (a b : Rc) : meetB a b = true ↔ ((0 < a.w ∧ 0 < a.h) ∧ (0 < b.w ∧ 0 < b.h) ∧ a.x < b.x + b.w ∧ b.x < a.x + a.w ∧ a.y < b.y + b.h ∧ b.y < a.y + a.h) := by
  unfold meetB Rc.some
  simp [and_assoc]
theorem inside_trans {a b c : Rc} (h : insideB a b = true) (k : insideB b c = true) : insideB a c = true := by
  rw [inside_iff] at *
  omega
theorem inside_meet {a b c : Rc} (h : insideB a b = true) (k : meetB a c = true) : meetB b c = true := by
  rw [inside_iff] at h
  rw [meet_iff] at *
  omega
theorem inside_meets {z c : Rc} (h : insideB c z = true) (k : c.some = true) : meetB z c = true := by
  rw [inside_iff] at h
  rw [meet_iff]
  have := some_t k
  omega
theorem meet_none {z c : Rc} (h : c.some = false) : meetB z c = false := by
  cases hm : meetB z c with
  | false => rfl
  | true =>
    rw [meet_iff] at hm
    have := some_f h
    omega
theorem cov_left (a b : Rc) : insideB a (cov2 a b) = true := by
  rw [inside_iff]
  intro h
  unfold cov2
  have ha : a.some = true := some_iff.2 h
  rw [ha]
  simp only [if_true]
  split
  · rename_i hb
    have := some_t hb
    simp only [joinR]
    omega
  · omega
theorem cov_right (a b : Rc) : insideB b (cov2 a b) = true := by
  rw [inside_iff]
  intro h
  unfold cov2
  have hb : b.some = true := some_iff.2 h
  rw [hb]
  simp only [if_true]
  split
  · rename_i ha
    have := some_t ha
    simp only [joinR]
    omega
  · omega
theorem cov2_eq (a b : Rc) : cov2 a b = if a.some then (if b.some then joinR a b else a) else (if b.some then b else ⟨0, 0, 0, 0⟩) := rfl
def mxW (X s : Int) (r : Rc) : Int := if r.some then max s (r.x + r.w - X) else s
def mxH (Y s : Int) (r : Rc) : Int := if r.some then max s (r.y + r.h - Y) else s
theorem cover3 (c a b : Rc) (hc : c.Near 1073741824) (ha : a.Near 1073741824) (hb : b.Near 1073741824) : coverR [c, a, b] = cov2 (cov2 a b) c ∧ coverB [c, a, b] = false := by
  have hj := cov2_some a b
  have hcov : ∀ X Y, covA [c, a, b] = (true, X, Y) → coverR [c, a, b] = ⟨cutV X, cutV Y, (covB X Y [c, a, b]).1, (covB X Y [c, a, b]).2.1⟩ ∧ coverB [c, a, b] = (cutB X || cutB Y || (covB X Y [c, a, b]).2.2.1 || (covB X Y [c, a, b]).2.2.2) := fun X Y h => by rw [coverR, coverB, h]; exact ⟨rfl, rfl⟩
  obtain ⟨a1, a2, a3, a4, a5, a6, a7, a8⟩ := ha
  obtain ⟨b1, b2, b3, b4, b5, b6, b7, b8⟩ := hb
  obtain ⟨c1, c2, c3, c4, c5, c6, c7, c8⟩ := hc
  have key : ∀ (X Y : Int) (l : List Rc), -1099511627776 ≤ X → X ≤ 1099511627776 → -1099511627776 ≤ Y → Y ≤ 1099511627776 → (∀ r ∈ l, r.some = true → -1099511627776 ≤ r.x + r.w - X ∧ r.x + r.w - X ≤ 1099511627776 ∧ -1099511627776 ≤ r.y + r.h - Y ∧ r.y + r.h - Y ≤ 1099511627776) →
      ∀ s : Int × Int × Bool × Bool, l.foldl (stepB X Y) s = (l.foldl (mxW X) s.1, l.foldl (mxH Y) s.2.1, s.2.2.1, s.2.2.2) := by
    intro X Y l h1 h2 h3 h4
    induction l with
    | nil => intro _ s; rfl
    | cons r t ih =>
      intro hl s
      rw [List.foldl_cons, ih (fun q hq => hl q (List.mem_cons_of_mem _ hq))]
      cases hs : r.some
      · simp [stepB, mxW, mxH, hs]
      · obtain ⟨q1, q2, q3, q4⟩ := hl r (List.mem_cons_self ..) hs
        have e1 := cut_id q1 q2
        have e2 := cut_id q3 q4
        simp [stepB, mxW, mxH, hs, e1, e2]
  rw [cov2_eq (cov2 a b) c, hj, cov2_eq a b]
  cases hsa : a.some <;> cases hsb : b.some <;> cases hsc : c.some
  · simp [coverR, coverB, covA, stepA, hsa, hsb, hsc]
  · have tc := some_t hsc
    have eA : covA [c, a, b] = (true, c.x, c.y) := by simp [covA, stepA, hsa, hsb, hsc]
    obtain ⟨h1, h2⟩ := hcov _ _ eA
    rw [h1, h2, covB, key _ _ [c, a, b] (by omega) (by omega) (by omega) (by omega) (by
      intro r hr hs
      simp only [List.mem_cons, List.not_mem_nil, or_false] at hr
      rcases hr with rfl | rfl | rfl <;> first | omega | (simp_all; done))]
    rw [(cut_id (x := c.x) (by omega) (by omega)).1, (cut_id (x := c.y) (by omega) (by omega)).1, (cut_id (x := c.x) (by omega) (by omega)).2, (cut_id (x := c.y) (by omega) (by omega)).2]
    simp only [List.foldl_cons, List.foldl_nil, mxW, mxH, hsa, hsb, hsc, if_true, Bool.false_eq_true, if_false, Bool.or_self, Bool.or_false, Bool.false_or, Bool.or_true, joinR, and_true]
    refine Rc.eq ?_ ?_ ?_ ?_ <;> simp <;> omega
  · have tb := some_t hsb
    have eA : covA [c, a, b] = (true, b.x, b.y) := by simp [covA, stepA, hsa, hsb, hsc]
    obtain ⟨h1, h2⟩ := hcov _ _ eA
    rw [h1, h2, covB, key _ _ [c, a, b] (by omega) (by omega) (by omega) (by omega) (by
      intro r hr hs
      simp only [List.mem_cons, List.not_mem_nil, or_false] at hr
      rcases hr with rfl | rfl | rfl <;> first | omega | (simp_all; done))]
    rw [(cut_id (x := b.x) (by omega) (by omega)).1, (cut_id (x := b.y) (by omega) (by omega)).1, (cut_id (x := b.x) (by omega) (by omega)).2, (cut_id (x := b.y) (by omega) (by omega)).2]
    simp only [List.foldl_cons, List.foldl_nil, mxW, mxH, hsa, hsb, hsc, if_true, Bool.false_eq_true, if_false, Bool.or_self, Bool.or_false, Bool.false_or, Bool.or_true, joinR, and_true]
    refine Rc.eq ?_ ?_ ?_ ?_ <;> simp <;> omega
  · have tc := some_t hsc; have tb := some_t hsb
    have eA : covA [c, a, b] = (true, min c.x b.x, min c.y b.y) := by simp [covA, stepA, hsa, hsb, hsc]
    obtain ⟨h1, h2⟩ := hcov _ _ eA
    rw [h1, h2, covB, key _ _ [c, a, b] (by omega) (by omega) (by omega) (by omega) (by
      intro r hr hs
      simp only [List.mem_cons, List.not_mem_nil, or_false] at hr
      rcases hr with rfl | rfl | rfl <;> first | omega | (simp_all; done))]
    rw [(cut_id (x := min c.x b.x) (by omega) (by omega)).1, (cut_id (x := min c.y b.y) (by omega) (by omega)).1, (cut_id (x := min c.x b.x) (by omega) (by omega)).2, (cut_id (x := min c.y b.y) (by omega) (by omega)).2]
    simp only [List.foldl_cons, List.foldl_nil, mxW, mxH, hsa, hsb, hsc, if_true, Bool.false_eq_true, if_false, Bool.or_self, Bool.or_false, Bool.false_or, Bool.or_true, joinR, and_true]
    refine Rc.eq ?_ ?_ ?_ ?_ <;> simp <;> omega
  · have ta := some_t hsa
    have eA : covA [c, a, b] = (true, a.x, a.y) := by simp [covA, stepA, hsa, hsb, hsc]
    obtain ⟨h1, h2⟩ := hcov _ _ eA
    rw [h1, h2, covB, key _ _ [c, a, b] (by omega) (by omega) (by omega) (by omega) (by
      intro r hr hs
      simp only [List.mem_cons, List.not_mem_nil, or_false] at hr
      rcases hr with rfl | rfl | rfl <;> first | omega | (simp_all; done))]
    rw [(cut_id (x := a.x) (by omega) (by omega)).1, (cut_id (x := a.y) (by omega) (by omega)).1, (cut_id (x := a.x) (by omega) (by omega)).2, (cut_id (x := a.y) (by omega) (by omega)).2]
    simp only [List.foldl_cons, List.foldl_nil, mxW, mxH, hsa, hsb, hsc, if_true, Bool.false_eq_true, if_false, Bool.or_self, Bool.or_false, Bool.false_or, Bool.or_true, joinR, and_true]
    refine Rc.eq ?_ ?_ ?_ ?_ <;> simp <;> omega
  · have tc := some_t hsc; have ta := some_t hsa
    have eA : covA [c, a, b] = (true, min c.x a.x, min c.y a.y) := by simp [covA, stepA, hsa, hsb, hsc]
    obtain ⟨h1, h2⟩ := hcov _ _ eA
    rw [h1, h2, covB, key _ _ [c, a, b] (by omega) (by omega) (by omega) (by omega) (by
      intro r hr hs
      simp only [List.mem_cons, List.not_mem_nil, or_false] at hr
      rcases hr with rfl | rfl | rfl <;> first | omega | (simp_all; done))]
    rw [(cut_id (x := min c.x a.x) (by omega) (by omega)).1, (cut_id (x := min c.y a.y) (by omega) (by omega)).1, (cut_id (x := min c.x a.x) (by omega) (by omega)).2, (cut_id (x := min c.y a.y) (by omega) (by omega)).2]
    simp only [List.foldl_cons, List.foldl_nil, mxW, mxH, hsa, hsb, hsc, if_true, Bool.false_eq_true, if_false, Bool.or_self, Bool.or_false, Bool.false_or, Bool.or_true, joinR, and_true]
    refine Rc.eq ?_ ?_ ?_ ?_ <;> simp <;> omega
  · have ta := some_t hsa; have tb := some_t hsb
    have eA : covA [c, a, b] = (true, min a.x b.x, min a.y b.y) := by simp [covA, stepA, hsa, hsb, hsc]
    obtain ⟨h1, h2⟩ := hcov _ _ eA
    rw [h1, h2, covB, key _ _ [c, a, b] (by omega) (by omega) (by omega) (by omega) (by
      intro r hr hs
      simp only [List.mem_cons, List.not_mem_nil, or_false] at hr
      rcases hr with rfl | rfl | rfl <;> first | omega | (simp_all; done))]
    rw [(cut_id (x := min a.x b.x) (by omega) (by omega)).1, (cut_id (x := min a.y b.y) (by omega) (by omega)).1, (cut_id (x := min a.x b.x) (by omega) (by omega)).2, (cut_id (x := min a.y b.y) (by omega) (by omega)).2]
    simp only [List.foldl_cons, List.foldl_nil, mxW, mxH, hsa, hsb, hsc, if_true, Bool.false_eq_true, if_false, Bool.or_self, Bool.or_false, Bool.false_or, Bool.or_true, joinR, and_true]
    refine Rc.eq ?_ ?_ ?_ ?_ <;> simp <;> omega
  · have tc := some_t hsc; have ta := some_t hsa; have tb := some_t hsb
    have eA : covA [c, a, b] = (true, min (min c.x a.x) b.x, min (min c.y a.y) b.y) := by simp [covA, stepA, hsa, hsb, hsc]
    obtain ⟨h1, h2⟩ := hcov _ _ eA
    rw [h1, h2, covB, key _ _ [c, a, b] (by omega) (by omega) (by omega) (by omega) (by
      intro r hr hs
      simp only [List.mem_cons, List.not_mem_nil, or_false] at hr
      rcases hr with rfl | rfl | rfl <;> first | omega | (simp_all; done))]
    rw [(cut_id (x := min (min c.x a.x) b.x) (by omega) (by omega)).1, (cut_id (x := min (min c.y a.y) b.y) (by omega) (by omega)).1, (cut_id (x := min (min c.x a.x) b.x) (by omega) (by omega)).2, (cut_id (x := min (min c.y a.y) b.y) (by omega) (by omega)).2]
    simp only [List.foldl_cons, List.foldl_nil, mxW, mxH, hsa, hsb, hsc, if_true, Bool.false_eq_true, if_false, Bool.or_self, Bool.or_false, Bool.false_or, Bool.or_true, joinR, and_true]
    refine Rc.eq ?_ ?_ ?_ ?_ <;> simp <;> omega
end Go.Proofs.Ytphckjnmbbjenaa
