/- Layer 2: rectangles point by point (plain laws). -/
import Derived.Test.YtphckjnmbbjenaaEdP
import Derived.Test.YtphckjnmbbjenaaEdL
namespace Go.Proofs.Ytphckjnmbbjenaa
open Go.RowKit
/-- a rectangle of small numbers -/
structure Sm (r : Rc) : Prop where
  (x : -9 ≤ r.x ∧ r.x ≤ 9) (y : -9 ≤ r.y ∧ r.y ≤ 9) (w : -11 ≤ r.w ∧ r.w ≤ 11) (h : -11 ≤ r.h ∧ r.h ≤ 11)
theorem tmod10 (x : Int) : -9 ≤ x.tmod 10 ∧ x.tmod 10 ≤ 9 := by
  rw [tmod_lit]
  split <;> omega
theorem tmod12 (x : Int) : -11 ≤ x.tmod 12 ∧ x.tmod 12 ≤ 11 := by
  rw [tmod_lit]
  split <;> omega
theorem small_sm (r : Rc) : Sm (smallR r) := ⟨tmod10 _, tmod10 _, tmod12 _, tmod12 _⟩
theorem Sm.near {r : Rc} (h : Sm r) : r.Near 17179869184 := by
  obtain ⟨h1, h2, h3, h4⟩ := h
  exact ⟨by omega, by omega, by omega, by omega, by omega, by omega, by omega, by omega⟩
theorem Sm.ok {r : Rc} (h : Sm r) : r.Ok := h.near.ok (by omega)
theorem has_iff {r : Rc} {x y : Int} : hasB r x y = true ↔ (r.x ≤ x ∧ x < r.x + r.w) ∧ (r.y ≤ y ∧ y < r.y + r.h) := by simp [hasB]
theorem meet_iff {a b : Rc} : meetB a b = true ↔ ((((a.some = true ∧ b.some = true) ∧ a.x < b.x + b.w) ∧ b.x < a.x + a.w) ∧ a.y < b.y + b.h) ∧ b.y < a.y + a.h := by simp [meetB]
theorem inside_iff {a b : Rc} : insideB a b = true ↔ a.some = false ∨ ((b.some = true ∧ (b.x ≤ a.x ∧ a.x + a.w ≤ b.x + b.w)) ∧ (b.y ≤ a.y ∧ a.y + a.h ≤ b.y + b.h)) := by simp [insideB]
section
variable {a b : Rc}
theorem cov_has (x y : Int) (h : hasB a x y = true ∨ hasB b x y = true) : hasB (cov2 a b) x y = true := by
  rw [has_iff, has_iff] at h
  have ha : a.some = true → 0 < a.w ∧ 0 < a.h := some_t
  unfold cov2
  cases hsa : a.some <;> cases hsb : b.some
  · have h1 := some_f hsa
    have h2 := some_f hsb
    omega
  · have h1 := some_f hsa
    simp only [Bool.false_eq_true, if_false, if_true]
    rw [has_iff]; omega
  · have h1 := some_f hsb
    simp only [Bool.false_eq_true, if_false, if_true]
    rw [has_iff]; omega
  · simp only [if_true]
    rw [has_iff]
    simp only [joinR]
    omega
/-- the cover's bounds -/
theorem cov_bd (ha : Sm a) (hb : Sm b) : (-9 ≤ (cov2 a b).x ∧ (cov2 a b).x ≤ 9) ∧ (-9 ≤ (cov2 a b).y ∧ (cov2 a b).y ≤ 9) ∧ (0 ≤ (cov2 a b).w ∧ (cov2 a b).w ≤ 29) ∧ (0 ≤ (cov2 a b).h ∧ (cov2 a b).h ≤ 29) ∧ (cov2 a b).x + (cov2 a b).w ≤ 30 ∧ (cov2 a b).y + (cov2 a b).h ≤ 30 ∧ (0 < (cov2 a b).w ↔ 0 < (cov2 a b).h) := by
  obtain ⟨a1, a2, a3, a4⟩ := ha
  obtain ⟨b1, b2, b3, b4⟩ := hb
  unfold cov2
  cases hsa : a.some <;> cases hsb : b.some
  · simp
  · have h1 := some_t hsb
    simp only [Bool.false_eq_true, if_false, if_true]
    omega
  · have h1 := some_t hsa
    simp only [Bool.false_eq_true, if_false, if_true]
    omega
  · have h1 := some_t hsa
    have h2 := some_t hsb
    simp only [if_true, joinR]
    omega
/-- the cover's outer rows and columns have points -/
theorem cov_edge (h : 0 < (cov2 a b).w) : (∃ y, hasB a (cov2 a b).x y = true ∨ hasB b (cov2 a b).x y = true) ∧ (∃ y, hasB a ((cov2 a b).x + (cov2 a b).w - 1) y = true ∨ hasB b ((cov2 a b).x + (cov2 a b).w - 1) y = true) ∧
    (∃ x, hasB a x (cov2 a b).y = true ∨ hasB b x (cov2 a b).y = true) ∧ (∃ x, hasB a x ((cov2 a b).y + (cov2 a b).h - 1) = true ∨ hasB b x ((cov2 a b).y + (cov2 a b).h - 1) = true) := by
  unfold cov2 at h ⊢
  simp only [has_iff]
  cases hsa : a.some <;> cases hsb : b.some
  · rw [hsa, hsb] at h; simp at h
  · have h1 := some_t hsb
    simp only [Bool.false_eq_true, if_false, if_true]
    exact ⟨⟨b.y, .inr (by omega)⟩, ⟨b.y, .inr (by omega)⟩, ⟨b.x, .inr (by omega)⟩, ⟨b.x, .inr (by omega)⟩⟩
  · have h1 := some_t hsa
    simp only [Bool.false_eq_true, if_false, if_true]
    exact ⟨⟨a.y, .inl (by omega)⟩, ⟨a.y, .inl (by omega)⟩, ⟨a.x, .inl (by omega)⟩, ⟨a.x, .inl (by omega)⟩⟩
  · have h1 := some_t hsa
    have h2 := some_t hsb
    simp only [if_true, joinR]
    refine ⟨?_, ?_, ?_, ?_⟩
    · by_cases e : a.x ≤ b.x
      · exact ⟨a.y, .inl (by omega)⟩
      · exact ⟨b.y, .inr (by omega)⟩
    · by_cases e : b.x + b.w ≤ a.x + a.w
      · exact ⟨a.y, .inl (by omega)⟩
      · exact ⟨b.y, .inr (by omega)⟩
    · by_cases e : a.y ≤ b.y
      · exact ⟨a.x, .inl (by omega)⟩
      · exact ⟨b.x, .inr (by omega)⟩
    · by_cases e : b.y + b.h ≤ a.y + a.h
      · exact ⟨a.x, .inl (by omega)⟩
      · exact ⟨b.x, .inr (by omega)⟩
end
/-- what is known when the points of S are gone through -/
structure ScP (a b : Rc) (S : Int → Int → Prop) (cm al : Bool) (R C : List Bool) : Prop where
  cm : cm = true ↔ ∃ x y, S x y ∧ hasB a x y = true ∧ hasB b x y = true
  al : al = true ↔ ∀ x y, S x y → hasB a x y = true → hasB b x y = true
  rl : R.length = 40
  cl : C.length = 40
  r : ∀ t : Nat, t < 40 → (R[t]? = some true ↔ ∃ x y : Int, S x y ∧ y + 9 = t ∧ (hasB a x y = true ∨ hasB b x y = true))
  c : ∀ t : Nat, t < 40 → (C[t]? = some true ↔ ∃ x y : Int, S x y ∧ x + 9 = t ∧ (hasB a x y = true ∨ hasB b x y = true))
/-- the points that are gone through ahead of (x, y) -/
def scan (x y u v : Int) : Prop := (-9 ≤ u ∧ u < 30) ∧ (-9 ≤ v ∧ v < 30) ∧ (u < x ∨ (u = x ∧ v < y))
section
variable {a b : Rc} {S S' : Int → Int → Prop} {cm al : Bool} {R C : List Bool} {x y : Int}
theorem ScP.congr (h : ScP a b S cm al R C) (e : ∀ u v, S u v ↔ S' u v) : ScP a b S' cm al R C := by
  have : S = S' := funext fun u => funext fun v => propext (e u v)
  rw [← this]; exact h
theorem ScP.start (a b : Rc) : ScP a b (scan (-9) (-9)) false true (List.replicate 40 false) (List.replicate 40 false) := by
  have hno : ∀ u v, ¬ scan (-9) (-9) u v := fun u v h => by unfold scan at h; omega
  refine ⟨⟨(fun h => by cases h), fun ⟨u, v, h, _⟩ => (hno u v h).elim⟩, ⟨fun _ u v h => (hno u v h).elim, fun _ => rfl⟩, by simp, by simp, fun t ht => ⟨fun h => ?_, fun ⟨u, v, h, _⟩ => (hno u v h).elim⟩, fun t ht => ⟨fun h => ?_, fun ⟨u, v, h, _⟩ => (hno u v h).elim⟩⟩
  all_goals (rw [List.getElem?_replicate, if_pos ht] at h; simp at h)
theorem ScP.row (h : ScP a b (scan x 30) cm al R C) : ScP a b (scan (x + 1) (-9)) cm al R C :=
  h.congr fun u v => by unfold scan; omega
theorem scan_step (u v : Int) (hx : -9 ≤ x ∧ x < 30) (hy : -9 ≤ y ∧ y < 30) : scan x (y + 1) u v ↔ scan x y u v ∨ (u = x ∧ v = y) := by unfold scan; omega
theorem ScP.step (h : ScP a b (scan x y) cm al R C) (hx : -9 ≤ x ∧ x < 30) (hy : -9 ≤ y ∧ y < 30) {one two : Bool} (h1 : hasB a x y = one) (h2 : hasB b x y = two) {p q : Nat} (hp : y + 9 = p) (hq : x + 9 = q) :
    ScP a b (scan x (y + 1)) (cm || (one && two)) (al && (!one || two)) (if (one || two) = true then R.set p true else R) (if (one || two) = true then C.set q true else C) := by
  obtain ⟨i1, i2, i3, i4, i5, i6⟩ := h
  refine ⟨?_, ?_, by split <;> simp [i3], by split <;> simp [i4], fun t ht => ?_, fun t ht => ?_⟩
  · rw [Bool.or_eq_true, i1, Bool.and_eq_true, ← h1, ← h2]
    constructor
    · rintro (⟨u, v, h, e⟩ | e)
      · exact ⟨u, v, (scan_step u v hx hy).2 (.inl h), e⟩
      · exact ⟨x, y, (scan_step x y hx hy).2 (.inr ⟨rfl, rfl⟩), e⟩
    · rintro ⟨u, v, h, e⟩
      rcases (scan_step u v hx hy).1 h with h | ⟨rfl, rfl⟩
      · exact .inl ⟨u, v, h, e⟩
      · exact .inr e
  · have e0 : (!one || two) = true ↔ (hasB a x y = true → hasB b x y = true) := by rw [h1, h2]; cases one <;> cases two <;> simp
    rw [Bool.and_eq_true, i2, e0]
    constructor
    · rintro ⟨h3, h4⟩ u v h e
      rcases (scan_step u v hx hy).1 h with h | ⟨rfl, rfl⟩
      · exact h3 u v h e
      · exact h4 e
    · intro h
      exact ⟨fun u v k => h u v ((scan_step u v hx hy).2 (.inl k)), fun k => h x y ((scan_step x y hx hy).2 (.inr ⟨rfl, rfl⟩)) k⟩
  · have key : (∃ u v : Int, scan x (y + 1) u v ∧ v + 9 = t ∧ (hasB a u v = true ∨ hasB b u v = true)) ↔ (R[t]? = some true ∨ (t = p ∧ (one || two) = true)) := by
      rw [i5 t ht]
      constructor
      · rintro ⟨u, v, h, e, k⟩
        rcases (scan_step u v hx hy).1 h with h | ⟨rfl, rfl⟩
        · exact .inl ⟨u, v, h, e, k⟩
        · rw [h1, h2] at k
          exact .inr ⟨by omega, by rw [Bool.or_eq_true]; exact k⟩
      · rintro (⟨u, v, h, e, k⟩ | ⟨e, k⟩)
        · exact ⟨u, v, (scan_step u v hx hy).2 (.inl h), e, k⟩
        · rw [Bool.or_eq_true, ← h1, ← h2] at k
          exact ⟨x, y, (scan_step x y hx hy).2 (.inr ⟨rfl, rfl⟩), by omega, k⟩
    rw [key]
    by_cases ho : (one || two) = true
    · rw [if_pos ho]
      by_cases e : t = p
      · subst e
        rw [List.getElem?_set_self (by omega)]
        simp [ho]
      · rw [List.getElem?_set_ne (Ne.symm e)]
        simp [e]
    · rw [if_neg ho]
      simp [ho]
  · have key : (∃ u v : Int, scan x (y + 1) u v ∧ u + 9 = t ∧ (hasB a u v = true ∨ hasB b u v = true)) ↔ (C[t]? = some true ∨ (t = q ∧ (one || two) = true)) := by
      rw [i6 t ht]
      constructor
      · rintro ⟨u, v, h, e, k⟩
        rcases (scan_step u v hx hy).1 h with h | ⟨rfl, rfl⟩
        · exact .inl ⟨u, v, h, e, k⟩
        · rw [h1, h2] at k
          exact .inr ⟨by omega, by rw [Bool.or_eq_true]; exact k⟩
      · rintro (⟨u, v, h, e, k⟩ | ⟨e, k⟩)
        · exact ⟨u, v, (scan_step u v hx hy).2 (.inl h), e, k⟩
        · rw [Bool.or_eq_true, ← h1, ← h2] at k
          exact ⟨x, y, (scan_step x y hx hy).2 (.inr ⟨rfl, rfl⟩), by omega, k⟩
    rw [key]
    by_cases ho : (one || two) = true
    · rw [if_pos ho]
      by_cases e : t = q
      · subst e
        rw [List.getElem?_set_self (by omega)]
        simp [ho]
      · rw [List.getElem?_set_ne (Ne.symm e)]
        simp [e]
    · rw [if_neg ho]
      simp [ho]
theorem has_in (ha : Sm a) {u v : Int} (h : hasB a u v = true) : scan 30 (-9) u v := by
  obtain ⟨a1, a2, a3, a4⟩ := ha
  rw [has_iff] at h
  unfold scan
  omega
theorem ScP.meet (h : ScP a b (scan 30 (-9)) cm al R C) (ha : Sm a) : meetB a b = cm := by
  rw [Bool.eq_iff_iff, h.cm, meet_iff, some_iff, some_iff]
  constructor
  · intro k
    have k1 : hasB a (max a.x b.x) (max a.y b.y) = true := by rw [has_iff]; omega
    exact ⟨_, _, has_in ha k1, k1, by rw [has_iff]; omega⟩
  · rintro ⟨u, v, _, h1, h2⟩
    rw [has_iff] at h1 h2
    omega
theorem ScP.inside (h : ScP a b (scan 30 (-9)) cm al R C) (ha : Sm a) : insideB a b = al := by
  rw [Bool.eq_iff_iff, h.al, inside_iff]
  constructor
  · intro k u v _ h1
    rw [has_iff] at h1 ⊢
    rcases k with k | k
    · have := some_f k; omega
    · omega
  · intro k
    by_cases hs : a.some = true
    · have h1 := some_t hs
      have k1 : hasB a a.x a.y = true := by rw [has_iff]; omega
      have k2 : hasB a (a.x + a.w - 1) (a.y + a.h - 1) = true := by rw [has_iff]; omega
      have k3 := k _ _ (has_in ha k1) k1
      have k4 := k _ _ (has_in ha k2) k2
      rw [has_iff] at k3 k4
      rw [some_iff]
      omega
    · exact .inl (by simpa using hs)
theorem ScP.rowAt (h : ScP a b (scan 30 (-9)) cm al R C) (ha : Sm a) (hb : Sm b) {v : Int} (hv : ∃ u, hasB a u v = true ∨ hasB b u v = true) {t : Nat} (ht : v + 9 = t) : R[t]? = some true := by
  obtain ⟨u, k⟩ := hv
  have hs : scan 30 (-9) u v := k.elim (has_in ha) (has_in hb)
  exact (h.r t (by unfold scan at hs; omega)).2 ⟨u, v, hs, ht, k⟩
theorem ScP.colAt (h : ScP a b (scan 30 (-9)) cm al R C) (ha : Sm a) (hb : Sm b) {u : Int} (hv : ∃ v, hasB a u v = true ∨ hasB b u v = true) {t : Nat} (ht : u + 9 = t) : C[t]? = some true := by
  obtain ⟨v, k⟩ := hv
  have hs : scan 30 (-9) u v := k.elim (has_in ha) (has_in hb)
  exact (h.c t (by unfold scan at hs; omega)).2 ⟨u, v, hs, ht, k⟩
end
end Go.Proofs.Ytphckjnmbbjenaa
