/- Graphs: forests (plain laws). -/
import Derived.Test.YtnolbmfjgfojhaaGrD
import Derived.Test.YtnolbmfjgfojhaaOnc
namespace Go.Proofs.Ytnolbmfjgfojhaa
open Go.RowKit
/-- the children of i in a forest of m that is told by parents -/
def kidsP (P : Nat → Int) (m i : Nat) : List Int := ((List.range m).filter fun k => P k == (i : Int)).map (fun k : Nat => (k : Int))
def rowP (P : Nat → Int) (i : Nat) : List Int := if 0 ≤ P i then [P i] else []
/-- of each that has a parent: the parent waits for it -/
def rowE (P : Nat → Int) (m : Nat) : List (Int × Int) := ((List.range m).map fun (k : Nat) => if 0 ≤ P k then [(P k, (k : Int))] else []).flatten
theorem kidsN_P (ns : List Nd) (m : Nat) : kidsN ns m = kidsP (parN ns) m := rfl
theorem kidsP_succ (P : Nat → Int) (m i : Nat) : kidsP P (m + 1) i = if P m = (i : Int) then kidsP P m i ++ [(m : Int)] else kidsP P m i := by
  unfold kidsP
  rw [List.range_succ, List.filter_append, List.map_append]
  by_cases h : P m = (i : Int) <;> simp [h]
theorem kidsP_len (P : Nat → Int) (m i : Nat) : (kidsP P m i).length ≤ m := by
  unfold kidsP
  rw [List.length_map]
  have := List.length_filter_le (fun k => P k == (i : Int)) (List.range m)
  simpa using this
theorem kidsP_mem {P : Nat → Int} {m i : Nat} {x : Int} : x ∈ kidsP P m i ↔ ∃ k : Nat, x = k ∧ k < m ∧ P k = i := by
  unfold kidsP
  constructor
  · intro h
    obtain ⟨k, hk, rfl⟩ := List.mem_map.1 h
    obtain ⟨h1, h2⟩ := List.mem_filter.1 hk
    exact ⟨k, rfl, List.mem_range.1 h1, by simpa using h2⟩
  · rintro ⟨k, rfl, h1, h2⟩
    exact List.mem_map.2 ⟨k, List.mem_filter.2 ⟨List.mem_range.2 h1, by simpa using h2⟩, rfl⟩
theorem kid_one (P : Nat → Int) {m p : Nat} (hp : p < m) (j : Nat) : (kidsP P m j).filter (fun x => x == (p : Int)) = if P p = (j : Int) then [(p : Int)] else [] := by
  induction m with
  | zero => omega
  | succ m ih =>
    rw [kidsP_succ]
    by_cases h : p = m
    · subst h
      have hn : (kidsP P p j).filter (fun x => x == (p : Int)) = [] := List.filter_eq_nil_iff.2 (fun x hx => by
        obtain ⟨k, rfl, hk, _⟩ := kidsP_mem.1 hx
        simp; omega)
      by_cases hP : P p = (j : Int)
      · rw [if_pos hP, if_pos hP, List.filter_append, hn]; simp
      · rw [if_neg hP, if_neg hP, hn]
    · have h2 := ih (by omega)
      by_cases hP : P m = (j : Int)
      · rw [if_pos hP, List.filter_append, h2]
        have : ((m : Int) == (p : Int)) = false := by simp; omega
        simp [this]
      · rw [if_neg hP, h2]
theorem rowP_of {P : Nat → Int} {i : Nat} (h : 0 ≤ P i) : rowP P i = [P i] := by rw [rowP, if_pos h]
theorem rowP_not {P : Nat → Int} {i : Nat} (h : ¬ 0 ≤ P i) : rowP P i = [] := by rw [rowP, if_neg h]
theorem rowP_len (P : Nat → Int) (i : Nat) : (rowP P i).length ≤ 1 := by unfold rowP; split <;> simp
section
variable {P : Nat → Int} {m p : Nat}
/-- in the graph of children each is waited for by its parent -/
theorem nE_of (hp : p < m) (hP : P p < m) : nE (ofE (kidsP P m) m) p = rowP P p := by
  have key : ∀ j : Nat, ((kidsP P m j).map fun k => ((j : Int), k)).filter (fun e => e.2 == (p : Int)) = ((kidsP P m j).filter (fun x => x == (p : Int))).map fun k => ((j : Int), k) := fun j => by
    rw [List.filter_map]; rfl
  unfold nE ofE
  by_cases h : 0 ≤ P p
  · obtain ⟨i, hi⟩ : ∃ i : Nat, P p = i := ⟨(P p).toNat, by omega⟩
    rw [rowP_of h, flat_one _ _ i (fun j _ hj => by rw [key, kid_one P hp, if_neg (by omega)]; rfl), if_pos (by omega), key, kid_one P hp, if_pos hi, hi]
    rfl
  · rw [rowP_not h, flat_one _ _ 0 (fun j _ _ => by rw [key, kid_one P hp, if_neg (by omega)]; rfl)]
    split
    · rw [key, kid_one P hp, if_neg (by omega)]; rfl
    · rfl
theorem wE_do (hp : p < m) (hP : P p < m) : wE (doE (kidsP P m) m) p = ((rowP P p).length : Int) := by
  have key : ∀ j : Nat, ((kidsP P m j).map fun k => (k, (j : Int))).filter (fun e => e.1 == (p : Int)) = ((kidsP P m j).filter (fun x => x == (p : Int))).map fun k => (k, (j : Int)) := fun j => by
    rw [List.filter_map]; rfl
  unfold wE doE
  by_cases h : 0 ≤ P p
  · obtain ⟨i, hi⟩ : ∃ i : Nat, P p = i := ⟨(P p).toNat, by omega⟩
    rw [rowP_of h, flat_one _ _ i (fun j _ hj => by rw [key, kid_one P hp, if_neg (by omega)]; rfl), if_pos (by omega), key, kid_one P hp, if_pos hi]
    rfl
  · rw [rowP_not h, flat_one _ _ 0 (fun j _ _ => by rw [key, kid_one P hp, if_neg (by omega)]; rfl)]
    split
    · rw [key, kid_one P hp, if_neg (by omega)]; rfl
    · rfl
theorem nE_do (K : Nat → List Int) (hp : p < m) : nE (doE K m) p = K p := by
  unfold nE doE
  rw [flat_one _ _ p (fun j _ hj => List.filter_eq_nil_iff.2 (fun a ha => by
    obtain ⟨k, _, rfl⟩ := List.mem_map.1 ha
    simp; omega)), if_pos hp, List.filter_eq_self.2 (fun a ha => by
    obtain ⟨k, _, rfl⟩ := List.mem_map.1 ha
    simp), List.map_map]
  exact List.map_id' _
theorem nE_row (P : Nat → Int) (m p : Nat) : nE (ofE (rowP P) m) p = kidsP P m p := by
  induction m with
  | zero => rfl
  | succ m ih =>
    rw [ofE_succ, kidsP_succ, ← ih, ofT, List.take_length]
    unfold nE
    rw [List.filter_append, List.map_append]
    by_cases h : 0 ≤ P m
    · rw [rowP_of h]
      by_cases h2 : P m = (p : Int) <;> simp [h2]
    · rw [rowP_not h, if_neg (by omega)]; simp
theorem rowE_succ (P : Nat → Int) (m : Nat) : rowE P (m + 1) = rowE P m ++ if 0 ≤ P m then [(P m, (m : Int))] else [] := by
  simp [rowE, List.range_succ]
theorem wE_row (P : Nat → Int) (m p : Nat) : wE (rowE P m) p = ((kidsP P m p).length : Int) := by
  induction m with
  | zero => rfl
  | succ m ih =>
    unfold wE at ih ⊢
    rw [rowE_succ, kidsP_succ, List.filter_append, List.length_append]
    have := ih
    by_cases h : 0 ≤ P m
    · by_cases h2 : P m = (p : Int)
      · rw [if_pos h, if_pos h2]; simp [h2]; omega
      · rw [if_pos h, if_neg h2]; simp [h2]; omega
    · rw [if_neg h, if_neg (by omega)]; simp; omega
theorem nE_rowE (P : Nat → Int) (hp : p < m) : nE (rowE P m) p = rowP P p := by
  unfold nE rowE
  rw [flat_one _ _ p (fun j _ hj => by
    split
    · have : ((j : Int) == (p : Int)) = false := by simp; omega
      simp [this]
    · rfl), if_pos hp]
  by_cases h : 0 ≤ P p
  · rw [if_pos h, rowP_of h]; simp
  · rw [if_neg h, rowP_not h]; rfl
end
theorem rowE_bd (P : Nat → Int) (m : Nat) : (rowE P m).length ≤ m := by
  induction m with
  | zero => simp [rowE]
  | succ m ih => rw [rowE_succ, List.length_append]; split <;> simp <;> omega
/-- a graph that is handed back, told by how many each waits for, and by who waits for each -/
def GIs (w : World) (n : Nat) (f : Nat → Int) (N : Nat → List Int) (e : Ending) (w' : World) : Prop := ∃ A A', e = .returned (.agg #[.slice A n n, .slice A' n n]) ∧ Rd w' 1 A n (ints ((List.range n).map f)) ∧ RdR w' w.heap.size A' n N ∧ Ext w w'
theorem GOut.is {w w' : World} {n : Nat} {E : List (Int × Int)} {e : Ending} {f : Nat → Int} {N : Nat → List Int} (h : GOut w n E e w') (hf : ∀ i, i < n → f i = wE E i) (hN : ∀ i, i < n → N i = nE E i) : GIs w n f N e w' := by
  obtain ⟨A, A', h1, h2, h3, _, h4⟩ := h
  refine ⟨A, A', h1, ?_, h3.congr hN, h4⟩
  have : (List.range n).map f = wL E n := List.map_congr_left (fun i hi => hf i (List.mem_range.1 hi))
  rw [this]
  exact h2
/-- roots: where each stands among all -/
def rtN (ns : List Nd) (k : Nat) : Int := (rootsN ns ns.length)[k]?.getD 0
def isQ (ns : List Nd) (k : Nat) : Int := if 0 ≤ overI ns (rtN ns k) then ((rootsN ns (overI ns (rtN ns k)).toNat).length : Int) else -1
theorem roots_at (ns : List Nd) {n r : Nat} (hr : rootN ns r = true) (hn : r < n) : (rootsN ns n)[(rootsN ns r).length]? = some (r : Int) := by
  induction n with
  | zero => omega
  | succ n ih =>
    rw [rootsN_succ]
    by_cases h : r = n
    · subst h
      rw [if_pos hr, List.getElem?_append_right (Nat.le_refl _)]
      simp
    · have h2 := ih (by omega)
      split
      · rw [List.getElem?_append_left (List.getElem?_eq_some_iff.1 h2).1]; exact h2
      · exact h2
theorem roots_in (ns : List Nd) {n k : Nat} {x : Int} (h : (rootsN ns n)[k]? = some x) : ∃ r : Nat, x = r ∧ r < n ∧ rootN ns r = true ∧ (rootsN ns r).length = k := by
  induction n with
  | zero => simp [rootsN] at h
  | succ n ih =>
    rw [rootsN_succ] at h
    by_cases hr : rootN ns n = true
    · rw [if_pos hr] at h
      by_cases hk : k < (rootsN ns n).length
      · rw [List.getElem?_append_left hk] at h
        obtain ⟨r, h1, h2, h3⟩ := ih h
        exact ⟨r, h1, by omega, h3⟩
      · rw [List.getElem?_append_right (by omega)] at h
        have hlt := (List.getElem?_eq_some_iff.1 h).1
        simp only [List.length_cons, List.length_nil] at hlt
        have hk2 : k = (rootsN ns n).length := by omega
        subst hk2
        simp at h
        exact ⟨n, h.symm, by omega, hr, rfl⟩
    · rw [if_neg hr] at h
      obtain ⟨r, h1, h2, h3⟩ := ih h
      exact ⟨r, h1, by omega, h3⟩
theorem roots_mono (ns : List Nd) {a b : Nat} (h : a ≤ b) : (rootsN ns a).length ≤ (rootsN ns b).length := by
  induction b with
  | zero => obtain rfl : a = 0 := by omega
            exact Nat.le_refl _
  | succ b ih =>
    by_cases hab : a = b + 1
    · rw [hab]; exact Nat.le_refl _
    · have := ih (by omega)
      rw [rootsN_succ]
      split
      · rw [List.length_append]; omega
      · exact this
theorem roots_less (ns : List Nd) {a b : Nat} (ha : rootN ns a = true) (h : a < b) : (rootsN ns a).length < (rootsN ns b).length := by
  have h1 := roots_mono ns (show a + 1 ≤ b from h)
  rw [rootsN_succ, if_pos ha, List.length_append] at h1
  simp at h1
  omega
end Go.Proofs.Ytnolbmfjgfojhaa
