/- Graphs: the law GraphDone (plain laws and walks). -/
import Derived.Test.YtnolbmfjgfojhaaGrK
import Derived.Test.YtnolbmfjgfojhaaGrY
/-! Graphs: how all tasks are done, one behind the other (plain laws). -/
namespace Go.Proofs.Ytnolbmfjgfojhaa
open Go.RowKit
def cntI (l : List Int) (j : Nat) : Nat := (l.filter fun x => x == (j : Int)).length
theorem cntI_zero {l : List Int} {j : Nat} : cntI l j = 0 ↔ (j : Int) ∉ l := by
  unfold cntI
  rw [List.length_eq_zero_iff, List.filter_eq_nil_iff]
  constructor
  · intro h hm
    exact h _ hm (by simp)
  · intro h x hx e
    have : x = (j : Int) := by simpa using e
    exact h (this ▸ hx)
theorem cntI_drop {l : List Int} {k : Nat} {x : Int} (h : l[k]? = some x) (j : Nat) : cntI (l.drop k) j = (if x = (j : Int) then 1 else 0) + cntI (l.drop (k + 1)) j := by
  obtain ⟨h1, h2⟩ := List.getElem?_eq_some_iff.1 h
  unfold cntI
  rw [List.drop_eq_getElem_cons h1, h2, List.filter_cons]
  by_cases e : x = (j : Int)
  · subst e; simp; omega
  · simp [e]
theorem cntI_end {l : List Int} {k : Nat} (h : l.length ≤ k) (j : Nat) : cntI (l.drop k) j = 0 := by
  rw [List.drop_eq_nil_of_le h]; rfl
/-- how many of those that are not done yet a task waits for -/
def pend (N : Nat → List Int) : Nat → List Nat → Nat → Nat
  | 0, _, _ => 0
  | n + 1, S, j => pend N n S j + if n ∈ S then 0 else cntI (N n) j
section
variable {N : Nat → List Int}
theorem pend_zero {n : Nat} {S : List Nat} {j : Nat} : pend N n S j = 0 ↔ ∀ u, u < n → u ∉ S → cntI (N u) j = 0 := by
  induction n with
  | zero => simp [pend]
  | succ n ih =>
    rw [pend]
    constructor
    · intro h u hu hS
      have h1 : pend N n S j = 0 := by omega
      by_cases e : u = n
      · subst e
        rw [if_neg hS] at h
        omega
      · exact ih.1 h1 u (by omega) hS
    · intro h
      rw [ih.2 (fun u hu hS => h u (by omega) hS)]
      split
      · rfl
      · rename_i hn
        rw [h n (by omega) hn]
theorem pend_far {n u : Nat} (h : n ≤ u) (S : List Nat) (j : Nat) : pend N n (S ++ [u]) j = pend N n S j := by
  induction n with
  | zero => rfl
  | succ n ih =>
    rw [pend, pend, ih (by omega)]
    have : n ∈ S ++ [u] ↔ n ∈ S := by simp; omega
    simp only [this]
theorem pend_snoc {n u : Nat} (hu : u < n) {S : List Nat} (hS : u ∉ S) (j : Nat) : pend N n S j = pend N n (S ++ [u]) j + cntI (N u) j := by
  induction n with
  | zero => omega
  | succ n ih =>
    rw [pend, pend]
    by_cases e : u = n
    · subst e
      rw [pend_far (Nat.le_refl _), if_neg hS, if_pos (by simp)]
      omega
    · rw [ih (by omega)]
      have : n ∈ S ++ [u] ↔ n ∈ S := by simp; omega
      simp only [this]
      omega
end
theorem pend_le {N : Nat → List Int} {n : Nat} (hN : ∀ u, u < n → (N u).length ≤ 900) (S : List Nat) (j : Nat) : pend N n S j ≤ n * 900 := by
  induction n with
  | zero => exact Nat.zero_le _
  | succ n ih =>
    have h1 := ih (fun u hu => hN u (by omega))
    have h2 := hN n (by omega)
    have h3 : cntI (N n) j ≤ (N n).length := List.length_filter_le _ _
    have h4 : pend N (n + 1) S j = pend N n S j + if n ∈ S then 0 else cntI (N n) j := rfl
    have h5 : (if n ∈ S then 0 else cntI (N n) j) ≤ cntI (N n) j := by
      by_cases h : n ∈ S
      · rw [if_pos h]; exact Nat.zero_le _
      · rw [if_neg h]; exact Nat.le_refl _
    omega
/-- tasks that wait for one another, but not around -/
structure Dag (n : Nat) (f : Nat → Int) (N : Nat → List Int) : Prop where
  lt : ∀ u, u < n → ∀ x ∈ N u, ∃ j : Nat, x = j ∧ j < n
  cnt : ∀ j, j < n → f j = (pend N n [] j : Nat)
  rank : ∃ r : Nat → Nat, ∀ u, u < n → ∀ j : Nat, (j : Int) ∈ N u → r u < r j
/-- what is done, in its order; g: what each still waits for -/
structure Kahn (n : Nat) (N : Nat → List Int) (out : List Nat) (g : Nat → Nat) : Prop where
  lt : ∀ x ∈ out, x < n
  nodup : out.Nodup
  zero : ∀ j, j < n → (j ∈ out ↔ g j = 0)
  order : ∀ p j : Nat, out[p]? = some j → ∀ u, u < n → (j : Int) ∈ N u → u ∈ out.take p
theorem nodup_len {a b : List Nat} (h : a.Nodup) (hs : ∀ x ∈ a, x ∈ b) : a.length ≤ b.length := by
  induction a generalizing b with
  | nil => simp
  | cons x a ih =>
    have hx : x ∈ b := hs x (List.mem_cons_self ..)
    have hn := List.nodup_cons.1 h
    have h1 := ih hn.2 (b := b.erase x) (fun y hy => by
      have hne : y ≠ x := fun e => hn.1 (e ▸ hy)
      exact (List.mem_erase_of_ne hne).2 (hs y (List.mem_cons_of_mem _ hy)))
    rw [List.length_erase_of_mem hx] at h1
    have := List.length_pos_of_mem hx
    rw [List.length_cons]
    omega
theorem Kahn.len {n : Nat} {N : Nat → List Int} {out : List Nat} {g : Nat → Nat} (h : Kahn n N out g) : out.length ≤ n := by
  have := nodup_len h.nodup (b := List.range n) (fun x hx => List.mem_range.2 (h.lt x hx))
  simpa using this
section
variable {n : Nat} {f : Nat → Int} {N : Nat → List Int} {out : List Nat}
/-- those that wait for none -/
def out0 (N : Nat → List Int) (n i : Nat) : List Nat := (List.range i).filter fun j => pend N n [] j == 0
theorem out0_succ (N : Nat → List Int) (n i : Nat) : out0 N n (i + 1) = if pend N n [] i = 0 then out0 N n i ++ [i] else out0 N n i := by
  unfold out0
  rw [List.range_succ, List.filter_append]
  by_cases h : pend N n [] i = 0 <;> simp [h]
theorem out0_len (N : Nat → List Int) (n i : Nat) : (out0 N n i).length ≤ i := by
  have := List.length_filter_le (fun j => pend N n [] j == 0) (List.range i)
  simpa [out0] using this
theorem Kahn.start : Kahn n N (out0 N n n) (pend N n []) := by
  have hm : ∀ j, j ∈ out0 N n n ↔ j < n ∧ pend N n [] j = 0 := fun j => by simp [out0]
  refine ⟨fun x hx => ((hm x).1 hx).1, List.Nodup.sublist List.filter_sublist List.nodup_range, fun j hj => ?_, fun p j hp u hu hj => ?_⟩
  · rw [hm]; exact ⟨fun h => h.2, fun h => ⟨hj, h⟩⟩
  · have h1 := ((hm j).1 (List.mem_of_getElem? hp)).2
    have h2 := pend_zero.1 h1 u hu (by simp)
    exact absurd hj (cntI_zero.1 h2)
/-- what each waits for while the i-th that is done is gone through -/
def pendT (N : Nat → List Int) (n : Nat) (out : List Nat) (i u k j : Nat) : Nat := pend N n (out.take i ++ [u]) j + cntI ((N u).drop k) j
theorem pendT_0 {i : Nat} (hk : Kahn n N out (pend N n (out.take i))) {u : Nat} (hi : out[i]? = some u) (j : Nat) : pend N n (out.take i) j = pendT N n out i u 0 j := by
  have hil := (List.getElem?_eq_some_iff.1 hi).1
  have hun := hk.lt u (List.mem_of_getElem? hi)
  have hnt : u ∉ out.take i := by
    intro hm
    obtain ⟨q, hq1, hq2⟩ := List.getElem_of_mem hm
    rw [List.length_take] at hq1
    rw [List.getElem_take] at hq2
    have h2 : out[i] = u := (List.getElem?_eq_some_iff.1 hi).2
    exact List.pairwise_iff_getElem.1 hk.nodup q i (by omega) hil (by omega) (hq2.trans h2.symm)
  unfold pendT
  rw [pend_snoc hun hnt, List.drop_zero]
theorem pendT_end {i u : Nat} (hi : out[i]? = some u) {k : Nat} (hk : (N u).length ≤ k) (j : Nat) : pendT N n out i u k j = pend N n (out.take (i + 1)) j := by
  have hil := (List.getElem?_eq_some_iff.1 hi).1
  unfold pendT
  rw [cntI_end hk, Nat.add_zero, List.take_succ_eq_append_getElem hil, (List.getElem?_eq_some_iff.1 hi).2]
theorem pendT_step {i u k : Nat} {x : Nat} (hx : (N u)[k]? = some (x : Int)) (j : Nat) : pendT N n out i u k j = pendT N n out i u (k + 1) j + if x = j then 1 else 0 := by
  unfold pendT
  rw [cntI_drop hx]
  by_cases e : x = j
  · subst e; rw [if_pos rfl, if_pos rfl]; omega
  · rw [if_neg e, if_neg (by omega)]; omega
theorem pendT_take (out more : List Nat) {i : Nat} (hi : i ≤ out.length) (u k j : Nat) : pendT N n (out ++ more) i u k j = pendT N n out i u k j := by
  unfold pendT
  rw [List.take_append_of_le_length hi]
theorem pendT_le (hN : ∀ u, u < n → (N u).length ≤ 900) (out : List Nat) (i : Nat) {u : Nat} (hu : u < n) (k j : Nat) : pendT N n out i u k j ≤ n * 900 + 900 := by
  unfold pendT
  have h1 := pend_le hN (out.take i ++ [u]) j
  have h2 := hN u hu
  have h3 : cntI ((N u).drop k) j ≤ ((N u).drop k).length := List.length_filter_le _ _
  rw [List.length_drop] at h3
  omega
/-- a task that waits for none more is done behind all the others -/
theorem Kahn.push {i u k x : Nat} (h : Kahn n N out (pendT N n out i u k)) (hi : out[i]? = some u) (hx : (N u)[k]? = some (x : Int)) (hxn : x < n) (h0 : pendT N n out i u (k + 1) x = 0) : Kahn n N (out ++ [x]) (pendT N n (out ++ [x]) i u (k + 1)) := by
  have hil := (List.getElem?_eq_some_iff.1 hi).1
  have h1 := pendT_step (n := n) (out := out) (i := i) hx x
  rw [h0, if_pos rfl] at h1
  have hxo : x ∉ out := fun hm => by
    have := (h.zero x hxn).1 hm
    omega
  refine ⟨fun y hy => ?_, ?_, fun j hj => ?_, fun p j hp v hv hj => ?_⟩
  · rcases List.mem_append.1 hy with hy | hy
    · exact h.lt y hy
    · rw [List.mem_singleton.1 hy]; exact hxn
  · exact List.nodup_append.2 ⟨h.nodup, by simp, fun a ha b hb e => by rw [List.mem_singleton.1 hb] at e; exact hxo (e ▸ ha)⟩
  · rw [pendT_take out [x] (by omega)]
    have h2 := pendT_step (n := n) (out := out) (i := i) hx j
    have h3 := h.zero j hj
    by_cases e : x = j
    · subst e
      exact ⟨fun _ => h0, fun _ => by simp⟩
    · rw [if_neg e, Nat.add_zero] at h2
      rw [← h2, ← h3]
      simp
      omega
  · by_cases hpl : p < out.length
    · rw [List.getElem?_append_left hpl] at hp
      rw [List.take_append_of_le_length (by omega)]
      exact h.order p j hp v hv hj
    · have hpl2 := (List.getElem?_eq_some_iff.1 hp).1
      simp at hpl2
      have hpe : p = out.length := by omega
      subst hpe
      simp at hp
      subst hp
      rw [List.take_append_of_le_length (Nat.le_refl _), List.take_length]
      unfold pendT at h0
      have h4 : pend N n (out.take i ++ [u]) x = 0 := by omega
      by_cases hm : v ∈ out.take i ++ [u]
      · rcases List.mem_append.1 hm with hm | hm
        · exact List.mem_of_mem_take hm
        · rw [List.mem_singleton.1 hm]; exact List.mem_of_getElem? hi
      · exact absurd hj (cntI_zero.1 (pend_zero.1 h4 v hv hm))
theorem Kahn.skip {i u k x : Nat} (h : Kahn n N out (pendT N n out i u k)) (hx : (N u)[k]? = some (x : Int)) (h0 : pendT N n out i u (k + 1) x ≠ 0) : Kahn n N out (pendT N n out i u (k + 1)) := by
  refine ⟨h.lt, h.nodup, fun j hj => ?_, h.order⟩
  have h2 := pendT_step (n := n) (out := out) (i := i) hx j
  rw [h.zero j hj, h2]
  by_cases e : x = j
  · subst e
    rw [if_pos rfl]
    exact ⟨fun h => by omega, fun h => absurd h h0⟩
  · rw [if_neg e, Nat.add_zero]
/-- all is done, each once, behind what it waits for -/
structure DoneOk (n : Nat) (N : Nat → List Int) (out : List Nat) : Prop where
  lt : ∀ x ∈ out, x < n
  nodup : out.Nodup
  len : out.length = n
  all : ∀ j, j < n → j ∈ out
  order : ∀ p j : Nat, out[p]? = some j → ∀ u, u < n → (j : Int) ∈ N u → u ∈ out.take p
theorem Kahn.end_ (hd : Dag n f N) (h : Kahn n N out (pend N n (out.take out.length))) : DoneOk n N out := by
  rw [List.take_length] at h
  obtain ⟨r, hr⟩ := hd.rank
  have key : ∀ d j, r j ≤ d → j < n → j ∈ out := by
    intro d
    induction d with
    | zero =>
      intro j hj hjn
      refine (h.zero j hjn).2 (pend_zero.2 fun u hu _ => cntI_zero.2 fun hm => ?_)
      have := hr u hu j hm
      omega
    | succ d ih =>
      intro j hj hjn
      refine (h.zero j hjn).2 (pend_zero.2 fun u hu hS => cntI_zero.2 fun hm => ?_)
      have := hr u hu j hm
      exact hS (ih u (by omega) hu)
  have hall : ∀ j, j < n → j ∈ out := fun j hj => key (r j) j (Nat.le_refl _) hj
  have h1 := nodup_len (a := List.range n) List.nodup_range (b := out) (fun x hx => hall x (List.mem_range.1 hx))
  rw [List.length_range] at h1
  exact ⟨h.lt, h.nodup, by have := h.len; omega, hall, h.order⟩
end
/-- in the graph up each waits for its children -/
theorem pend_up (P : Nat → Int) (m j : Nat) : pend (rowP P) m [] j = (kidsP P m j).length := by
  induction m with
  | zero => rfl
  | succ m ih =>
    rw [pend, ih, kidsP_succ, if_neg (by simp)]
    by_cases h : P m = (j : Int)
    · rw [if_pos h, rowP_of (by omega), h, List.length_append]; simp [cntI]
    · rw [if_neg h]
      by_cases h0 : 0 ≤ P m
      · rw [rowP_of h0]; simp [cntI, h]
      · rw [rowP_not h0]; simp [cntI]
theorem dag_up {P : Nat → Int} {n : Nat} (hP : ∀ k, k < n → P k < k) : Dag n (fU P n) (rowP P) := by
  refine ⟨fun u hu x hx => ?_, fun j _ => by rw [pend_up]; rfl, fun u => n - u, fun u hu j hj => ?_⟩
  · have := hP u hu
    by_cases h0 : 0 ≤ P u
    · rw [rowP_of h0] at hx
      rw [List.mem_singleton.1 hx]
      exact ⟨(P u).toNat, by omega, by omega⟩
    · rw [rowP_not h0] at hx; cases hx
  · have := hP u hu
    by_cases h0 : 0 ≤ P u
    · rw [rowP_of h0] at hj
      have := List.mem_singleton.1 hj
      show n - u < n - j
      omega
    · rw [rowP_not h0] at hj; cases hj
theorem pend_down (P : Nat → Int) {n j : Nat} (hj : j < n) (k : Nat) : pend (kidsP P n) k [] j = if 0 ≤ P j ∧ P j < k then 1 else 0 := by
  induction k with
  | zero => rw [if_neg (by omega)]; rfl
  | succ k ih =>
    rw [pend, ih, show (if k ∈ ([] : List Nat) then 0 else cntI (kidsP P n k) j) = cntI (kidsP P n k) j from if_neg (by simp), cntI, kid_one P hj]
    by_cases h : P j = (k : Int)
    · rw [if_neg (by omega), if_pos h, if_pos (by omega)]; rfl
    · rw [if_neg h]
      by_cases h2 : 0 ≤ P j ∧ P j < k
      · rw [if_pos h2, if_pos (by omega)]; rfl
      · rw [if_neg h2, if_neg (by omega)]; rfl
theorem dag_down {P : Nat → Int} {n : Nat} (hP : ∀ k, k < n → P k < k) : Dag n (fD P) (kidsP P n) := by
  refine ⟨fun u _ x hx => ?_, fun j hj => ?_, fun u => u, fun u _ j hj => ?_⟩
  · obtain ⟨k, h1, h2, _⟩ := kidsP_mem.1 hx
    exact ⟨k, h1, h2⟩
  · have := hP j hj
    rw [pend_down P hj, fD]
    by_cases h0 : 0 ≤ P j
    · rw [rowP_of h0, if_pos (by omega)]; rfl
    · rw [rowP_not h0, if_neg (by omega)]; rfl
  · obtain ⟨k, h1, h2, h3⟩ := kidsP_mem.1 hj
    have := hP k h2
    have : j = k := by omega
    show u < j
    omega
end Go.Proofs.Ytnolbmfjgfojhaa

/-! Graphs: all tasks, one behind the other (walk). -/
namespace Go.Proofs.Ytnolbmfjgfojhaa
open Go.RowKit
def castL (l : List Nat) : List Int := l.map fun x : Nat => (x : Int)
theorem castL_len (l : List Nat) : (castL l).length = l.length := by simp [castL]
theorem castL_get {l : List Nat} {i u : Nat} (h : l[i]? = some u) : (castL l)[i]? = some (u : Int) := by rw [castL, List.getElem?_map, h]; rfl
theorem castL_snoc (l : List Nat) (x : Nat) : castL (l ++ [x]) = castL l ++ [(x : Int)] := by simp [castL]
/-- block g holds these numbers, and maybe room -/
def LeftAt (w : World) (g n : Nat) (l : List Int) : Prop := ∃ cur : Array Value, Blk w g 3 cur ∧ cur.toList.take n = ints l
section
variable {w w' : World} {g n : Nat} {l : List Int}
theorem LeftAt.ext (h : LeftAt w g n l) (hx : Ext w w') : LeftAt w' g n l := by
  obtain ⟨cur, h1, h2⟩ := h
  exact ⟨cur, h1.ext hx, h2⟩
theorem LeftAt.grown (h : LeftAt w g n l) {row : Option Nat} (hg : w.grownBy w' row) (hr : row ≠ some g) : LeftAt w' g n l := by
  obtain ⟨cur, h1, h2⟩ := h
  exact ⟨cur, h1.grown hg hr, h2⟩
theorem LeftAt.lt (h : LeftAt w g n l) : g < w.heap.size := by
  obtain ⟨cur, h1, _⟩ := h
  exact h1.lt
theorem LeftAt.frozen (h : LeftAt w g n l) (j : Nat) : w.frozen? ⟨g, j, none⟩ = false := by
  obtain ⟨cur, h1, _⟩ := h
  exact h1.frozen j
theorem LeftAt.cell (h : LeftAt w g n l) {j : Nat} {x : Int} (hx : l[j]? = some x) : w.cell? ⟨g, j, none⟩ = some (.int .i64 x) := by
  obtain ⟨cur, h1, h2⟩ := h
  have hi : (ints l)[j]? = some (.int .i64 x) := by rw [ints, List.getElem?_map, hx]; rfl
  rw [← h2, List.getElem?_take] at hi
  rw [h1.cell, ← Array.getElem?_toList]
  split at hi
  · exact hi
  · cases hi
theorem LeftAt.put (h : LeftAt w g n l) (j : Nat) (x : Int) : LeftAt (w.setCell ⟨g, j, none⟩ (.int .i64 x)) g n (l.set j x) := by
  obtain ⟨cur, h1, h2⟩ := h
  refine ⟨_, h1.set_ j (.int .i64 x), ?_⟩
  rw [Array.toList_setIfInBounds, List.take_set, h2, ints, ints, List.map_set]
end
/-- what is left, as numbers -/
def leftL (n : Nat) (gf : Nat → Nat) : List Int := (List.range n).map fun j => (gf j : Int)
theorem leftL_get {n j : Nat} (gf : Nat → Nat) (h : j < n) : (leftL n gf)[j]? = some (gf j : Int) := by simp [leftL, h]
theorem leftL_congr {n : Nat} {gf gh : Nat → Nat} (h : ∀ j, j < n → gf j = gh j) : leftL n gf = leftL n gh := List.map_congr_left (fun j hj => by rw [h j (List.mem_range.1 hj)])
theorem leftL_set {n x : Nat} {gf gh : Nat → Nat} (h : ∀ j, j < n → gf j = gh j + if x = j then 1 else 0) : (leftL n gf).set x (gh x : Int) = leftL n gh := by
  apply List.ext_getElem?
  intro j
  rw [List.getElem?_set]
  by_cases hj : j < n
  · rw [leftL_get _ hj, leftL_get _ hj]
    by_cases e : x = j
    · subst e
      rw [if_pos rfl, if_pos (by simp [leftL, hj])]
    · rw [if_neg e]
      have := h j hj
      rw [if_neg e] at this
      rw [this, Nat.add_zero]
  · have e1 : (leftL n gh)[j]? = none := List.getElem?_eq_none (by simp [leftL]; omega)
    have e2 : (leftL n gf)[j]? = none := List.getElem?_eq_none (by simp [leftL]; omega)
    rw [e1, e2]
    split
    · rw [if_neg (by simp [leftL]; omega)]
    · rfl
theorem own_at {w : World} {W4 c : Nat} {A : Option Addr} {out : List Nat} (h : w.ownsRow W4 3 1 (.slice A out.length c) out.length (ints (castL out))) {i u : Nat} (hi : out[i]? = some u) :
    ∃ bq oq, A = some ⟨bq, oq, none⟩ ∧ bq < w.heap.size ∧ w.cell? ⟨bq, oq + i, none⟩ = some (.int .i64 (u : Int)) := (Rd.of_own h).intIn (castL_get hi)
/-- done hands back an order -/
def DoneIs (w : World) (n : Nat) (N : Nat → List Int) (e : Ending) (w' : World) : Prop := ∃ A c out, e = .returned (.tuple #[.slice A n c, .bool true]) ∧ Rd w' 1 A n (ints (castL out)) ∧ DoneOk n N out ∧ Ext w w'
set_option maxRecDepth 100000 in
set_option maxHeartbeats 16000000 in
theorem done_any (n a p b o : Nat) (f : Nat → Int) (N : Nat → List Int) (hd : Dag n f N) (h0 : 0 < n) (hn : n ≤ 900) (hN : ∀ u, u < n → (N u).length ≤ 900) (w : World)
    (ha : Rd w 1 (some ⟨a, p, none⟩) n (ints ((List.range n).map f))) (hb : RdR w 0 (some ⟨b, o, none⟩) n N) :
    Calls Try.prog 50 #[.agg #[.slice (some ⟨a, p, none⟩) n n, .slice (some ⟨b, o, none⟩) n n]] w (DoneIs w n N) := by
  obtain ⟨i0, hi0, hz0, hz1, hz2⟩ := info_parts int_info
  have HI := hide (And.intro hi0 (And.intro hz0 (And.intro hz1 hz2)))
  clear hi0 hz0 hz1 hz2
  go_enter Try.func50, Try.ntmps50
  go_upto_region 1 with fail
  have BG : Blk (w.alloc (.cells #[.slice (some ⟨a, p, none⟩) n n, .slice (some ⟨b, o, none⟩) n n] 55)) w.heap.size 55 #[.slice (some ⟨a, p, none⟩) n n, .slice (some ⟨b, o, none⟩) n n] := Blk.new _ _ _
  have E0 : Ext w (w.alloc (.cells #[.slice (some ⟨a, p, none⟩) n n, .slice (some ⟨b, o, none⟩) n n] 55)) := (Ext.refl _).alloc _
  have RA := (ha.ext E0).alloc (.cells #[] 3)
  generalize w.alloc (.cells #[.slice (some ⟨a, p, none⟩) n n, .slice (some ⟨b, o, none⟩) n n] 55) = w1 at *
  generalize hgw : w.heap.size = g at *
  have O0 : (w1.alloc (.cells #[] 3)).ownsRow w1.heap.size 3 1 (.slice (some ⟨w1.heap.size, 0, none⟩) 0 0) 0 [] := ⟨rfl, .inr ⟨w1.heap.size, 0, #[], rfl, Nat.le_refl _, Blk.new _ _ _, Nat.le_refl _, by simp [maxLen], rfl, rfl⟩⟩
  have BG2 : Blk (w1.alloc (.cells #[] 3)) g 55 #[.slice (some ⟨a, p, none⟩) n n, .slice (some ⟨b, o, none⟩) n n] := BG.alloc _
  have c1 := BG2.cell
  have l1 := BG2.lt
  have cb := BG.cell
  have lb := BG.lt
  clear ha hgw
  go_upto_region 2 with (first
    | (at_builtin
       refine wpList_append_rd rfl (.tmp 10) (.tmp 12) _ rfl w1.heap.size 3 i0 _ 1 8 Try.underlying36 (unhide HI).1 (unhide HI).2.1 (unhide HI).2.2.1 (unhide HI).2.2.2 rfl (by omega) _ 0 [] rfl O0 _ n n (ints ((List.range n).map f)) rfl RA (one_ints _) (by simp only [maxLen]; omega) (by omega) (by simp) ?_
       intro AL cL w4 own4 g4 at4))
  clear c1 l1 cb lb RA O0 at4
  have hr : ∀ q, Value.ownBlock (.slice (some ⟨w1.heap.size, 0, none⟩) 0 0) = some q → w1.heap.size ≤ q := fun q e => by have e : w1.heap.size = q := Option.some.inj e; omega
  have E4 : Ext w1 w4 := ((Ext.refl w1).alloc _).grown g4 hr
  rw [Nat.zero_add, List.nil_append] at own4
  obtain ⟨gl, hAL, hgl, LA⟩ : ∃ gl, AL = some ⟨gl, 0, none⟩ ∧ w1.heap.size ≤ gl ∧ LeftAt w4 gl n (leftL n (pend N n [])) := by
    rcases own4.2 with ⟨_, h⟩ | ⟨gl, cap, cur, h1, h2, h3, h4, h5, h6, h7⟩
    · omega
    · injection h1 with h1 _ _
      refine ⟨gl, h1, h2, cur, h3, ?_⟩
      rw [Nat.mul_one] at h7
      rw [h7]
      unfold leftL
      rw [List.map_congr_left (fun j hj => hd.cnt j (List.mem_range.1 hj))]
  subst hAL
  have HB := hide (hb.ext E0)
  have HGB := hide BG.lt
  replace E0 := E0
  have HBG := hide BG
  clear own4 g4 hr BG2 BG hb
  obtain ⟨W4, hW4⟩ : ∃ W4, w4.heap.size = W4 := ⟨_, rfl⟩
  have HW4 := hide hW4
  clear hW4
  go_upto_region 3 with fail
  go_wp2_with fail
  go_loopw [5, 6] (fun s5 s6 wr => ∃ (i : Nat) (A : Option Addr) (c : Nat), s6 = .int .i64 i ∧ i ≤ n ∧ s5 = .slice A (out0 N n i).length c ∧ wr.ownsRow W4 3 1 (.slice A (out0 N n i).length c) (out0 N n i).length (ints (castL (out0 N n i))) ∧ Ext w4 wr) (fun _ s6 _ => n - (intOf s6).toNat)
  case atStart => exact ⟨0, none, 0, rfl, by omega, rfl, ⟨rfl, .inl ⟨rfl, rfl⟩⟩, Ext.refl _⟩
  case round =>
    obtain ⟨i, A, c, rfl, q1, rfl, OW, E1⟩ := hrel
    by_cases hi : i < n
    · have hiI : (0 : Int) ≤ (i : Int) ∧ (i : Int) < (n : Int) := by omega
      have cl := (LA.ext E1).cell (leftL_get (pend N n []) hi)
      have ll := (LA.ext E1).lt
      have HS := hide (out0_succ N n i)
      have ho := out0_len N n i
      by_cases hz : pend N n [] i = 0
      · rw [hz] at cl
        have HSY := hide (show out0 N n (i + 1) = out0 N n i ++ [i] by rw [unhide HS, if_pos hz])
        obtain ⟨m, hm⟩ : ∃ m, (out0 N n i).length = m := ⟨_, rfl⟩
        rw [hm] at ho OW ⊢
        have HM := hide hm
        have E1s : W4 ≤ wr.heap.size := by rw [← unhide HW4]; exact E1.size
        clear hm hz HS
        go_wp2_with (first
          | (at_builtin
             refine wpList_append_rd rfl (.tmp 25) (.tmp 27) _ rfl W4 3 i0 _ 1 8 Try.underlying36 (unhide HI).1 (unhide HI).2.1 (unhide HI).2.2.1 (unhide HI).2.2.2 rfl (by omega) _ m (ints (castL (out0 N n i))) rfl (own_far OW ((Ext.refl _).alloc _)) _ 1 1 [.int .i64 (i : Int)] rfl (Rd.one _ _) (by simp [Value.oneCell']) (by simp only [maxLen]; omega) (by omega) (by simp; omega) ?_
             intro A5 c5 w5 own5 g5 at5))
        go_roundw
        case rel =>
          refine ⟨i + 1, A5, c5, by go_num, by omega, ?_, ?_, (E1.alloc _).grown g5 (fun q e => ?_)⟩
          · rw [unhide HSY, List.length_append, unhide HM]; rfl
          · rw [unhide HSY, castL_snoc, List.length_append, unhide HM, ints_append]
            exact own5
          · rw [unhide HW4]; exact (OW.lt q e).1
        case measure => simp [intOf]; omega
      · have hzb : (((pend N n [] i : Nat) : Int) == 0) = false := by simp; omega
        have HSN := hide (show out0 N n (i + 1) = out0 N n i by rw [unhide HS, if_neg hz])
        clear hz HS
        generalize pend N n [] i = pe at *
        go_wp2_with fail
        go_roundw
        case rel => exact ⟨i + 1, A, c, by go_num, by omega, by rw [unhide HSN], by rw [unhide HSN]; exact OW, E1⟩
        case measure => simp [intOf]; omega
    · have hie : i = n := by omega
      have hiI : ¬ (i : Int) < (n : Int) := by omega
      obtain ⟨out, hout⟩ : ∃ out, out0 N n n = out := ⟨_, rfl⟩
      have KH := hide (show Kahn n N out (pend N n (out.take 0)) by rw [← hout]; exact Kahn.start)
      rw [hie, hout] at OW
      have hout2 : out0 N n i = out := by rw [hie]; exact hout
      rw [hout2]
      have LA2 : LeftAt wr gl n (leftL n (pend N n (out.take 0))) := LA.ext E1
      have E2 := E4.trans E1
      have hE1 := E1.size
      have HWR := hide (show W4 ≤ wr.heap.size by rw [← unhide HW4]; exact hE1)
      have HGL := hide (show gl < W4 by rw [← unhide HW4]; exact LA.lt)
      clear hie hout hout2 LA E1 E4 hE1
      go_wp2_with fail
      go_loopw [5, 7] (fun s5 s7 wr2 => ∃ (i : Nat) (A : Option Addr) (c : Nat) (out : List Nat), s7 = .int .i64 i ∧ i ≤ out.length ∧ s5 = .slice A out.length c ∧ wr2.ownsRow W4 3 1 (.slice A out.length c) out.length (ints (castL out)) ∧ Hid (Kahn n N out (pend N n (out.take i))) ∧ LeftAt wr2 gl n (leftL n (pend N n (out.take i))) ∧ Ext w1 wr2 ∧ W4 ≤ wr2.heap.size) (fun _ s7 _ => n + 1 - (intOf s7).toNat)
      case atStart => exact ⟨0, A, c, out, rfl, by omega, rfl, OW, KH, LA2, E2, unhide HWR⟩
      case round =>
        clear OW KH LA2 E2 HWR
        obtain ⟨i, A, c, out, rfl, q1, rfl, OW, KH, LA, E1, hWR⟩ := hrel
        have hol := (unhide KH).len
        by_cases hi : i < out.length
        · obtain ⟨u, hu⟩ : ∃ u, out[i]? = some u := ⟨_, List.getElem?_eq_getElem hi⟩
          have hun := (unhide KH).lt u (List.mem_of_getElem? hu)
          obtain ⟨bq, oq, rfl, hbq, hcq⟩ := own_at OW hu
          have hiI : (0 : Int) ≤ (i : Int) ∧ (i : Int) < (out.length : Int) := by omega
          have HU := hide hu
          have hun2 := hN u hun
          clear hu
          have huI : (0 : Int) ≤ (u : Int) ∧ (u : Int) < (n : Int) := by omega
          have hgu : decide (n ≤ u) = false := decide_eq_false (by omega)
          have BG := (unhide HBG).ext E1
          obtain ⟨KL, hKL⟩ : ∃ KL, (N u).length = KL := ⟨_, rfl⟩
          have HKL := hide hKL
          rw [hKL] at hun2
          clear hKL
          go_upto_region 11 with fail
          refine wp_region_lin (by kernel_rfl) (fun w' => (ExtX wr w' [])) (fun ii vv ww => match ii with | 0 => vv = .slice (some ⟨bq, oq, none⟩) out.length c | 1 => vv = .int .i64 (i : Int) | 2 => vv = .pointer (some ⟨bq, oq + i, none⟩) | 3 => vv = .int .i64 (u : Int) | 4 => vv = .pointer (some ⟨g, 1, none⟩) | 5 => vv = .slice (some ⟨b, o, none⟩) n n | 6 => vv = .int .i64 ((n : Nat) : Int) | 7 => vv = .bool false | _ => True) (fun ii => match ii with | 2 => [(0, 35), (1, 36)] | 3 => [(2, 37)] | 5 => [(4, 39)] | 6 => [(5, 40)] | 7 => [(3, 38), (6, 41)] | _ => []) (fun ii => match ii with | 0 => [5] | 1 => [7] | 4 => [1] | _ => []) (fun ii => match ii with | 0 => [1, 4, 5, 6] | 1 => [0, 4, 5, 6] | 2 => [4, 5, 6] | 3 => [4, 5, 6] | 4 => [0, 1, 2, 3] | 5 => [0, 1, 2, 3] | 6 => [0, 1, 2, 3] | _ => []) [7] [0, 0, 3, 7, 0, 16, 48, 127] 101 rfl (by kernel_rfl) (ExtX.start _ _) ?_ ?_
          · rename_i hcont; clear hcont
            refine ⟨?_, ?_, ?_, ?_, ?_, ?_, ?_, ?_, trivial⟩
            · refine stepL_plain rfl ?_
              rintro F a w1 jE - ⟨t5, -⟩ K hK
              have t5 : a.tmps[5]? = some (.slice (some ⟨bq, oq, none⟩) out.length c) := t5
              go_simp
              exact hK _ _ jE rfl (fun _ _ _ h => h)
            · refine stepL_plain rfl ?_
              rintro F a w1 jE - ⟨t7, -⟩ K hK
              have t7 : a.tmps[7]? = some (.int .i64 (i : Int)) := t7
              go_simp
              exact hK _ _ jE rfl (fun _ _ _ h => h)
            · refine stepL_plain rfl ?_
              rintro F a w1 jE ⟨h0, t35, h1, t36, -⟩ - K hK
              have h0 : (F 0) = .slice (some ⟨bq, oq, none⟩) out.length c := h0
              rw [h0] at t35
              clear h0
              have h1 : (F 1) = .int .i64 (i : Int) := h1
              rw [h1] at t36
              clear h1
              go_simp
              exact hK _ _ jE rfl (fun _ _ _ h => h)
            · refine stepL_plain rfl ?_
              rintro F a w1 jE ⟨h2, t37, -⟩ - K hK
              have h2 : (F 2) = .pointer (some ⟨bq, oq + i, none⟩) := h2
              rw [h2] at t37
              clear h2
              have c := ((jE.ext (Ext.refl _) (by simp)).cells.1 bq _ hbq).trans hcq
              go_simp
              exact hK _ _ jE rfl (fun _ _ _ h => h)
            · refine stepL_plain rfl ?_
              rintro F a w1 jE - ⟨t1, -⟩ K hK
              have t1 : a.tmps[1]? = some (.pointer (some ⟨g, 0, none⟩)) := t1
              go_simp
              exact hK _ _ jE rfl (fun _ _ _ h => h)
            · refine stepL_plain rfl ?_
              rintro F a w1 jE ⟨h4, t39, -⟩ - K hK
              have h4 : (F 4) = .pointer (some ⟨g, 1, none⟩) := h4
              rw [h4] at t39
              clear h4
              have c := (jE.blk BG (by simp)).cell
              go_simp
              exact hK _ _ jE rfl (fun _ _ _ h => h)
            · refine stepL_plain rfl ?_
              rintro F a w1 jE ⟨h5, t40, -⟩ - K hK
              have h5 : (F 5) = .slice (some ⟨b, o, none⟩) n n := h5
              rw [h5] at t40
              clear h5
              go_simp
              exact hK _ _ jE rfl (fun _ _ _ h => h)
            · refine stepL_plain rfl ?_
              rintro F a w1 jE ⟨h3, t38, h6, t41, -⟩ - K hK
              have h3 : (F 3) = .int .i64 (u : Int) := h3
              rw [h3] at t38
              clear h3
              have h6 : (F 6) = .int .i64 ((n : Nat) : Int) := h6
              rw [h6] at t41
              clear h6
              go_simp
              exact hK _ _ jE rfl (fun _ _ _ h => h)
          · rintro F w9 jE ⟨h7, -⟩
            have h7 : (F 7) = .bool false := h7
            have hx := jE.ext (Ext.refl _) (by simp)
            simp only [putL, Act.put, Nat.reduceAdd, Nat.zero_add, List.setIfInBounds_toArray, List.set_cons_succ, List.set_cons_zero]
            rw [h7]
            clear h7 jE hbq hcq hgu BG
            replace OW := own_far OW hx
            replace LA := LA.ext hx
            replace E1 := E1.trans hx
            replace hWR := Nat.le_trans hWR hx.size
            clear hx
            have e0 : pend N n (out.take i) = pendT N n out i u 0 := funext (pendT_0 (unhide KH) (unhide HU))
            rw [e0] at LA
            have KH2 := hide (show Kahn n N out (pendT N n out i u 0) by rw [← e0]; exact unhide KH)
            clear e0 KH
            go_wp2_with fail
            clear wr
            go_loopw [5, 8] (fun s5 s8 wr => ∃ (k : Nat) (A : Option Addr) (c : Nat) (out : List Nat), s8 = .int .i64 k ∧ k ≤ KL ∧ s5 = .slice A out.length c ∧ wr.ownsRow W4 3 1 (.slice A out.length c) out.length (ints (castL out)) ∧ Hid (out[i]? = some u) ∧ Hid (Kahn n N out (pendT N n out i u k)) ∧ LeftAt wr gl n (leftL n (pendT N n out i u k)) ∧ Ext w1 wr ∧ W4 ≤ wr.heap.size) (fun _ s8 _ => KL - (intOf s8).toNat)
            case atStart => exact ⟨0, _, c, out, rfl, by omega, rfl, OW, HU, KH2, LA, E1, hWR⟩
            case round =>
              clear OW HU KH2 LA E1 hWR q1 hol hi hiI
              obtain ⟨k, A3, c3, out, rfl, k1, rfl, OW, HU, KH, LA, E1, hWR⟩ := hrel
              obtain ⟨bq, oq, rfl, hbq, hcq⟩ := own_at OW (unhide HU)
              have hi := (List.getElem?_eq_some_iff.1 (unhide HU)).1
              have hol := (unhide KH).len
              have hiI : (0 : Int) ≤ (i : Int) ∧ (i : Int) < (out.length : Int) := by omega
              obtain ⟨Ai, ci, hb1, hc1, hr1⟩ := ((unhide HB).ext E1).rowIn hun
              rw [unhide HKL] at hc1 hr1
              have BG := (unhide HBG).ext E1
              by_cases hk : k < KL
              · have hkI : (0 : Int) ≤ (k : Int) ∧ (k : Int) < (KL : Int) := by omega
                have hkb : decide (k < KL) = true := decide_eq_true (by omega)
                go_upto_region 14 with fail
                refine wp_region_lin (by kernel_rfl) (fun w' => (ExtX wr w' [])) (fun ii vv ww => match ii with | 0 => vv = .int .i64 (k : Int) | 1 => vv = .pointer (some ⟨g, 1, none⟩) | 2 => vv = .slice (some ⟨b, o, none⟩) n n | 3 => vv = .slice (some ⟨bq, oq, none⟩) out.length c3 | 4 => vv = .int .i64 (i : Int) | 5 => vv = .pointer (some ⟨bq, oq + i, none⟩) | 6 => vv = .int .i64 (u : Int) | 7 => vv = .pointer (some ⟨b, o + u, none⟩) | 8 => vv = .slice Ai KL ci | 9 => vv = .int .i64 ((KL : Nat) : Int) | 10 => vv = .bool true | _ => True) (fun ii => match ii with | 2 => [(1, 44)] | 5 => [(3, 46), (4, 47)] | 6 => [(5, 48)] | 7 => [(2, 45), (6, 49)] | 8 => [(7, 50)] | 9 => [(8, 51)] | 10 => [(0, 43), (9, 52)] | _ => []) (fun ii => match ii with | 0 => [8] | 1 => [1] | 3 => [5] | 4 => [7] | _ => []) (fun ii => match ii with | 0 => [1, 3, 4, 5, 2, 6, 7, 8, 9] | 1 => [3, 4, 5, 6, 0] | 2 => [3, 4, 5, 6, 0] | 3 => [1, 4, 2, 0] | 4 => [1, 3, 2, 0] | 5 => [1, 2, 0] | 6 => [1, 2, 0] | 7 => [0] | 8 => [0] | 9 => [0] | _ => []) [10] [0, 0, 2, 0, 0, 24, 56, 126, 254, 510, 1023] 101 rfl (by kernel_rfl) (ExtX.start _ _) ?_ ?_
                · rename_i hcont; clear hcont
                  refine ⟨?_, ?_, ?_, ?_, ?_, ?_, ?_, ?_, ?_, ?_, ?_, trivial⟩
                  · refine stepL_plain rfl ?_
                    rintro F a w1 jE - ⟨t8, -⟩ K hK
                    have t8 : a.tmps[8]? = some (.int .i64 (k : Int)) := t8
                    go_simp
                    exact hK _ _ jE rfl (fun _ _ _ h => h)
                  · refine stepL_plain rfl ?_
                    rintro F a w1 jE - ⟨t1, -⟩ K hK
                    have t1 : a.tmps[1]? = some (.pointer (some ⟨g, 0, none⟩)) := t1
                    go_simp
                    exact hK _ _ jE rfl (fun _ _ _ h => h)
                  · refine stepL_plain rfl ?_
                    rintro F a w1 jE ⟨h1, t44, -⟩ - K hK
                    have h1 : (F 1) = .pointer (some ⟨g, 1, none⟩) := h1
                    rw [h1] at t44
                    clear h1
                    have c := (jE.blk BG (by simp)).cell
                    go_simp
                    exact hK _ _ jE rfl (fun _ _ _ h => h)
                  · refine stepL_plain rfl ?_
                    rintro F a w1 jE - ⟨t5, -⟩ K hK
                    have t5 : a.tmps[5]? = some (.slice (some ⟨bq, oq, none⟩) out.length c3) := t5
                    go_simp
                    exact hK _ _ jE rfl (fun _ _ _ h => h)
                  · refine stepL_plain rfl ?_
                    rintro F a w1 jE - ⟨t7, -⟩ K hK
                    have t7 : a.tmps[7]? = some (.int .i64 (i : Int)) := t7
                    go_simp
                    exact hK _ _ jE rfl (fun _ _ _ h => h)
                  · refine stepL_plain rfl ?_
                    rintro F a w1 jE ⟨h3, t46, h4, t47, -⟩ - K hK
                    have h3 : (F 3) = .slice (some ⟨bq, oq, none⟩) out.length c3 := h3
                    rw [h3] at t46
                    clear h3
                    have h4 : (F 4) = .int .i64 (i : Int) := h4
                    rw [h4] at t47
                    clear h4
                    go_simp
                    exact hK _ _ jE rfl (fun _ _ _ h => h)
                  · refine stepL_plain rfl ?_
                    rintro F a w1 jE ⟨h5, t48, -⟩ - K hK
                    have h5 : (F 5) = .pointer (some ⟨bq, oq + i, none⟩) := h5
                    rw [h5] at t48
                    clear h5
                    have c := ((jE.ext (Ext.refl _) (by simp)).cells.1 bq _ hbq).trans hcq
                    go_simp
                    exact hK _ _ jE rfl (fun _ _ _ h => h)
                  · refine stepL_plain rfl ?_
                    rintro F a w1 jE ⟨h2, t45, h6, t49, -⟩ - K hK
                    have h2 : (F 2) = .slice (some ⟨b, o, none⟩) n n := h2
                    rw [h2] at t45
                    clear h2
                    have h6 : (F 6) = .int .i64 (u : Int) := h6
                    rw [h6] at t49
                    clear h6
                    go_simp
                    exact hK _ _ jE rfl (fun _ _ _ h => h)
                  · refine stepL_plain rfl ?_
                    rintro F a w1 jE ⟨h7, t50, -⟩ - K hK
                    have h7 : (F 7) = .pointer (some ⟨b, o + u, none⟩) := h7
                    rw [h7] at t50
                    clear h7
                    have c := ((jE.ext (Ext.refl _) (by simp)).cells.1 b _ hb1).trans hc1
                    go_simp
                    exact hK _ _ jE rfl (fun _ _ _ h => h)
                  · refine stepL_plain rfl ?_
                    rintro F a w1 jE ⟨h8, t51, -⟩ - K hK
                    have h8 : (F 8) = .slice Ai KL ci := h8
                    rw [h8] at t51
                    clear h8
                    go_simp
                    exact hK _ _ jE rfl (fun _ _ _ h => h)
                  · refine stepL_plain rfl ?_
                    rintro F a w1 jE ⟨h0, t43, h9, t52, -⟩ - K hK
                    have h0 : (F 0) = .int .i64 (k : Int) := h0
                    rw [h0] at t43
                    clear h0
                    have h9 : (F 9) = .int .i64 ((KL : Nat) : Int) := h9
                    rw [h9] at t52
                    clear h9
                    go_simp
                    exact hK _ _ jE rfl (fun _ _ _ h => h)
                · rintro F w9 jE ⟨h10, -⟩
                  have h10 : (F 10) = .bool true := h10
                  have hx := jE.ext (Ext.refl _) (by simp)
                  simp only [putL, Act.put, Nat.reduceAdd, Nat.zero_add, List.setIfInBounds_toArray, List.set_cons_succ, List.set_cons_zero]
                  rw [h10]
                  clear h10 jE hkb
                  replace OW := own_far OW hx
                  replace LA := LA.ext hx
                  replace E1 := E1.trans hx
                  replace hWR := Nat.le_trans hWR hx.size
                  replace hcq := (hx.cells.1 bq _ hbq).trans hcq
                  replace hbq := Nat.lt_of_lt_of_le hbq hx.size
                  replace hc1 := (hx.cells.1 b _ hb1).trans hc1
                  replace hb1 := Nat.lt_of_lt_of_le hb1 hx.size
                  replace BG := BG.ext hx
                  replace hr1 := hr1.ext hx
                  clear hx
                  obtain ⟨z, hz⟩ : ∃ z, (N u)[k]? = some z := ⟨_, List.getElem?_eq_getElem (by rw [unhide HKL]; exact hk)⟩
                  obtain ⟨j, rfl, hj⟩ := hd.lt u hun z (List.mem_of_getElem? hz)
                  obtain ⟨bi, oi, rfl, hb2, hc2⟩ := hr1.intIn hz
                  have HZ := hide hz
                  clear hr1 hz wr
                  go_upto_region 16 with fail
                  refine wp_region_lin (by kernel_rfl) (fun w' => (ExtX w9 w' [])) (fun ii vv ww => match ii with | 0 => vv = .pointer (some ⟨g, 1, none⟩) | 1 => vv = .slice (some ⟨b, o, none⟩) n n | 2 => vv = .slice (some ⟨bq, oq, none⟩) out.length c3 | 3 => vv = .int .i64 (i : Int) | 4 => vv = .pointer (some ⟨bq, oq + i, none⟩) | 5 => vv = .int .i64 (u : Int) | 6 => vv = .pointer (some ⟨b, o + u, none⟩) | 7 => vv = .slice (some ⟨bi, oi, none⟩) KL ci | 8 => vv = .int .i64 (k : Int) | 9 => vv = .pointer (some ⟨bi, oi + k, none⟩) | 10 => vv = .int .i64 (j : Int) | 11 => vv = .int .i64 (j : Int) | _ => True) (fun ii => match ii with | 1 => [(0, 56)] | 4 => [(2, 58), (3, 59)] | 5 => [(4, 60)] | 6 => [(1, 57), (5, 61)] | 7 => [(6, 62)] | 9 => [(7, 63), (8, 64)] | 10 => [(9, 65)] | 11 => [(10, 66)] | _ => []) (fun ii => match ii with | 0 => [1] | 2 => [5] | 3 => [7] | 8 => [8] | _ => []) (fun ii => match ii with | 0 => [2, 3, 4, 5, 8] | 1 => [2, 3, 4, 5, 8] | 2 => [0, 3, 1, 8] | 3 => [0, 2, 1, 8] | 4 => [0, 1, 8] | 5 => [0, 1, 8] | 6 => [8] | 7 => [8] | 8 => [0, 2, 3, 4, 1, 5, 6, 7] | _ => []) [11] [0, 1, 0, 0, 12, 28, 63, 127, 0, 511, 1023, 2047] 101 rfl (by kernel_rfl) (ExtX.start _ _) ?_ ?_
                  · rename_i hcont; clear hcont
                    refine ⟨?_, ?_, ?_, ?_, ?_, ?_, ?_, ?_, ?_, ?_, ?_, ?_, trivial⟩
                    · refine stepL_plain rfl ?_
                      rintro F a w1 jE - ⟨t1, -⟩ K hK
                      have t1 : a.tmps[1]? = some (.pointer (some ⟨g, 0, none⟩)) := t1
                      go_simp
                      exact hK _ _ jE rfl (fun _ _ _ h => h)
                    · refine stepL_plain rfl ?_
                      rintro F a w1 jE ⟨h0, t56, -⟩ - K hK
                      have h0 : (F 0) = .pointer (some ⟨g, 1, none⟩) := h0
                      rw [h0] at t56
                      clear h0
                      have c := (jE.blk BG (by simp)).cell
                      go_simp
                      exact hK _ _ jE rfl (fun _ _ _ h => h)
                    · refine stepL_plain rfl ?_
                      rintro F a w1 jE - ⟨t5, -⟩ K hK
                      have t5 : a.tmps[5]? = some (.slice (some ⟨bq, oq, none⟩) out.length c3) := t5
                      go_simp
                      exact hK _ _ jE rfl (fun _ _ _ h => h)
                    · refine stepL_plain rfl ?_
                      rintro F a w1 jE - ⟨t7, -⟩ K hK
                      have t7 : a.tmps[7]? = some (.int .i64 (i : Int)) := t7
                      go_simp
                      exact hK _ _ jE rfl (fun _ _ _ h => h)
                    · refine stepL_plain rfl ?_
                      rintro F a w1 jE ⟨h2, t58, h3, t59, -⟩ - K hK
                      have h2 : (F 2) = .slice (some ⟨bq, oq, none⟩) out.length c3 := h2
                      rw [h2] at t58
                      clear h2
                      have h3 : (F 3) = .int .i64 (i : Int) := h3
                      rw [h3] at t59
                      clear h3
                      go_simp
                      exact hK _ _ jE rfl (fun _ _ _ h => h)
                    · refine stepL_plain rfl ?_
                      rintro F a w1 jE ⟨h4, t60, -⟩ - K hK
                      have h4 : (F 4) = .pointer (some ⟨bq, oq + i, none⟩) := h4
                      rw [h4] at t60
                      clear h4
                      have c := ((jE.ext (Ext.refl _) (by simp)).cells.1 bq _ hbq).trans hcq
                      go_simp
                      exact hK _ _ jE rfl (fun _ _ _ h => h)
                    · refine stepL_plain rfl ?_
                      rintro F a w1 jE ⟨h1, t57, h5, t61, -⟩ - K hK
                      have h1 : (F 1) = .slice (some ⟨b, o, none⟩) n n := h1
                      rw [h1] at t57
                      clear h1
                      have h5 : (F 5) = .int .i64 (u : Int) := h5
                      rw [h5] at t61
                      clear h5
                      go_simp
                      exact hK _ _ jE rfl (fun _ _ _ h => h)
                    · refine stepL_plain rfl ?_
                      rintro F a w1 jE ⟨h6, t62, -⟩ - K hK
                      have h6 : (F 6) = .pointer (some ⟨b, o + u, none⟩) := h6
                      rw [h6] at t62
                      clear h6
                      have c := ((jE.ext (Ext.refl _) (by simp)).cells.1 b _ hb1).trans hc1
                      go_simp
                      exact hK _ _ jE rfl (fun _ _ _ h => h)
                    · refine stepL_plain rfl ?_
                      rintro F a w1 jE - ⟨t8, -⟩ K hK
                      have t8 : a.tmps[8]? = some (.int .i64 (k : Int)) := t8
                      go_simp
                      exact hK _ _ jE rfl (fun _ _ _ h => h)
                    · refine stepL_plain rfl ?_
                      rintro F a w1 jE ⟨h7, t63, h8, t64, -⟩ - K hK
                      have h7 : (F 7) = .slice (some ⟨bi, oi, none⟩) KL ci := h7
                      rw [h7] at t63
                      clear h7
                      have h8 : (F 8) = .int .i64 (k : Int) := h8
                      rw [h8] at t64
                      clear h8
                      go_simp
                      exact hK _ _ jE rfl (fun _ _ _ h => h)
                    · refine stepL_plain rfl ?_
                      rintro F a w1 jE ⟨h9, t65, -⟩ - K hK
                      have h9 : (F 9) = .pointer (some ⟨bi, oi + k, none⟩) := h9
                      rw [h9] at t65
                      clear h9
                      have c := ((jE.ext (Ext.refl _) (by simp)).cells.1 bi _ hb2).trans hc2
                      go_simp
                      exact hK _ _ jE rfl (fun _ _ _ h => h)
                    · refine stepL_plain rfl ?_
                      rintro F a w1 jE ⟨h10, t66, -⟩ - K hK
                      have h10 : (F 10) = .int .i64 (j : Int) := h10
                      rw [h10] at t66
                      clear h10
                      go_simp
                      exact hK _ _ jE rfl (fun _ _ _ h => h)
                  · rintro F w8 jE ⟨h11, -⟩
                    have h11 : (F 11) = .int .i64 (j : Int) := h11
                    have hx := jE.ext (Ext.refl _) (by simp)
                    simp only [putL, Act.put, Nat.reduceAdd, Nat.zero_add, List.setIfInBounds_toArray, List.set_cons_succ, List.set_cons_zero]
                    rw [h11]
                    clear h11 jE hbq hcq hb1 hc1 hb2 hc2 BG
                    replace OW := own_far OW hx
                    replace LA := LA.ext hx
                    replace E1 := E1.trans hx
                    replace hWR := Nat.le_trans hWR hx.size
                    clear hx
                    have hst := fun j' => pendT_step (n := n) (out := out) (i := i) (unhide HZ) j'
                    obtain ⟨q, hq⟩ : ∃ q, pendT N n out i u (k + 1) j = q := ⟨_, rfl⟩
                    have hq1 := hst j
                    rw [hq, if_pos rfl] at hq1
                    have hqb := pendT_le hN out i hun k j
                    have cl := LA.cell (leftL_get _ hj)
                    rw [hq1] at cl hqb
                    have fl := LA.frozen j
                    have ll := LA.lt
                    have HLS := hide (leftL_set (n := n) (x := j) (gf := pendT N n out i u k) (gh := pendT N n out i u (k + 1)) (fun j' _ => hst j'))
                    rw [hq] at HLS
                    have hjI : (0 : Int) ≤ (j : Int) ∧ (j : Int) < (n : Int) := by omega
                    have hj0 : decide ((j : Int) < 0) = false := decide_eq_false (by omega)
                    have hjn : decide (n ≤ j) = false := decide_eq_false (by omega)
                    have hwq : IntKind.i64.wrap (((q + 1 : Nat) : Int) - 1) = (q : Int) := by rw [IntWalk.i64_in _ (by omega)]; omega
                    have HQ := hide hq
                    clear hq hq1 hst hqb
                    generalize ((q + 1 : Nat) : Int) = q1 at *
                    go_upto_region 20 with fail
                    replace LA := LA.put j (q : Int)
                    rw [unhide HLS] at LA
                    replace OW := own_set OW (unhide HGL) (i := j) (.int .i64 (q : Int))
                    replace E1 := E1.set (p := ⟨gl, j, none⟩) hgl (.int .i64 (q : Int))
                    have hWR2 : W4 ≤ (w8.setCell ⟨gl, j, none⟩ (.int .i64 (q : Int))).heap.size := by simpa [World.setCell] using hWR
                    clear cl fl ll HLS hwq hWR
                    generalize w8.setCell ⟨gl, j, none⟩ (.int .i64 (q : Int)) = w7 at *
                    have ll := LA.lt
                    have cl := LA.cell (leftL_get _ hj)
                    rw [unhide HQ] at cl
                    by_cases hq0 : q = 0
                    · have KH2 := hide ((unhide KH).push (unhide HU) (unhide HZ) hj (by rw [unhide HQ]; exact hq0))
                      have HLA := hide (show LeftAt w7 gl n (leftL n (pendT N n (out ++ [j]) i u (k + 1))) by rw [leftL_congr (fun j' _ => pendT_take out [j] (by omega) u (k + 1) j')]; exact LA)
                      have HU2 := hide (show (out ++ [j])[i]? = some u by rw [List.getElem?_append_left hi]; exact unhide HU)
                      have HCA := hide (castL_snoc out j)
                      have HLN := hide (show (out ++ [j]).length = out.length + 1 by simp)
                      rw [hq0] at cl
                      clear hq0 LA KH
                      go_wp2_with (first
                        | (at_builtin
                           refine wpList_append_rd rfl (.tmp 86) (.tmp 88) _ rfl W4 3 i0 _ 1 8 Try.underlying36 (unhide HI).1 (unhide HI).2.1 (unhide HI).2.2.1 (unhide HI).2.2.2 rfl (by omega) _ out.length (ints (castL out)) rfl (own_far OW ((Ext.refl _).alloc _)) _ 1 1 [.int .i64 (j : Int)] rfl (Rd.one _ _) (by simp [Value.oneCell']) (by simp only [maxLen]; omega) (by omega) (by simp; omega) ?_
                           intro A5 c5 w5 own5 g5 at5
                           have hg5 : ∀ b', Value.ownBlock (.slice (some ⟨bq, oq, none⟩) out.length c3) = some b' → W4 ≤ b' := fun b' e => (OW.lt b' e).1
                           have LA5 := ((unhide HLA).ext ((Ext.refl _).alloc _)).grown g5 (fun e => by have := hg5 _ e; have := unhide HGL; omega)
                           have ll5 := LA5.lt
                           have cl5 : w5.cell? ⟨gl, j, none⟩ = some (.int .i64 ((0 : Nat) : Int)) := (World.cell?_of_block (a := ⟨gl, j, none⟩) (g5.block gl (by simp; omega) (fun e => by have := hg5 gl e.symm; have := unhide HGL; omega))).trans (((Ext.refl w7).alloc _).cells.1 _ _ ll |>.trans cl)))
                      go_roundw
                      case rel =>
                        refine ⟨k + 1, A5, c5, out ++ [j], by go_num, by omega, by rw [unhide HLN], ?_, HU2, KH2, LA5, (E1.alloc _).grown g5 (fun b' e => ?_), by have := g5.size; simp at this; omega⟩
                        · rw [unhide HLN, unhide HCA, ints_append]
                          exact own5
                        · have := hg5 b' e
                          have := unhide HGL
                          omega
                      case measure => simp [intOf]; omega
                    · have KH2 := hide ((unhide KH).skip (unhide HZ) (by rw [unhide HQ]; exact hq0))
                      have hqb : ((q : Int) == 0) = false := by simp; omega
                      have hqn : decide ((q : Int) < 0) = false := decide_eq_false (by omega)
                      clear hq0 KH
                      go_wp2_with fail
                      go_roundw
                      case rel => exact ⟨k + 1, _, c3, out, by go_num, by omega, rfl, OW, HU, KH2, LA, E1, hWR2⟩
                      case measure => simp [intOf]; omega
              · have hke : k = KL := by omega
                have hkb : decide (k < KL) = false := decide_eq_false (by omega)
                have e1 : pendT N n out i u k = pend N n (out.take (i + 1)) := funext (pendT_end (unhide HU) (by rw [unhide HKL]; omega))
                have KH2 := hide (show Kahn n N out (pend N n (out.take (i + 1))) by rw [← e1]; exact unhide KH)
                rw [e1] at LA
                clear hke e1 KH hr1
                go_upto_region 14 with fail
                refine wp_region_lin (by kernel_rfl) (fun w' => (ExtX wr w' [])) (fun ii vv ww => match ii with | 0 => vv = .int .i64 (k : Int) | 1 => vv = .pointer (some ⟨g, 1, none⟩) | 2 => vv = .slice (some ⟨b, o, none⟩) n n | 3 => vv = .slice (some ⟨bq, oq, none⟩) out.length c3 | 4 => vv = .int .i64 (i : Int) | 5 => vv = .pointer (some ⟨bq, oq + i, none⟩) | 6 => vv = .int .i64 (u : Int) | 7 => vv = .pointer (some ⟨b, o + u, none⟩) | 8 => vv = .slice Ai KL ci | 9 => vv = .int .i64 ((KL : Nat) : Int) | 10 => vv = .bool false | _ => True) (fun ii => match ii with | 2 => [(1, 44)] | 5 => [(3, 46), (4, 47)] | 6 => [(5, 48)] | 7 => [(2, 45), (6, 49)] | 8 => [(7, 50)] | 9 => [(8, 51)] | 10 => [(0, 43), (9, 52)] | _ => []) (fun ii => match ii with | 0 => [8] | 1 => [1] | 3 => [5] | 4 => [7] | _ => []) (fun ii => match ii with | 0 => [1, 3, 4, 5, 2, 6, 7, 8, 9] | 1 => [3, 4, 5, 6, 0] | 2 => [3, 4, 5, 6, 0] | 3 => [1, 4, 2, 0] | 4 => [1, 3, 2, 0] | 5 => [1, 2, 0] | 6 => [1, 2, 0] | 7 => [0] | 8 => [0] | 9 => [0] | _ => []) [10] [0, 0, 2, 0, 0, 24, 56, 126, 254, 510, 1023] 101 rfl (by kernel_rfl) (ExtX.start _ _) ?_ ?_
                · rename_i hcont; clear hcont
                  refine ⟨?_, ?_, ?_, ?_, ?_, ?_, ?_, ?_, ?_, ?_, ?_, trivial⟩
                  · refine stepL_plain rfl ?_
                    rintro F a w1 jE - ⟨t8, -⟩ K hK
                    have t8 : a.tmps[8]? = some (.int .i64 (k : Int)) := t8
                    go_simp
                    exact hK _ _ jE rfl (fun _ _ _ h => h)
                  · refine stepL_plain rfl ?_
                    rintro F a w1 jE - ⟨t1, -⟩ K hK
                    have t1 : a.tmps[1]? = some (.pointer (some ⟨g, 0, none⟩)) := t1
                    go_simp
                    exact hK _ _ jE rfl (fun _ _ _ h => h)
                  · refine stepL_plain rfl ?_
                    rintro F a w1 jE ⟨h1, t44, -⟩ - K hK
                    have h1 : (F 1) = .pointer (some ⟨g, 1, none⟩) := h1
                    rw [h1] at t44
                    clear h1
                    have c := (jE.blk BG (by simp)).cell
                    go_simp
                    exact hK _ _ jE rfl (fun _ _ _ h => h)
                  · refine stepL_plain rfl ?_
                    rintro F a w1 jE - ⟨t5, -⟩ K hK
                    have t5 : a.tmps[5]? = some (.slice (some ⟨bq, oq, none⟩) out.length c3) := t5
                    go_simp
                    exact hK _ _ jE rfl (fun _ _ _ h => h)
                  · refine stepL_plain rfl ?_
                    rintro F a w1 jE - ⟨t7, -⟩ K hK
                    have t7 : a.tmps[7]? = some (.int .i64 (i : Int)) := t7
                    go_simp
                    exact hK _ _ jE rfl (fun _ _ _ h => h)
                  · refine stepL_plain rfl ?_
                    rintro F a w1 jE ⟨h3, t46, h4, t47, -⟩ - K hK
                    have h3 : (F 3) = .slice (some ⟨bq, oq, none⟩) out.length c3 := h3
                    rw [h3] at t46
                    clear h3
                    have h4 : (F 4) = .int .i64 (i : Int) := h4
                    rw [h4] at t47
                    clear h4
                    go_simp
                    exact hK _ _ jE rfl (fun _ _ _ h => h)
                  · refine stepL_plain rfl ?_
                    rintro F a w1 jE ⟨h5, t48, -⟩ - K hK
                    have h5 : (F 5) = .pointer (some ⟨bq, oq + i, none⟩) := h5
                    rw [h5] at t48
                    clear h5
                    have c := ((jE.ext (Ext.refl _) (by simp)).cells.1 bq _ hbq).trans hcq
                    go_simp
                    exact hK _ _ jE rfl (fun _ _ _ h => h)
                  · refine stepL_plain rfl ?_
                    rintro F a w1 jE ⟨h2, t45, h6, t49, -⟩ - K hK
                    have h2 : (F 2) = .slice (some ⟨b, o, none⟩) n n := h2
                    rw [h2] at t45
                    clear h2
                    have h6 : (F 6) = .int .i64 (u : Int) := h6
                    rw [h6] at t49
                    clear h6
                    go_simp
                    exact hK _ _ jE rfl (fun _ _ _ h => h)
                  · refine stepL_plain rfl ?_
                    rintro F a w1 jE ⟨h7, t50, -⟩ - K hK
                    have h7 : (F 7) = .pointer (some ⟨b, o + u, none⟩) := h7
                    rw [h7] at t50
                    clear h7
                    have c := ((jE.ext (Ext.refl _) (by simp)).cells.1 b _ hb1).trans hc1
                    go_simp
                    exact hK _ _ jE rfl (fun _ _ _ h => h)
                  · refine stepL_plain rfl ?_
                    rintro F a w1 jE ⟨h8, t51, -⟩ - K hK
                    have h8 : (F 8) = .slice Ai KL ci := h8
                    rw [h8] at t51
                    clear h8
                    go_simp
                    exact hK _ _ jE rfl (fun _ _ _ h => h)
                  · refine stepL_plain rfl ?_
                    rintro F a w1 jE ⟨h0, t43, h9, t52, -⟩ - K hK
                    have h0 : (F 0) = .int .i64 (k : Int) := h0
                    rw [h0] at t43
                    clear h0
                    have h9 : (F 9) = .int .i64 ((KL : Nat) : Int) := h9
                    rw [h9] at t52
                    clear h9
                    go_simp
                    exact hK _ _ jE rfl (fun _ _ _ h => h)
                · rintro F w9 jE ⟨h10, -⟩
                  have h10 : (F 10) = .bool false := h10
                  have hx := jE.ext (Ext.refl _) (by simp)
                  simp only [putL, Act.put, Nat.reduceAdd, Nat.zero_add, List.setIfInBounds_toArray, List.set_cons_succ, List.set_cons_zero]
                  rw [h10]
                  clear h10 jE hkb
                  replace OW := own_far OW hx
                  replace LA := LA.ext hx
                  replace E1 := E1.trans hx
                  replace hWR := Nat.le_trans hWR hx.size
                  clear hx hbq hcq hb1 hc1 BG
                  go_wp2_with fail
                  go_roundw
                  case rel => exact ⟨i + 1, _, c3, out, by go_num, by omega, rfl, OW, KH2, LA, E1, hWR⟩
                  case measure => simp [intOf]; omega
        · have hie : i = out.length := by omega
          have hiI : ¬ (i : Int) < (out.length : Int) := by omega
          have DN := hide (Kahn.end_ hd (by rw [hie] at KH; exact unhide KH))
          have hln := (unhide DN).len
          have RO := Rd.of_own OW
          rw [hln] at RO ⊢
          have hnn : ((n : Int) == (n : Int)) = true := by simp
          have hiI2 : ¬ (i : Int) < (n : Int) := by omega
          clear hie hiI
          go_wp2_with fail
          go_ret2
          exact ⟨_, _, out, rfl, RO, unhide DN, E0.trans E1⟩
end Go.Proofs.Ytnolbmfjgfojhaa

/-! Graphs: where each task stands in the order in which all are done (plain laws); done, of a graph as a value. -/
namespace Go.Proofs.Ytnolbmfjgfojhaa
open Go.RowKit
/-- where each of the first k stands -/
def posL (n : Nat) (key : Nat → Nat) (out : List Nat) : Nat → List Int
  | 0 => List.replicate n 0
  | k + 1 => (posL n key out k).set (key (out.getD k 0)) (k : Int)
theorem posL_len (n : Nat) (key : Nat → Nat) (out : List Nat) (k : Nat) : (posL n key out k).length = n := by
  induction k with
  | zero => simp [posL]
  | succ k ih => rw [posL, List.length_set, ih]
theorem posL_at {n : Nat} {key : Nat → Nat} {out : List Nat} {k x : Nat} (h : out[k]? = some x) : (posL n key out k).set (key x) (k : Int) = posL n key out (k + 1) := by
  rw [posL, List.getD_eq_getElem?_getD, h]; rfl
theorem posL_get {n : Nat} {key : Nat → Nat} {out : List Nat} (hinj : ∀ p q x y : Nat, out[p]? = some x → out[q]? = some y → key x = key y → p = q) {p x : Nat} (hp : out[p]? = some x) (hx : key x < n) :
    ∀ k, p < k → k ≤ out.length → (posL n key out k)[key x]? = some (p : Int) := by
  intro k
  induction k with
  | zero => intro h; omega
  | succ k ih =>
    intro hpk hkl
    obtain ⟨y, hy⟩ : ∃ y, out[k]? = some y := ⟨_, List.getElem?_eq_getElem (by omega)⟩
    rw [posL, List.getD_eq_getElem?_getD, hy, Option.getD_some]
    by_cases e : p = k
    · subst e
      have : x = y := by rw [hp] at hy; exact Option.some.inj hy
      subst this
      rw [List.getElem?_set_self (by rw [posL_len]; exact hx)]
    · rw [List.getElem?_set_ne (fun h => e (hinj p k x y hp hy h.symm))]
      exact ih (by omega) (by omega)
section
variable {n : Nat} {N : Nat → List Int} {out : List Nat}
theorem DoneOk.uniq (h : DoneOk n N out) (p q x : Nat) (hp : out[p]? = some x) (hq : out[q]? = some x) : p = q := by
  obtain ⟨h1, h2⟩ := List.getElem?_eq_some_iff.1 hp
  obtain ⟨h3, h4⟩ := List.getElem?_eq_some_iff.1 hq
  exact (List.getElem_inj h.nodup).1 (h2.trans h4.symm)
theorem DoneOk.at_ (h : DoneOk n N out) {i : Nat} (hi : i < n) : ∃ x, out[i]? = some x ∧ x < n := by
  have hl := h.len
  exact ⟨out[i], List.getElem?_eq_getElem (by omega), h.lt _ (List.getElem_mem _)⟩
theorem DoneOk.find (h : DoneOk n N out) {x : Nat} (hx : x < n) : ∃ p, out[p]? = some x ∧ p < n := by
  obtain ⟨p, hp, he⟩ := List.getElem_of_mem (h.all x hx)
  have hl := h.len
  exact ⟨p, by rw [List.getElem?_eq_getElem hp, he], by omega⟩
/-- what is waited for stands ahead -/
theorem DoneOk.before (h : DoneOk n N out) {a b x y : Nat} (ha : out[a]? = some x) (hb : out[b]? = some y) (hm : (y : Int) ∈ N x) : a < b := by
  have hx := h.lt x (List.mem_of_getElem? ha)
  obtain ⟨q, hq, he⟩ := List.getElem_of_mem (h.order b y hb x hx hm)
  rw [List.length_take] at hq
  rw [List.getElem_take] at he
  have := h.uniq a q x ha (by rw [List.getElem?_eq_getElem (by omega), he])
  omega
end
/-- the numbers at which two tasks stand -/
theorem DoneOk.pos {n : Nat} {N : Nat → List Int} {out : List Nat} (h : DoneOk n N out) {m : Nat} {key : Nat → Nat} (hk : ∀ x y, x < n → y < n → key x = key y → x = y) (hm : ∀ x, x < n → key x < m) {x : Nat} (hx : x < n) :
    ∃ p : Nat, out[p]? = some x ∧ p < n ∧ (posL m key out n)[key x]? = some (p : Int) := by
  obtain ⟨p, h1, h2⟩ := h.find hx
  refine ⟨p, h1, h2, posL_get (fun p q x y hp hq e => ?_) h1 (hm x hx) n h2 (by have := h.len; omega)⟩
  have hx := h.lt x (List.mem_of_getElem? hp)
  have hy := h.lt y (List.mem_of_getElem? hq)
  have := hk x y hx hy e
  subst this
  exact h.uniq p q x hp hq
theorem LeftAt.far {w : World} {g n : Nat} {l : List Int} (h : LeftAt w g n l) {p : Addr} (hp : g ≠ p.block) (v : Value) : LeftAt (w.setCell p v) g n l := by
  obtain ⟨cur, h1, h2⟩ := h
  exact ⟨cur, h1.far hp v, h2⟩
theorem LeftAt.new {w : World} {g n : Nat} {l : List Int} (h : Blk w g 3 (ints l).toArray) (hl : l.length = n) : LeftAt w g n l :=
  ⟨_, h, by rw [List.take_of_length_le (by simp [ints, hl])]⟩
theorem LeftAt.some_ {w : World} {g n m : Nat} {key : Nat → Nat} {out : List Nat} {k : Nat} (h : LeftAt w g n (posL n key out m)) (hk : k < n) : ∃ x, w.cell? ⟨g, k, none⟩ = some (.int .i64 x) :=
  ⟨_, h.cell (List.getElem?_eq_getElem (by rw [posL_len]; exact hk))⟩
theorem done_at (n : Nat) (f : Nat → Int) (N : Nat → List Int) (hd : Dag n f N) (h0 : 0 < n) (hn : n ≤ 900) (hN : ∀ u, u < n → (N u).length ≤ 900) (v : Value) (w : World) (h : GAt w v n f N) :
    Calls Try.prog 50 #[v] w (DoneIs w n N) := by
  obtain ⟨A, A', rfl, ha, hb⟩ := h
  obtain ⟨b, o, rfl⟩ := hb.addr h0
  obtain ⟨a, p, rfl, _, _⟩ := ha.at_ h0
  exact done_any n a p b o f N hd h0 hn hN w ha hb
theorem Rd.cellAt {w : World} {b o n : Nat} {l : List Int} (h : Rd w 1 (some ⟨b, o, none⟩) n (ints l)) {i : Nat} {x : Int} (hx : l[i]? = some x) : b < w.heap.size ∧ w.cell? ⟨b, o + i, none⟩ = some (.int .i64 x) := by
  obtain ⟨b', o', e, h1, h2⟩ := h.intIn hx
  injection e with e; injection e with e1 e2
  subst e1 e2
  exact ⟨h1, h2⟩
theorem rowP_len9 (P : Nat → Int) (u : Nat) : (rowP P u).length ≤ 900 := by
  by_cases h : 0 ≤ P u
  · rw [rowP_of h]; simp
  · rw [rowP_not h]; simp
theorem kidsP_len9 (P : Nat → Int) {n : Nat} (hn : n ≤ 900) (u : Nat) : (kidsP P n u).length ≤ 900 := by
  unfold kidsP
  rw [List.length_map]
  exact Nat.le_trans (List.length_filter_le _ _) (by simpa using hn)
section
variable {ns : List Nd}
theorem rt_inj {x y : Nat} (hx : x < (rootsN ns ns.length).length) (hy : y < (rootsN ns ns.length).length) (e : (rtN ns x).toNat = (rtN ns y).toNat) : x = y := by
  obtain ⟨r, h1, _, _, h4⟩ := rt_of hx
  obtain ⟨s, h5, _, _, h8⟩ := rt_of hy
  rw [h1, h5] at e
  simp only [Int.toNat_natCast] at e
  subst e
  omega
end
end Go.Proofs.Ytnolbmfjgfojhaa

/-! Graphs: the law GraphDone (walk). -/
namespace Go.Proofs.Ytnolbmfjgfojhaa
open Go.RowKit
theorem GAt.of {w : World} {A A' : Option Addr} {n : Nat} {f : Nat → Int} {N : Nat → List Int} (ha : Rd w 1 A n (ints ((List.range n).map f))) (hb : RdR w 0 A' n N) : GAt w (.agg #[.slice A n n, .slice A' n n]) n f N := ⟨_, _, rfl, ha, hb⟩
section
variable (t : Tr) (ns : List Nd) (av : List Int)
set_option maxRecDepth 100000 in
set_option maxHeartbeats 16000000 in
theorem law_grDone (w : World) (h : TrIn w t ns av) (hm : t.nl ≤ maxLen) (ha : t.al ≤ maxLen) :
    Calls Try.prog 13 #[.agg t.cs] w fun e w' => e = .returned (.bool true) ∧ Ext w w' := by
  have cm := fun w h => hide (small_any t ns av w h hm ha)
  go_enter Try.func13, Try.ntmps13
  go_wp2_with fail
  refine (unhide (cm _ (h.ext ((Ext.refl _).alloc _)))).mono ?_
  rintro e w1 ⟨q, rfl, hq, hx⟩
  have BT : Blk w1 w.heap.size 25 t.cs := (Blk.new _ _ _).ext hx
  have E1 : Ext w w1 := ((Ext.refl _).alloc _).trans hx
  have HQ := hide hq
  have BTc := BT.cell
  have BTl := BT.lt
  clear hx cm hq
  cases q
  · go_wp2_with fail
    refine (works26_any _).mono ?_
    rintro e w2 ⟨rfl, hx⟩
    go_wp2_with fail
    go_ret
    exact ⟨rfl, E1.trans hx⟩
  obtain ⟨hn, hck⟩ := unhide HQ rfl
  have hT := TOk.of (by omega) hck
  have hl := h.nodes.nlen
  have hnl : t.nl ≤ 300 := by omega
  have hN := h.nodes
  have hpos : 0 < t.nl := by have := hT.pos; omega
  obtain ⟨m, hmm⟩ : ∃ m, (rootsN ns ns.length).length = m := ⟨_, rfl⟩
  have hm1 : m ≤ 300 := by have := rootsN_len ns ns.length; omega
  have hm0 : 0 < m := by have := roots_pos hT; omega
  have hPP : ∀ k, k < t.nl → parN ns k < k := fun k _ => (parN_lt ns k).2
  have cU := fun w h => hide (up_at t ns (by omega) hpos w h)
  have cD := fun w h => hide (down_at t ns (by omega) hpos w h)
  have cI := fun w h => hide (isles_is t ns hT (by omega) w h)
  have cR := fun w h => hide (refroots_any t ns w h (show t.nl ≤ 1000000 by omega))
  have cW := fun w => hide (works26_any w)
  have c1 := fun v w h => hide (done_at t.nl (fU (parN ns) t.nl) (rowP (parN ns)) (dag_up hPP) hpos (by omega) (fun u _ => rowP_len9 _ u) v w h)
  have c2 := fun v w h => hide (done_at t.nl (fD (parN ns)) (kidsP (parN ns) t.nl) (dag_down hPP) hpos (by omega) (fun u _ => kidsP_len9 _ (by omega) u) v w h)
  have c3 := fun v w h => hide (done_at m (fU (isQ ns) m) (rowP (isQ ns)) (dag_up (fun k hk => (isQ_lt hT (by rw [hmm]; exact hk)).2)) hm0 (by omega) (fun u _ => rowP_len9 _ u) v w h)
  have cO := fun z w h => hide (refover_any t ns hT z w h hm)
  have cS := fun A B (c d : Nat) w ha hb => hide (same_eq A B m c d (rootsN ns ns.length) w ha hb (by unfold maxLen; omega))
  rw [hmm] at cI
  have hmk := make_ints t.nl (by omega)
  have HT := hide hT
  have HL := hide hl
  have HMM := hide hmm
  have hrl : (rootsN ns ns.length).length = m := hmm
  replace hN := hN.ext E1
  obtain ⟨bn, on, hna, -, -⟩ := hN.at_ hpos
  obtain ⟨na, nl, nc, aa, al, ac, view⟩ := t
  simp only at hna hm ha hl hpos hnl hN BT BTc BTl cR cO cI c1 c2 c3 cU cD hmk h HL hPP
  subst hna
  clear HQ hn hck hm ha hl h hT hmm hPP
  have HMK := hide hmk
  clear hmk
  generalize hg : w.heap.size = g at *
  have HG := hide hg
  clear hg
  go_wp2_with fail
  with_reducible refine (unhide (cU _ hN)).mono ?_
  rintro e w2 ⟨⟨v1, rfl, hv1⟩, hx⟩
  clear BTc BTl
  replace hN := hN.ext hx
  replace BT := BT.ext hx
  replace E1 := E1.trans hx
  clear hx
  have BTc := BT.cell
  have BTl := BT.lt
  clear cU
  go_wp2_with fail
  with_reducible refine (unhide (c1 _ _ hv1)).mono ?_
  rintro e w3 ⟨A1, k1, u, rfl, RU, DU, hx⟩
  clear BTc BTl
  replace hN := hN.ext hx
  replace BT := BT.ext hx
  replace E1 := E1.trans hx
  clear hx
  have BTc := BT.cell
  have BTl := BT.lt
  have HDU := hide DU
  clear c1 hv1 DU
  go_wp2_with fail
  with_reducible refine (unhide (cD _ hN)).mono ?_
  rintro e w4 ⟨⟨v2, rfl, hv2⟩, hx⟩
  clear BTc BTl
  replace hN := hN.ext hx
  replace RU := RU.ext hx
  replace BT := BT.ext hx
  replace E1 := E1.trans hx
  clear hx
  have BTc := BT.cell
  have BTl := BT.lt
  clear cD
  go_wp2_with fail
  with_reducible refine (unhide (c2 _ _ hv2)).mono ?_
  rintro e w5 ⟨A2, k2, d, rfl, RD, DD, hx⟩
  clear BTc BTl
  replace hN := hN.ext hx
  replace RU := RU.ext hx
  replace BT := BT.ext hx
  replace E1 := E1.trans hx
  clear hx
  have BTc := BT.cell
  have BTl := BT.lt
  have HDD := hide DD
  clear c2 hv2 DD
  go_wp2_with fail
  with_reducible refine (unhide (cI _ hN)).mono ?_
  rintro e w6 ⟨A3, A3', R3, k3, rfl, q1, q2, RR, hx⟩
  clear BTc BTl
  replace hN := hN.ext hx
  replace RU := RU.ext hx
  replace RD := RD.ext hx
  replace BT := BT.ext hx
  replace E1 := E1.trans hx
  clear hx
  have BTc := BT.cell
  have BTl := BT.lt
  clear cI
  obtain ⟨a3, p3, b3, o3, rfl, rfl, G3⟩ := GLit.of q1 q2 hm0
  go_upto_region 6 with fail
  clear BTc BTl
  have hx : Ext w6 (w6.alloc (.cells #[.slice (some ⟨a3, p3, none⟩) m m, .slice (some ⟨b3, o3, none⟩) m m] 55)) := (Ext.refl _).alloc _
  have B3 : Blk (w6.alloc (.cells #[.slice (some ⟨a3, p3, none⟩) m m, .slice (some ⟨b3, o3, none⟩) m m] 55)) w6.heap.size 55 #[.slice (some ⟨a3, p3, none⟩) m m, .slice (some ⟨b3, o3, none⟩) m m] := Blk.new _ _ _
  replace hN := hN.ext hx
  replace RU := RU.ext hx
  replace RD := RD.ext hx
  replace G3 := G3.ext hx
  replace q1 := q1.ext hx
  replace q2 := q2.ext hx
  replace RR := RR.ext hx
  replace BT := BT.ext hx
  replace E1 := E1.trans hx
  clear hx
  generalize w6.heap.size = g3 at *
  generalize w6.alloc (.cells #[.slice (some ⟨a3, p3, none⟩) m m, .slice (some ⟨b3, o3, none⟩) m m] 55) = w7 at *
  have BTc := BT.cell
  have BTl := BT.lt
  have B3c := B3.cell
  have B3l := B3.lt
  go_wp2_with fail
  with_reducible refine (unhide (c3 _ _ (GAt.of q1 q2))).mono ?_
  rintro e w8 ⟨A4, k4, l, rfl, RL, DL, hx⟩
  clear BTc BTl B3c B3l
  replace hN := hN.ext hx
  replace RU := RU.ext hx
  replace RD := RD.ext hx
  replace G3 := G3.ext hx
  replace q1 := q1.ext hx
  replace q2 := q2.ext hx
  replace RR := RR.ext hx
  replace BT := BT.ext hx
  replace B3 := B3.ext hx
  replace E1 := E1.trans hx
  clear hx
  have BTc := BT.cell
  have BTl := BT.lt
  have B3c := B3.cell
  have B3l := B3.lt
  have HDL := hide DL
  clear c3 q1 q2 G3 DL
  go_wp2_with fail
  with_reducible refine (unhide (cR _ hN)).mono ?_
  rintro e w9 ⟨A5, k5, rfl, RW, hx⟩
  clear BTc BTl B3c B3l
  replace hN := hN.ext hx
  replace RU := RU.ext hx
  replace RD := RD.ext hx
  replace RR := RR.ext hx
  replace RL := RL.ext hx
  replace BT := BT.ext hx
  replace B3 := B3.ext hx
  replace E1 := E1.trans hx
  clear hx
  have BTc := BT.cell
  have BTl := BT.lt
  have B3c := B3.cell
  have B3l := B3.lt
  clear cR
  rw [hrl] at RW
  rw [hrl]
  go_wp2_with fail
  with_reducible refine (unhide (cS _ _ _ _ _ RR RW)).mono ?_
  rintro e w10 ⟨rfl, hx⟩
  clear BTc BTl B3c B3l
  replace hN := hN.ext hx
  replace RU := RU.ext hx
  replace RD := RD.ext hx
  replace RR := RR.ext hx
  replace RL := RL.ext hx
  replace RW := RW.ext hx
  replace BT := BT.ext hx
  replace B3 := B3.ext hx
  replace E1 := E1.trans hx
  clear hx
  have BTc := BT.cell
  have BTl := BT.lt
  have B3c := B3.cell
  have B3l := B3.lt
  clear cS RW hrl
  clear B3c B3l B3
  obtain ⟨bu, ou, rfl, -, -⟩ := RU.at_ hpos
  obtain ⟨bd, od, rfl, -, -⟩ := RD.at_ hpos
  obtain ⟨br, orr, rfl, -, -⟩ := RR.at_ hm0
  obtain ⟨bl, ol, rfl, -, -⟩ := RL.at_ hm0
  have hmk := unhide HMK
  go_upto_region 11 with fail
  clear BTc BTl
  have BU : LeftAt (w10.alloc (.cells (Array.replicate nl (.int .i64 0)) 3)) w10.heap.size nl (posL nl id u 0) := LeftAt.new (by rw [show posL nl id u 0 = List.replicate nl 0 from rfl, ← ints_zero]; exact Blk.new _ _ _) (posL_len ..)
  have hx : Ext w10 (w10.alloc (.cells (Array.replicate nl (.int .i64 0)) 3)) := (Ext.refl _).alloc _
  have hz : (w10.alloc (.cells (Array.replicate nl (.int .i64 0)) 3)).heap.size = w10.heap.size + 1 := by simp
  generalize w10.alloc (.cells (Array.replicate nl (.int .i64 0)) 3) = w11 at *
  have BD : LeftAt (w11.alloc (.cells (Array.replicate nl (.int .i64 0)) 3)) w11.heap.size nl (posL nl id d 0) := LeftAt.new (by rw [show posL nl id d 0 = List.replicate nl 0 from rfl, ← ints_zero]; exact Blk.new _ _ _) (posL_len ..)
  have hx2 : Ext w11 (w11.alloc (.cells (Array.replicate nl (.int .i64 0)) 3)) := (Ext.refl _).alloc _
  replace BU := BU.ext hx2
  replace hx := hx.trans hx2
  clear hx2
  generalize w11.alloc (.cells (Array.replicate nl (.int .i64 0)) 3) = w12 at *
  generalize hgu : w10.heap.size = gu at *
  rw [hz] at BD
  have hud : gu ≠ gu + 1 ∧ w10.heap.size ≤ gu ∧ w10.heap.size ≤ gu + 1 := ⟨by omega, by omega, by omega⟩
  have hW1 : w.heap.size ≤ w10.heap.size := E1.size
  have HUD := hide hud
  have HW1 := hide hW1
  clear hgu hz hud hW1
  have EX := hx
  clear hx hmk
  go_wp2_with fail
  go_loopw [13] (fun v wr => ∃ i : Nat, v = .int .i64 i ∧ i ≤ nl ∧ LeftAt wr gu nl (posL nl id u i) ∧ LeftAt wr (gu + 1) nl (posL nl id d i) ∧ Ext w10 wr) (fun v _ => nl - (intOf v).toNat)
  case atStart => exact ⟨0, rfl, by omega, BU, BD, EX⟩
  case round =>
    clear BU BD EX
    obtain ⟨i, rfl, q1, LU, LD, E2⟩ := hrel
    by_cases hi : i < nl
    · have hiI : (0 : Int) ≤ (i : Int) ∧ (i : Int) < (nl : Int) := by omega
      obtain ⟨ju, hju, jul⟩ := (unhide HDU).at_ hi
      obtain ⟨jd, hjd, jdl⟩ := (unhide HDD).at_ hi
      have hjuI : (0 : Int) ≤ (ju : Int) ∧ (ju : Int) < (nl : Int) := by omega
      have hjdI : (0 : Int) ≤ (jd : Int) ∧ (jd : Int) < (nl : Int) := by omega
      obtain ⟨x1, y1⟩ := (RU.ext E2).cellAt (castL_get hju)
      obtain ⟨z, z1⟩ := LU.some_ jul
      have z2 := LU.frozen ju
      have z3 := LU.lt
      have HSU := hide (posL_at (n := nl) (key := id) hju)
      have HSD := hide (posL_at (n := nl) (key := id) hjd)
      have hjd2 := hide hjd
      clear hju hjd
      go_upto_region 15 with fail
      replace LU := LU.put ju (i : Int)
      rw [show (posL nl id u i).set ju (i : Int) = posL nl id u (i + 1) from unhide HSU] at LU
      replace LD := LD.far (p := ⟨gu, ju, none⟩) (Ne.symm (unhide HUD).1) (.int .i64 (i : Int))
      replace E2 := E2.set (p := ⟨gu, ju, none⟩) (unhide HUD).2.1 (.int .i64 (i : Int))
      clear x1 y1 z1 z2 z3
      generalize wr.setCell ⟨gu, ju, none⟩ (.int .i64 (i : Int)) = wq at *
      clear wr
      obtain ⟨x1, y1⟩ := (RD.ext E2).cellAt (castL_get (unhide hjd2))
      obtain ⟨z, z1⟩ := LD.some_ jdl
      have z2 := LD.frozen jd
      have z3 := LD.lt
      go_wp2_with fail
      go_roundw
      case rel =>
        refine ⟨i + 1, by go_num, by omega, LU.far (p := ⟨gu + 1, jd, none⟩) (unhide HUD).1 _, ?_, E2.set (p := ⟨gu + 1, jd, none⟩) (unhide HUD).2.2 _⟩
        have := LD.put jd (i : Int)
        rwa [show (posL nl id d i).set jd (i : Int) = posL nl id d (i + 1) from unhide HSD] at this
      case measure => simp [intOf]; omega
    · have hie : i = nl := by omega
      have hiI : ¬ (i : Int) < (nl : Int) := by omega
      rw [hie] at LU LD
      clear hie
      replace E1 := E1.trans E2
      replace BT := BT.ext E2
      replace hN := hN.ext E2
      replace RR := RR.ext E2
      replace RL := RL.ext E2
      clear RU RD HUD E2
      go_wp2_with fail
      go_loopw [14] (fun v wr2 => ∃ i : Nat, v = .int .i64 i ∧ 1 ≤ i ∧ i ≤ nl ∧ Ext wr wr2) (fun v _ => nl - (intOf v).toNat)
      case atStart => exact ⟨1, rfl, by omega, by omega, Ext.refl _⟩
      case round =>
        obtain ⟨j, rfl, j1, j2, E2⟩ := hrel
        have BTc := (BT.ext E2).cell
        have BTl := (BT.ext E2).lt
        by_cases hj : j < nl
        · have hjI : (0 : Int) ≤ (j : Int) ∧ (j : Int) < (nl : Int) := by omega
          have hjn : j < ns.length := by have := unhide HL; omega
          obtain ⟨p, hp1, hp2⟩ := (unhide HT).par (by omega) hjn
          have hpar : parN ns j = p := ((unhide HT).parN hjn).trans hp1
          obtain ⟨b', off', e, n1, nc'⟩ := (hN.ext E2).node (List.getElem?_eq_getElem hjn)
          injection e with e; injection e with e1 e2
          subst e1 e2
          have n2 := nc' 0 _ rfl
          rw [← nP_of hjn, hp1, Nat.add_zero] at n2
          have hpI : (0 : Int) ≤ (p : Int) ∧ (p : Int) < (nl : Int) := by omega
          obtain ⟨p1, f1, f2, f3⟩ := (unhide HDU).pos (key := id) (m := nl) (fun x y _ _ e => e) (fun x h => h) hj
          obtain ⟨p2, f4, f5, f6⟩ := (unhide HDU).pos (key := id) (m := nl) (fun x y _ _ e => e) (fun x h => h) (show p < nl by omega)
          obtain ⟨p3', f7, f8, f9⟩ := (unhide HDD).pos (key := id) (m := nl) (fun x y _ _ e => e) (fun x h => h) hj
          obtain ⟨p4, f10, f11, f12⟩ := (unhide HDD).pos (key := id) (m := nl) (fun x y _ _ e => e) (fun x h => h) (show p < nl by omega)
          have g1 := (unhide HDU).before f1 f4 (by rw [rowP_of (by rw [hpar]; omega), hpar]; simp)
          have g2 := (unhide HDD).before f10 f7 (kidsP_mem.2 ⟨j, rfl, hj, hpar⟩)
          have v1 := (LU.ext E2).cell f3
          have v2 := (LU.ext E2).cell f6
          have v3 := (LD.ext E2).cell f9
          have v4 := (LD.ext E2).cell f12
          have v5 := (LU.ext E2).lt
          have v6 := (LD.ext E2).lt
          simp only [id] at v1 v2 v3 v4
          have d1 : decide ((p2 : Int) ≤ (p1 : Int)) = false := by simp; omega
          have d2 : decide ((p3' : Int) ≤ (p4 : Int)) = false := by simp; omega
          clear hpar nc' f1 f3 f4 f6 f7 f9 f10 f12 hp1
          go_upto_region 20 with fail
          clear BTc BTl n1 n2
          go_quiet (fail)
          go_wp2_with fail
          go_roundw
          case rel => exact ⟨j + 1, by go_num, by omega, by omega, E2.drewN _⟩
          case measure => simp [intOf]; omega
        · have hjI : ¬ (j : Int) < (nl : Int) := by omega
          have E3 := E1.trans E2
          replace BT := BT.ext E2
          replace hN := hN.ext E2
          replace RR := RR.ext E2
          replace RL := RL.ext E2
          clear LU LD E2 E1
          have hmk := unhide HMK
          go_upto_region 23 with fail
          clear hmk BTc BTl
          have BA : LeftAt (wr.alloc (.cells (Array.replicate nl (.int .i64 0)) 3)) wr.heap.size nl (posL nl (fun k => (rtN ns k).toNat) l 0) := LeftAt.new (by rw [show posL nl (fun k => (rtN ns k).toNat) l 0 = List.replicate nl 0 from rfl, ← ints_zero]; exact Blk.new _ _ _) (posL_len ..)
          have EX : Ext wr (wr.alloc (.cells (Array.replicate nl (.int .i64 0)) 3)) := (Ext.refl _).alloc _
          generalize wr.alloc (.cells (Array.replicate nl (.int .i64 0)) 3) = w12' at *
          generalize hga : wr.heap.size = ga at *
          have HGA := hide (show wr.heap.size ≤ ga by omega)
          clear hga
          go_wp2_with fail
          go_loopw [17] (fun v wr3 => ∃ k : Nat, v = .int .i64 k ∧ k ≤ m ∧ LeftAt wr3 ga nl (posL nl (fun k => (rtN ns k).toNat) l k) ∧ Ext wr wr3) (fun v _ => m - (intOf v).toNat)
          case atStart => exact ⟨0, rfl, by omega, BA, EX⟩
          case round =>
            clear BA EX
            obtain ⟨k, rfl, kq, LA, E2⟩ := hrel
            by_cases hk : k < m
            · have hkI : (0 : Int) ≤ (k : Int) ∧ (k : Int) < (m : Int) := by omega
              obtain ⟨x, hx, hxl⟩ := (unhide HDL).at_ hk
              have hxI : (0 : Int) ≤ (x : Int) ∧ (x : Int) < (m : Int) := by omega
              have hxm : x < (rootsN ns ns.length).length := by have := unhide HMM; omega
              obtain ⟨r, r1, r2, r3, r4⟩ := rt_of hxm
              have hrn : r < nl := by have := unhide HL; omega
              have hrI : (0 : Int) ≤ (r : Int) ∧ (r : Int) < (nl : Int) := by omega
              have HSA := posL_at (n := nl) (key := fun k => (rtN ns k).toNat) hx
              simp only [r1, Int.toNat_natCast] at HSA
              have HSA := hide HSA
              obtain ⟨x1, y1⟩ := (RL.ext E2).cellAt (castL_get hx)
              obtain ⟨x2, y2⟩ := (RR.ext E2).cellAt (rt_get hxm)
              rw [r1] at y2
              obtain ⟨z, z1⟩ := LA.some_ hrn
              have z2 := LA.frozen r
              have z3 := LA.lt
              clear hx r1 r3 r4
              go_wp2_with fail
              go_roundw
              case rel =>
                refine ⟨k + 1, by go_num, by omega, ?_, E2.set (p := ⟨ga, r, none⟩) (unhide HGA) _⟩
                have := LA.put r (k : Int)
                rwa [unhide HSA] at this
              case measure => simp [intOf]; omega
            · have hke : k = m := by omega
              have hkI : ¬ (k : Int) < (m : Int) := by omega
              rw [hke] at LA
              clear hke
              have E4 := E3.trans E2
              replace BT := BT.ext E2
              replace hN := hN.ext E2
              replace RR := RR.ext E2
              clear RL E2 E3
              go_wp2_with fail
              go_loopw [18] (fun v wr4 => ∃ k : Nat, v = .int .i64 k ∧ 1 ≤ k ∧ k ≤ m ∧ Ext wr wr4) (fun v _ => m - (intOf v).toNat)
              case atStart => exact ⟨1, rfl, by omega, by omega, Ext.refl _⟩
              case round =>
                obtain ⟨q, rfl, q1, q2, E2⟩ := hrel
                by_cases hq : q < m
                · have hqI : (0 : Int) ≤ (q : Int) ∧ (q : Int) < (m : Int) := by omega
                  have hqm : q < (rootsN ns ns.length).length := by have := unhide HMM; omega
                  obtain ⟨r, r1, r2, r3, r4⟩ := rt_of hqm
                  obtain ⟨s, o, s1, s2, s3, s4, s5, s6, s7, s8⟩ := (isQ_spec (unhide HT) hqm).resolve_left (fun h => by omega)
                  rw [r1] at s4
                  have hrn : r < nl := by have := unhide HL; omega
                  have hrI : (0 : Int) ≤ (r : Int) ∧ (r : Int) < (nl : Int) := by omega
                  have hon : o < nl := by have := unhide HL; omega
                  have hoI : (0 : Int) ≤ (o : Int) ∧ (o : Int) < (nl : Int) := by omega
                  have hK1 : ∀ x y, x < m → y < m → (rtN ns x).toNat = (rtN ns y).toNat → x = y := fun x y hx hy e => rt_inj (ns := ns) (by have := unhide HMM; omega) (by have := unhide HMM; omega) e
                  have hK2 : ∀ x, x < m → (rtN ns x).toNat < nl := fun x hx => by
                    obtain ⟨r', h1, h2, _, _⟩ := rt_of (ns := ns) (k := x) (by have := unhide HMM; omega)
                    rw [h1]
                    have := unhide HL
                    simp only [Int.toNat_natCast]
                    omega
                  obtain ⟨p1, f1, f2, f3⟩ := (unhide HDL).pos (key := fun k => (rtN ns k).toNat) hK1 hK2 hq
                  obtain ⟨p2, f4, f5, f6⟩ := (unhide HDL).pos (key := fun k => (rtN ns k).toNat) hK1 hK2 (show s < m by omega)
                  have g1 := (unhide HDL).before f1 f4 (by rw [rowP_of (by rw [s2]; omega), s2]; simp)
                  simp only [r1, s5, Int.toNat_natCast] at f3 f6
                  have y2 := ((RR.ext E2).cellAt (rt_get hqm))
                  rw [r1] at y2
                  obtain ⟨y1, y2⟩ := y2
                  have d1 : decide ((p2 : Int) ≤ (p1 : Int)) = false := by simp; omega
                  have HO := hide s4
                  have F5 := hide r1
                  have F3 := hide f3
                  have F6 := hide f6
                  have BX := BT.ext E2
                  clear hK1 hK2 f1 f3 f4 f6 r1 r3 r4 s2 s4 s5 s7 s8
                  go_upto_region 30 with fail
                  refine wp_region_lin (by kernel_rfl) (fun w' => (ExtX wr w' [])) (fun ii vv ww => match ii with | 0 => vv = (.agg #[.slice (some ⟨bn, on, none⟩) nl nc, .slice aa al ac, .int .i64 view]) | 1 => vv = .slice (some ⟨br, orr, none⟩) m k3 | 2 => vv = .int .i64 (q : Int) | 3 => vv = .pointer (some ⟨br, orr + q, none⟩) | 4 => vv = .int .i64 (r : Int) | 5 => vv = .int .i64 (overI ns (r : Int)) | 6 => vv = .int .i64 (overI ns (r : Int)) | _ => True) (fun ii => match ii with | 3 => [(1, 172), (2, 173)] | 4 => [(3, 174)] | 5 => [(0, 171), (4, 175)] | 6 => [(5, 176)] | _ => []) (fun ii => match ii with | 0 => [1] | 1 => [8] | 2 => [18] | _ => []) (fun ii => match ii with | 0 => [1, 2, 3, 4] | 1 => [2, 0] | 2 => [1, 0] | 3 => [0] | 4 => [0] | _ => []) [6] [0, 0, 0, 6, 14, 31, 63] 194 rfl (by kernel_rfl) (ExtX.start _ _) ?_ ?_
                  · rename_i hcont; clear hcont
                    refine ⟨?_, ?_, ?_, ?_, ?_, ?_, ?_, trivial⟩
                    · refine stepL_plain rfl ?_
                      rintro F a w1 jE - ⟨t1, -⟩ K hK
                      have t1 : a.tmps[1]? = some (.pointer (some ⟨g, 0, none⟩)) := t1
                      have c := (jE.blk BX (by simp)).cell
                      go_simp
                      exact hK _ _ jE rfl (fun _ _ _ h => h)
                    · refine stepL_plain rfl ?_
                      rintro F a w1 jE - ⟨t8, -⟩ K hK
                      have t8 : a.tmps[8]? = some (.slice (some ⟨br, orr, none⟩) m k3) := t8
                      go_simp
                      exact hK _ _ jE rfl (fun _ _ _ h => h)
                    · refine stepL_plain rfl ?_
                      rintro F a w1 jE - ⟨t18, -⟩ K hK
                      have t18 : a.tmps[18]? = some (.int .i64 (q : Int)) := t18
                      go_simp
                      exact hK _ _ jE rfl (fun _ _ _ h => h)
                    · refine stepL_plain rfl ?_
                      rintro F a w1 jE ⟨h1, t172, h2, t173, -⟩ - K hK
                      have h1 : (F 1) = .slice (some ⟨br, orr, none⟩) m k3 := h1
                      rw [h1] at t172
                      clear h1
                      have h2 : (F 2) = .int .i64 (q : Int) := h2
                      rw [h2] at t173
                      clear h2
                      go_simp
                      exact hK _ _ jE rfl (fun _ _ _ h => h)
                    · refine stepL_plain rfl ?_
                      rintro F a w1 jE ⟨h3, t174, -⟩ - K hK
                      have h3 : (F 3) = .pointer (some ⟨br, orr + q, none⟩) := h3
                      rw [h3] at t174
                      clear h3
                      have c := ((jE.ext (Ext.refl _) (by simp)).cells.1 br _ y1).trans y2
                      go_simp
                      exact hK _ _ jE rfl (fun _ _ _ h => h)
                    · refine stepL_plain rfl ?_
                      rintro F a w1 jE ⟨h0, t171, h4, t175, -⟩ - K hK
                      have h0 : (F 0) = (.agg #[.slice (some ⟨bn, on, none⟩) nl nc, .slice aa al ac, .int .i64 view]) := h0
                      rw [h0] at t171
                      clear h0
                      have h4 : (F 4) = .int .i64 (r : Int) := h4
                      rw [h4] at t175
                      clear h4
                      go_simp
                      with_reducible refine (unhide (cO _ _ (hN.ext (E2.trans (jE.ext (Ext.refl _) (by simp)))))).mono ?_
                      rintro e w2 ⟨rfl, hx⟩
                      exact hK _ _ (jE.trans hx) (rfl) (fun _ hj _ _ => (List.not_mem_nil hj).elim)
                    · refine stepL_plain rfl ?_
                      rintro F a w1 jE ⟨h5, t176, -⟩ - K hK
                      have h5 : (F 5) = .int .i64 (overI ns (r : Int)) := h5
                      rw [h5] at t176
                      clear h5
                      go_simp
                      exact hK _ _ jE rfl (fun _ _ _ h => h)
                  · rintro F w9 jE ⟨h6, -⟩
                    have h6 : (F 6) = .int .i64 (overI ns (r : Int)) := h6
                    have hx := jE.ext (Ext.refl _) (by simp)
                    simp only [putL, Act.put, Nat.reduceAdd, Nat.zero_add, List.setIfInBounds_toArray, List.set_cons_succ, List.set_cons_zero]
                    rw [h6, unhide HO]
                    clear h6 jE y1 y2 BX HO
                    replace E2 := E2.trans hx
                    clear hx
                    have v1 := (LA.ext E2).cell (unhide F3)
                    have v2 := (LA.ext E2).cell (unhide F6)
                    have v5 := (LA.ext E2).lt
                    obtain ⟨y1, y2⟩ := (RR.ext E2).cellAt (rt_get hqm)
                    obtain ⟨r', r1, _, _, r4⟩ := rt_of hqm
                    have hr' : r' = r := by
                      have a1 := (unhide F5).symm.trans r1
                      omega
                    subst hr'
                    rw [r1] at y2
                    clear r1 r4
                    have d0 : decide ((o : Int) < 0) = false := decide_eq_false (by omega)
                    go_upto_region 31 with fail
                    go_quiet (fail)
                    go_wp2_with fail
                    go_roundw
                    case rel => exact ⟨q + 1, by go_num, by omega, by omega, E2.drewN _⟩
                    case measure => simp [intOf]; omega
                · have hqI : ¬ (q : Int) < (m : Int) := by omega
                  go_wp2_with fail
                  refine (unhide (cW _)).mono ?_
                  rintro e w9' ⟨rfl, hx⟩
                  go_wp2_with fail
                  go_ret
                  exact ⟨rfl, (E4.trans E2).trans hx⟩
end
end Go.Proofs.Ytnolbmfjgfojhaa
