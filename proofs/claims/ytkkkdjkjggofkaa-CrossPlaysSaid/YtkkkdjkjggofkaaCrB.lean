/- Layer 20: items in memory (plain laws). -/
import Derived.Test.YtkkkdjkjggofkaaCrA
import Derived.Test.YtkkkdjkjggofkaaSl
import Derived.Test.YtkkkdjkjggofkaaRow
import Derived.Test.YtkkkdjkjggofkaaCpy
import Derived.Test.YtkkkdjkjggofkaaLinB
import Derived.Deep.MidRow
namespace Go.Proofs.Ytkkkdjkjggofkaa
open Go.RowKit
/-! ### rows of records -/
def recs {α : Type} (f : α → List Value) (l : List α) : List Value := (l.map f).flatten
section
variable {α : Type} {f : α → List Value} {k : Nat}
theorem recs_len (hk : ∀ x, (f x).length = k) (l : List α) : (recs f l).length = l.length * k := by
  have := flatten_len k (l.map f) (by intro xs h; obtain ⟨n, _, rfl⟩ := List.mem_map.1 h; exact hk n)
  simpa [recs] using this
theorem recs_get (hk : ∀ x, (f x).length = k) {l : List α} {i j : Nat} {x : α} (h : l[i]? = some x) (hj : j < k) : (recs f l)[i * k + j]? = (f x)[j]? :=
  flatten_get k (l.map f) (by intro xs h; obtain ⟨n, _, rfl⟩ := List.mem_map.1 h; exact hk n) i j (f x) (by simp [h]) hj
theorem recs_append (l m : List α) : recs f (l ++ m) = recs f l ++ recs f m := by simp [recs]
theorem recs_one (x : α) : recs f [x] = f x := by simp [recs]
theorem recs_ones (h : ∀ x, ∀ u ∈ f x, u.oneCell' = true) (l : List α) : ∀ u ∈ recs f l, u.oneCell' = true := by
  intro u hu
  obtain ⟨ys, hy, hu⟩ := List.mem_flatten.1 hu
  obtain ⟨x, _, rfl⟩ := List.mem_map.1 hy
  exact h x u hu
theorem Rd.rec_ (hk : ∀ x, (f x).length = k) {w : World} {A : Option Addr} {n : Nat} {l : List α} (h : Rd w k A n (recs f l)) {i : Nat} {x : α} (hi : l[i]? = some x) (hk0 : 0 < k) :
    ∃ b off, A = some ⟨b, off, none⟩ ∧ b < w.heap.size ∧ ∀ j u, (f x)[j]? = some u → w.cell? ⟨b, off + i * k + j, none⟩ = some u := by
  have hl := (List.getElem?_eq_some_iff.1 hi).1
  have hn : n = l.length := by have := h.len; rw [recs_len hk] at this; exact (Nat.eq_of_mul_eq_mul_right hk0 this).symm
  obtain ⟨b, off, rfl, hb, hc⟩ := h.at_ (by omega)
  refine ⟨b, off, rfl, hb, fun j u hu => ?_⟩
  have hj : j < k := by have := (List.getElem?_eq_some_iff.1 hu).1; rwa [hk] at this
  rw [Nat.add_assoc]
  exact hc _ _ ((recs_get hk hi hj).trans hu)
theorem Rd.recN (hk : ∀ x, (f x).length = k) {w : World} {A : Option Addr} {n : Nat} {l : List α} (h : Rd w k A n (recs f l)) (hk0 : 0 < k) : l.length = n := by
  have := h.len; rw [recs_len hk] at this; exact Nat.eq_of_mul_eq_mul_right hk0 this
/-- what was copied over noughts -/
theorem pad_get (hk : ∀ x, (f x).length = k) {l : List α} {z : α} {c : Value} (hz : ∀ j, j < k → (f z)[j]? = some c) {n i j : Nat} (hi : i < n) (hj : j < k) :
    ((recs f l).take (Nat.min l.length n * k) ++ (List.replicate (n * k) c).drop (Nat.min l.length n * k))[i * k + j]? = (f (l.getD i z))[j]? := by
  have hle : Nat.min l.length n * k ≤ l.length * k := Nat.mul_le_mul_right k (Nat.min_le_left _ _)
  have hlen : ((recs f l).take (Nat.min l.length n * k)).length = Nat.min l.length n * k := by rw [List.length_take, recs_len hk]; omega
  have hin : i * k + j < n * k := by
    have : (i + 1) * k ≤ n * k := Nat.mul_le_mul_right k hi
    rw [Nat.succ_mul] at this; omega
  by_cases him : i < l.length
  · have hlt : i * k + j < Nat.min l.length n * k := by
      have h1 : i + 1 ≤ Nat.min l.length n := Nat.le_min.2 ⟨him, hi⟩
      have : (i + 1) * k ≤ Nat.min l.length n * k := Nat.mul_le_mul_right k h1
      rw [Nat.succ_mul] at this; omega
    rw [List.getElem?_append_left (by omega), List.getElem?_take, if_pos hlt, recs_get hk (List.getElem?_eq_getElem him) hj]
    congr 2
    rw [List.getD_eq_getElem?_getD, List.getElem?_eq_getElem him]; rfl
  · have hmin : Nat.min l.length n = l.length := Nat.min_eq_left (by omega)
    have hge : l.length * k ≤ i * k := Nat.mul_le_mul_right k (by omega)
    rw [hmin] at hlen ⊢
    have hd : l.getD i z = z := by rw [List.getD_eq_getElem?_getD, List.getElem?_eq_none (by omega)]; rfl
    rw [List.getElem?_append_right (by omega), List.getElem?_drop, hlen, List.getElem?_replicate, if_pos (by omega), hd, hz j hj]
end
theorem made_same (z : Array Value) (c : Value) (k : Nat) (hs : z.size = k) (hk : 0 < k) (hz : ∀ j, j < k → z[j]? = some c) (N : Nat) : madeCells z N = Array.replicate N c := by
  apply Array.ext
  · simp [size_madeCells]
  · intro j h1 h2
    have hm : j % k < k := Nat.mod_lt _ hk
    have := hz (j % k) hm
    have hlt : j % z.size < z.size := by rw [hs]; exact hm
    simp only [madeCells, Array.getElem_map, Array.getElem_range, Array.getElem_replicate]
    rw [getElem!_pos z (j % z.size) hlt]
    rw [Array.getElem?_eq_some_iff] at this
    obtain ⟨h3, h4⟩ := this
    simp only [hs]
    exact h4
/-! ### used values, items -/
structure Us where
  (w l r : Int)
def usC (u : Us) : List Value := [.int .i64 u.w, .int .i64 u.l, .int .i64 u.r]
theorem usC_len (u : Us) : (usC u).length = 3 := rfl
theorem usC_one (u : Us) : ∀ v ∈ usC u, v.oneCell' = true := by
  intro v hv
  simp only [usC, List.mem_cons, List.not_mem_nil, or_false] at hv
  rcases hv with rfl | rfl | rfl <;> rfl
def styC (s : Sty) : List Value := s.cells.toList
theorem styC_len (s : Sty) : (styC s).length = 43 := rfl
def intC (x : Int) : List Value := [.int .i64 x]
theorem intC_len (x : Int) : (intC x).length = 1 := rfl
theorem recs_ints (l : List Int) : recs intC l = ints l := by
  unfold recs ints intC
  induction l with
  | nil => rfl
  | cons a l ih => rw [List.map_cons, List.flatten_cons, ih]; rfl
structure It where
  s : Sty
  (left right wide high down above below x y : Int)
  st : Bool
def It.cells (i : It) : List Value := i.s.cells.toList ++ [.int .i64 i.left, .int .i64 i.right, .int .i64 i.wide, .int .i64 i.high, .int .i64 i.down, .int .i64 i.above, .int .i64 i.below, .int .i64 i.x, .int .i64 i.y, .bool i.st]
theorem It.len (i : It) : i.cells.length = 53 := rfl
theorem info_it (i : It) : (Try.prog.info? 66).map (·.size) = some i.cells.toArray.size := by kernel_rfl
/-- a value that points to an item -/
@[reducible] def ptrV (g : Nat) : Value := .pointer (some ⟨g, 0, none⟩)
def ptrs (g : Nat → Nat) (ks : List Nat) : List Value := ks.map fun k => ptrV (g k)
theorem ptrs_get {g : Nat → Nat} {ks : List Nat} {p k : Nat} (h : ks[p]? = some k) : (ptrs g ks)[p]? = some (ptrV (g k)) := by simp [ptrs, h]
theorem ptrs_len (g : Nat → Nat) (ks : List Nat) : (ptrs g ks).length = ks.length := by simp [ptrs]
theorem ptrs_one (g : Nat → Nat) (ks : List Nat) : ∀ u ∈ ptrs g ks, u.oneCell' = true := by
  intro u hu
  obtain ⟨k, _, rfl⟩ := List.mem_map.1 hu
  rfl
/-- n items lie in blocks of their own, from B on -/
structure Its (w : World) (B : Nat) (g : Nat → Nat) (n : Nat) (I : Nat → It) : Prop where
  blk : ∀ i, i < n → Blk w (g i) 66 (I i).cells.toArray
  inj : ∀ i j, i < n → j < n → g i = g j → i = j
  base : ∀ i, i < n → B ≤ g i
section
variable {w w' : World} {B : Nat} {g : Nat → Nat} {n : Nat} {I J : Nat → It}
theorem Its.ext (h : Its w B g n I) (hx : Ext w w') : Its w' B g n I := ⟨fun i hi => (h.blk i hi).ext hx, h.inj, h.base⟩
theorem Its.congr (h : Its w B g n I) (e : ∀ i, i < n → J i = I i) : Its w B g n J := ⟨fun i hi => by rw [e i hi]; exact h.blk i hi, h.inj, h.base⟩
theorem Its.grown (h : Its w B g n I) {row : Option Nat} (hb : w.grownBy w' row) (hr : ∀ i, i < n → row ≠ some (g i)) : Its w' B g n I := ⟨fun i hi => (h.blk i hi).grown hb (hr i hi), h.inj, h.base⟩
theorem Its.lt (h : Its w B g n I) {i : Nat} (hi : i < n) : g i < w.heap.size := (h.blk i hi).lt
theorem Its.cell (h : Its w B g n I) {i : Nat} (hi : i < n) {j : Nat} {v : Value} (hv : (I i).cells[j]? = some v) : w.cell? ⟨g i, j, none⟩ = some v := by
  rw [(h.blk i hi).cell, List.getElem?_toArray]; exact hv
/-- an item is written -/
theorem Its.put (h : Its w B g n I) {k j : Nat} (hk : k < n) {v : Value} {t : It} (ht : (I k).cells.set j v = t.cells) : Its (w.setCell ⟨g k, j, none⟩ v) B g n (fun i => if i = k then t else I i) := by
  refine ⟨fun i hi => ?_, h.inj, h.base⟩
  by_cases e : i = k
  · subst e
    simp only [if_true]
    have := (h.blk i hi).set_ j v
    rwa [List.setIfInBounds_toArray, ht] at this
  · simp only [if_neg e]
    exact (h.blk i hi).far (p := ⟨g k, j, none⟩) (fun e2 => e (h.inj i k hi hk e2)) v
theorem Its.far (h : Its w B g n I) {p : Addr} (hp : ∀ i, i < n → g i ≠ p.block) (v : Value) : Its (w.setCell p v) B g n I :=
  ⟨fun i hi => (h.blk i hi).far (hp i hi) v, h.inj, h.base⟩
/-- one more item -/
theorem Its.push (h : Its w B g n I) {q : Nat} {t : It} (hq : Blk w q 66 t.cells.toArray) (hf : ∀ i, i < n → g i ≠ q) (hB : B ≤ q) (hJ : ∀ i, i < n → J i = I i) (hn : J n = t) :
    Its w B (fun i => if i = n then q else g i) (n + 1) J := by
  refine ⟨fun i hi => ?_, fun i j hi hj e => ?_, fun i hi => ?_⟩
  · by_cases e : i = n
    · subst e; simp only [if_true]; rw [hn]; exact hq
    · simp only [if_neg e]; rw [hJ i (by omega)]; exact h.blk i (by omega)
  · by_cases e1 : i = n <;> by_cases e2 : j = n
    · omega
    · simp only [if_pos e1, if_neg e2] at e; exact absurd e.symm (hf j (by omega))
    · simp only [if_neg e1, if_pos e2] at e; exact absurd e (hf i (by omega))
    · simp only [if_neg e1, if_neg e2] at e; exact h.inj i j (by omega) (by omega) e
  · by_cases e : i = n
    · simp only [if_pos e]; exact hB
    · simp only [if_neg e]; exact h.base i (by omega)
end
/-! ### items, as they are measured -/
/-- what a style must be, for the heights -/
structure StyOk (s : Sty) : Prop where
  thin : s.thin
  (p0 : partOk s.m0) (p2 : partOk s.m2)
def mIt (c : Int) (ks : List Sty) (us : List Us) (hs : List Int) (z : Sty) (i : Nat) : It :=
  ⟨ks.getD i z, (us.getD i ⟨0, 0, 0⟩).l, (us.getD i ⟨0, 0, 0⟩).r, (us.getD i ⟨0, 0, 0⟩).w + frameA (ks.getD i z), hs.getD i 0, frameD (ks.getD i z), resV (ks.getD i z).m0 c, resV (ks.getD i z).m2 c, 0, 0, false⟩
end Go.Proofs.Ytkkkdjkjggofkaa
