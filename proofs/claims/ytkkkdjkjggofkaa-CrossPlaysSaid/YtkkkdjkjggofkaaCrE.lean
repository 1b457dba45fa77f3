/- Layer 20: items that are written; heights and tops (plain laws). -/
import Derived.Test.YtkkkdjkjggofkaaCrD
namespace Go.Proofs.Ytkkkdjkjggofkaa
open Go.RowKit
/-- a world in which but items were written, and new memory made -/
structure ItX (w w' : World) (g : Nat → Nat) (n : Nat) : Prop where
  os : w'.os = w.os
  tape : w'.tape = w.tape
  output : w'.output = w.output
  size : w.heap.size ≤ w'.heap.size
  block : ∀ q, q < w.heap.size → (∀ i, i < n → q ≠ g i) → w'.heap[q]? = w.heap[q]?
section
variable {w w' w'' : World} {g : Nat → Nat} {n : Nat}
theorem ItX.refl (w : World) (g : Nat → Nat) (n : Nat) : ItX w w g n := ⟨rfl, rfl, rfl, Nat.le_refl _, fun _ _ _ => rfl⟩
theorem ItX.step (h : ItX w w' g n) (k : Ext w' w'') : ItX w w'' g n :=
  ⟨k.os.trans h.os, k.tape.trans h.tape, k.output.trans h.output, Nat.le_trans h.size k.size, fun q hq hx => (k.block q (Nat.lt_of_lt_of_le hq h.size)).trans (h.block q hq hx)⟩
theorem ItX.trans (h : ItX w w' g n) (k : ItX w' w'' g n) : ItX w w'' g n :=
  ⟨k.os.trans h.os, k.tape.trans h.tape, k.output.trans h.output, Nat.le_trans h.size k.size, fun q hq hx => (k.block q (Nat.lt_of_lt_of_le hq h.size) hx).trans (h.block q hq hx)⟩
theorem ItX.of (h : Ext w w') : ItX w w' g n := (ItX.refl w g n).step h
theorem ItX.set (h : ItX w w' g n) {i j : Nat} (hi : i < n) (v : Value) : ItX w (w'.setCell ⟨g i, j, none⟩ v) g n :=
  ⟨h.os, h.tape, h.output, by simpa [World.setCell] using h.size, fun q hq hx => (Below.heap_setCell w' ⟨g i, j, none⟩ v q (hx i hi)).trans (h.block q hq hx)⟩
theorem ItX.blk (h : ItX w w' g n) {q : Nat} {t : TypeId} {cs : Array Value} (hb : Blk w q t cs) (hq : ∀ i, i < n → q ≠ g i) : Blk w' q t cs := (h.block q hb.lt hq).trans hb
theorem ItX.rd (h : ItX w w' g n) {k m : Nat} {A : Option Addr} {xs : List Value} (hr : Rd w k A m xs) (hx : ∀ b off, A = some ⟨b, off, none⟩ → ∀ i, i < n → b ≠ g i) : Rd w' k A m xs :=
  ⟨hr.len, fun hm => by
    obtain ⟨b, off, rfl, hb, hc⟩ := hr.at_ hm
    exact ⟨b, off, rfl, Nat.lt_of_lt_of_le hb h.size, fun j u hu => (World.cell?_of_block (h.block b hb (hx b off rfl))).trans (hc j u hu)⟩⟩
theorem ItX.ext {w0 : World} (h : ItX w w' g n) (k : Ext w0 w) (hx : ∀ i, i < n → w0.heap.size ≤ g i) : Ext w0 w' :=
  ⟨h.os.trans k.os, h.tape.trans k.tape, h.output.trans k.output, Nat.le_trans k.size h.size, fun q hq => (h.block q (Nat.lt_of_lt_of_le hq k.size) (fun i hi e => by have := hx i hi; omega)).trans (k.block q hq)⟩
end
section
variable {w w' : World} {B : Nat} {g : Nat → Nat} {n : Nat} {I J : Nat → It}
theorem Its.cellE (h : Its w B g n I) {i : Nat} (hi : i < n) {t : It} (e : I i = t) {j : Nat} {v : Value} (hv : t.cells[j]? = some v) : w.cell? ⟨g i, j, none⟩ = some v := h.cell hi (by rw [e]; exact hv)
theorem Its.frozen (h : Its w B g n I) {i : Nat} (hi : i < n) (j : Nat) : w.frozen? ⟨g i, j, none⟩ = false := (h.blk i hi).frozen j
theorem Its.putE (h : Its w B g n I) {k j : Nat} (hk : k < n) {v : Value} {u t : It} (hu : I k = u) (ht : u.cells.set j v = t.cells) : ∃ J, (∀ i, i ≠ k → J i = I i) ∧ J k = t ∧ Its (w.setCell ⟨g k, j, none⟩ v) B g n J :=
  ⟨fun i => if i = k then t else I i, fun i hi => if_neg hi, if_pos rfl, h.put hk (by rw [hu]; exact ht)⟩
end
theorem It.sty (x : It) {j : Nat} {v : Value} (h : (styC x.s)[j]? = some v) : x.cells[j]? = some v := by
  have hj : j < 43 := (List.getElem?_eq_some_iff.1 h).1
  unfold It.cells
  rw [List.getElem?_append_left (show j < 43 from hj)]
  exact h
def newH (s : Sty) (h : Int) (x : It) : Int := if s.items = 3 ∧ x.s.h.k = 0 then highV x.s (max (h - x.above - x.below - x.down) 0) + x.down else x.high
def leftV (s : Sty) (h : Int) (x : It) : Int := h - newH s h x - x.above - x.below
def yV (s : Sty) (top h : Int) (x : It) : Int := top + x.above + (if s.items = 1 then leftV s h x else if s.items = 2 then leftV s h x / 2 else 0)
def downI (s : Sty) (top h : Int) (x : It) : It := ⟨x.s, x.left, x.right, x.wide, newH s h x, x.down, x.above, x.below, x.x, yV s top h x, x.st⟩
/-- the items when the first p of a row have been seen to -/
def downN (s : Sty) (top h : Int) (I : Nat → It) (ks : List Nat) (p i : Nat) : It := if i ∈ ks.take p then downI s top h (I i) else I i
theorem downN_0 (s : Sty) (top h : Int) (I : Nat → It) (ks : List Nat) (i : Nat) : downN s top h I ks 0 i = I i := if_neg (by simp)
theorem downN_step {s : Sty} {top h : Int} {I J : Nat → It} {ks : List Nat} {p k : Nat} (hk : ks[p]? = some k) (h1 : ∀ i, i ≠ k → J i = downN s top h I ks p i) (h2 : J k = downI s top h (I k)) (i : Nat) : downN s top h I ks (p + 1) i = J i := by
  unfold downN at h1 ⊢
  rw [takeS hk]
  by_cases e : i = k
  · subst e
    rw [if_pos (by simp), h2]
  · rw [h1 i e]
    simp [e]
theorem take_fresh {ks : List Nat} (hn : ks.Nodup) {p k : Nat} (hk : ks[p]? = some k) : k ∉ ks.take p := by
  intro hm
  obtain ⟨q, hq, he⟩ := List.getElem_of_mem hm
  rw [List.length_take] at hq
  rw [List.getElem_take] at he
  obtain ⟨h1, h2⟩ := List.getElem?_eq_some_iff.1 hk
  have := List.pairwise_iff_getElem.1 hn q p (by omega) h1 (by omega)
  exact this (he.trans h2.symm)
theorem downN_at {s : Sty} {top h : Int} {I : Nat → It} {ks : List Nat} (hn : ks.Nodup) {p k : Nat} (hk : ks[p]? = some k) : downN s top h I ks p k = I k := if_neg (take_fresh hn hk)
theorem newH_bd {s : Sty} {h : Int} {x : It} (hx : ItBd x) (hh : 0 ≤ h ∧ h ≤ 240000000000000) : 0 ≤ newH s h x ∧ newH s h x ≤ 290000000000000 := by
  obtain ⟨h1, _, _, _, h5, h6, h7, h8⟩ := hx
  unfold newH
  split
  · have := highV_bd h1 (a := max (h - x.above - x.below - x.down) 0)
    omega
  · omega
end Go.Proofs.Ytkkkdjkjggofkaa
