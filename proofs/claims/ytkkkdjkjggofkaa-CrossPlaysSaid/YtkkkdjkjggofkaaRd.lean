/- Slices that are read: 'Rd': a slice value whose cells are known; it stays so in every later world. -/
import Derived.Test.YtkkkdjkjggofkaaU
namespace Go.Proofs.Ytkkkdjkjggofkaa
open Go.RowKit

theorem hide {p : Prop} (h : p) : Hid p := h
theorem unhide {p : Prop} (h : Hid p) : p := h

/-- the slice value '.slice A n c' of elements of k cells each reads as the cells xs -/
structure Rd (w : World) (k : Nat) (A : Option Addr) (n : Nat) (xs : List Value) : Prop where
  len : xs.length = n * k
  at_ : 0 < n → ∃ b off, A = some ⟨b, off, none⟩ ∧ b < w.heap.size ∧ ∀ j u, xs[j]? = some u → w.cell? ⟨b, off + j, none⟩ = some u

section
variable {w w' : World} {k n : Nat} {A : Option Addr} {xs : List Value}
theorem Rd.nil (w : World) (k : Nat) (A : Option Addr) : Rd w k A 0 [] := ⟨by simp, fun h => by omega⟩
theorem Rd.keep (h : Rd w k A n xs) (hs : w.heap.size ≤ w'.heap.size) (hk : ∀ b o, b < w.heap.size → w'.cell? ⟨b, o, none⟩ = w.cell? ⟨b, o, none⟩) : Rd w' k A n xs :=
  ⟨h.len, fun hn => by
    obtain ⟨b, off, rfl, hb, hc⟩ := h.at_ hn
    exact ⟨b, off, rfl, by omega, fun j u hu => (hk b _ hb).trans (hc j u hu)⟩⟩
theorem Rd.ext (h : Rd w k A n xs) (hb : Ext w w') : Rd w' k A n xs := h.keep hb.size hb.cells.1
theorem Rd.alloc (h : Rd w k A n xs) (o : Obj) : Rd (w.alloc o) k A n xs := h.ext ((Ext.refl _).alloc o)
theorem Rd.drew (h : Rd w k A n xs) : Rd w.drew k A n xs := h.ext (Ext.refl _).drew
theorem Rd.drewN (h : Rd w k A n xs) (m : Nat) : Rd (w.drewN m) k A n xs := h.ext ((Ext.refl _).drewN m)
theorem Rd.get (h : Rd w 1 A n xs) {i : Nat} (hi : i < n) : ∃ b off u, A = some ⟨b, off, none⟩ ∧ b < w.heap.size ∧ xs[i]? = some u ∧ w.cell? ⟨b, off + i, none⟩ = some u := by
  obtain ⟨b, off, rfl, hb, hc⟩ := h.at_ (by omega)
  have hl : i < xs.length := by rw [h.len]; omega
  exact ⟨b, off, xs[i], rfl, hb, List.getElem?_eq_getElem hl, hc i _ (List.getElem?_eq_getElem hl)⟩
theorem Rd.of_own {base : Nat} {e : TypeId} {c : Nat} (h : w.ownsRow base e k (.slice A n c) n xs) : Rd w k A n xs := by
  refine ⟨h.1, fun hn => ?_⟩
  rcases h.2 with ⟨hv, h0⟩ | ⟨g, cap, cur, hv, hb, hg, hnc, hm, hs, hx⟩
  · omega
  · injection hv with hA
    subst hA
    have hlt : g < w.heap.size := (Array.getElem?_eq_some_iff.1 hg).1
    refine ⟨g, 0, rfl, hlt, fun j u hu => ?_⟩
    rw [Nat.zero_add, cell_of_row w g j cur e (0, 0) hg]
    rw [← hx] at hu
    have : cur.toList[j]? = some u := by
      rw [List.getElem?_take] at hu
      split at hu
      · exact hu
      · cases hu
    simpa using this
/-- what was grown but for one row of the call's own -/
theorem Ext.grown {a w w' : World} {row : Option Nat} (h : Ext a w) (hg : w.grownBy w' row) (hr : ∀ g, row = some g → a.heap.size ≤ g) : Ext a w' := by
  refine ⟨hg.os.trans h.os, hg.tape.trans h.tape, hg.output.trans h.output, Nat.le_trans h.size hg.size, fun i hi => ?_⟩
  exact (hg.block i (Nat.lt_of_lt_of_le hi h.size) (fun e => by have := hr _ e.symm; omega)).trans (h.block i hi)
theorem Rd.grown (h : Rd w k A n xs) {row : Option Nat} (hg : w.grownBy w' row) (hne : ∀ b off, A = some ⟨b, off, none⟩ → row ≠ some b) : Rd w' k A n xs :=
  ⟨h.len, fun hn => by
    obtain ⟨b, off, rfl, hb, hc⟩ := h.at_ hn
    refine ⟨b, off, rfl, Nat.lt_of_lt_of_le hb hg.size, fun j u hu => ?_⟩
    rw [World.cell?_of_block (hg.block b hb (fun e => hne b off rfl e.symm))]
    exact hc j u hu⟩
end
end Go.Proofs.Ytkkkdjkjggofkaa
