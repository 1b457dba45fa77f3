/- Trees: nodes, and what a tree's slice of nodes reads as. -/
import Derived.Test.YtnolbmfjgfojhaaStyO
import Derived.Test.YtnolbmfjgfojhaaSl
import Derived.Test.YtnolbmfjgfojhaaOk
import Derived.Deep.MidRow
namespace Go.Proofs.Ytnolbmfjgfojhaa
open Go.ChangeShapes Go.WideShapes Go.ChangeAt Go.RowKit

structure Nd where
  p : Int
  s : Sty
@[reducible] def Nd.cells (n : Nd) : List Value := .int .i64 n.p :: n.s.cells.toList
def nds (l : List Nd) : List Value := (l.map Nd.cells).flatten
structure Tr where
  (na : Option Addr) (nl nc : Nat) (aa : Option Addr) (al ac : Nat) (view : Int)
@[reducible] def Tr.cs (t : Tr) : Array Value := #[.slice t.na t.nl t.nc, .slice t.aa t.al t.ac, .int .i64 t.view]
theorem info_tree (t : Tr) : (Try.prog.info? 25).map (·.size) = some t.cs.size := by kernel_rfl
theorem info_node : (Try.prog.info? 47).map (·.size) = some 44 := by kernel_rfl

theorem Nd.len (n : Nd) : n.cells.length = 44 := rfl
theorem nds_len (l : List Nd) : (nds l).length = l.length * 44 := by
  have := flatten_len 44 (l.map Nd.cells) (by intro xs h; obtain ⟨n, _, rfl⟩ := List.mem_map.1 h; rfl)
  simpa [nds] using this
theorem nds_get {l : List Nd} {i j : Nat} {n : Nd} (h : l[i]? = some n) (hj : j < 44) : (nds l)[i * 44 + j]? = n.cells[j]? :=
  flatten_get 44 (l.map Nd.cells) (by intro xs h; obtain ⟨n, _, rfl⟩ := List.mem_map.1 h; rfl) i j n.cells (by simp [h]) hj
theorem nds_append (l m : List Nd) : nds (l ++ m) = nds l ++ nds m := by simp [nds]
theorem nds_one (n : Nd) : nds [n] = n.cells := by simp [nds]

/-- a node of a tree lies there, cell by cell -/
theorem Rd.node {w : World} {A : Option Addr} {n : Nat} {l : List Nd} (h : Rd w 44 A n (nds l)) {i : Nat} {nd : Nd} (hi : l[i]? = some nd) :
    ∃ b off, A = some ⟨b, off, none⟩ ∧ b < w.heap.size ∧ ∀ j u, nd.cells[j]? = some u → w.cell? ⟨b, off + i * 44 + j, none⟩ = some u := by
  have hl := (List.getElem?_eq_some_iff.1 hi).1
  have hn : n = l.length := by have := h.len; rw [nds_len] at this; omega
  obtain ⟨b, off, rfl, hb, hc⟩ := h.at_ (by omega)
  refine ⟨b, off, rfl, hb, fun j u hu => ?_⟩
  have hj : j < 44 := by have := (List.getElem?_eq_some_iff.1 hu).1; rwa [Nd.len] at this
  rw [Nat.add_assoc]
  exact hc _ _ ((nds_get hi hj).trans hu)
theorem Rd.nlen {w : World} {A : Option Addr} {n : Nat} {l : List Nd} (h : Rd w 44 A n (nds l)) : l.length = n := by
  have := h.len; rw [nds_len] at this; omega

/-- whose child a node is: -1: nobody's -/
def par (p : Int) (i : Nat) : Int := if 0 ≤ p ∧ p < i then p else -1
end Go.Proofs.Ytnolbmfjgfojhaa
