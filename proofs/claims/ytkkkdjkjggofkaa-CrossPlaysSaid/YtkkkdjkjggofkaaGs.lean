/- Variables kept as one block, stores into the middle of them, rows of the call's own beside them: what a walk needs. -/
import Derived.Test.YtkkkdjkjggofkaaAl
import Derived.Test.YtkkkdjkjggofkaaAp
import Derived.Deep.MidRow
namespace Go.Proofs.Ytkkkdjkjggofkaa
open Go.RowKit
section
variable {P : Program} {ops : Array Oper} {rest : List Oper} {o : Oper} {a : Act} {Q : Exit → Act → World → Prop} {w w' : World}
theorem gsCell {w : World} (g i : Nat) {u : Value} : w.grownBy (w.setCell ⟨g, i, none⟩ u) (some g) :=
  ⟨rfl, rfl, rfl, by simp [World.setCell], fun k _ hne => Below.heap_setCell w ⟨g, i, none⟩ u k (by rintro rfl; exact hne rfl)⟩
theorem own_grown {B e k m g : Nat} {u : Value} {xs : List Value} (h : w.ownsRow B e k u m xs) (hg : w.grownBy w' (some g)) (hp : ∀ q, u.ownBlock = some q → q ≠ g) : w'.ownsRow B e k u m xs := by
  refine h.kept hg ?_
  cases hq : u.ownBlock with
  | none => exact .inl rfl
  | some q => exact .inr (fun e => hp q hq (Option.some.inj e))
theorem own_ext {B e k m : Nat} {u : Value} {xs : List Value} (h : w.ownsRow B e k u m xs) (hx : Ext w w') : w'.ownsRow B e k u m xs :=
  h.kept (row := none) ⟨hx.os, hx.tape, hx.output, hx.size, fun i hi _ => hx.block i hi⟩ (by
    cases hu : u.ownBlock with
    | none => exact .inl rfl
    | some b => exact .inr (by simp))
theorem own_apart {B e k m g : Nat} {u : Value} {xs : List Value} (h : w.ownsRow B e k u m xs) (hg : g < B) : ∀ q, u.ownBlock = some q → q ≠ g := fun q e => by
  have := (h.lt q e).1
  omega
theorem own_under {B e k m g : Nat} {u : Value} {xs : List Value} (h : w.ownsRow B e k u m xs) (hg : w.heap.size ≤ g) : ∀ q, u.ownBlock = some q → q ≠ g := fun q e => by
  have := (h.lt q e).2
  omega
theorem own_moved {g : Nat} {u v : Value} (hp : ∀ q, u.ownBlock = some q → q ≠ g) (ha : v.ownBlock = u.ownBlock ∨ v.ownBlock = some w.heap.size) (hg : g < w.heap.size) : ∀ q, v.ownBlock = some q → q ≠ g := fun q e => by
  rcases ha with h | h
  · exact hp q (h ▸ e)
  · have := Option.some.inj (h.symm.trans e)
    omega
theorem Blk.grownNe {g g' : Nat} {t : TypeId} {cs : Array Value} (h : Blk w g t cs) (hg : w.grownBy w' (some g')) (hn : g ≠ g') : Blk w' g t cs :=
  h.grown hg (fun e => hn (Option.some.inj e).symm)
theorem Blk.grownOwn {g : Nat} {t : TypeId} {cs : Array Value} {u : Value} (h : Blk w g t cs) (hg : w.grownBy w' u.ownBlock) (hp : ∀ q, u.ownBlock = some q → q ≠ g) : Blk w' g t cs :=
  h.grown hg (fun e => hp g e rfl)
theorem Ext.grownBlk {b : World} {g : Nat} (h : Ext b w) (hg : w.grownBy w' (some g)) (hle : b.heap.size ≤ g) : Ext b w' :=
  h.grown hg (fun q e => by have := Option.some.inj e; omega)
theorem gsGrown (g : Nat) : ∀ (vs : List Value) (k : Nat) (w : World), w.grownBy (w.setCells g k vs) (some g)
  | [], _, w => World.grownBy.refl w _
  | v :: r, k, w => by
    have h3 := gsGrown g r (k + 1) (w.setCell ⟨g, k, none⟩ v)
    have hg : w.grownBy (w.setCell ⟨g, k, none⟩ v) (some g) := gsCell g k
    rw [World.setCells]
    exact ⟨h3.os.trans hg.os, h3.tape.trans hg.tape, h3.output.trans hg.output, Nat.le_trans hg.size h3.size, fun i hi hne => (h3.block i (Nat.lt_of_lt_of_le hi hg.size) hne).trans (hg.block i hi hne)⟩
theorem gsSetCells {g : Nat} {t : TypeId} : ∀ (vs l : List Value) (k : Nat) (w : World), Blk w g t l.toArray → k + vs.length ≤ l.length → Blk (w.setCells g k vs) g t (l.take k ++ vs ++ l.drop (k + vs.length)).toArray ∧ w.grownBy (w.setCells g k vs) (some g) ∧ (w.setCells g k vs).heap.size = w.heap.size
  | [], l, k, w, h, _ => by
    refine ⟨?_, World.grownBy.refl w _, rfl⟩
    rw [List.append_nil, List.length_nil, Nat.add_zero, List.take_append_drop]
    exact h
  | v :: r, l, k, w, h, hk => by
    rw [List.length_cons] at hk
    have h1 := h.set_ k v
    rw [List.setIfInBounds_toArray] at h1
    obtain ⟨h2, h3, h4⟩ := gsSetCells r (l.set k v) (k + 1) _ h1 (by rw [List.length_set]; omega)
    have hg : w.grownBy (w.setCell ⟨g, k, none⟩ v) (some g) := ⟨rfl, rfl, rfl, by simp [World.setCell], fun k' hk' hne => Below.heap_setCell w ⟨g, k, none⟩ v k' (by rintro rfl; exact hne rfl)⟩
    refine ⟨?_, ⟨h3.os.trans hg.os, h3.tape.trans hg.tape, h3.output.trans hg.output, Nat.le_trans hg.size h3.size, fun i hi hne => (h3.block i (Nat.lt_of_lt_of_le hi hg.size) hne).trans (hg.block i hi hne)⟩, by rw [World.setCells, h4]; simp [World.setCell]⟩
    rw [World.setCells]
    have e1 : (l.set k v).take (k + 1) = l.take k ++ [v] := by
      rw [List.take_add_one, List.getElem?_set_self (by omega), List.take_set_of_le (Nat.le_refl k)]; rfl
    have e2 : (l.set k v).drop (k + 1 + r.length) = l.drop (k + (r.length + 1)) := by
      rw [List.drop_set_of_lt (by omega)]; congr 1; omega
    rw [e1, e2] at h2
    simpa using h2
/-- a struct is stored into the middle of a variable that is known whole -/
theorem wpList_store_in (hgd : o.guard = none) (ty : TypeId) (x y : Operand) (ho : o.op = .store ty x y) (g k : Nat) (hx : a.eval x = .pointer (some ⟨g, k, none⟩)) (cells : Array Value) (hy : a.eval y = .agg cells)
    (t : TypeId) (old : List Value) (hg : Blk w g t old.toArray) (hk : k + cells.size ≤ old.length) (hi : (P.info? ty).map (·.size) = some cells.size) (h1 : cells.all (·.oneCell') = true) (new : List Value) (hnew : old.take k ++ cells.toList ++ old.drop (k + cells.size) = new)
    (h : ∀ w1, Blk w1 g t new.toArray → w.grownBy w1 (some g) → w1.heap.size = w.heap.size → wpList P ops Q rest (a.put o.dst undef) w1) : wpList P ops Q (o :: rest) a w := by
  obtain ⟨k1, k2, k3⟩ := gsSetCells (g := g) (t := t) cells.toList old k w hg (by simpa using hk)
  refine wpList_store_mid hgd ty x y ho g k cells hx hy (fun j hj => ⟨?_, hg.frozen _⟩) hi h1 (h _ ?_ k2 k3)
  · rw [hg.cell]; simp; omega
  · rw [Array.length_toList, hnew] at k1
    exact k1
/-- one cell of a variable that is known whole -/
theorem wpList_store_one (hgd : o.guard = none) (ty : TypeId) (x y : Operand) (ho : o.op = .store ty x y) (g i : Nat) (hx : a.eval x = .pointer (some ⟨g, i, none⟩)) (v : Value) (hy : a.eval y = v) (h1 : v.oneCell' = true)
    (t : TypeId) (old : List Value) (hg : Blk w g t old.toArray) (hlt : i < old.length) (hi : (P.info? ty).map (·.size) = some 1) (new : List Value) (hnew : old.set i v = new)
    (h : ∀ w1, Blk w1 g t new.toArray → w.grownBy w1 (some g) → w1.heap.size = w.heap.size → wpList P ops Q rest (a.put o.dst undef) w1) : wpList P ops Q (o :: rest) a w :=
  wpList_store_cell hgd ty x y ho g i hx v hy h1 t old.toArray hg (by simpa using hlt) hi fun w1 k1 k2 k3 => h w1 (by rw [List.setIfInBounds_toArray, hnew] at k1; exact k1) k2 k3
end
end Go.Proofs.Ytkkkdjkjggofkaa
