/- What one operation by itself does: append onto a row of the call's own; small laws for regions gone through operation by operation. -/
import Derived.Test.YtkkkdjkjggofkaaLin
import Derived.Test.YtkkkdjkjggofkaaAp
namespace Go.Proofs.Ytkkkdjkjggofkaa
open Go.RowKit
section
variable {P : Program} {w : World}
theorem Blk.own {w : World} {g n : Nat} {t : TypeId} {cs : Array Value} {base : Nat} (h : Blk w g t cs) (hb : base ≤ g) (hn : cs.size = n) (hm : n ≤ maxLen) : w.ownsRow base t 1 (.slice (some ⟨g, 0, none⟩) n n) n cs.toList :=
  ⟨by simp [hn], .inr ⟨g, n, cs, rfl, hb, h, Nat.le_refl _, hm, by omega, by subst hn; rw [Nat.mul_one]; exact List.take_of_length_le (by simp)⟩⟩
theorem Blk.rd {w : World} {g n : Nat} {t : TypeId} {cs : Array Value} (h : Blk w g t cs) (hn : cs.size = n) : Rd w 1 (some ⟨g, 0, none⟩) n cs.toList :=
  ⟨by simp [hn], fun _ => ⟨g, 0, rfl, h.lt, fun j u hu => by rw [h.cell]; simpa using hu⟩⟩
theorem Blk.keep {w w' : World} {g : Nat} {t : TypeId} {cs : Array Value} {row : Option Nat} (h : Blk w g t cs) (hb : w.grownBy w' row) (hg : row ≠ some g) : Blk w' g t cs :=
  (hb.block g h.lt (fun e => hg e.symm)).trans h
/-- a world that only grew, but for the blocks of a list -/
structure ExtX (w w' : World) (xs : List Nat) : Prop where
  os : w'.os = w.os
  tape : w'.tape = w.tape
  output : w'.output = w.output
  size : w.heap.size ≤ w'.heap.size
  block : ∀ i, i < w.heap.size → i ∉ xs → w'.heap[i]? = w.heap[i]?
section
variable {w w' w'' : World} {xs : List Nat}
theorem ExtX.refl (w : World) (xs : List Nat) : ExtX w w xs := ⟨rfl, rfl, rfl, Nat.le_refl _, fun _ _ _ => rfl⟩
theorem ExtX.start (w : World) (xs : List Nat) : ExtX w w.drew xs := ⟨rfl, rfl, rfl, Nat.le_refl _, fun _ _ _ => rfl⟩
theorem ExtX.trans (h : ExtX w w' xs) (k : Ext w' w'') : ExtX w w'' xs :=
  ⟨k.os.trans h.os, k.tape.trans h.tape, k.output.trans h.output, Nat.le_trans h.size k.size, fun i hi hx => (k.block i (Nat.lt_of_lt_of_le hi h.size)).trans (h.block i hi hx)⟩
theorem ExtX.grown {row : Option Nat} (h : ExtX w w' xs) (hg : w'.grownBy w'' row) (hr : ∀ g, row = some g → w.heap.size ≤ g) : ExtX w w'' xs :=
  ⟨hg.os.trans h.os, hg.tape.trans h.tape, hg.output.trans h.output, Nat.le_trans h.size hg.size,
    fun i hi hx => (hg.block i (Nat.lt_of_lt_of_le hi h.size) (fun e => by have := hr _ e.symm; omega)).trans (h.block i hi hx)⟩
theorem ExtX.set (h : ExtX w w' xs) {p : Addr} (hp : p.block ∈ xs) (v : Value) : ExtX w (w'.setCell p v) xs :=
  ⟨h.os, h.tape, h.output, by simpa [World.setCell] using h.size, fun i hi hx => (Below.heap_setCell w' p v i (fun e => hx (by rw [e]; exact hp))).trans (h.block i hi hx)⟩
theorem ExtX.blk {g : Nat} {t : TypeId} {cs : Array Value} (h : ExtX w w' xs) (hb : Blk w g t cs) (hx : g ∉ xs) : Blk w' g t cs := (h.block g hb.lt hx).trans hb
theorem ExtX.rd {k n : Nat} {A : Option Addr} {ys : List Value} (h : ExtX w w' xs) (hr : Rd w k A n ys) (hx : ∀ b off, A = some ⟨b, off, none⟩ → b ∉ xs) : Rd w' k A n ys :=
  ⟨hr.len, fun hn => by
    obtain ⟨b, off, rfl, hb, hc⟩ := hr.at_ hn
    refine ⟨b, off, rfl, Nat.lt_of_lt_of_le hb h.size, fun j u hu => ?_⟩
    rw [World.cell?_of_block (h.block b hb (hx b off rfl))]
    exact hc j u hu⟩
theorem ExtX.ext {w0 : World} (h : ExtX w w' xs) (k : Ext w0 w) (hx : ∀ g ∈ xs, w0.heap.size ≤ g) : Ext w0 w' :=
  ⟨h.os.trans k.os, h.tape.trans k.tape, h.output.trans k.output, Nat.le_trans k.size h.size,
    fun i hi => (h.block i (Nat.lt_of_lt_of_le hi k.size) (fun hm => by have := hx i hm; omega)).trans (k.block i hi)⟩
end
theorem wp_append_rd {o : Oper} {a : Act} {K : Act → World → Prop} {Q : Exit → Act → World → Prop} (s x : Operand) (t : TypeId)
    (ho : o.op = .call { callee := .builtin .append, args := #[s, x], argTypes := #[t, t] })
    (base e : Nat) (i : TypeInfo) (z : Value) (size bytes : Nat) (ht : P.underlying t = some (.slice e)) (hi : P.info? e = some i) (hz : i.zero = some z)
    (hsize : i.size = size) (hby : i.bytes = bytes) (hzs : z.cells.size = size) (hsz : 0 < size)
    (v : Value) (n : Nat) (xs : List Value) (hs : a.eval s = v) (hown : w.ownsRow base e size v n xs) (A : Option Addr) (m c : Nat) (news : List Value) (hx : a.eval x = .slice A m c) (hr : Rd w size A m news) (h1 : ∀ u ∈ news, u.oneCell' = true)
    (h63 : n + m ≤ maxLen) (hbytes : (n + m) * bytes ≤ 140737488355328) (hbase : base ≤ w.heap.size)
    (h : ∀ A' cap w', w'.ownsRow base e size (.slice A' (n + m) cap) (n + m) (xs ++ news) → w.grownBy w' v.ownBlock → (Value.ownBlock (.slice A' (n + m) cap) = v.ownBlock ∨ Value.ownBlock (.slice A' (n + m) cap) = some w.heap.size) →
      K (a.put o.dst (.slice A' (n + m) cap)) w') : o.wp P a w K Q := by
  obtain ⟨A', cap, w', hrun, h2, h3, h4⟩ := run_append_rd (P := P) base t o.type e i z size bytes ht hi hz hsize hby hzs hsz v n xs hown A m c news hr h1 h63 hbytes hbase
  unfold Oper.wp execOp
  simp only [ho, resolve, invoke, builtin, Sem.run_bind, Sem.run_pure, Result.andThen_ok, List.map_toArray, List.map_cons, List.map_nil, hs, hx, hrun]
  exact h A' cap w' h2 h3 h4
theorem eval_tmp {a : Act} {t : Nat} {v : Value} (h : a.tmps[t]? = some v) : a.eval (.tmp t) = v := by simp [Act.eval, h]
end
end Go.Proofs.Ytkkkdjkjggofkaa
