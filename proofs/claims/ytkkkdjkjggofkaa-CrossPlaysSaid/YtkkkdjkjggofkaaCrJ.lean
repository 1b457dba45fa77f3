/- Layer 20: frags in memory (plain laws). -/
import Derived.Test.YtkkkdjkjggofkaaCrI
namespace Go.Proofs.Ytkkkdjkjggofkaa
open Go.RowKit
theorem own_far {w w' : World} {base e k : Nat} {u : Value} {m : Nat} {zs : List Value} (h : w.ownsRow base e k u m zs) (hx : Ext w w') : w'.ownsRow base e k u m zs :=
  h.kept (row := none) ⟨hx.os, hx.tape, hx.output, hx.size, fun i hi _ => hx.block i hi⟩ (by
    cases hu : u.ownBlock with
    | none => exact .inl rfl
    | some b => exact .inr (by simp))
theorem own_set {w : World} {B E k n g i : Nat} {A : Option Addr} {c : Nat} {xs : List Value} (h : w.ownsRow B E k (.slice A n c) n xs) (hg : g < B) (v : Value) : (w.setCell ⟨g, i, none⟩ v).ownsRow B E k (.slice A n c) n xs := by
  refine h.kept (grown_cell _) ?_
  cases e : Value.ownBlock (.slice A n c) with
  | none => exact .inl rfl
  | some b => exact .inr (fun e2 => by have := (h.lt b e).1; have e2 := Option.some.inj e2; omega)
theorem ExtX.cellX {w w' : World} {xs : List Nat} (h : ExtX w w' xs) {b o : Nat} (hb : b < w.heap.size) (hx : b ∉ xs) : w'.cell? ⟨b, o, none⟩ = w.cell? ⟨b, o, none⟩ := World.cell?_of_block (h.block b hb hx)
theorem ExtX.transX {w w' w'' : World} {xs ys : List Nat} (h : ExtX w w' xs) (k : ExtX w' w'' ys) (hs : ∀ y ∈ ys, y ∈ xs) : ExtX w w'' xs :=
  ⟨k.os.trans h.os, k.tape.trans h.tape, k.output.trans h.output, Nat.le_trans h.size k.size, fun i hi hx => (k.block i (Nat.lt_of_lt_of_le hi h.size) (fun hy => hx (hs i hy))).trans (h.block i hi hx)⟩
/-- the state in which items are placed -/
structure PlSt (w0 w : World) (gs gb gP n : Nat) (g : Nat → Nat) (s : Sty) (bv : Value) : Prop where
  ext : Ext w0 w
  bs : Blk w gs 28 s.cells
  bb : Blk w gb 39 #[bv]
  bp : Blk w gP 67 (ptrs g (List.range n)).toArray
  low : w0.heap.size ≤ gs ∧ gs < gb ∧ gb < gP
  base : ∀ i, i < n → gP < g i
section
variable {w0 w w' : World} {gs gb gP n : Nat} {g : Nat → Nat} {s : Sty} {bv : Value}
theorem PlSt.step (h : PlSt w0 w gs gb gP n g s bv) (hx : Ext w w') : PlSt w0 w' gs gb gP n g s bv := ⟨h.ext.trans hx, h.bs.ext hx, h.bb.ext hx, h.bp.ext hx, h.low, h.base⟩
theorem PlSt.itx (h : PlSt w0 w gs gb gP n g s bv) (hx : ItX w w' g n) : PlSt w0 w' gs gb gP n g s bv := by
  obtain ⟨h1, h2, h3⟩ := h.low
  refine ⟨hx.ext h.ext (fun i hi => by have := h.base i hi; omega), hx.blk h.bs (fun i hi => by have := h.base i hi; omega), hx.blk h.bb (fun i hi => by have := h.base i hi; omega), hx.blk h.bp (fun i hi => by have := h.base i hi; omega), h.low, h.base⟩
theorem PlSt.grown (h : PlSt w0 w gs gb gP n g s bv) {row : Option Nat} (hg : w.grownBy w' row) (hr : ∀ q, row = some q → gP < q) : PlSt w0 w' gs gb gP n g s bv := by
  obtain ⟨h1, h2, h3⟩ := h.low
  exact ⟨h.ext.grown hg (fun q e => by have := hr q e; omega), h.bs.grown hg (fun e => by have := hr _ e; omega), h.bb.grown hg (fun e => by have := hr _ e; omega), h.bp.grown hg (fun e => by have := hr _ e; omega), h.low, h.base⟩
theorem PlSt.extx (h : PlSt w0 w gs gb gP n g s bv) {xs : List Nat} (hx : ExtX w w' xs) (hr : ∀ q ∈ xs, gP < q) : PlSt w0 w' gs gb gP n g s bv := by
  obtain ⟨h1, h2, h3⟩ := h.low
  exact ⟨hx.ext h.ext (fun q e => by have := hr q e; omega), hx.blk h.bs (fun e => by have := hr _ e; omega), hx.blk h.bb (fun e => by have := hr _ e; omega), hx.blk h.bp (fun e => by have := hr _ e; omega), h.low, h.base⟩
theorem PlSt.bbset (h : PlSt w0 w gs gb gP n g s bv) (v : Value) : PlSt w0 (w.setCell ⟨gb, 0, none⟩ v) gs gb gP n g s v := by
  obtain ⟨h1, h2, h3⟩ := h.low
  refine ⟨h.ext.set (p := ⟨gb, 0, none⟩) (show w0.heap.size ≤ gb by omega) _, h.bs.far (p := ⟨gb, 0, none⟩) (show gs ≠ gb by omega) _, ?_, h.bp.far (p := ⟨gb, 0, none⟩) (show gP ≠ gb by omega) _, h.low, h.base⟩
  have := h.bb.set_ 0 v
  simpa using this
theorem PlSt.ptr (h : PlSt w0 w gs gb gP n g s bv) {k : Nat} (hk : k < n) : w.cell? ⟨gP, k, none⟩ = some (ptrV (g k)) := by
  rw [h.bp.cell, List.getElem?_toArray, ptrs, List.getElem?_map, List.getElem?_range hk]; rfl
end
/-! ### frags -/
structure Fr where
  (x y w h : Int)
def frC (f : Fr) : List Value := [.int .i64 f.x, .int .i64 f.y, .int .i64 f.w, .int .i64 f.h, .slice none 0 0]
theorem frC_len (f : Fr) : (frC f).length = 5 := rfl
theorem frC_one (f : Fr) : ∀ v ∈ frC f, v.oneCell' = true := by
  intro v hv
  simp only [frC, List.mem_cons, List.not_mem_nil, or_false] at hv
  rcases hv with rfl | rfl | rfl | rfl | rfl <;> rfl
structure FrAt (w : World) (gF n : Nat) (F : Nat → Fr) : Prop where
  lt : gF < w.heap.size
  cell : ∀ i, i < n → w.rangeAt gF (i * 5) (frC (F i))
  fro : ∀ j, w.frozen? ⟨gF, j, none⟩ = false
def mkF (n : Nat) : Array Value := madeCells (frC ⟨0, 0, 0, 0⟩).toArray (n * 5)
section
variable {w w' : World} {gF n : Nat} {F : Nat → Fr}
theorem FrAt.new (w : World) (n : Nat) : FrAt (w.alloc (.cells (mkF n) 46)) w.heap.size n (fun _ => ⟨0, 0, 0, 0⟩) := by
  refine ⟨by simp, fun i hi j v hv => ?_, fun j => (Blk.new w 46 (mkF n)).frozen j⟩
  have hj : j < 5 := (List.getElem?_eq_some_iff.1 hv).1
  rw [(Blk.new w 46 (mkF n)).cell, mkF, madeCells]
  have hin : i * 5 + j < n * 5 := by omega
  rw [Array.getElem?_map, Array.getElem?_range, if_pos hin]
  have hm : (i * 5 + j) % 5 = j := by omega
  show some ((frC ⟨0, 0, 0, 0⟩).toArray[(i * 5 + j) % 5]!) = some v
  rw [hm]
  match j, hj with
  | 0, _ => exact hv
  | 1, _ => exact hv
  | 2, _ => exact hv
  | 3, _ => exact hv
  | 4, _ => exact hv
theorem FrAt.block (h : FrAt w gF n F) (hs : w.heap.size ≤ w'.heap.size) (hb : w'.heap[gF]? = w.heap[gF]?) : FrAt w' gF n F :=
  ⟨Nat.lt_of_lt_of_le h.lt hs, fun i hi j v hv => (World.cell?_of_block hb).trans (h.cell i hi j v hv), fun j => (World.frozen?_of_block hb).trans (h.fro j)⟩
theorem FrAt.ext (h : FrAt w gF n F) (hx : Ext w w') : FrAt w' gF n F := h.block hx.size (hx.block gF h.lt)
theorem FrAt.extx (h : FrAt w gF n F) {xs : List Nat} (hx : ExtX w w' xs) (hg : gF ∉ xs) : FrAt w' gF n F := h.block hx.size (hx.block gF h.lt hg)
theorem FrAt.far (h : FrAt w gF n F) {p : Addr} (hp : gF ≠ p.block) (v : Value) : FrAt (w.setCell p v) gF n F := h.block (by simp [World.setCell]) (Below.heap_setCell w p v gF hp)
theorem FrAt.congr (h : FrAt w gF n F) {G : Nat → Fr} (e : ∀ i, i < n → G i = F i) : FrAt w gF n G := ⟨h.lt, fun i hi => by rw [e i hi]; exact h.cell i hi, h.fro⟩
theorem FrAt.there (h : FrAt w gF n F) {k : Nat} (hk : k < n) : w.there gF (k * 5) 5 := by
  intro j hj
  refine ⟨?_, h.fro _⟩
  obtain ⟨v, hv⟩ : ∃ v, (frC (F k))[j]? = some v := ⟨_, List.getElem?_eq_getElem (by rw [frC_len]; exact hj)⟩
  rw [h.cell k hk j v hv]; rfl
theorem frozen_setCells (b : Nat) : ∀ (vs : List Value) (o : Nat) (w : World) (q : Nat), (w.setCells b o vs).frozen? ⟨b, q, none⟩ = w.frozen? ⟨b, q, none⟩
  | [], _, _, _ => rfl
  | v :: vs, o, w, q => by
    rw [World.setCells, frozen_setCells b vs (o + 1) _ q]
    simp
theorem size_setCells (b : Nat) : ∀ (vs : List Value) (o : Nat) (w : World), (w.setCells b o vs).heap.size = w.heap.size
  | [], _, _ => rfl
  | v :: vs, o, w => by
    rw [World.setCells, size_setCells b vs (o + 1) _]
    simp [World.setCell]
theorem FrAt.put (h : FrAt w gF n F) {k : Nat} (hk : k < n) (f : Fr) : FrAt (w.setCells gF (k * 5) (frC f)) gF n (fun i => if i = k then f else F i) := by
  refine ⟨by rw [size_setCells]; exact h.lt, fun i hi => ?_, fun j => by rw [frozen_setCells]; exact h.fro j⟩
  by_cases e : i = k
  · subst e
    simp only [if_true]
    exact World.rangeAt_setCells_same w gF (i * 5) (frC f) (h.there hi)
  · simp only [if_neg e]
    intro j v hv
    have hj : j < 5 := (List.getElem?_eq_some_iff.1 hv).1
    rw [World.cell?_setCells_out gF (frC f) (k * 5) w ⟨gF, i * 5 + j, none⟩ (fun _ _ => by
      show i * 5 + j < k * 5 ∨ k * 5 + (frC f).length ≤ i * 5 + j
      rw [frC_len]; omega)]
    exact h.cell i hi j v hv
theorem extx_setCells {w0 : World} {b : Nat} {xs : List Nat} (hb : b ∈ xs) : ∀ (vs : List Value) (o : Nat) (w : World), ExtX w0 w xs → ExtX w0 (w.setCells b o vs) xs
  | [], _, _, h => h
  | v :: vs, o, _, h => extx_setCells hb vs (o + 1) _ (h.set (p := ⟨b, o, none⟩) hb v)
theorem FrAt.rd (h : FrAt w gF n F) : Rd w 5 (some ⟨gF, 0, none⟩) n (recs frC ((List.range n).map F)) :=
  ⟨by rw [recs_len frC_len]; simp, fun _ => ⟨gF, 0, rfl, h.lt, fun j u hu => by
    have hj : j < n * 5 := by have := (List.getElem?_eq_some_iff.1 hu).1; rw [recs_len frC_len] at this; simpa using this
    have hq : j / 5 < n := by omega
    have he : j / 5 * 5 + j % 5 = j := by omega
    rw [← he, recs_get frC_len (x := F (j / 5)) (by simp [hq]) (by omega)] at hu
    have := h.cell _ hq _ _ hu
    rw [he] at this
    rw [Nat.zero_add]
    exact this⟩⟩
end
/-- an item's frag, and whether a number of it is cut -/
def frV (x : It) : Fr := ⟨cutV x.x, cutV x.y, cutV x.wide, cutV x.high⟩
def byB (x : It) : Bool := cutB x.x || cutB x.y || cutB x.wide || cutB x.high
def frN (J : Nat → It) (k i : Nat) : Fr := if i < k then frV (J i) else ⟨0, 0, 0, 0⟩
def byN (J : Nat → It) (n k : Nat) : List Bool := (List.range n).map fun i => decide (i < k) && byB (J i)
def noB (n : Nat) : List Bool := List.replicate n false
theorem byN_len (J : Nat → It) (n k : Nat) : (byN J n k).length = n := by simp [byN]
theorem byN_0 (J : Nat → It) (n : Nat) : byN J n 0 = noB n := by
  apply List.ext_getElem?
  intro i
  by_cases h : i < n <;> simp [byN, noB, h]
theorem byN_get (J : Nat → It) {n k i : Nat} (h : i < n) : (byN J n k)[i]? = some (decide (i < k) && byB (J i)) := by simp [byN, h]
theorem byN_self (J : Nat → It) {n k : Nat} (h : k < n) : (byN J n k).set k false = byN J n k := by
  apply List.ext_getElem?
  intro i
  by_cases e : i = k
  · subst e
    rw [List.getElem?_set_self (by rw [byN_len]; exact h), byN_get J h]; simp
  · rw [List.getElem?_set_ne (Ne.symm e)]
theorem byN_step (J : Nat → It) {n k : Nat} (h : k < n) : (byN J n k).set k (byB (J k)) = byN J n (k + 1) := by
  apply List.ext_getElem?
  intro i
  by_cases e : i = k
  · subst e
    rw [List.getElem?_set_self (by rw [byN_len]; exact h), byN_get J h]; simp
  · rw [List.getElem?_set_ne (Ne.symm e)]
    by_cases hi : i < n
    · rw [byN_get J hi, byN_get J hi, show decide (i < k + 1) = decide (i < k) from decide_eq_decide.2 (by omega)]
    · rw [List.getElem?_eq_none (by rw [byN_len]; omega), List.getElem?_eq_none (by rw [byN_len]; omega)]
theorem cut_keep {w1 w2 : World} {gB n k : Nat} {bl : List Bool} {m o : Bool} {T : TypeId} (hl : bl.length = n) (hk : k < n) (hB : Blk w1 gB T (boolL (bl.set k m)).toArray) (h : Blk w1 gB T (boolL (bl.set k true)).toArray) (hB2 : Blk w2 gB T (boolL (bl.set k (m || o))).toArray) : Blk w2 gB T (boolL (bl.set k true)).toArray := by
  cases m with
  | true => exact hB2
  | false =>
    exfalso
    have h1 := Option.some.inj (hB.symm.trans h)
    injection h1 with h1 _ _
    have h2 : boolL (bl.set k false) = boolL (bl.set k true) := by simpa using h1
    have h3 : (boolL (bl.set k false))[k]? = some (.bool false) := boolL_get (List.getElem?_set_self (by omega))
    have h4 : (boolL (bl.set k true))[k]? = some (.bool true) := boolL_get (List.getElem?_set_self (by omega))
    rw [h2, h4] at h3
    cases h3
theorem cut_one {w1 : World} {gB n k : Nat} {bl : List Bool} {m : Bool} {T : TypeId} (hl : bl.length = n) (hk : k < n) (hB : Blk w1 gB T (boolL (bl.set k m)).toArray) (h : Blk w1 gB T (boolL (bl.set k true)).toArray) : m = true := by
  have h1 := Option.some.inj (hB.symm.trans h)
  injection h1 with h1 _ _
  have h2 : boolL (bl.set k m) = boolL (bl.set k true) := by simpa using h1
  have h3 : (boolL (bl.set k m))[k]? = some (.bool m) := boolL_get (List.getElem?_set_self (by omega))
  have h4 : (boolL (bl.set k true))[k]? = some (.bool true) := boolL_get (List.getElem?_set_self (by omega))
  rw [h2, h4] at h3
  injection h3 with h3
  injection h3 with h3
  exact h3.symm
theorem blk_setCells {w : World} {g b o : Nat} {t : TypeId} {cs : Array Value} (h : Blk w g t cs) (hg : g ≠ b) (vs : List Value) : Blk (w.setCells b o vs) g t cs :=
  (extx_setCells (xs := [b]) (by simp) vs o w (ExtX.refl w [b])).blk h (by simpa using hg)
theorem Its.extx {w w' : World} {B n : Nat} {g : Nat → Nat} {I : Nat → It} {xs : List Nat} (h : Its w B g n I) (hx : ExtX w w' xs) (hf : ∀ i, i < n → g i ∉ xs) : Its w' B g n I := ⟨fun i hi => hx.blk (h.blk i hi) (hf i hi), h.inj, h.base⟩
/-- three results, of which the third one lies in a cell -/
theorem results_t3c {P : Program} {fn : Func} {a b p : Tmp} {ty : TypeId} (h : fn.results = #[.tmp a, .tmp b, .cell p ty]) (tmps : Array Value) (w : World) (g : Nat) (v : Value) (hp : tmps.getD p undef = .pointer (some ⟨g, 0, none⟩)) (hc : w.cell? ⟨g, 0, none⟩ = some v) (ha : (isAgg ty).run P w = .ok false w) :
    (results fn tmps).run P w = .ok (.tuple #[tmps.getD a undef, tmps.getD b undef, v]) w := by
  have hp' : tmps[p]?.getD undef = .pointer (some ⟨g, 0, none⟩) := by simpa using hp
  simp [results, h, hp', asAddr, loadVar, ha, hc, go_sem]
end Go.Proofs.Ytkkkdjkjggofkaa
