/- An argument of nested structs and arrays, opened to its cells: what each cell holds, by its type. -/
import Derived.Test.YtkkkdjkjggofkaaRows
import Derived.ProofKit
import Derived.OpenShut
namespace Go.Proofs.Ytkkkdjkjggofkaa
open Go.ChangeShapes Go.WideShapes Go.ChangeAt Go.RowKit

/-- what a cell of a type is -/
inductive Leaf where
  | bool
  | int (k : IntKind)
  | slice (e : TypeId)
  | str

def flatFields (P : Program) (rec : TypeId → Option (List Leaf)) (total : Nat) : Nat → List Field → Option (List Leaf)
  | off, [] => if off = total then some [] else none
  | off, f :: r => if f.offset = off then (rec f.type).bind fun l => if l.length = P.cellsOf f.type then (flatFields P rec total (off + P.cellsOf f.type) r).map (l ++ ·) else none else none

/-- the cells of a type, one by one -/
def flat (P : Program) : Nat → TypeId → Option (List Leaf)
  | 0, _ => none
  | n + 1, t =>
    match P.underlying t with
    | some .bool => some [.bool]
    | some (.int k) => some [.int k]
    | some .string => some [.str]
    | some (.slice e) => some [.slice e]
    | some (.struct fs) => flatFields P (flat P n) (P.cellsOf t) 0 fs.toList
    | some (.array m e) => (flat P n e).bind fun l => if P.cellsOf t = m * P.cellsOf e ∧ l.length = P.cellsOf e then some (List.replicate m l).flatten else none
    | _ => none

section
variable {H : Type} (enc : TypeId × Value → H) (P : Program) (w : World) (base : Nat) (spare : Nat → Bool) (held : Bool)
/-- what is known of a slice that came in -/
def SliceOk (e : TypeId) (a : Option Addr) (len cap : Nat) : Prop :=
  len ≤ cap ∧ cap ≤ maxLen ∧ (a = none → len = 0 ∧ cap = 0) ∧
    ∀ ad, a = some ad → base ≤ ad.block ∧ ∀ i, i < len → ∃ cs x fuel, w.cells? base (ad.add (i * P.cellsOf e)) (P.cellsOf e) = some cs ∧ DataW.trod enc P w base spare held fuel e cs = some x
def Leaf.ok : Leaf → Value → Prop
  | .bool, v => ∃ b, v = .bool b
  | .int k, v => ∃ n, v = .int k n ∧ (Lit.int k n).wf = true
  | .str, v => ∃ s, v = .string s ∧ s.size ≤ maxLen
  | .slice e, v => ∃ a len cap, v = .slice a len cap ∧ SliceOk enc P w base spare held e a len cap
def LeavesOk : List Leaf → List Value → Prop
  | [], [] => True
  | l :: r, v :: s => l.ok enc P w base spare held v ∧ LeavesOk r s
  | _, _ => False
end

section
variable {H : Type} {enc : TypeId × Value → H} {P : Program} {w : World} {base : Nat} {spare : Nat → Bool} {held : Bool}
theorem LeavesOk.cons {l : Leaf} {r : List Leaf} {cs : List Value} (h : LeavesOk enc P w base spare held (l :: r) cs) :
    ∃ v s, cs = v :: s ∧ l.ok enc P w base spare held v ∧ LeavesOk enc P w base spare held r s := by
  cases cs with
  | nil => exact h.elim
  | cons v s => exact ⟨v, s, rfl, h.1, h.2⟩
theorem LeavesOk.nil {cs : List Value} (h : LeavesOk enc P w base spare held [] cs) : cs = [] := by
  cases cs with
  | nil => rfl
  | cons v s => exact h.elim
theorem LeavesOk.append : ∀ {a b : List Leaf} {x y : List Value}, LeavesOk enc P w base spare held a x → LeavesOk enc P w base spare held b y → LeavesOk enc P w base spare held (a ++ b) (x ++ y)
  | [], _, [], _, _, h => h
  | [], _, _ :: _, _, h, _ => h.elim
  | _ :: _, _, [], _, h, _ => h.elim
  | _ :: _, _, _ :: _, _, h, k => ⟨h.1, LeavesOk.append h.2 k⟩
theorem LeavesOk.length : ∀ {a : List Leaf} {x : List Value}, LeavesOk enc P w base spare held a x → a.length = x.length
  | [], [], _ => rfl
  | [], _ :: _, h => h.elim
  | _ :: _, [], h => h.elim
  | _ :: _, _ :: _, h => by simp [LeavesOk.length h.2]

theorem slice_of_trod {fuel : Nat} {t e : TypeId} {cs : List Value} {x : DataW H × List MemPlace} (ht : P.underlying t = some (.slice e)) (h : DataW.trod enc P w base spare held fuel t cs = some x) :
    ∃ a len cap, cs = [.slice a len cap] ∧ SliceOk enc P w base spare held e a len cap := by
  cases fuel with
  | zero => simp [DataW.trod] at h
  | succ n =>
    unfold DataW.trod at h
    rw [ht] at h
    split at h <;> simp_all
    · exact ⟨none, 0, 0, ⟨rfl, rfl, rfl⟩, Nat.le_refl _, Nat.zero_le _, (fun _ => ⟨rfl, rfl⟩), (fun _ h => by cases h)⟩
    · rename_i e a len cap _
      obtain ⟨⟨h1, h2, h3⟩, h⟩ := h
      refine ⟨some a, len, cap, ⟨rfl, rfl, rfl⟩, h2, h3, (fun h => by cases h), (fun ad had => ?_)⟩
      cases had
      refine ⟨h1, fun i hi => ?_⟩
      cases hm : (List.range len).mapM (fun i => (w.cells? base (a.add (i * P.cellsOf e)) (P.cellsOf e)).bind (DataW.trod enc P w base spare held n e)) with
      | none => simp [hm] at h
      | some elems =>
        have key : ∀ (l : List Nat) (r : List (DataW H × List MemPlace)), l.mapM (fun i => (w.cells? base (a.add (i * P.cellsOf e)) (P.cellsOf e)).bind (DataW.trod enc P w base spare held n e)) = some r →
            ∀ i ∈ l, ∃ cs x, w.cells? base (a.add (i * P.cellsOf e)) (P.cellsOf e) = some cs ∧ DataW.trod enc P w base spare held n e cs = some x := by
          intro l
          induction l with
          | nil => intro r _ i hi; cases hi
          | cons j l ih =>
            intro r hr i hi
            simp only [List.mapM_cons] at hr
            cases hj : (w.cells? base (a.add (j * P.cellsOf e)) (P.cellsOf e)).bind (DataW.trod enc P w base spare held n e) with
            | none => simp [hj] at hr
            | some y =>
              cases hl : l.mapM (fun i => (w.cells? base (a.add (i * P.cellsOf e)) (P.cellsOf e)).bind (DataW.trod enc P w base spare held n e)) with
              | none => simp [hj, hl] at hr
              | some r' =>
                cases hi with
                | head =>
                  cases hc : w.cells? base (a.add (j * P.cellsOf e)) (P.cellsOf e) with
                  | none => simp [hc] at hj
                  | some cs => exact ⟨cs, y, rfl, by simpa [hc] using hj⟩
                | tail _ hi => exact ih r' hl i hi
        obtain ⟨cs', x', h4, h5⟩ := key _ _ hm i (by simpa using hi)
        exact ⟨cs', x', n, h4, h5⟩

theorem leaf_bool {fuel : Nat} {t : TypeId} {cs : List Value} {x : DataW H × List MemPlace} (ht : P.underlying t = some .bool) (h : DataW.trod enc P w base spare held fuel t cs = some x) : ∃ b, cs = [.bool b] := by
  cases fuel with
  | zero => simp [DataW.trod] at h
  | succ n =>
    unfold DataW.trod at h
    rw [ht] at h
    split at h <;> simp_all
theorem leaf_int {k : IntKind} {fuel : Nat} {t : TypeId} {cs : List Value} {x : DataW H × List MemPlace} (ht : P.underlying t = some (.int k)) (h : DataW.trod enc P w base spare held fuel t cs = some x) : ∃ n, cs = [.int k n] ∧ (Lit.int k n).wf = true := by
  cases fuel with
  | zero => simp [DataW.trod] at h
  | succ n =>
    unfold DataW.trod at h
    rw [ht] at h
    split at h <;> simp_all
theorem leaf_str {fuel : Nat} {t : TypeId} {cs : List Value} {x : DataW H × List MemPlace} (ht : P.underlying t = some .string) (h : DataW.trod enc P w base spare held fuel t cs = some x) : ∃ s, cs = [.string s] ∧ s.size ≤ maxLen := by
  cases fuel with
  | zero => simp [DataW.trod] at h
  | succ n =>
    unfold DataW.trod at h
    rw [ht] at h
    split at h <;> simp_all

theorem flatFields_ok {rec : TypeId → Option (List Leaf)} {total : Nat} {cs : List Value} (hlen : cs.length = total) :
    ∀ (fs : List Field) (off : Nat) (l : List Leaf), flatFields P rec total off fs = some l →
      (∀ f ∈ fs, ∀ lf, rec f.type = some lf → LeavesOk enc P w base spare held lf ((cs.drop f.offset).take (P.cellsOf f.type))) →
      LeavesOk enc P w base spare held l (cs.drop off)
  | [], off, l, h, _ => by
    simp only [flatFields] at h
    split at h
    · rename_i ho
      obtain rfl : [] = l := by simpa using h
      rw [List.drop_eq_nil_of_le (by omega)]
      trivial
    · cases h
  | f :: r, off, l, h, hf => by
    simp only [flatFields] at h
    split at h
    · rename_i ho
      cases hr : rec f.type with
      | none => simp [hr] at h
      | some lf =>
        simp only [hr, Option.bind_some] at h
        split at h
        · rename_i hl
          cases hrest : flatFields P rec total (off + P.cellsOf f.type) r with
          | none => simp [hrest] at h
          | some lr =>
            simp only [hrest, Option.map_some, Option.some.injEq] at h
            subst h
            have h1 := hf f (List.mem_cons_self ..) lf hr
            have h2 := flatFields_ok hlen r _ lr hrest (fun g hg => hf g (List.mem_cons_of_mem _ hg))
            rw [ho] at h1
            have e : cs.drop off = (cs.drop off).take (P.cellsOf f.type) ++ cs.drop (off + P.cellsOf f.type) := by
              rw [← List.drop_drop, List.take_append_drop]
            rw [e]
            exact LeavesOk.append h1 h2
        · cases h
    · cases h

theorem LeavesOk.replicate {l : List Leaf} {C : Nat} : ∀ (m : Nat) (cs : List Value), cs.length = m * C → l.length = C →
    (∀ i, i < m → LeavesOk enc P w base spare held l ((cs.drop (i * C)).take C)) → LeavesOk enc P w base spare held (List.replicate m l).flatten cs
  | 0, cs, h, _, _ => by
    obtain rfl : cs = [] := List.eq_nil_of_length_eq_zero (by simpa using h)
    trivial
  | m + 1, cs, h, hl, hi => by
    have h0 := hi 0 (by omega)
    simp only [Nat.zero_mul, List.drop_zero] at h0
    have h1 := LeavesOk.replicate m (cs.drop C) (by rw [List.length_drop, h, Nat.add_mul]; omega) hl (fun i him => by
      have := hi (i + 1) (by omega)
      rw [List.drop_drop, Nat.add_comm C, ← Nat.succ_mul]
      exact this)
    rw [List.replicate_succ, List.flatten_cons]
    have := LeavesOk.append h0 h1
    rwa [List.take_append_drop] at this

theorem flat_ok : ∀ (n : Nat) (t : TypeId) (l : List Leaf) (fuel : Nat) (cs : List Value) (x : DataW H × List MemPlace), flat P n t = some l →
    DataW.trod enc P w base spare held fuel t cs = some x → LeavesOk enc P w base spare held l cs
  | 0, _, _, _, _, _, h, _ => by simp [flat] at h
  | n + 1, t, l, fuel, cs, x, h, ht => by
    simp only [flat] at h
    split at h
    · rename_i hu
      obtain rfl : [Leaf.bool] = l := by simpa using h
      obtain ⟨b, rfl⟩ := leaf_bool hu ht
      exact ⟨⟨b, rfl⟩, trivial⟩
    · rename_i k hu
      obtain rfl : [Leaf.int k] = l := by simpa using h
      obtain ⟨m, rfl, hm⟩ := leaf_int hu ht
      exact ⟨⟨m, rfl, hm⟩, trivial⟩
    · rename_i hu
      obtain rfl : [Leaf.str] = l := by simpa using h
      obtain ⟨s, rfl, hs⟩ := leaf_str hu ht
      exact ⟨⟨s, rfl, hs⟩, trivial⟩
    · rename_i e hu
      obtain rfl : [Leaf.slice e] = l := by simpa using h
      obtain ⟨a, len, cap, rfl, hs⟩ := slice_of_trod hu ht
      exact ⟨⟨a, len, cap, rfl, hs⟩, trivial⟩
    · rename_i fs hu
      obtain ⟨xs, m, _, _, hlen, hxs, hf⟩ := DataW.trod_struct hu ht
      have := flatFields_ok (enc := enc) (w := w) (base := base) (spare := spare) (held := held) hlen fs.toList 0 l h (fun f hfm lf hlf => by
        obtain ⟨i, hi⟩ := List.mem_iff_getElem?.1 hfm
        have hi' : fs[i]? = some f := by simpa using hi
        have hti := hf i f hi'
        have hix : i < xs.length := by
          rw [hxs]
          exact (Array.getElem?_eq_some_iff.1 hi').1
        rw [List.getElem?_eq_getElem hix] at hti
        exact flat_ok n f.type lf m _ _ hlf hti)
      simpa using this
    · rename_i m e hu
      obtain ⟨xs, q, _, _, hlen, hxs, hf⟩ := DataW.trod_array hu ht
      cases he : flat P n e with
      | none => simp [he] at h
      | some le =>
        simp only [he, Option.bind_some] at h
        split at h
        · rename_i hc
          obtain rfl : (List.replicate m le).flatten = l := by simpa using h
          refine LeavesOk.replicate m cs (by rw [hlen, hc.1]) hc.2 (fun i him => ?_)
          have hti := hf i him
          rw [List.getElem?_eq_getElem (by omega)] at hti
          exact flat_ok n e le q _ _ he hti
        · cases h
    · cases h
end
end Go.Proofs.Ytkkkdjkjggofkaa
