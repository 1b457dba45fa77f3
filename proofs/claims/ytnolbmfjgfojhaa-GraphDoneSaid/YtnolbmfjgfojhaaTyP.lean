/- Trees: depths, the last ones below (plain laws); how great a tree that came in may be. -/
import Derived.Test.YtnolbmfjgfojhaaPut
import Derived.Test.YtnolbmfjgfojhaaAgr
import Derived.Test.YtnolbmfjgfojhaaTreeO
import Derived.Deep.Strs
import Derived.SizedLaws
namespace Go.Proofs.Ytnolbmfjgfojhaa
open Go.ChangeShapes Go.WideShapes Go.ChangeAt Go.RowKit
def depsN (ns : List Nd) : List Int := (List.range ns.length).map (fun i => (dep ns i : Int))
theorem depsN_len (ns : List Nd) : (depsN ns).length = ns.length := by simp [depsN]
theorem depsN_get {ns : List Nd} {i : Nat} (h : i < ns.length) : (depsN ns)[i]? = some (dep ns i : Int) := by simp [depsN, h]
/-- the last one of a node and those below it, among the first k -/
def lastK (ns : List Nd) (i : Nat) : Nat → Nat
  | 0 => i
  | k + 1 => if i < k ∧ bel ns (i : Int) k = true then k else lastK ns i k
theorem lastK_is (ns : List Nd) (i : Nat) : ∀ k, (lastK ns i k = i ∨ (i < lastK ns i k ∧ lastK ns i k < k ∧ bel ns (i : Int) (lastK ns i k) = true)) ∧ ∀ j, j < k → bel ns (i : Int) j = true → j ≤ lastK ns i k := by
  intro k
  induction k with
  | zero => exact ⟨.inl rfl, fun j hj => absurd hj (by omega)⟩
  | succ k ih =>
    rw [lastK]
    split
    · rename_i h
      exact ⟨.inr ⟨h.1, by omega, h.2⟩, fun j hj _ => by omega⟩
    · rename_i h
      obtain ⟨h1, h2⟩ := ih
      refine ⟨?_, fun j hj hb => ?_⟩
      · rcases h1 with h1 | h1
        · exact .inl h1
        · exact .inr ⟨h1.1, by omega, h1.2.2⟩
      · by_cases hjk : j = k
        · subst hjk
          exact absurd ⟨bel_lt j hb, hb⟩ h
        · exact h2 j (by omega) hb
def lastsN (ns : List Nd) : List Int := (List.range ns.length).map (fun i => (lastK ns i ns.length : Int))
theorem lastsN_len (ns : List Nd) : (lastsN ns).length = ns.length := by simp [lastsN]
theorem lastsN_get {ns : List Nd} {i : Nat} (h : i < ns.length) : (lastsN ns)[i]? = some (lastK ns i ns.length : Int) := by simp [lastsN, h]
/-- the greatest number of a node, and of what lies below its children behind m -/
def LM (ns : List Nd) (m j v : Nat) : Prop := v < ns.length ∧ (v = j ∨ ∃ c, m < c ∧ parN ns c = j ∧ sub ns c v = true) ∧ ∀ k, k < ns.length → (k = j ∨ ∃ c, m < c ∧ parN ns c = j ∧ sub ns c k = true) → k ≤ v
theorem LM_start {ns : List Nd} {j : Nat} (hj : j < ns.length) (m : Nat) (hm : ns.length ≤ m + 1) : LM ns m j j := by
  refine ⟨hj, .inl rfl, fun k hk h => ?_⟩
  rcases h with h | ⟨c, h1, h2, h3⟩
  · omega
  · have := sub_le h3; omega
theorem LM_not {ns : List Nd} {m j v : Nat} (h : LM ns (m + 1) j v) (hp : parN ns (m + 1) ≠ j) : LM ns m j v := by
  refine ⟨h.1, ?_, fun k hk hh => h.2.2 k hk ?_⟩
  · rcases h.2.1 with h1 | ⟨c, h1, h2⟩
    · exact .inl h1
    · exact .inr ⟨c, by omega, h2⟩
  · rcases hh with h1 | ⟨c, h1, h2, h3⟩
    · exact .inl h1
    · by_cases hc : c = m + 1
      · subst hc; exact absurd h2 hp
      · exact .inr ⟨c, by omega, h2, h3⟩
theorem LM_self {ns : List Nd} {m v : Nat} (h : LM ns (m + 1) (m + 1) v) : ∀ k, k < ns.length → sub ns (m + 1) k = true → k ≤ v := by
  intro k hk hs
  refine h.2.2 k hk ?_
  rw [sub, Bool.or_eq_true] at hs
  rcases hs with hs | hs
  · exact .inl (by simpa using hs)
  · obtain ⟨c, h1, h2, h3⟩ := bel_kids k hs
    have := parN_lt ns c
    exact .inr ⟨c, by omega, h2, h3⟩
theorem LM_sub {ns : List Nd} {m v : Nat} (h : LM ns (m + 1) (m + 1) v) : sub ns (m + 1) v = true := by
  rcases h.2.1 with h1 | ⟨c, h1, h2, h3⟩
  · rw [h1]; exact sub_self ns _
  · rw [sub, kid_bel h2 h3, Bool.or_true]
theorem LM_step {ns : List Nd} {m p v u : Nat} (h : LM ns (m + 1) p v) (hu : LM ns (m + 1) (m + 1) u) (hp : parN ns (m + 1) = p) : LM ns m p (if v < u then u else v) := by
  have hs := LM_sub hu
  have hg := LM_self hu
  refine ⟨by split; exact hu.1; exact h.1, ?_, fun k hk hh => ?_⟩
  · split
    · exact .inr ⟨m + 1, by omega, hp, hs⟩
    · rcases h.2.1 with h1 | ⟨c, h1, h2⟩
      · exact .inl h1
      · exact .inr ⟨c, by omega, h2⟩
  · rcases hh with h1 | ⟨c, h1, h2, h3⟩
    · have := h.2.2 k hk (.inl h1)
      split <;> omega
    · by_cases hc : c = m + 1
      · subst hc
        have := hg k hk h3
        split <;> omega
      · have := h.2.2 k hk (.inr ⟨c, by omega, h2, h3⟩)
        split <;> omega
theorem LM_end {ns : List Nd} {j v : Nat} (hj : j < ns.length) (h : LM ns 0 j v) : v = lastK ns j ns.length := by
  obtain ⟨h1, h2⟩ := lastK_is ns j ns.length
  have a : v ≤ lastK ns j ns.length := by
    rcases h.2.1 with e | ⟨c, _, hc, hs⟩
    · rcases h1 with e2 | ⟨e2, _⟩ <;> omega
    · exact h2 v h.1 (kid_bel hc hs)
  have b : lastK ns j ns.length ≤ v := by
    rcases h1 with e | ⟨e1, e2, e3⟩
    · rw [e]; exact h.2.2 j hj (.inl rfl)
    · obtain ⟨c, k1, k2, k3⟩ := bel_kids _ e3
      have := parN_lt ns c
      have hc0 : 0 < c := by omega
      exact h.2.2 _ e2 (.inr ⟨c, hc0, k2, k3⟩)
  omega
/-- more than a statement goes through? -/
def unitsV (ns : List Nd) (k : Nat) : Nat := ((ns.take k).map (fun n => min n.s.ul 5000)).sum
def vastV (ns : List Nd) (al : Nat) : Bool := decide (5000 < ns.length + al + unitsV ns ns.length)
theorem unitsV_succ {ns : List Nd} {k : Nat} {n : Nd} (h : ns[k]? = some n) : unitsV ns (k + 1) = unitsV ns k + min n.s.ul 5000 := by
  obtain ⟨hk, he⟩ := List.getElem?_eq_some_iff.1 h
  unfold unitsV
  rw [List.take_succ_eq_append_getElem hk, List.map_append, List.sum_append, he]
  simp
theorem unitsV_le (ns : List Nd) {k : Nat} (h : k ≤ ns.length) : unitsV ns k ≤ unitsV ns ns.length := by
  obtain ⟨d, hd⟩ : ∃ d, ns.length = k + d := ⟨ns.length - k, by omega⟩
  rw [hd]
  have key : ∀ d, k + d ≤ ns.length → unitsV ns k ≤ unitsV ns (k + d) := by
    intro d
    induction d with
    | zero => intro _; exact Nat.le_refl _
    | succ d ih =>
      intro h
      have h1 := unitsV_succ (ns := ns) (k := k + d) (List.getElem?_eq_getElem (by omega))
      have := ih (by omega)
      rw [← Nat.add_assoc, h1]
      omega
  exact key d (by omega)

section
variable {H : Type} {enc : TypeId × Value → H} {w : World} {base : Nat} {spare : Nat → Bool} {held : Bool}
theorem mapM_len {α β : Type} {f : α → Option β} : ∀ {l : List α} {r : List β}, l.mapM f = some r → r.length = l.length
  | [], r, h => by simp at h; subst h; rfl
  | a :: l, r, h => by
    simp only [List.mapM_cons] at h
    cases ha : f a with
    | none => simp [ha] at h
    | some b =>
      cases hl : l.mapM f with
      | none => simp [ha, hl] at h
      | some r' =>
        simp [ha, hl] at h
        subst h
        simp [mapM_len hl]
theorem slice_len {P : Program} {fuel : Nat} {t e : TypeId} {a : Option Addr} {n c : Nat} {x : DataW H × List MemPlace} (ht : P.underlying t = some (.slice e)) (h : DataW.trod enc P w base spare held fuel t [.slice a n c] = some x) :
    n = 0 ∨ ∃ E S, x.1 = .slice E S ∧ E.length = n := by
  cases fuel with
  | zero => simp [DataW.trod] at h
  | succ m =>
    unfold DataW.trod at h
    rw [ht] at h
    cases a with
    | none =>
      left
      cases n with
      | zero => rfl
      | succ n => simp at h
    | some ad =>
      right
      simp only at h
      split at h
      · cases hm : (List.range n).mapM (fun i => (w.cells? base (ad.add (i * P.cellsOf e)) (P.cellsOf e)).bind (DataW.trod enc P w base spare held m e)) with
        | none => simp [hm] at h
        | some elems =>
          rw [hm, Option.bind_some, Option.map_eq_some_iff] at h
          obtain ⟨rest, _, h⟩ := h
          subst h
          exact ⟨_, _, rfl, by rw [List.length_map, mapM_len hm, List.length_range]⟩
      · cases h
theorem bytes_node : 8 ≤ Try.prog.bytesOf 47 := by
  have h : Try.prog.bytesOf 47 = 328 := by kernel_rfl
  omega
theorem bytes_adv : Try.prog.bytesOf 2 = 8 := by kernel_rfl
theorem sized_tree {ts : List TypeId} {ds : List (DataW H)} {j : Nat} {t : Tr} {d : DataW H} {p : List MemPlace} (hsz : (DataW.weightsEach Try.prog ts ds).all (· ≤ reachBytes) = true) (ht : ts[j]? = some 25) (hd : ds[j]? = some d)
    (h : DataW.Trod enc Try.prog w base spare held 25 (.agg t.cs) d p) : t.nl ≤ 17592186044415 ∧ t.al ≤ 17592186044415 := by
  obtain ⟨fuel, hf⟩ := h
  obtain ⟨y0, y1, y2, n, hx, hl, h0, h1, h2⟩ := Go.Deep.trod_struct3 Try.underlying25 hf
  have hw := fun z hz => List.all_eq_true.1 hsz z (DataW.weights_mem_each ht hd z hz)
  have hdx : d = .agg [y0.1, y1.1, y2.1] := congrArg Prod.fst hx
  have hr : reachBytes = 140737488351232 := rfl
  rw [hdx, DataW.weights, Try.underlying25] at hw
  have e0 : (Value.cells (.agg t.cs)).toList = [.slice t.na t.nl t.nc, .slice t.aa t.al t.ac, .int .i64 t.view] := rfl
  rw [e0] at h0 h1
  have g0 : DataW.trod enc Try.prog w base spare held n 22 [.slice t.na t.nl t.nc] = some y0 := h0
  have g1 : DataW.trod enc Try.prog w base spare held n 23 [.slice t.aa t.al t.ac] = some y1 := h1
  constructor
  · rcases slice_len Try.underlying22 g0 with h | ⟨E, S, hE, hn⟩
    · omega
    · have := hw ((E.length + S.length) * Try.prog.bytesOf 47) (by
        simp only [List.map, DataW.weightsEach, List.mem_append]
        left
        rw [hE, DataW.weights, Try.underlying22]
        exact List.mem_cons_self ..)
      have hb := bytes_node
      simp only [decide_eq_true_eq] at this
      have h8 := Nat.mul_le_mul_left (E.length + S.length) hb
      omega
  · rcases slice_len Try.underlying23 g1 with h | ⟨E, S, hE, hn⟩
    · omega
    · have := hw ((E.length + S.length) * Try.prog.bytesOf 2) (by
        simp only [List.map, DataW.weightsEach, List.mem_append]
        right; left
        rw [hE, DataW.weights, Try.underlying23]
        exact List.mem_cons_self ..)
      rw [bytes_adv] at this
      simp only [decide_eq_true_eq] at this
      omega
end
end Go.Proofs.Ytnolbmfjgfojhaa
