/- A slice of elements of several cells each that came in: its cells, element by element. -/
import Derived.Test.YtkkkdjkjggofkaaRd
import Derived.Test.YtkkkdjkjggofkaaFlat
import Derived.ChangeOld
namespace Go.Proofs.Ytkkkdjkjggofkaa
open Go.ChangeShapes Go.WideShapes Go.ChangeAt Go.RowKit
section
variable {H : Type} {enc : TypeId × Value → H} {P : Program} {w : World} {spare : Nat → Bool} {held : Bool}
theorem flatten_get (k : Nat) : ∀ (xss : List (List Value)), (∀ xs ∈ xss, xs.length = k) → ∀ (i j : Nat) (xs : List Value), xss[i]? = some xs → j < k → xss.flatten[i * k + j]? = xs[j]?
  | [], _, i, j, xs, h, _ => by simp at h
  | a :: r, hl, 0, j, xs, h, hj => by
    simp at h; subst h
    have := hl a (List.mem_cons_self ..)
    rw [List.flatten_cons, Nat.zero_mul, Nat.zero_add, List.getElem?_append_left (by omega)]
  | a :: r, hl, i + 1, j, xs, h, hj => by
    have ha := hl a (List.mem_cons_self ..)
    have ih := flatten_get k r (fun y hy => hl y (List.mem_cons_of_mem _ hy)) i j xs (by simpa using h) hj
    rw [List.flatten_cons, List.getElem?_append_right (by rw [ha, Nat.succ_mul]; omega), ha, ← ih]
    congr 1
    rw [Nat.succ_mul]; omega
theorem flatten_len (k : Nat) : ∀ (xss : List (List Value)), (∀ xs ∈ xss, xs.length = k) → xss.flatten.length = xss.length * k
  | [], _ => by simp
  | a :: r, hl => by
    have ha := hl a (List.mem_cons_self ..)
    rw [List.flatten_cons, List.length_append, flatten_len k r (fun y hy => hl y (List.mem_cons_of_mem _ hy)), ha, List.length_cons, Nat.succ_mul]; omega
theorem SliceOk.rd {e : TypeId} {a : Option Addr} {len cap k : Nat} (h : SliceOk enc P w 0 spare held e a len cap) (hk : P.cellsOf e = k) (hk0 : 0 < k) :
    ∃ xss : List (List Value), xss.length = len ∧ (∀ xs ∈ xss, xs.length = k) ∧ Rd w k a len xss.flatten ∧ ∀ xs ∈ xss, ∃ x fuel, DataW.trod enc P w 0 spare held fuel e xs = some x := by
  obtain ⟨h1, h2, h3, h4⟩ := h
  rw [hk] at h4
  cases a with
  | none =>
    obtain ⟨rfl, rfl⟩ := h3 rfl
    exact ⟨[], rfl, by simp, Rd.nil _ _ _, by simp⟩
  | some ad =>
    obtain ⟨_, h5⟩ := h4 ad rfl
    have mk : ∀ n, n ≤ len → ∃ xss : List (List Value), xss.length = n ∧ ∀ i xs, xss[i]? = some xs → ∃ x fuel, w.cells? 0 (ad.add (i * k)) k = some xs ∧ DataW.trod enc P w 0 spare held fuel e xs = some x := by
      intro n
      induction n with
      | zero => intro _; exact ⟨[], rfl, by simp⟩
      | succ n ih =>
        intro hn
        obtain ⟨xss, hl, hx⟩ := ih (by omega)
        obtain ⟨cs, x, fuel, hc, ht⟩ := h5 n (by omega)
        refine ⟨xss ++ [cs], by simp [hl], fun i xs hi => ?_⟩
        rcases Nat.lt_or_ge i xss.length with h | h
        · rw [List.getElem?_append_left h] at hi; exact hx i xs hi
        · rw [List.getElem?_append_right h] at hi
          have : i = n := by
            have hlt := (List.getElem?_eq_some_iff.1 hi).1
            simp at hlt; omega
          subst this
          rw [← hl] at hi ⊢
          simp at hi; subst hi
          rw [hl]
          exact ⟨x, fuel, hc, ht⟩
    obtain ⟨xss, hl, hx⟩ := mk len (Nat.le_refl _)
    have hlen : ∀ xs ∈ xss, xs.length = k := by
      intro xs hm
      obtain ⟨i, hi⟩ := List.getElem?_of_mem hm
      obtain ⟨_, _, hc, _⟩ := hx i xs hi
      exact (World.cells?_some hc).2.1
    refine ⟨xss, hl, hlen, ⟨by rw [flatten_len k xss hlen, hl], fun hn => ?_⟩, fun xs hm => ?_⟩
    · obtain ⟨xs0, h0⟩ : ∃ xs, xss[0]? = some xs := ⟨xss[0], List.getElem?_eq_getElem (by omega)⟩
      obtain ⟨_, _, hc, _⟩ := hx 0 xs0 h0
      rw [Nat.zero_mul] at hc
      have hb := World.cells?_block hc hk0
      have hsp : ad.spot = none := by
        have h6 := (World.cells?_some hc).2.2 0 hk0
        have hl0 := (World.cells?_some hc).2.1
        rw [List.getElem?_eq_getElem (by omega)] at h6
        have := World.cell?_spot h6
        simpa [Addr.add] using this
      obtain ⟨b, off, sp⟩ := ad
      simp only at hsp hb
      subst hsp
      have hadd : ∀ o n, (⟨b, o, none⟩ : Addr).add n = ⟨b, o + n, none⟩ := by
        intro o n; unfold Addr.add; split <;> simp_all
      refine ⟨b, off, rfl, hb, fun j u hu => ?_⟩
      have hjl : j < len * k := by
        have := (List.getElem?_eq_some_iff.1 hu).1
        rwa [flatten_len k xss hlen, hl] at this
      have hi : j / k < len := Nat.div_lt_of_lt_mul (by rw [Nat.mul_comm]; exact hjl)
      have hr : j % k < k := Nat.mod_lt _ hk0
      have hj : j / k * k + j % k = j := by rw [Nat.mul_comm]; exact Nat.div_add_mod j k
      obtain ⟨xs, hxs⟩ : ∃ xs, xss[j / k]? = some xs := ⟨xss[j / k], List.getElem?_eq_getElem (by omega)⟩
      obtain ⟨_, _, hc', _⟩ := hx _ xs hxs
      have hcell := (World.cells?_some hc').2.2 (j % k) hr
      have hfl := flatten_get k xss hlen (j / k) (j % k) xs hxs hr
      rw [hj, hu] at hfl
      rw [← hfl, hadd, hadd, Nat.add_assoc, hj] at hcell
      exact hcell
    · obtain ⟨i, hi⟩ := List.getElem?_of_mem hm
      obtain ⟨x, fuel, _, ht⟩ := hx i xs hi
      exact ⟨x, fuel, ht⟩
end
end Go.Proofs.Ytkkkdjkjggofkaa
