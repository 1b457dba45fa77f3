/- Trees: what is known of a tree that may be (plain laws). -/
import Derived.Test.YtnolbmfjgfojhaaTreeO
import Derived.Test.YtnolbmfjgfojhaaTrS
import Derived.Test.YtnolbmfjgfojhaaIsA
namespace Go.Proofs.Ytnolbmfjgfojhaa
open Go.RowKit

theorem bad_none {ns : List Nd} : ∀ (d k : Nat), ns.length - k = d → (badV ns k).2 = 0 → ∀ i, k ≤ i → i < ns.length → nodeV ns i = 0
  | 0, k, hd, _, i, h1, h2 => by omega
  | d + 1, k, hd, h, i, h1, h2 => by
    rw [badV, if_pos (by omega)] at h
    by_cases h0 : nodeV ns k = 0
    · rw [if_pos h0] at h
      by_cases hik : i = k
      · rw [hik]; exact h0
      · exact bad_none d (k + 1) (by omega) h i (by omega) h2
    · rw [if_neg h0] at h
      exact absurd h h0
/-- a tree that may be -/
structure TOk (ns : List Nd) : Prop where
  pos : 0 < ns.length
  few : ns.length ≤ 1000000
  bad : ∀ i, i < ns.length → nodeV ns i = 0
theorem TOk.of {ns : List Nd} {av : List Int} {view : Int} (hl : ns.length ≤ 1000000) (h : (checkV ns av view).2 = 0) : TOk ns := by
  unfold checkV at h
  split at h
  · cases h
  · split at h
    · cases h
    · split at h
      · cases h
      · exact ⟨by omega, hl, fun i hi => bad_none _ 0 rfl h i (by omega) hi⟩
section
variable {ns : List Nd}
theorem TOk.node (h : TOk ns) {i : Nat} (hi : i < ns.length) : nodeE ns i ns[i] = 0 := by
  rw [← nodeV_of (List.getElem?_eq_getElem hi)]; exact h.bad i hi
theorem nP_of {i : Nat} (hi : i < ns.length) : nP ns i = ns[i].p := by simp [nP, List.getElem?_eq_getElem hi]
theorem nK_of {i : Nat} (hi : i < ns.length) : nK ns i = ns[i].s.kind := by simp [nK, List.getElem?_eq_getElem hi]
theorem TOk.par0 (h : TOk ns) : nP ns 0 = -1 := by
  have hp0 := h.pos
  have h0 := h.node h.pos
  rw [nP_of h.pos]
  by_cases hp : ns[0].p = -1
  · exact hp
  · rw [nodeE, if_pos (.inl ⟨rfl, hp⟩)] at h0
    cases h0
theorem TOk.par (h : TOk ns) {i : Nat} (h0 : 0 < i) (hi : i < ns.length) : ∃ p : Nat, nP ns i = p ∧ p < i := by
  have h1 := h.node hi
  rw [nP_of hi]
  by_cases hp : 0 ≤ ns[i].p ∧ ns[i].p < i
  · exact ⟨ns[i].p.toNat, by omega, by omega⟩
  · rw [nodeE, if_pos (.inr ⟨h0, by omega, by omega⟩)] at h1
    cases h1
theorem TOk.parN (h : TOk ns) {i : Nat} (hi : i < ns.length) : Go.Proofs.Ytnolbmfjgfojhaa.parN ns i = nP ns i := by
  unfold Go.Proofs.Ytnolbmfjgfojhaa.parN Go.Proofs.Ytnolbmfjgfojhaa.par
  by_cases h0 : i = 0
  · subst h0
    rw [h.par0]; rfl
  · obtain ⟨p, hp, hlt⟩ := h.par (by omega) hi
    rw [hp, if_pos (by omega)]
theorem TOk.right (h : TOk ns) {i : Nat} (hi : i < ns.length) : rightV ns[i].s = true := by
  have h1 := h.node hi
  unfold nodeE at h1
  by_cases hr : rightV ns[i].s = false
  · rw [if_pos hr] at h1
    split at h1
    · cases h1
    · split at h1
      · cases h1
      · split at h1
        · cases h1
        · cases h1
  · simpa using hr
theorem TOk.kind (h : TOk ns) {i : Nat} (hi : i < ns.length) : nK ns i = 1 ∨ nK ns i = 2 ∨ nK ns i = 3 := by
  have h1 := h.right hi
  rw [nK_of hi]
  unfold rightV at h1
  split at h1
  · omega
  · split at h1
    · omega
    · cases h1
/-- what is left of a node's rule behind the first four -/
theorem TOk.stands (h : TOk ns) {i : Nat} (hi : i < ns.length) :
    (if i = 0 then (if ns[i].s.kind ≠ 1 ∨ looseV ns[i].s = true then (6 : Int) else 0)
      else if nK ns ns[i].p.toNat = 3 then 6
      else if nK ns ns[i].p.toNat = 2 then (if ns[i].s.kind = 3 ∨ looseV ns[i].s = true then 6 else 0)
      else if 0 ≤ firstN ns ns[i].p i (ns[i].p.toNat + 1) ∧ ((nK ns (firstN ns ns[i].p i (ns[i].p.toNat + 1)).toNat == 3) != (ns[i].s.kind == 3)) = true then 6 else 0) = 0 := by
  have h1 := h.node hi
  have h2 := h.right hi
  unfold nodeE at h1
  split at h1
  · cases h1
  · split at h1
    · cases h1
    · split at h1
      · cases h1
      · rw [if_neg (by rw [h2]; decide)] at h1
        exact h1
theorem TOk.kind0 (h : TOk ns) : nK ns 0 = 1 ∧ looseV (ns[0]'h.pos).s = false := by
  have hp0 := h.pos
  have h1 := h.stands h.pos
  rw [if_pos rfl] at h1
  rw [nK_of h.pos]
  by_cases hk : ns[0].s.kind ≠ 1 ∨ looseV ns[0].s = true
  · rw [if_pos hk] at h1; cases h1
  · refine ⟨by omega, ?_⟩
    cases hl : looseV ns[0].s
    · rfl
    · exact absurd (.inr hl) hk
theorem TOk.parK (h : TOk ns) {i : Nat} (h0 : 0 < i) (hi : i < ns.length) : nK ns (nP ns i).toNat ≠ 3 := by
  have h1 := h.stands hi
  rw [if_neg (by omega)] at h1
  rw [nP_of hi]
  intro hk
  rw [if_pos hk] at h1
  cases h1
theorem TOk.root0 (h : TOk ns) : rootN ns 0 = true := by
  rw [root_val (List.getElem?_eq_getElem h.pos)]
  have := h.kind0.1
  rw [nK_of h.pos] at this
  rw [if_neg (by omega)]
  simp
end
end Go.Proofs.Ytnolbmfjgfojhaa
