/- Trees that may be: a node's subtree is a stretch of numbers (plain laws). -/
import Derived.Test.YtnolbmfjgfojhaaIsB
namespace Go.Proofs.Ytnolbmfjgfojhaa
open Go.RowKit

/-- a node, or one below it -/
def sub (ns : List Nd) (i j : Nat) : Bool := decide (j = i) || bel ns (i : Int) j
theorem sub_self (ns : List Nd) (i : Nat) : sub ns i i = true := by simp [sub]
theorem bel_par {ns : List Nd} {j p : Nat} (h : parN ns j = p) (o : Nat) : bel ns (o : Int) j = sub ns o p := by
  rw [bel, h, if_pos (by omega), Int.toNat_natCast, sub]
  congr 1
  rw [Bool.eq_iff_iff]; simp; omega
theorem bel_no {ns : List Nd} {j : Nat} (h : ¬ 0 ≤ parN ns j) (o : Int) : bel ns o j = false := by
  rw [bel, if_neg h]
theorem bel_lt {ns : List Nd} {o : Nat} : ∀ (j : Nat), bel ns (o : Int) j = true → o < j := by
  intro j
  induction j using Nat.strongRecOn with
  | _ j ih =>
    intro h
    by_cases h0 : 0 ≤ parN ns j
    · obtain ⟨p, hp⟩ : ∃ p : Nat, parN ns j = p := ⟨(parN ns j).toNat, by omega⟩
      have hlt := parN_lt ns j
      rw [bel_par hp, sub, Bool.or_eq_true] at h
      rcases h with h | h
      · have : p = o := by simpa using h
        omega
      · have := ih p (by omega) h
        omega
    · rw [bel_no h0] at h; cases h
theorem sub_le {ns : List Nd} {i j : Nat} (h : sub ns i j = true) : i ≤ j := by
  rw [sub, Bool.or_eq_true] at h
  rcases h with h | h
  · have : j = i := by simpa using h
    omega
  · have := bel_lt j h
    omega
theorem sub_trans {ns : List Nd} {a b : Nat} : ∀ (c : Nat), sub ns a b = true → sub ns b c = true → sub ns a c = true := by
  intro c
  induction c using Nat.strongRecOn with
  | _ c ih =>
    intro h1 h2
    rw [sub, Bool.or_eq_true] at h2
    rcases h2 with h2 | h2
    · have : c = b := by simpa using h2
      rw [this]; exact h1
    · by_cases h0 : 0 ≤ parN ns c
      · obtain ⟨p, hp⟩ : ∃ p : Nat, parN ns c = p := ⟨(parN ns c).toNat, by omega⟩
        have hlt := parN_lt ns c
        rw [bel_par hp] at h2
        rw [sub, bel_par hp, ih p (by omega) h1 h2, Bool.or_true]
      · rw [bel_no h0] at h2; cases h2
section
variable {ns : List Nd}
/-- the rule of the order -/
theorem ok_pre (h : TOk ns) {i : Nat} (h0 : 0 < i) (hi : i < ns.length) : ∃ p : Nat, parN ns i = p ∧ p < i ∧ sub ns p (i - 1) = true := by
  obtain ⟨p, hp, hlt⟩ := h.par h0 hi
  refine ⟨p, (h.parN hi).trans hp, hlt, ?_⟩
  have h1 := h.node hi
  rw [nP_of hi] at hp
  rw [nodeE, hp] at h1
  by_cases hs : sub ns p (i - 1) = true
  · exact hs
  · rw [sub, Bool.or_eq_true] at hs
    have hb : bel ns (p : Int) (i - 1) = false := by
      cases hb : bel ns (p : Int) (i - 1)
      · rfl
      · exact absurd (.inr hb) hs
    have hne : ¬ i - 1 = p := fun e => hs (.inl (by simp [e]))
    rw [if_pos] at h1
    · cases h1
    · right
      refine ⟨h0, by omega, ?_⟩
      simp [hb]
/-- once behind a subtree, one stays so -/
theorem ok_gap (h : TOk ns) {i k : Nat} (hk : k + 1 < ns.length) (hik : i ≤ k) (hn : sub ns i k = false) : sub ns i (k + 1) = false := by
  obtain ⟨p, hp, hlt, hs⟩ := ok_pre h (by omega : 0 < k + 1) hk
  rw [Nat.add_sub_cancel] at hs
  cases hq : sub ns i (k + 1)
  · rfl
  · rw [sub, bel_par hp, Bool.or_eq_true] at hq
    rcases hq with hq | hq
    · have : k + 1 = i := by simpa using hq
      omega
    · rw [sub_trans k hq hs] at hn; cases hn
/-- the first number behind a subtree, from k on -/
def endF (ns : List Nd) (i k : Nat) : Nat := if k < ns.length then (if sub ns i k = true then endF ns i (k + 1) else k) else k
termination_by ns.length - k
def endN (ns : List Nd) (i : Nat) : Nat := endF ns i (i + 1)
theorem endF_ge (ns : List Nd) (i : Nat) : ∀ (d k : Nat), ns.length - k = d → k ≤ endF ns i k ∧ (k ≤ ns.length → endF ns i k ≤ ns.length) := by
  intro d
  induction d with
  | zero => intro k hd; rw [endF, if_neg (by omega)]; exact ⟨Nat.le_refl _, fun h => h⟩
  | succ d ih =>
    intro k hd
    rw [endF, if_pos (by omega)]
    split
    · have := ih (k + 1) (by omega)
      exact ⟨by omega, fun _ => this.2 (by omega)⟩
    · exact ⟨Nat.le_refl _, fun h => h⟩
theorem endN_gt (ns : List Nd) (i : Nat) : i < endN ns i := by have := (endF_ge ns i _ (i + 1) rfl).1; unfold endN; omega
theorem endN_le {i : Nat} (hi : i < ns.length) : endN ns i ≤ ns.length := (endF_ge ns i _ (i + 1) rfl).2 (by omega)
theorem endF_in (ns : List Nd) (i : Nat) : ∀ (d k : Nat), ns.length - k = d → ∀ j, k ≤ j → j < endF ns i k → sub ns i j = true := by
  intro d
  induction d with
  | zero => intro k hd j h1 h2; rw [endF, if_neg (by omega)] at h2; omega
  | succ d ih =>
    intro k hd j h1 h2
    rw [endF, if_pos (by omega)] at h2
    split at h2
    · rename_i hs
      by_cases hjk : j = k
      · rw [hjk]; exact hs
      · exact ih (k + 1) (by omega) j (by omega) h2
    · omega
theorem endF_out (ns : List Nd) (i : Nat) : ∀ (d k : Nat), ns.length - k = d → endF ns i k < ns.length → sub ns i (endF ns i k) = false := by
  intro d
  induction d with
  | zero => intro k hd h; rw [endF, if_neg (by omega)] at h; omega
  | succ d ih =>
    intro k hd h
    rw [endF, if_pos (by omega)] at h ⊢
    split at h
    · rename_i hs; rw [if_pos hs]; exact ih (k + 1) (by omega) h
    · rename_i hs; rw [if_neg hs]; simpa using hs
/-- a subtree is a stretch of numbers -/
theorem ok_stretch (h : TOk ns) {i j : Nat} (hj : j < ns.length) : sub ns i j = decide (i ≤ j ∧ j < endN ns i) := by
  by_cases hij : i ≤ j
  · by_cases hje : j < endN ns i
    · rw [decide_eq_true (by exact ⟨hij, hje⟩)]
      by_cases e : j = i
      · rw [e]; exact sub_self ns i
      · exact endF_in ns i _ (i + 1) rfl j (by omega) hje
    · rw [decide_eq_false (by omega)]
      have key : ∀ d, endN ns i + d < ns.length → sub ns i (endN ns i + d) = false := by
        intro d
        induction d with
        | zero => intro hd; exact endF_out ns i _ (i + 1) rfl hd
        | succ d ih =>
          intro hd
          have hg := endN_gt ns i
          exact ok_gap h (k := endN ns i + d) (by omega) (by omega) (ih (by omega))
      have := key (j - endN ns i) (by omega)
      rwa [Nat.add_sub_cancel' (by omega : endN ns i ≤ j)] at this
  · rw [decide_eq_false (by omega)]
    cases hq : sub ns i j
    · rfl
    · have := sub_le hq; omega
/-- all lie below the first -/
theorem ok_below0 (h : TOk ns) {j : Nat} (hj : j < ns.length) : sub ns 0 j = true := by
  induction j using Nat.strongRecOn with
  | _ j ih =>
    by_cases h0 : j = 0
    · rw [h0]; exact sub_self ns 0
    · obtain ⟨p, hp, hlt, _⟩ := ok_pre h (by omega) hj
      rw [sub, bel_par hp, ih p hlt (by omega), Bool.or_true]
theorem ok_end0 (h : TOk ns) : endN ns 0 = ns.length := by
  have h1 := endN_le h.pos
  rcases Nat.lt_or_ge (endN ns 0) ns.length with h2 | h2
  · have h3 := ok_below0 h h2
    rw [ok_stretch h h2] at h3
    have : 0 ≤ endN ns 0 ∧ endN ns 0 < endN ns 0 := of_decide_eq_true h3
    omega
  · omega
/-- a Text has nothing below it -/
theorem ok_leaf (h : TOk ns) {i j : Nat} (hj : j < ns.length) (hk : nK ns i = 3) : bel ns (i : Int) j = false := by
  induction j using Nat.strongRecOn with
  | _ j ih =>
    by_cases h0 : j = 0
    · subst h0
      exact bel_no (by have := parN_lt ns 0; omega) _
    · obtain ⟨p, hp, hlt, _⟩ := ok_pre h (by omega) hj
      rw [bel_par hp, sub, ih p hlt (by omega), Bool.or_false]
      have hnk := h.parK (by omega) hj
      rw [← h.parN hj, hp, Int.toNat_natCast] at hnk
      have : ¬ p = i := by rintro rfl; exact hnk hk
      simpa using this
theorem ok_end_leaf (h : TOk ns) {i : Nat} (hi : i < ns.length) (hk : nK ns i = 3) : endN ns i = i + 1 := by
  have h1 := endN_gt ns i
  have h2 := endN_le hi
  rcases Nat.lt_or_ge (i + 1) (endN ns i) with h3 | h3
  · have h4 := ok_stretch h (i := i) (j := i + 1) (by omega)
    rw [decide_eq_true (by omega), sub, ok_leaf h (by omega) hk] at h4
    simp at h4
  · omega
/-- the end of a child is not behind its parent's -/
theorem ok_end_kid (h : TOk ns) {i k : Nat} (hk : k < ns.length) (hp : parN ns k = i) : endN ns k ≤ endN ns i := by
  have hs : sub ns i k = true := by rw [sub, bel_par hp, sub_self]; simp
  have hlt := parN_lt ns k
  have h1 := ok_stretch h (i := i) hk
  rw [hs] at h1
  have h1 : i ≤ k ∧ k < endN ns i := of_decide_eq_true h1.symm
  rcases Nat.lt_or_ge (endN ns i) (endN ns k) with h2 | h2
  · have h3 := endN_le hk
    have h4 := ok_stretch h (i := k) (j := endN ns i) (by omega)
    rw [decide_eq_true (by omega)] at h4
    have h5 := sub_trans _ hs h4
    rw [ok_stretch h (by omega)] at h5
    have : i ≤ endN ns i ∧ endN ns i < endN ns i := of_decide_eq_true h5
    omega
  · exact h2
/-- behind a subtree of a child comes the next child, or the end -/
theorem ok_next (h : TOk ns) {i k : Nat} (hk : k < ns.length) (hik : i < k) (hc : k = i + 1 ∨ ∃ c : Nat, c < ns.length ∧ parN ns c = i ∧ k = endN ns c) :
    (parN ns k = i ∧ k < endN ns i) ∨ (parN ns k ≠ i ∧ k = endN ns i) := by
  obtain ⟨p, hp, hlt, hs⟩ := ok_pre h (by omega : 0 < k) hk
  have hle : k ≤ endN ns i := by
    rcases hc with rfl | ⟨c, hc, hpc, rfl⟩
    · have := endN_gt ns i; omega
    · exact ok_end_kid h hc hpc
  rcases Nat.lt_or_ge k (endN ns i) with hke | hke
  · left
    refine ⟨?_, hke⟩
    have h1 := ok_stretch h (i := i) hk
    rw [decide_eq_true (by omega), sub, bel_par hp] at h1
    have hne : ¬ k = i := by omega
    rw [decide_eq_false hne, Bool.false_or] at h1
    -- p lies in i's subtree; it is not behind i
    by_cases hpi : p = i
    · omega
    · have hple : i ≤ p := sub_le h1
      rcases hc with rfl | ⟨c, hc, hpc, rfl⟩
      · omega
      · have hcl := parN_lt ns c
        have hce := endN_gt ns c
        -- p lies in the subtree of c, so k would too
        have hpk : sub ns c p = true := by
          rw [ok_stretch h (by omega)]
          refine decide_eq_true ⟨?_, hlt⟩
          rcases Nat.lt_or_ge p c with hpc2 | hpc2
          · exfalso
            -- p between i and c, and c below i's ..: the stretch of p holds c, so c's parent is not i
            have h7 := ok_stretch h (i := p) (j := endN ns c - 1) (by omega)
            rw [hs] at h7
            have h7 : p ≤ endN ns c - 1 ∧ endN ns c - 1 < endN ns p := of_decide_eq_true h7.symm
            have h8 := ok_stretch h (i := p) (j := c) hc
            rw [decide_eq_true (by omega), sub, bel_par hpc] at h8
            have hcp : ¬ c = p := by omega
            rw [decide_eq_false hcp, Bool.false_or] at h8
            have := sub_le h8
            omega
          · exact hpc2
        have h5 : sub ns c (endN ns c) = true := by rw [sub, bel_par hp, hpk, Bool.or_true]
        rw [ok_stretch h hk] at h5
        have : c ≤ endN ns c ∧ endN ns c < endN ns c := of_decide_eq_true h5
        omega
  · right
    have hk2 : k = endN ns i := by omega
    refine ⟨fun e => ?_, hk2⟩
    have h1 := ok_stretch h (i := i) hk
    rw [sub, bel_par e, sub_self, Bool.or_true] at h1
    have : i ≤ k ∧ k < endN ns i := of_decide_eq_true h1.symm
    omega
end
end Go.Proofs.Ytnolbmfjgfojhaa
