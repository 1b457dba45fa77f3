/- Trees: which node is wrong first (plain laws); a list of nodes that came in. -/
import Derived.Test.YtnolbmfjgfojhaaTyG
import Derived.Test.YtnolbmfjgfojhaaTreeO
namespace Go.Proofs.Ytnolbmfjgfojhaa
open Go.ChangeShapes Go.WideShapes Go.ChangeAt Go.RowKit
theorem bad_ok {ns : List Nd} : ∀ (d k : Nat), ns.length - k = d → (∀ j, k ≤ j → j < ns.length → nodeV ns j = 0) → badV ns k = (0, 0)
  | 0, k, hd, _ => by rw [badV, if_neg (by omega)]
  | d + 1, k, hd, h => by rw [badV, if_pos (by omega), if_pos (h k (Nat.le_refl _) (by omega))]; exact bad_ok d (k + 1) (by omega) (fun j h1 h2 => h j (by omega) h2)
theorem bad_from {ns : List Nd} {i : Nat} (hi : i < ns.length) (hn : nodeV ns i ≠ 0) : ∀ (d k : Nat), i - k = d → k ≤ i → (∀ j, k ≤ j → j < i → nodeV ns j = 0) → badV ns k = ((i : Int), nodeV ns i)
  | 0, k, hd, hk, _ => by
    obtain rfl : k = i := by omega
    rw [badV, if_pos hi, if_neg hn]
  | d + 1, k, hd, hk, h => by rw [badV, if_pos (by omega), if_pos (h k (Nat.le_refl _) (by omega))]; exact bad_from hi hn d (k + 1) (by omega) (by omega) (fun j h1 h2 => h j (by omega) h2)
theorem bad_at {ns : List Nd} : ∀ (d k : Nat), ns.length - k = d → (badV ns k).2 ≠ 0 → ∃ i, k ≤ i ∧ i < ns.length ∧ badV ns k = ((i : Int), nodeV ns i) ∧ nodeV ns i ≠ 0 ∧ ∀ j, k ≤ j → j < i → nodeV ns j = 0
  | 0, k, hd, h => by rw [badV, if_neg (by omega)] at h; exact absurd rfl h
  | d + 1, k, hd, h => by
    by_cases h0 : nodeV ns k = 0
    · have e : badV ns k = badV ns (k + 1) := by rw [badV.eq_def ns k, if_pos (by omega), if_pos h0]
      rw [e] at h
      obtain ⟨i, h1, h2, h3, h4, h5⟩ := bad_at d (k + 1) (by omega) h
      refine ⟨i, by omega, h2, e.trans h3, h4, fun j hj1 hj2 => ?_⟩
      by_cases hjk : j = k
      · rw [hjk]; exact h0
      · exact h5 j (by omega) hj2
    · exact ⟨k, Nat.le_refl _, by omega, by rw [badV, if_pos (by omega), if_neg h0], h0, fun j h1 h2 => by omega⟩
theorem whole_same {ns ms : List Nd} {av : List Int} {view : Int} (h : wholeV ns av view = 0) (h1 : 0 < ms.length) (h2 : ms.length ≤ 65536) : wholeV ms av view = 0 := by
  unfold wholeV at h ⊢
  split at h
  · cases h
  · rename_i c1
    rw [if_neg (by omega)]
    split at h
    · cases h
    · rename_i c2
      rw [if_neg (by omega)]
      split at h
      · cases h
      · rename_i c3
        rw [if_neg c3]
theorem whole_zero {ns : List Nd} {av : List Int} {view : Int} (h : (checkV ns av view).2 = 0 ∨ (checkV ns av view).1 ≠ 0) : wholeV ns av view = 0 ∧ checkV ns av view = badV ns 0 ∧ 0 < ns.length := by
  have hc := check_whole ns av view
  have hpos : wholeV ns av view = 0 → 0 < ns.length := fun h0 => by
    unfold wholeV at h0
    split at h0
    · cases h0
    · split at h0
      · cases h0
      · omega
  by_cases h0 : wholeV ns av view = 0
  · rw [if_pos h0] at hc
    exact ⟨h0, hc, hpos h0⟩
  · rw [if_neg h0] at hc
    rw [hc] at h
    rcases h with h | h
    · exact absurd h h0
    · exact absurd rfl h
/-- a prefix of a right tree is right -/
theorem check_head {ns : List Nd} {av : List Int} {view : Int} (h : (checkV ns av view).2 = 0) {k : Nat} (h0 : 0 < k) (hk : k ≤ ns.length) (hl : ns.length ≤ 65536) : checkV (ns.take k) av view = (0, 0) := by
  obtain ⟨h1, h2, h3⟩ := whole_zero (.inl h)
  have hlen : (ns.take k).length = k := by simp; omega
  rw [check_whole, if_pos (whole_same h1 (by omega) (by omega))]
  refine bad_ok _ 0 rfl fun j _ hj => ?_
  rw [(agr_take ns k).nodeV (by omega)]
  rw [h2] at h
  exact bad_none _ 0 rfl h j (by omega) (by omega)
/-- what is wrong stays so, whatever stands behind -/
theorem check_tail {ns : List Nd} {av : List Int} {view : Int} {i : Nat} (h : (checkV ns av view).1 = (i : Int)) (h0 : (checkV ns av view).2 ≠ 0) (hi0 : i ≠ 0) (more : List Nd) (hl : ns.length + more.length ≤ 65536) : i < ns.length ∧ checkV (ns.take (i + 1) ++ more) av view = checkV ns av view := by
  obtain ⟨h1, h2, h3⟩ := whole_zero (.inr (show (checkV ns av view).1 ≠ 0 by rw [h]; omega))
  rw [h2] at h h0 ⊢
  obtain ⟨q, k1, k2, k3, k4, k5⟩ := bad_at _ 0 rfl h0
  rw [k3] at h
  have e : q = i := by simp only at h; omega
  subst e
  have hlen : (ns.take (q + 1)).length = q + 1 := by simp; omega
  have ha : Agr (ns.take (q + 1) ++ more) ns (q + 1) := fun j hj => by
    rw [List.getElem?_append_left (by omega), List.getElem?_take, if_pos hj]
  refine ⟨k2, ?_⟩
  rw [k3, check_whole, if_pos (whole_same h1 (by simp; omega) (by rw [List.length_append]; omega))]
  have hq := ha.nodeV (show q < q + 1 by omega)
  rw [← hq] at k4 ⊢
  exact bad_from (by rw [List.length_append]; omega) k4 _ 0 rfl (by omega) (fun j _ hj => by rw [ha.nodeV (by omega)]; exact k5 j (by omega) hj)
theorem nodes_one (l : List Nd) : ∀ u ∈ nds l, u.oneCell' = true := by
  induction l with
  | nil => intro u hu; cases hu
  | cons n l ih =>
    intro u hu
    have e : nds (n :: l) = nds [n] ++ nds l := by rw [← nds_append]; rfl
    rw [e, List.mem_append] at hu
    rcases hu with hu | hu
    · exact node_one n u hu
    · exact ih u hu
theorem flat_nodes : flat Try.prog 3 22 = some [.slice 47] := by kernel_rfl
section
variable {H : Type} {enc : TypeId × Value → H} {w : World} {spare : Nat → Bool} {held : Bool}
theorem open_nodes {r : Reach} {b0 : Nat} {v : Value} {d : DataW H} {p : List MemPlace} (_hv : Value.okWide Try.prog w r b0 22 v) (h : DataW.Trod enc Try.prog w 0 spare held 22 v d p) :
    ∃ (A : Option Addr) (n c : Nat) (ns : List Nd), v = .slice A n c ∧ Rd w 44 A n (nds ns) ∧ n ≤ maxLen := by
  obtain ⟨fuel, hf⟩ := h
  have hl := flat_ok 3 22 _ fuel _ _ flat_nodes hf
  obtain ⟨v0, t0, e0, k0, h0⟩ := hl.cons
  obtain rfl := h0.nil
  obtain ⟨na, nl, nc, rfl, hn⟩ := k0
  obtain ⟨A, n, c, rfl⟩ := okWide_slice Try.underlying22 _hv
  have e1 : (.slice A n c : Value) = .slice na nl nc := by
    have : (Value.cells (.slice A n c)).toList = [.slice A n c] := rfl
    rw [this] at e0
    exact List.head_eq_of_cons_eq e0
  injection e1 with e1 e2 e3
  subst e1 e2 e3
  obtain ⟨xss, _, _, hr, hx⟩ := hn.rd cells_node (by omega)
  obtain ⟨ns, hns, _⟩ := nds_of xss (fun xs hm => by
    obtain ⟨x, fuel, ht⟩ := hx xs hm
    exact leaves_node (flat_ok 5 47 _ fuel xs x flat_node ht))
  exact ⟨A, n, c, ns, rfl, hns ▸ hr, Nat.le_trans hn.1 hn.2.1⟩
end
end Go.Proofs.Ytnolbmfjgfojhaa
