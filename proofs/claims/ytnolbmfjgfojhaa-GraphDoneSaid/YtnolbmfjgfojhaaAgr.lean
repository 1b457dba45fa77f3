/- Trees that begin alike (plain laws). -/
import Derived.Test.YtnolbmfjgfojhaaPut
namespace Go.Proofs.Ytnolbmfjgfojhaa
open Go.RowKit
/-- the first m nodes of both are the same -/
def Agr (ns ms : List Nd) (m : Nat) : Prop := ∀ i, i < m → ns[i]? = ms[i]?
section
variable {ns ms : List Nd} {m : Nat}
theorem Agr.nP (h : Agr ns ms m) {i : Nat} (hi : i < m) : nP ns i = nP ms i := by unfold Go.Proofs.Ytnolbmfjgfojhaa.nP; rw [h i hi]
theorem Agr.nK (h : Agr ns ms m) {i : Nat} (hi : i < m) : nK ns i = nK ms i := by unfold Go.Proofs.Ytnolbmfjgfojhaa.nK; rw [h i hi]
theorem Agr.parN (h : Agr ns ms m) {i : Nat} (hi : i < m) : parN ns i = parN ms i := by unfold Go.Proofs.Ytnolbmfjgfojhaa.parN; rw [h.nP hi]
theorem Agr.dep (h : Agr ns ms m) {i : Nat} (hi : i < m) : dep ns i = dep ms i := by
  induction i using Nat.strongRecOn with
  | _ i ih =>
    rw [dep_eq, dep_eq, h.parN hi]
    unfold depI
    split
    · rw [ih _ (by have := parN_lt ms i; omega) (by have := parN_lt ms i; omega)]
    · rfl
theorem Agr.bel (h : Agr ns ms m) (o : Int) {i : Nat} (hi : i < m) : bel ns o i = bel ms o i := by
  induction i using Nat.strongRecOn with
  | _ i ih =>
    rw [bel_eq, bel_eq, h.parN hi]
    unfold belI
    split
    · rw [ih _ (by have := parN_lt ms i; omega) (by have := parN_lt ms i; omega)]
    · rfl
theorem Agr.first (h : Agr ns ms m) (p : Int) {i : Nat} (hi : i ≤ m) : ∀ (d k : Nat), i - k = d → firstN ns p i k = firstN ms p i k := by
  intro d
  induction d with
  | zero => intro k hd; rw [firstN.eq_def ns p i k, if_neg (by omega), firstN.eq_def ms p i k, if_neg (by omega)]
  | succ d ih =>
    intro k hd
    rw [firstN.eq_def ns p i k, if_pos (show k < i by omega), firstN.eq_def ms p i k, if_pos (show k < i by omega), h.parN (show k < m by omega), ih (k + 1) (by omega)]
theorem Agr.nodeE (h : Agr ns ms m) {i : Nat} (hi : i < m) (n : Nd) : nodeE ns i n = nodeE ms i n := by
  unfold Go.Proofs.Ytnolbmfjgfojhaa.nodeE
  rw [h.dep hi, h.bel n.p (show i - 1 < m by omega)]
  split
  · rfl
  · rename_i h1
    by_cases i0 : i = 0
    · simp only [i0, if_true]
    · have hp : 0 ≤ n.p ∧ n.p < i := by omega
      rw [h.nK (show n.p.toNat < m by omega), h.first n.p (Nat.le_of_lt hi) _ _ rfl]
      have hf := firstN_at ms n.p i (n.p.toNat + 1)
      by_cases h0 : 0 ≤ firstN ms n.p i (n.p.toNat + 1)
      · rw [h.nK (show (firstN ms n.p i (n.p.toNat + 1)).toNat < m by
          rcases hf with hf | ⟨q, hf, _, hq⟩ <;> omega)]
      · simp [h0]
theorem Agr.nodeV (h : Agr ns ms m) {i : Nat} (hi : i < m) : nodeV ns i = nodeV ms i := by
  unfold Go.Proofs.Ytnolbmfjgfojhaa.nodeV
  rw [h i hi]
  split
  · exact h.nodeE hi _
  · rfl
theorem Agr.rootN (h : Agr ns ms m) {i : Nat} (hi : i < m) : rootN ns i = rootN ms i := by
  unfold Go.Proofs.Ytnolbmfjgfojhaa.rootN
  rw [h i hi, h.parN hi]
  split
  · rfl
  · have := parN_lt ms i
    rw [h.nK (show (Go.Proofs.Ytnolbmfjgfojhaa.parN ms i).toNat < m by omega)]
theorem Agr.isl (h : Agr ns ms m) {i : Nat} (hi : i < m) : isl ns i = isl ms i := by
  induction i using Nat.strongRecOn with
  | _ i ih =>
    have := parN_lt ms i
    rw [Go.Proofs.Ytnolbmfjgfojhaa.isl.eq_def ns i, Go.Proofs.Ytnolbmfjgfojhaa.isl.eq_def ms i, h.rootN hi, h.parN hi]
    split
    · rfl
    · split
      · exact ih _ (by omega) (by omega)
      · rfl
theorem agr_take (ns : List Nd) (k : Nat) : Agr (ns.take k) ns k := fun i hi => by rw [List.getElem?_take, if_pos hi]
theorem TOk.take (h : TOk ns) {k : Nat} (h0 : 0 < k) (hk : k ≤ ns.length) : TOk (ns.take k) := by
  have hl : (ns.take k).length = k := by simp; omega
  exact ⟨by omega, by have := h.few; omega, fun i hi => by rw [(agr_take ns k).nodeV (by omega)]; exact h.bad i (by omega)⟩
theorem ofN_take {k : Nat} (hk : k ≤ ns.length) : ofN (ns.take k) = (ofN ns).take k := by
  have hl : (ns.take k).length = k := by simp; omega
  refine List.ext_getElem? fun i => ?_
  unfold ofN
  rw [hl, List.getElem?_take]
  by_cases hi : i < k
  · rw [if_pos hi, List.getElem?_map, List.getElem?_map, List.getElem?_range hi, List.getElem?_range (by omega)]
    simp only [Option.map_some, ofV, (agr_take ns k).nK hi, (agr_take ns k).isl hi]
  · rw [if_neg hi, List.getElem?_eq_none (by simp; omega)]
end
end Go.Proofs.Ytnolbmfjgfojhaa
