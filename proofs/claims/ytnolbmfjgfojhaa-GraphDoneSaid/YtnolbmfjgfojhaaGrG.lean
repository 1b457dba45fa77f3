/- Graphs: the islands' forest (plain laws). -/
import Derived.Test.YtnolbmfjgfojhaaGrF
namespace Go.Proofs.Ytnolbmfjgfojhaa
open Go.RowKit
section
variable {ns : List Nd}
theorem rt_of {k : Nat} (hk : k < (rootsN ns ns.length).length) : ∃ r : Nat, rtN ns k = r ∧ r < ns.length ∧ rootN ns r = true ∧ (rootsN ns r).length = k := by
  have h : (rootsN ns ns.length)[k]? = some (rtN ns k) := by rw [rtN, List.getElem?_eq_getElem hk]; rfl
  exact roots_in ns h
theorem rt_get {k : Nat} (hk : k < (rootsN ns ns.length).length) : (rootsN ns ns.length)[k]? = some (rtN ns k) := by
  rw [rtN, List.getElem?_eq_getElem hk]; rfl
theorem rt_at {r : Nat} (hr : rootN ns r = true) (hn : r < ns.length) : rtN ns (rootsN ns r).length = r := by
  rw [rtN, roots_at ns hr hn]; rfl
theorem over_root (h : TOk ns) {r : Nat} (hr : rootN ns r = true) (hrn : r < ns.length) (h0 : 0 < r) : ∃ o : Nat, overI ns (r : Int) = o ∧ o < r ∧ rootN ns o = true := by
  obtain ⟨p, hp, hlt⟩ := h.par h0 hrn
  have h1 := over_lt h hr hrn h0
  rw [over_yes (by rw [rootI_nat]; exact hr) h0 hp] at h1 ⊢
  exact ⟨_, rfl, by omega, (ok_isl h (by omega)).1⟩
theorem isQ_spec (h : TOk ns) {k : Nat} (hk : k < (rootsN ns ns.length).length) :
    (k = 0 ∧ isQ ns k = -1 ∧ overI ns (rtN ns k) = -1) ∨ (∃ q o : Nat, 0 < k ∧ isQ ns k = q ∧ q < k ∧ overI ns (rtN ns k) = o ∧ rtN ns q = o ∧ o < ns.length ∧ rootN ns o = true ∧ (rootsN ns o).length = q) := by
  obtain ⟨r, h1, h2, h3, h4⟩ := rt_of hk
  by_cases h0 : r = 0
  · subst h0
    refine .inl ⟨by rw [← h4]; rfl, ?_, ?_⟩
    · rw [isQ, h1, over_no (.inl (by simp)), if_neg (by omega)]
    · rw [h1, over_no (.inl (by simp))]
  · obtain ⟨o, h5, h6, h7⟩ := over_root h h3 h2 (by omega)
    have h8 := roots_less ns h7 h6
    refine .inr ⟨(rootsN ns o).length, o, by omega, ?_, by omega, by rw [h1, h5], rt_at h7 (by omega), by omega, h7, rfl⟩
    rw [isQ, h1, h5, if_pos (by omega), Int.toNat_natCast]
theorem isQ_lt (h : TOk ns) {k : Nat} (hk : k < (rootsN ns ns.length).length) : -1 ≤ isQ ns k ∧ isQ ns k < k := by
  rcases isQ_spec h hk with ⟨h1, h2, _⟩ | ⟨q, o, h1, h2, h3, _⟩ <;> omega
/-- the rows that are told to the document's Isles -/
def riK (ns : List Nd) (m i : Nat) : List Int := ((List.range m).filter fun k => decide (i < k) && (overI ns (rtN ns k) == rtN ns i)).map (fun k : Nat => (k : Int))
theorem riK_succ (ns : List Nd) (m i : Nat) : riK ns (m + 1) i = if i < m ∧ overI ns (rtN ns m) = rtN ns i then riK ns m i ++ [(m : Int)] else riK ns m i := by
  unfold riK
  rw [List.range_succ, List.filter_append, List.map_append]
  by_cases h1 : i < m <;> by_cases h2 : overI ns (rtN ns m) = rtN ns i <;> simp [h1, h2]
theorem riK_start (ns : List Nd) (i : Nat) : riK ns (i + 1) i = [] := by
  unfold riK
  rw [List.filter_eq_nil_iff.2 (fun k hk => by
    have := List.mem_range.1 hk
    simp; omega)]
  rfl
theorem riK_len (ns : List Nd) (m i : Nat) : (riK ns m i).length ≤ m := by
  unfold riK
  rw [List.length_map]
  exact Nat.le_trans (List.length_filter_le _ _) (by simp)
theorem riK_kids (h : TOk ns) {i : Nat} (hi : i < (rootsN ns ns.length).length) : riK ns (rootsN ns ns.length).length i = kidsP (isQ ns) (rootsN ns ns.length).length i := by
  unfold riK kidsP
  refine congrArg _ (List.filter_congr fun k hk => ?_)
  have hk := List.mem_range.1 hk
  obtain ⟨r, h1, h2, h3, h4⟩ := rt_of hi
  rw [h1]
  rcases isQ_spec h hk with ⟨hk0, hq, ho⟩ | ⟨q, o, hk0, hq, hqk, ho, hr, hon, hro, hlen⟩
  · rw [hq, ho]
    have e1 : ((-1 : Int) == (r : Int)) = false := by simp
    have e2 : ((-1 : Int) == (i : Int)) = false := by simp
    rw [e1, e2, Bool.and_false]
  · rw [hq, ho]
    by_cases hqi : q = i
    · subst hqi
      have hro : (o : Int) = (r : Int) := by rw [← hr, h1]
      rw [hro]
      simp [hqk]
    · have e2 : ((q : Int) == (i : Int)) = false := by simp; omega
      have e1 : ((o : Int) == (r : Int)) = false := by
        rw [beq_eq_false_iff_ne]
        intro e
        have : o = r := by omega
        subst this
        omega
      rw [e1, e2, Bool.and_false]
end
end Go.Proofs.Ytnolbmfjgfojhaa
