/- Islands: each box lies in just one (plain laws). -/
import Derived.Test.YtnolbmfjgfojhaaPut
import Derived.Test.YtnolbmfjgfojhaaIsC
namespace Go.Proofs.Ytnolbmfjgfojhaa
open Go.RowKit
def marks (n : Nat) (P : Nat → Bool) : List Int := (List.range n).map fun j => if P j = true then 1 else 0
theorem marks_len (n : Nat) (P : Nat → Bool) : (marks n P).length = n := by simp [marks]
theorem marks_get {n : Nat} {P : Nat → Bool} {j : Nat} (h : j < n) : (marks n P)[j]? = some (if P j = true then 1 else 0) := by
  rw [marks, List.getElem?_map, List.getElem?_range h, Option.map_some]
theorem marks_congr {n : Nat} {P Q : Nat → Bool} (h : ∀ j, j < n → P j = Q j) : marks n P = marks n Q := by
  unfold marks
  refine List.map_congr_left fun j hj => ?_
  rw [h j (List.mem_range.1 hj)]
theorem marks_zero (n : Nat) : List.replicate n 0 = marks n (fun _ => false) := by
  refine List.ext_getElem? fun j => ?_
  by_cases hj : j < n
  · rw [marks_get hj]; simp [hj]
  · rw [List.getElem?_eq_none (by simp; omega), List.getElem?_eq_none (by rw [marks_len]; omega)]
theorem marks_set {n : Nat} {P : Nat → Bool} {j : Nat} (h : j < n) : (marks n P).set j 1 = marks n (fun x => P x || x == j) := by
  refine List.ext_getElem? fun x => ?_
  by_cases hx : x < n
  · rw [marks_get hx]
    by_cases hxj : x = j
    · subst hxj
      rw [List.getElem?_set_self (by rw [marks_len]; exact hx)]
      simp
    · rw [List.getElem?_set_ne (fun e => hxj e.symm), marks_get hx]
      simp [hxj]
  · rw [List.getElem?_eq_none (by rw [List.length_set, marks_len]; omega), List.getElem?_eq_none (by rw [marks_len]; omega)]
section
variable {ns : List Nd}
theorem up_pair (n : Nat) (p : Nat → Bool) : (((List.range n).filter p).map (fun i : Nat => (i : Int))).Pairwise (· < ·) := by
  rw [List.pairwise_map]
  exact (List.Pairwise.filter p List.pairwise_lt_range).imp (fun h => by omega)
theorem up_get {l : List Int} (h : l.Pairwise (· < ·)) {i j : Nat} (hij : i < j) (hj : j < l.length) : l[i]'(by omega) < l[j] := List.pairwise_iff_getElem.1 h i j (by omega) hj hij
theorem up_not {l : List Int} (h : l.Pairwise (· < ·)) {i : Nat} (hi : i < l.length) : l[i] ∉ l.take i := by
  intro hm
  obtain ⟨k, hk, he⟩ := List.getElem_of_mem hm
  rw [List.length_take] at hk
  rw [List.getElem_take] at he
  have := up_get h (show k < i by omega) hi
  omega
theorem roots_up (ns : List Nd) (n : Nat) : (rootsN ns n).Pairwise (· < ·) := up_pair n _
theorem roots_mem {n : Nat} {x : Int} : x ∈ rootsN ns n ↔ ∃ r : Nat, x = r ∧ r < n ∧ rootN ns r = true := by
  simp only [rootsN, List.mem_map, List.mem_filter, List.mem_range]
  constructor
  · rintro ⟨r, ⟨h1, h2⟩, rfl⟩; exact ⟨r, rfl, h1, h2⟩
  · rintro ⟨r, rfl, h1, h2⟩; exact ⟨r, ⟨h1, h2⟩, rfl⟩
theorem ok_root0 (h : TOk ns) : ∃ l, rootsN ns ns.length = (0 : Int) :: l := by
  have h0 : (0 : Int) ∈ rootsN ns ns.length := roots_mem.2 ⟨0, rfl, h.pos, h.root0⟩
  have hu := roots_up ns ns.length
  have hm : ∀ x ∈ rootsN ns ns.length, 0 ≤ x := fun x hx => by obtain ⟨r, rfl, _⟩ := roots_mem.1 hx; omega
  cases hl : rootsN ns ns.length with
  | nil => rw [hl] at h0; cases h0
  | cons a l =>
    rw [hl] at h0 hu hm
    rcases List.mem_cons.1 h0 with h0 | h0
    · exact ⟨l, by rw [← h0]⟩
    · have := (List.pairwise_cons.1 hu).1 0 h0
      have := hm a (List.mem_cons_self ..)
      omega
theorem ok_isl (h : TOk ns) {j : Nat} (hj : j < ns.length) : rootN ns (isl ns j) = true ∧ isl ns j < ns.length := by
  induction j using Nat.strongRecOn with
  | _ j ih =>
    by_cases hr : rootN ns j = true
    · rw [isl_root hr]; exact ⟨hr, hj⟩
    · by_cases h0 : j = 0
      · rw [h0] at hr; exact absurd h.root0 hr
      · obtain ⟨p, hp, hlt, _⟩ := ok_pre h (by omega) hj
        rw [isl_up (by simpa using hr) hp]
        exact ih p hlt (by omega)
theorem ins_up (ns : List Nd) (z : Int) : (insN ns z).Pairwise (· < ·) := by
  unfold insN
  split
  · exact up_pair _ _
  · exact List.Pairwise.nil
theorem ins_mem {r : Nat} (hr : rootN ns r = true) {x : Int} : x ∈ insN ns (r : Int) ↔ ∃ j : Nat, x = j ∧ 1 ≤ j ∧ j < ns.length ∧ nK ns j ≠ 3 ∧ isl ns (parN ns j).toNat = r := by
  rw [insN, rootI_nat, if_pos hr, Int.toNat_natCast]
  simp only [insR, List.mem_map, List.mem_filter, List.mem_range, Bool.and_eq_true, decide_eq_true_eq]
  constructor
  · rintro ⟨j, ⟨h1, ⟨h2, h3⟩, h4⟩, rfl⟩; exact ⟨j, rfl, h2, h1, h3, h4⟩
  · rintro ⟨j, rfl, h1, h2, h3, h4⟩; exact ⟨j, ⟨h2, ⟨h1, h3⟩, h4⟩, rfl⟩
/-- who lies in one of the first i islands -/
def dn (ns : List Nd) (i j : Nat) : Bool := decide (1 ≤ j ∧ nK ns j ≠ 3 ∧ ((isl ns (parN ns j).toNat : Nat) : Int) ∈ (rootsN ns ns.length).take i)
/-- who lies there, or is one of the first k of the next island -/
def dk (ns : List Nd) (i : Nat) (r : Int) (k j : Nat) : Bool := dn ns i j || decide ((j : Int) ∈ (insN ns r).take k)
theorem dk_0 (i : Nat) (r : Int) (j : Nat) : dk ns i r 0 j = dn ns i j := by simp [dk]
theorem dk_new {i k j r : Nat} (hi : i < (rootsN ns ns.length).length) (hr : (rootsN ns ns.length)[i] = (r : Int)) (hrr : rootN ns r = true) (hk : k < (insN ns r).length) (hj : (insN ns r)[k] = (j : Int)) : dk ns i r k j = false := by
  obtain ⟨j', h1, h2, h3, h4, h5⟩ := (ins_mem hrr).1 (List.getElem_mem hk)
  rw [hj] at h1
  obtain rfl : j = j' := by omega
  have n1 := up_not (ins_up ns r) hk
  rw [hj] at n1
  have n2 := up_not (roots_up ns ns.length) hi
  rw [hr] at n2
  rw [dk, dn, Bool.or_eq_false_iff]
  refine ⟨decide_eq_false ?_, decide_eq_false n1⟩
  rw [h5]
  exact fun h => n2 h.2.2
theorem dk_step {i k j r : Nat} (hk : k < (insN ns r).length) (hj : (insN ns r)[k] = (j : Int)) (x : Nat) : dk ns i r (k + 1) x = (dk ns i r k x || x == j) := by
  rw [dk, dk, Bool.or_assoc]
  congr 1
  rw [Bool.eq_iff_iff, List.take_succ_eq_append_getElem hk, hj]
  simp only [decide_eq_true_eq, List.mem_append, List.mem_singleton, Bool.or_eq_true, beq_iff_eq]
  constructor
  · rintro (h | h)
    · exact .inl h
    · exact .inr (by omega)
  · rintro (h | h)
    · exact .inl h
    · exact .inr (by omega)
theorem dk_all {i r : Nat} (hi : i < (rootsN ns ns.length).length) (hr : (rootsN ns ns.length)[i] = (r : Int)) (hrr : rootN ns r = true) {x : Nat} (hx : x < ns.length) : dk ns i r (insN ns r).length x = dn ns (i + 1) x := by
  rw [dk, dn, dn, List.take_length, List.take_succ_eq_append_getElem hi, hr]
  rw [Bool.eq_iff_iff]
  simp only [Bool.or_eq_true, decide_eq_true_eq, List.mem_append, List.mem_singleton]
  rw [ins_mem hrr]
  constructor
  · rintro (⟨h1, h2, h3⟩ | ⟨j, h0, h1, h2, h3, h4⟩)
    · exact ⟨h1, h2, .inl h3⟩
    · obtain rfl : x = j := by omega
      exact ⟨h1, h3, .inr (by omega)⟩
  · rintro ⟨h1, h2, h3 | h3⟩
    · exact .inl ⟨h1, h2, h3⟩
    · exact .inr ⟨x, rfl, h1, hx, h2, by omega⟩
theorem dn_0 (j : Nat) : dn ns 0 j = false := by simp [dn]
theorem dn_end (h : TOk ns) {j : Nat} (hj : j < ns.length) : dn ns (rootsN ns ns.length).length j = decide (1 ≤ j ∧ nK ns j ≠ 3) := by
  rw [dn, List.take_length]
  refine decide_eq_decide.2 ⟨fun h => ⟨h.1, h.2.1⟩, fun hh => ⟨hh.1, hh.2, ?_⟩⟩
  obtain ⟨p, hp, hlt, _⟩ := ok_pre h (by omega : 0 < j) hj
  rw [hp, Int.toNat_natCast]
  obtain ⟨h1, h2⟩ := ok_isl h (j := p) (by omega)
  exact roots_mem.2 ⟨_, rfl, h2, h1⟩
theorem ok_box {r : Nat} (h : rootN ns r = true) (hr : r < ns.length) : nK ns r ≠ 3 := by
  have := root_val (List.getElem?_eq_getElem hr)
  rw [h] at this
  rw [nK_of hr]
  intro h3
  rw [if_pos h3] at this
  cases this
/-- the island over a root that is not the first -/
theorem over_lt (h : TOk ns) {r : Nat} (hr : rootN ns r = true) (hrn : r < ns.length) (h0 : 0 < r) : 0 ≤ overI ns (r : Int) ∧ overI ns (r : Int) < r := by
  obtain ⟨p, hp, hlt⟩ := h.par h0 hrn
  rw [over_yes (by rw [rootI_nat]; exact hr) h0 hp]
  have := isl_le (ns := ns) p
  omega
end
end Go.Proofs.Ytnolbmfjgfojhaa
