/- Islands: what the program's way down the tree lays (plain laws). -/
import Derived.Test.YtnolbmfjgfojhaaPre
import Derived.Test.YtnolbmfjgfojhaaIsD
namespace Go.Proofs.Ytnolbmfjgfojhaa
open Go.RowKit
section
variable {ns : List Nd}
theorem kids_mem {n p : Nat} {x : Int} : x ∈ kidsN ns n p ↔ ∃ c : Nat, x = c ∧ c < n ∧ parN ns c = p := by
  simp only [kidsN, List.mem_map, List.mem_filter, List.mem_range]
  constructor
  · rintro ⟨c, ⟨h1, h2⟩, rfl⟩
    exact ⟨c, rfl, h1, by simpa using h2⟩
  · rintro ⟨c, rfl, h1, h2⟩
    exact ⟨c, ⟨h1, by simpa using h2⟩, rfl⟩
/-- who is below a node is below a child of it, or is one -/
theorem bel_kids {i : Nat} : ∀ (j : Nat), bel ns (i : Int) j = true → ∃ c : Nat, c ≤ j ∧ parN ns c = i ∧ sub ns c j = true := by
  intro j
  induction j using Nat.strongRecOn with
  | _ j ih =>
    intro h
    by_cases h0 : 0 ≤ parN ns j
    · obtain ⟨p, hp⟩ : ∃ p : Nat, parN ns j = p := ⟨(parN ns j).toNat, by omega⟩
      have hlt := parN_lt ns j
      rw [bel_par hp, sub, Bool.or_eq_true] at h
      rcases h with h | h
      · have e : p = i := by simpa using h
        exact ⟨j, Nat.le_refl _, by omega, sub_self ns j⟩
      · obtain ⟨c, h1, h2, h3⟩ := ih p (by omega) h
        exact ⟨c, by omega, h2, by rw [sub, bel_par hp, h3, Bool.or_true]⟩
    · rw [bel_no h0] at h; cases h
theorem kid_bel {c i j : Nat} (hc : parN ns c = i) (h : sub ns c j = true) : bel ns (i : Int) j = true := by
  rw [sub, Bool.or_eq_true] at h
  rcases h with h | h
  · have e : j = c := by simpa using h
    rw [e, bel_par hc, sub_self]
  · have h1 : sub ns i c = true := by rw [sub, bel_par hc, sub_self, Bool.or_true]
    have h2 : sub ns c j = true := by rw [sub, h, Bool.or_true]
    have h3 := sub_trans j h1 h2
    rw [sub, Bool.or_eq_true] at h3
    rcases h3 with h3 | h3
    · have e : j = i := by simpa using h3
      have := bel_lt j h
      have := parN_lt ns c
      omega
    · exact h3
/-- L', where the islands of the boxes in S were laid into L -/
def At (ns : List Nd) (L : List Int) (S : Nat → Bool) (L' : List Int) : Prop := L'.length = L.length ∧ ∀ j, j < L.length → L'[j]? = if S j = true ∧ nK ns j ≠ 3 then some (isl ns j : Int) else L[j]?
theorem At.none (L : List Int) {S : Nat → Bool} (hS : ∀ j, j < L.length → S j = true → nK ns j = 3) : At ns L S L := ⟨rfl, fun j hj => by
  by_cases h : S j = true ∧ nK ns j ≠ 3
  · exact absurd (hS j hj h.1) h.2
  · rw [if_neg h]⟩
theorem At.one {L : List Int} {i : Nat} (hi : i < L.length) (hk : nK ns i ≠ 3) : At ns L (fun j => decide (j = i)) (L.set i (isl ns i : Int)) := by
  refine ⟨by simp, fun j hj => ?_⟩
  by_cases h : j = i
  · subst h
    simp [hk, hj]
  · rw [if_neg (by simp [h]), List.getElem?_set_ne (fun e => h e.symm)]
theorem At.then {L L' L'' : List Int} {S S' S'' : Nat → Bool} (h : At ns L S L') (h' : At ns L' S' L'') (hS : ∀ j, j < L.length → S'' j = (S j || S' j)) : At ns L S'' L'' := by
  refine ⟨h'.1.trans h.1, fun j hj => ?_⟩
  rw [h'.2 j (by rw [h.1]; exact hj), h.2 j hj, hS j hj]
  by_cases h3 : nK ns j = 3
  · simp [h3]
  · cases S j <;> cases S' j <;> simp [h3]
theorem At.congr {L L' : List Int} {S S' : Nat → Bool} (h : At ns L S L') (hS : ∀ j, j < L.length → S' j = S j) : At ns L S' L' :=
  ⟨h.1, fun j hj => by rw [h.2 j hj, hS j hj]⟩
/-- the children of a node, up to the k-th of a list of them -/
def upTo (ns : List Nd) (i : Nat) (l : List Int) (j : Nat) : Bool := decide (j = i) || l.any (fun c => sub ns c.toNat j)
theorem upTo_nil (i j : Nat) : upTo ns i [] j = decide (j = i) := by simp [upTo]
theorem upTo_snoc (i j c : Nat) (l : List Int) : upTo ns i (l ++ [(c : Int)]) j = (upTo ns i l j || sub ns c j) := by
  simp [upTo, Bool.or_assoc]
theorem upTo_all {i j : Nat} (hj : j < ns.length) : upTo ns i (kidsN ns ns.length i) j = sub ns i j := by
  rw [upTo, sub]
  congr 1
  rw [Bool.eq_iff_iff, List.any_eq_true]
  constructor
  · rintro ⟨x, hx, hs⟩
    obtain ⟨c, rfl, h1, h2⟩ := kids_mem.1 hx
    rw [Int.toNat_natCast] at hs
    exact kid_bel h2 hs
  · intro h
    obtain ⟨c, h1, h2, h3⟩ := bel_kids j h
    exact ⟨c, kids_mem.2 ⟨c, rfl, by omega, h2⟩, by rw [Int.toNat_natCast]; exact h3⟩
/-- a child's island -/
theorem isl_kid {c i : Nat} (hc : parN ns c = i) : isl ns c = if rootN ns c = true then c else isl ns i := by
  by_cases hr : rootN ns c = true
  · rw [if_pos hr, isl_root hr]
  · rw [if_neg hr, isl_up (by simpa using hr) hc]
theorem isl_le (i : Nat) : isl ns i ≤ i := by
  induction i using Nat.strongRecOn with
  | _ i ih =>
    rw [isl]
    split
    · omega
    · split
      · have := parN_lt ns i
        have := ih (parN ns i).toNat (by omega)
        omega
      · omega
theorem At.all (h : TOk ns) {L : List Int} (hA : At ns (List.replicate ns.length (-1)) (sub ns 0) L) : L = ofN ns := by
  obtain ⟨hl, hA⟩ := hA
  rw [List.length_replicate] at hl hA
  refine List.ext_getElem? fun j => ?_
  by_cases hj : j < ns.length
  · rw [hA j hj, ok_below0 h hj, ofN, List.getElem?_map, List.getElem?_range hj]
    by_cases h3 : nK ns j = 3
    · simp [h3, ofV, hj]
    · simp [h3, ofV]
  · rw [List.getElem?_eq_none (by omega), List.getElem?_eq_none (by rw [ofN_len]; omega)]

/-- an island whose root is k: whoever lies below k has an island that is not less -/
theorem isl_ge {k : Nat} (hr : rootN ns k = true) : ∀ (j : Nat), sub ns k j = true → k ≤ isl ns j := by
  intro j
  induction j using Nat.strongRecOn with
  | _ j ih =>
    intro h
    by_cases hrj : rootN ns j = true
    · rw [isl_root hrj]; exact sub_le h
    · rw [sub, Bool.or_eq_true] at h
      rcases h with h | h
      · have e : j = k := by simpa using h
        rw [e] at hrj; exact absurd hr hrj
      · by_cases h0 : 0 ≤ parN ns j
        · obtain ⟨p, hp⟩ : ∃ p : Nat, parN ns j = p := ⟨(parN ns j).toNat, by omega⟩
          have hlt := parN_lt ns j
          rw [bel_par hp] at h
          rw [isl_up (by simpa using hrj) hp]
          exact ih p (by omega) h
        · rw [bel_no h0] at h; cases h
/-- who lies in an island, from a number on, ahead of another one -/
def insR (ns : List Nd) (r a b : Nat) : List Int := ((List.range b).filter fun j => decide (a ≤ j) && decide (nK ns j ≠ 3) && decide (isl ns (parN ns j).toNat = r)).map (fun j : Nat => (j : Int))
theorem insR_nil (r a b : Nat) (h : b ≤ a) : insR ns r a b = [] := by
  unfold insR
  rw [List.filter_eq_nil_iff.2, List.map_nil]
  intro j hj
  have := List.mem_range.1 hj
  simp; omega
theorem insR_succ (r a b : Nat) (h : a ≤ b) : insR ns r a (b + 1) = if nK ns b ≠ 3 ∧ isl ns (parN ns b).toNat = r then insR ns r a b ++ [(b : Int)] else insR ns r a b := by
  unfold insR
  rw [List.range_succ, List.filter_append, List.map_append]
  by_cases hc : nK ns b ≠ 3 ∧ isl ns (parN ns b).toNat = r
  · rw [if_pos hc, List.filter_cons_of_pos (by simp [h, hc.1, hc.2])]; rfl
  · rw [if_neg hc, List.filter_cons_of_neg]
    · simp
    · simp only [h, decide_true, Bool.true_and, Bool.and_eq_true, decide_eq_true_eq]; exact hc
theorem insR_join (r a b : Nat) (hab : a ≤ b) : ∀ (d : Nat), insR ns r a (b + d) = insR ns r a b ++ insR ns r b (b + d) := by
  intro d
  induction d with
  | zero => rw [Nat.add_zero, insR_nil r b b (Nat.le_refl _), List.append_nil]
  | succ d ih =>
    rw [← Nat.add_assoc, insR_succ r a (b + d) (by omega), insR_succ r b (b + d) (by omega), ih]
    split
    · rw [List.append_assoc]
    · rfl
theorem insR_cut (r : Nat) {a b c : Nat} (hab : a ≤ b) (hbc : b ≤ c) : insR ns r a c = insR ns r a b ++ insR ns r b c := by
  have := insR_join (ns := ns) r a b hab (c - b)
  rwa [show b + (c - b) = c by omega] at this
theorem insR_one (r k : Nat) : insR ns r k (k + 1) = if nK ns k ≠ 3 ∧ isl ns (parN ns k).toNat = r then [(k : Int)] else [] := by
  rw [insR_succ r k k (Nat.le_refl _), insR_nil r k k (Nat.le_refl _)]; rfl
theorem insR_len (r a b : Nat) : (insR ns r a b).length ≤ b := by
  unfold insR
  rw [List.length_map]
  exact Nat.le_trans (List.length_filter_le _ _) (by simp)
theorem insR_none (r a b : Nat) (h : ∀ j, a ≤ j → j < b → isl ns (parN ns j).toNat ≠ r) : insR ns r a b = [] := by
  unfold insR
  rw [List.filter_eq_nil_iff.2, List.map_nil]
  intro j hj
  have := List.mem_range.1 hj
  by_cases ha : a ≤ j
  · simp [ha, h j ha this]
  · simp [ha]
/-- who is asked for lies in the island -/
def Asks (ns : List Nd) (r i : Nat) (ins : Bool) : Prop := if ins = true then nK ns i ≠ 3 ∧ isl ns i = r else ∀ j, i < j → j < endN ns i → isl ns (parN ns j).toNat ≠ r
theorem Asks.kid (h : TOk ns) {r i k : Nat} {ins : Bool} (ha : Asks ns r i ins) (hri : r ≤ i) (hik : i < k) (hk : k < ns.length) (hp : parN ns k = i) : Asks ns r k (ins && decide (nK ns k ≠ 3) && !rootN ns k) := by
  cases ins
  · have ha : ∀ j, i < j → j < endN ns i → isl ns (parN ns j).toNat ≠ r := ha
    have he := ok_end_kid h hk hp
    exact fun j h1 h2 => ha j (by omega) (by omega)
  · obtain ⟨h3, hi⟩ : nK ns i ≠ 3 ∧ isl ns i = r := ha
    by_cases h3k : nK ns k = 3
    · rw [decide_eq_false (by simpa using h3k)]
      have he := ok_end_leaf h hk h3k
      exact fun j h1 h2 => by omega
    · rw [decide_eq_true h3k]
      cases hr : rootN ns k
      · exact ⟨h3k, by rw [isl_up hr hp]; exact hi⟩
      · intro j h1 h2
        have hjn : j < ns.length := by have := endN_le hk; omega
        obtain ⟨p, hpj, hlt, _⟩ := ok_pre h (by omega : 0 < j) hjn
        have hs := ok_stretch h (i := k) hjn
        have hne : ¬ j = k := by omega
        rw [decide_eq_true (by omega), sub, bel_par hpj, decide_eq_false hne, Bool.false_or] at hs
        rw [hpj, Int.toNat_natCast]
        have := isl_ge hr p hs
        omega
theorem Asks.here {r i k : Nat} {ins : Bool} (ha : Asks ns r i ins) (hik : i < k) (hke : k < endN ns i) (hp : parN ns k = i) : (decide (nK ns k ≠ 3) && decide (isl ns (parN ns k).toNat = r)) = (ins && decide (nK ns k ≠ 3)) := by
  cases ins
  · have ha : ∀ j, i < j → j < endN ns i → isl ns (parN ns j).toNat ≠ r := ha
    simp [ha k hik hke]
  · obtain ⟨h3, hi⟩ : nK ns i ≠ 3 ∧ isl ns i = r := ha
    rw [hp, Int.toNat_natCast, hi]
    simp
/-- who lies in an island -/
def insN (ns : List Nd) (z : Int) : List Int := if rootI ns z = true then insR ns z.toNat 1 ns.length else []
/-- they all lie below its root -/
theorem insN_end (h : TOk ns) {r : Nat} (hr : rootN ns r = true) (hrn : r < ns.length) : insN ns (r : Int) = insR ns r (r + 1) (endN ns r) := by
  rw [insN, rootI_nat, if_pos hr, Int.toNat_natCast]
  have h1 := endN_gt ns r
  have h2 := endN_le hrn
  have key : ∀ j, 1 ≤ j → j < ns.length → isl ns (parN ns j).toNat = r → r < j ∧ j < endN ns r := by
    intro j hj1 hj2 hi
    obtain ⟨p, hp, hlt, _⟩ := ok_pre h hj1 hj2
    rw [hp, Int.toNat_natCast] at hi
    have hle := isl_le (ns := ns) p
    have hsp : ∀ q, isl ns q = r → q < ns.length → sub ns r q = true := by
      intro q
      induction q using Nat.strongRecOn with
      | _ q ih =>
        intro hq hqn
        by_cases hrq : rootN ns q = true
        · rw [isl_root hrq] at hq; rw [hq]; exact sub_self ns r
        · by_cases hq0 : q = 0
          · rw [hq0] at hrq; exact absurd h.root0 hrq
          · obtain ⟨p2, hp2, hlt2, _⟩ := ok_pre h (by omega : 0 < q) hqn
            rw [isl_up (by simpa using hrq) hp2] at hq
            rw [sub, bel_par hp2, ih p2 hlt2 hq (by omega), Bool.or_true]
    have hs : sub ns r j = true := by rw [sub, bel_par hp, hsp p hi (by omega), Bool.or_true]
    rw [ok_stretch h hj2] at hs
    have : r ≤ j ∧ j < endN ns r := of_decide_eq_true hs
    omega
  rw [insR_cut r (b := r + 1) (by omega : 1 ≤ r + 1) (by omega : r + 1 ≤ ns.length), insR_cut r (b := endN ns r) (c := ns.length) (by omega : r + 1 ≤ endN ns r) h2]
  rw [insR_none r 1 (r + 1) (fun j h3 h4 h5 => by have := key j h3 (by omega) h5; omega), insR_none r (endN ns r) ns.length (fun j h3 h4 h5 => by have := key j (by omega) h4 h5; omega)]
  simp
end
end Go.Proofs.Ytnolbmfjgfojhaa
