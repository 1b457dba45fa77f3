/- Layer 20: where items stand (plain laws). -/
import Derived.Test.YtkkkdjkjggofkaaCrH
namespace Go.Proofs.Ytkkkdjkjggofkaa
open Go.RowKit
def castL (l : List Nat) : List Int := l.map fun x : Nat => (x : Int)
theorem castL_len (l : List Nat) : (castL l).length = l.length := by simp [castL]
theorem castL_get {l : List Nat} {i u : Nat} (h : l[i]? = some u) : (castL l)[i]? = some (u : Int) := by rw [castL, List.getElem?_map, h]; rfl
theorem Rd.intIn {w : World} {A : Option Addr} {n : Nat} {l : List Int} (h : Rd w 1 A n (ints l)) {i : Nat} {x : Int} (hx : l[i]? = some x) : ∃ b off, A = some ⟨b, off, none⟩ ∧ b < w.heap.size ∧ w.cell? ⟨b, off + i, none⟩ = some (.int .i64 x) := by
  have hl := (List.getElem?_eq_some_iff.1 hx).1
  have hn : n = l.length := by have := h.len; rw [ints_len] at this; omega
  obtain ⟨b, off, rfl, hb, hc⟩ := h.at_ (by omega)
  exact ⟨b, off, rfl, hb, hc i _ (by rw [ints, List.getElem?_map, hx]; rfl)⟩
/-! ### a row -/
def stI (x : It) : It := ⟨x.s, x.left, x.right, x.wide, x.high, x.down, x.above, x.below, x.x, x.y, true⟩
def stN (I : Nat → It) (ks : List Nat) (p i : Nat) : It := if i ∈ ks.take p then stI (I i) else I i
theorem stN_0 (I : Nat → It) (ks : List Nat) (i : Nat) : stN I ks 0 i = I i := if_neg (by simp)
theorem stN_at {I : Nat → It} {ks : List Nat} (hn : ks.Nodup) {p k : Nat} (hk : ks[p]? = some k) : stN I ks p k = I k := if_neg (take_fresh hn hk)
theorem stN_step {I J : Nat → It} {ks : List Nat} {p k : Nat} (hk : ks[p]? = some k) (h1 : ∀ i, i ≠ k → J i = stN I ks p i) (h2 : J k = stI (I k)) (i : Nat) : stN I ks (p + 1) i = J i := by
  unfold stN at h1 ⊢
  rw [takeS hk]
  by_cases e : i = k
  · subst e
    rw [if_pos (by simp), h2]
  · rw [h1 i e]
    simp [e]
theorem ItBd.st {x : It} (h : ItBd x) : ItBd (stI x) := ⟨h.sh, h.left, h.right, h.wide, h.high, h.down, h.above, h.below⟩
theorem stN_bd {I : Nat → It} {ks : List Nat} {p i : Nat} (h : ItBd (I i)) : ItBd (stN I ks p i) := by
  unfold stN
  split
  · exact h.st
  · exact h
def rowH (s : Sty) (nr : Nat) (I : Nat → It) (ks : List Nat) : Int := if nr = 1 ∧ s.h.k = 1 then highV s 0 else tallV I ks
/-- the items behind a row -/
def rowN (s : Sty) (c : Int) (nr : Nat) (top : Int) (I : Nat → It) (ks : List Nat) : Nat → It :=
  acrN s c (downN s top (rowH s nr (stN I ks ks.length) ks) (stN I ks ks.length) ks ks.length) ks ks.length ks.length
def topN (s : Sty) (c : Int) (nr : Nat) (rs : List (List Nat)) (I : Nat → It) : Nat → Int × (Nat → It)
  | 0 => (0, I)
  | r + 1 => ((topN s c nr rs I r).1 + rowH s nr (stN (topN s c nr rs I r).2 (rs.getD r []) (rs.getD r []).length) (rs.getD r []), rowN s c nr (topN s c nr rs I r).1 (topN s c nr rs I r).2 (rs.getD r []))
section
variable {s : Sty} {c top : Int} {nr : Nat} {I J : Nat → It} {ks : List Nat}
theorem acrN_in {m : Nat} (hn : ks.Nodup) {p k : Nat} (hk : ks[p]? = some k) : ∀ q, p < q → acrN s c I ks m q k = setX (I k) (xV s c I ks m p k) := by
  intro q
  induction q with
  | zero => intro h; omega
  | succ q ih =>
    intro hpq
    rw [acrN]
    by_cases e : ks[q]? = some k
    · have hqp : q = p := by
        obtain ⟨h1, h2⟩ := List.getElem?_eq_some_iff.1 e
        obtain ⟨h3, h4⟩ := List.getElem?_eq_some_iff.1 hk
        exact (List.getElem_inj hn).1 (h2.trans h4.symm)
      subst hqp
      rw [if_pos e]
    · rw [if_neg e]
      exact ih (by
        have : q ≠ p := fun h => e (h ▸ hk)
        omega)
theorem rowN_out {i : Nat} (h : i ∉ ks) : rowN s c nr top I ks i = I i := by
  have h1 : ∀ p, i ∉ ks.take p := fun p hm => h (List.mem_of_mem_take hm)
  rw [rowN, acrN_fresh _ _ _ _ _ _ (h1 _), downN, if_neg (h1 _), stN, if_neg (h1 _)]
/-- an item as it stands -/
def finI (s : Sty) (c : Int) (nr : Nat) (top : Int) (I : Nat → It) (ks : List Nat) (p : Nat) (x : It) : It :=
  ⟨x.s, x.left, x.right, x.wide, newH s (rowH s nr I ks) x, x.down, x.above, x.below, sumV I (ks.take p) + x.left + moveV s.justify (c - sumV I ks) p ks.length, yV s top (rowH s nr I ks) x, true⟩
theorem tallV_congr (h : ∀ k ∈ ks, (J k).high = (I k).high ∧ (J k).above = (I k).above ∧ (J k).below = (I k).below) : tallV J ks = tallV I ks := by
  have : ∀ (l : List Nat) (t : Int), (∀ k ∈ l, (J k).high = (I k).high ∧ (J k).above = (I k).above ∧ (J k).below = (I k).below) → l.foldl (fun t k => max t ((J k).high + (J k).above + (J k).below)) t = l.foldl (fun t k => max t ((I k).high + (I k).above + (I k).below)) t := by
    intro l
    induction l with
    | nil => intro t _; rfl
    | cons k l ih =>
      intro t hl
      obtain ⟨h1, h2, h3⟩ := hl k (List.mem_cons_self ..)
      rw [List.foldl_cons, List.foldl_cons, h1, h2, h3]
      exact ih _ (fun q hq => hl q (List.mem_cons_of_mem _ hq))
  exact this ks 0 h
theorem sumV_congr {l : List Nat} (h : ∀ k ∈ l, (J k).left = (I k).left ∧ (J k).wide = (I k).wide ∧ (J k).right = (I k).right) : sumV J l = sumV I l := by
  have : ∀ (l : List Nat) (t : Int), (∀ k ∈ l, (J k).left = (I k).left ∧ (J k).wide = (I k).wide ∧ (J k).right = (I k).right) → l.foldl (fun t k => t + ((J k).left + (J k).wide + (J k).right)) t = l.foldl (fun t k => t + ((I k).left + (I k).wide + (I k).right)) t := by
    intro l
    induction l with
    | nil => intro t _; rfl
    | cons k l ih =>
      intro t hl
      obtain ⟨h1, h2, h3⟩ := hl k (List.mem_cons_self ..)
      rw [List.foldl_cons, List.foldl_cons, h1, h2, h3]
      exact ih _ (fun q hq => hl q (List.mem_cons_of_mem _ hq))
  exact this l 0 h
theorem stN_fields (p k : Nat) : (stN I ks p k).s = (I k).s ∧ (stN I ks p k).left = (I k).left ∧ (stN I ks p k).right = (I k).right ∧ (stN I ks p k).wide = (I k).wide ∧ (stN I ks p k).high = (I k).high ∧ (stN I ks p k).down = (I k).down ∧ (stN I ks p k).above = (I k).above ∧ (stN I ks p k).below = (I k).below := by
  unfold stN
  split <;> exact ⟨rfl, rfl, rfl, rfl, rfl, rfl, rfl, rfl⟩
theorem rowH_st : rowH s nr (stN I ks ks.length) ks = rowH s nr I ks := by
  unfold rowH
  rw [tallV_congr (fun k _ => by
    obtain ⟨_, _, _, _, h1, _, h2, h3⟩ := stN_fields (I := I) (ks := ks) ks.length k
    exact ⟨h1, h2, h3⟩)]
theorem downN_fields (h : Int) (p k : Nat) : (downN s top h I ks p k).left = (I k).left ∧ (downN s top h I ks p k).wide = (I k).wide ∧ (downN s top h I ks p k).right = (I k).right := by
  unfold downN
  split <;> exact ⟨rfl, rfl, rfl⟩
theorem rowN_in (hn : ks.Nodup) {p k : Nat} (hk : ks[p]? = some k) : rowN s c nr top I ks k = finI s c nr top I ks p (I k) := by
  have hp := (List.getElem?_eq_some_iff.1 hk).1
  have hm : k ∈ ks := List.mem_of_getElem? hk
  have hs : ∀ l : List Nat, sumV (downN s top (rowH s nr I ks) (stN I ks ks.length) ks ks.length) l = sumV I l := fun l => sumV_congr (fun q _ => by
    obtain ⟨h1, h2, h3⟩ := downN_fields (s := s) (top := top) (I := stN I ks ks.length) (ks := ks) (rowH s nr I ks) ks.length q
    obtain ⟨_, h4, h5, h6, _⟩ := stN_fields (I := I) (ks := ks) ks.length q
    exact ⟨h1.trans h4, h2.trans h6, h3.trans h5⟩)
  have hd : downN s top (rowH s nr I ks) (stN I ks ks.length) ks ks.length k = downI s top (rowH s nr I ks) (stI (I k)) := by
    rw [downN, List.take_length, if_pos hm, stN, List.take_length, if_pos hm]
  rw [rowN, rowH_st, acrN_in hn hk _ hp, xV, hs, hs, hd]
  rfl
end
section
variable {s : Sty} {c : Int} {nr : Nat} {rs : List (List Nat)} {I : Nat → It}
/-- who has not been seen to yet is as it was -/
theorem topN_fresh {i : Nat} : ∀ r, (∀ q, q < r → i ∉ rs.getD q []) → (topN s c nr rs I r).2 i = I i := by
  intro r
  induction r with
  | zero => intro _; rfl
  | succ r ih =>
    intro h
    show rowN s c nr _ _ (rs.getD r []) i = I i
    rw [rowN_out (h r (by omega))]
    exact ih (fun q hq => h q (by omega))
theorem rows_nodup (h : rs.flatten.Nodup) {r : Nat} (hr : r < rs.length) : (rs.getD r []).Nodup := by
  rw [List.getD_eq_getElem?_getD, List.getElem?_eq_getElem hr]
  exact (List.pairwise_flatten.1 h).1 _ (List.getElem_mem hr)
theorem rows_apart (h : rs.flatten.Nodup) {q r : Nat} (hqr : q < r) (hr : r < rs.length) {i : Nat} (hi : i ∈ rs.getD r []) : i ∉ rs.getD q [] := by
  rw [List.getD_eq_getElem?_getD, List.getElem?_eq_getElem hr] at hi
  rw [List.getD_eq_getElem?_getD, List.getElem?_eq_getElem (by omega)]
  intro hq
  have := List.pairwise_iff_getElem.1 (List.pairwise_flatten.1 h).2 q r (by omega) hr hqr
  exact this i hq i hi rfl
theorem topN_row (h : rs.flatten.Nodup) {r : Nat} (hr : r < rs.length) {i : Nat} (hi : i ∈ rs.getD r []) : (topN s c nr rs I r).2 i = I i := topN_fresh r (fun _ hq => rows_apart h hq hr hi)
end
end Go.Proofs.Ytkkkdjkjggofkaa
