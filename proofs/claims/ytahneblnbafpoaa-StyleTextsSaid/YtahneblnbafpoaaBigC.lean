/- Numbers as lists of digits: short (walk). -/
import Derived.Test.YtahneblnbafpoaaBigB
import Derived.Handy
namespace Go.Proofs.Ytahneblnbafpoaa
open Go.RowKit

@[reducible] def bigV (m : Bool) (A : Option Addr) (n c : Nat) : Value := .agg #[.bool m, .slice A n c]
/-- a number in new memory -/
def BigOut (w : World) (P : Bool → List Bool → Prop) (e : Ending) (w' : World) : Prop :=
  ∃ m A c l, e = .returned (bigV m A l.length c) ∧ Rd w' 1 A l.length (bools l) ∧ l.length ≤ c ∧ c ≤ maxLen ∧ P m l ∧ Ext w w'
/-- a number where another one lies -/
def ShortOut (w : World) (A : Option Addr) (P : Bool → List Bool → Prop) (e : Ending) (w' : World) : Prop :=
  ∃ m c l, e = .returned (bigV m A l.length c) ∧ Rd w' 1 A l.length (bools l) ∧ l.length ≤ c ∧ c ≤ maxLen ∧ P m l ∧ Ext w w'
theorem Rd.take {w : World} {A : Option Addr} {n k : Nat} {l : List Bool} (h : Rd w 1 A n (bools l)) (hk : k ≤ n) : Rd w 1 A k (bools (l.take k)) := by
  have hl : l.length = n := by have := h.len; simpa [bools] using this
  refine ⟨by simp [bools]; omega, fun h0 => ?_⟩
  obtain ⟨b, off, rfl, hb, hc⟩ := h.at_ (by omega)
  refine ⟨b, off, rfl, hb, fun j u hu => hc j u ?_⟩
  unfold bools at *
  rw [List.getElem?_map] at hu ⊢
  have hj : j < k := by
    rcases Nat.lt_or_ge j k with h | h
    · exact h
    · rw [List.getElem?_eq_none (by rw [List.length_take]; omega)] at hu; cases hu
  rwa [List.getElem?_take_of_lt hj] at hu
/-- without needless noughts -/
def shortOk (l : List Bool) : Prop := l.length = 0 ∨ 2 ^ (l.length - 1) ≤ val l

/-- what 'short' makes of a number -/
def ShortP (m : Bool) (l : List Bool) (m' : Bool) (l' : List Bool) : Prop := val l' = val l ∧ m' = (m && decide (0 < val l)) ∧ shortOk l' ∧ l'.length ≤ l.length
theorem short_end {m m' : Bool} {A : Option Addr} {k n c : Nat} {l : List Bool} {w W' : World} (hr : Rd w 1 A n (bools l)) (hl : l.length = n) (hk : k ≤ n) (hv : val (l.take k) = val l) (hs : k = 0 ∨ 2 ^ (k - 1) ≤ val l)
    (hm : m' = (m && decide (0 < val l))) (hc1 : n ≤ c) (hc2 : c ≤ maxLen) (hE : Ext w W') :
    ShortOut w A (ShortP m l) (.returned (bigV m' A k c)) W' := by
  have e : (l.take k).length = k := by rw [List.length_take]; omega
  refine ⟨m', c, l.take k, by rw [e], by rw [e]; exact (hr.take hk).ext hE, by omega, hc2, ⟨hv, hm, ?_, by omega⟩, hE⟩
  unfold shortOk
  rw [e, hv]; exact hs

set_option maxHeartbeats 2000000 in
theorem short_any (m : Bool) (A : Option Addr) (n c : Nat) (l : List Bool) (w : World) (hr : Rd w 1 A n (bools l)) (hn : n ≤ 100000) (hc1 : n ≤ c) (hc2 : c ≤ maxLen) :
    Calls Try.prog 62 #[bigV m A n c] w (ShortOut w A (ShortP m l)) := by
  have HC := hide hc2
  unfold maxLen at hc2
  have hl : l.length = n := by have := hr.len; simpa [bools] using this
  have HL := hide hl
  clear hl
  go_enter Try.func62, Try.ntmps62
  go_wp2
  go_loop [3] (fun v => ∃ j : Nat, j ≤ n ∧ v = .int .i64 j ∧ val (l.take j) = val l) (fun v => (intOf v).toNat)
  case atStart => exact ⟨n, Nat.le_refl _, rfl, by rw [List.take_of_length_le (by rw [unhide HL]; omega)]⟩
  case round =>
    obtain ⟨j, hj, rfl, hv⟩ := hrel
    have HV := hide hv
    clear hv
    cases j with
    | zero =>
      have h0 : val l = 0 := by rw [← unhide HV]; rfl
      have H0 := hide h0
      clear h0
      cases m
      all_goals
        go_wp2
        go_returns
        exact short_end hr (unhide HL) (by omega) (unhide HV) (.inl rfl) (by have := unhide H0; first | (simp; done) | (simp; omega)) hc1 (unhide HC) (((Ext.refl _).alloc _).alloc _)
    | succ k =>
      obtain ⟨b, off, u, rfl, hb, hu, hcell⟩ := hr.get (i := k) (by omega)
      obtain ⟨d, hd, rfl⟩ := bools_get hu
      have HD := hide hd
      clear hd hu
      cases d
      · go_wp2
        go_round
        case rel => exact ⟨k, by omega, by go_num, short_step (unhide HV) (by rw [List.getD_eq_getElem?_getD, unhide HD]; rfl)⟩
        case measure => simp [intOf]
      · have hp := short_pos (n := k) (by rw [List.getD_eq_getElem?_getD, unhide HD]; rfl) (unhide HV)
        have hp2 : 0 < val l := Nat.lt_of_lt_of_le (Nat.two_pow_pos k) hp
        have HP := hide (And.intro hp hp2)
        clear hp hp2
        cases m
        all_goals
          go_wp2
          go_returns
          exact short_end hr (unhide HL) (by omega) (unhide HV) (.inr (unhide HP).1) (by have := (unhide HP).2; first | (simp; done) | (simp; omega)) hc1 (unhide HC) (((Ext.refl _).alloc _).alloc _)
end Go.Proofs.Ytahneblnbafpoaa
