/- Numbers as lists of digits: a digit, less, plus (walks). -/
import Derived.Test.YtahneblnbafpoaaBigP
import Derived.Test.YtahneblnbafpoaaAp
import Derived.LoopTactic
namespace Go.Proofs.Ytahneblnbafpoaa
open Go.RowKit

def bools (l : List Bool) : List Value := l.map Value.bool
theorem bools_len (l : List Bool) : (bools l).length = l.length := by simp [bools]
theorem bools_append (a b : List Bool) : bools (a ++ b) = bools a ++ bools b := by simp [bools]
theorem one_bools (l : List Bool) : ∀ u ∈ bools l, u.oneCell' = true := by
  intro u hu
  obtain ⟨z, _, rfl⟩ := List.mem_map.1 hu
  rfl
theorem bools_get {l : List Bool} {i : Nat} {u : Value} (h : (bools l)[i]? = some u) : ∃ b, l[i]? = some b ∧ u = .bool b := by
  unfold bools at h
  rw [List.getElem?_map] at h
  cases hq : l[i]? with
  | none => simp [hq] at h
  | some b => exact ⟨b, rfl, by simpa [hq] using h.symm⟩

set_option maxHeartbeats 400000 in
theorem at_any (A : Option Addr) (n c i : Nat) (l : List Bool) (w : World) (hr : Rd w 1 A n (bools l)) (hn : n ≤ 1000000) (hi : i ≤ 1000000) :
    Calls Try.prog 55 #[.slice A n c, .int .i64 i] w fun e w' => e = .returned (.int .i64 (atN l i)) ∧ w = w' := by
  have hl : l.length = n := by have := hr.len; simpa [bools] using this
  by_cases h : i < n
  · obtain ⟨b, off, u, rfl, hb, hu, hc⟩ := hr.get h
    obtain ⟨d, hd, rfl⟩ := bools_get hu
    have e : (atN l i : Int) = if d = true then 1 else 0 := by
      have : atN l i = d.toNat := by simp [atN, hd]
      rw [this]; cases d <;> simp
    rw [e]
    have HI := hide (And.intro hl hd)
    clear hl hd hu e
    cases d
    all_goals
      go_enter Try.func55, Try.ntmps55
      go_wp2
      go_ret
      exact ⟨rfl, rfl⟩
  · have e : (atN l i : Int) = 0 := by
      have : l[i]? = none := List.getElem?_eq_none (by omega)
      simp [atN, this]
    rw [e]
    have HI := hide hl
    clear hl e
    go_enter Try.func55, Try.ntmps55
    go_wp2
    go_ret
    exact ⟨rfl, rfl⟩

set_option maxHeartbeats 1000000 in
theorem less_any (A B : Option Addr) (n c m d : Nat) (a b : List Bool) (w : World) (ha : Rd w 1 A n (bools a)) (hb : Rd w 1 B m (bools b)) (hn : n ≤ 100000) (hm : m ≤ 100000) :
    Calls Try.prog 54 #[.slice A n c, .slice B m d] w fun e w' => e = .returned (.bool (decide (val a < val b))) ∧ w = w' := by
  have la : a.length = n := by have := ha.len; simpa [bools] using this
  have lb : b.length = m := by have := hb.len; simpa [bools] using this
  obtain ⟨M, hM⟩ : ∃ M, max n m = M := ⟨_, rfl⟩
  have EM : (if (n : Int) < (m : Int) then (m : Int) else (n : Int)) = (M : Int) := by split <;> omega
  have EM2 : (if n < m then (m : Int) else (n : Int)) = (M : Int) := by split <;> omega
  have hM1 : M ≤ 100000 := by omega
  have HM := hide (And.intro hM (And.intro la lb))
  obtain ⟨L, hL⟩ : ∃ L, decide (val a < val b) = L := ⟨_, rfl⟩
  rw [hL]
  have HL := hide hL
  clear hL hM la lb
  go_enter Try.func54, Try.ntmps54
  go_wp2
  go_loop [5] (fun i => ∃ j, j ≤ M ∧ ((j = 0 ∧ i = .int .i64 (-1)) ∨ ∃ q : Nat, j = q + 1 ∧ i = .int .i64 q) ∧ val (a.drop j) = val (b.drop j)) (fun i => (intOf i + 1).toNat)
  case atStart =>
    obtain ⟨h1, h2, h3⟩ := unhide HM
    refine ⟨M, Nat.le_refl _, ?_, by rw [List.drop_eq_nil_of_le (by omega), List.drop_eq_nil_of_le (by omega)]⟩
    cases M with
    | zero => exact .inl ⟨rfl, rfl⟩
    | succ q => exact .inr ⟨q, rfl, by go_num⟩
  case round =>
    obtain ⟨j, hj, hi, hv⟩ := hrel
    have HV := hide hv
    clear hv
    rcases hi with ⟨rfl, rfl⟩ | ⟨q, rfl, rfl⟩
    · go_wp2
      go_ret
      have h1 := unhide HL
      have h2 := unhide HV
      rw [List.drop_zero, List.drop_zero] at h2
      refine ⟨?_, rfl⟩
      rw [← h1, h2]; simp
    · have c1 := fun w' (h : Rd w' 1 A n (bools a)) => at_any A n c q a w' h (by omega) (by omega)
      have c2 := fun w' (h : Rd w' 1 B m (bools b)) => at_any B m d q b w' h (by omega) (by omega)
      have b1 := atN_le a q
      have b2 := atN_le b q
      have hlt : atN a q < atN b q → L = true := fun h => by rw [← unhide HL]; simp; exact less_at (unhide HV) h
      have hgt : atN b q < atN a q → L = false := fun h => by
        rw [← unhide HL]; have := less_at (unhide HV).symm h; simp; omega
      have heq : atN a q = atN b q → val (a.drop q) = val (b.drop q) := fun h => less_same (unhide HV) h
      have C1 := fun w' h => hide (c1 w' h)
      have C2 := fun w' h => hide (c2 w' h)
      clear c1 c2
      generalize atN a q = X at *
      generalize atN b q = Y at *
      by_cases hxy : X = Y
      · have HQ := hide (heq hxy)
        subst hxy
        clear heq hlt hgt
        go_wp2_with fail
        refine (unhide (C1 _ ha)).mono ?_
        rintro e w' ⟨rfl, rfl⟩
        go_wp2_with fail
        refine (unhide (C2 _ hb)).mono ?_
        rintro e w' ⟨rfl, rfl⟩
        go_wp2_with fail
        go_round
        case rel =>
          refine ⟨q, by omega, ?_, unhide HQ⟩
          cases q with
          | zero => exact .inl ⟨rfl, rfl⟩
          | succ p => exact .inr ⟨p, rfl, by go_num⟩
        case measure => simp [intOf]
      · have hL2 : L = decide ((X : Int) < (Y : Int)) := by
          by_cases h : X < Y
          · rw [hlt h]; symm; simp; omega
          · rw [hgt (by omega)]; symm; simp; omega
        subst hL2
        have e1 : ((X : Int) == (Y : Int)) = false := by simp; omega
        have e2 : ((X : Int) != (Y : Int)) = true := by simp; omega
        clear heq hlt hgt
        go_wp2_with fail
        refine (unhide (C1 _ ha)).mono ?_
        rintro e w' ⟨rfl, rfl⟩
        go_wp2_with fail
        refine (unhide (C2 _ hb)).mono ?_
        rintro e w' ⟨rfl, rfl⟩
        go_wp2_with fail
        refine (unhide (C1 _ ha)).mono ?_
        rintro e w' ⟨rfl, rfl⟩
        go_wp2_with fail
        refine (unhide (C2 _ hb)).mono ?_
        rintro e w' ⟨rfl, rfl⟩
        go_wp2_with fail
        go_ret
        exact ⟨by simp, rfl⟩
end Go.Proofs.Ytahneblnbafpoaa
