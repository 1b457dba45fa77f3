/- Trees: what is wrong with a tree but for its nodes; may a node stand in its parent? (walks) -/
import Derived.Test.YtnolbmfjgfojhaaTyA
namespace Go.Proofs.Ytnolbmfjgfojhaa
open Go.RowKit
def wholeV (ns : List Nd) (av : List Int) (view : Int) : Int :=
  if 65536 < ns.length ∨ 4096 < av.length then 7
  else if ns.length = 0 ∨ view < 0 ∨ 1099511627776 < view then 6
  else if advV av 0 = false then 6 else 0
theorem check_whole (ns : List Nd) (av : List Int) (view : Int) : checkV ns av view = if wholeV ns av view = 0 then badV ns 0 else (0, wholeV ns av view) := by
  unfold checkV wholeV
  split
  · rfl
  · split
    · rfl
    · split
      · rfl
      · rfl
section
variable (t : Tr) (ns : List Nd) (av : List Int)
set_option maxRecDepth 100000 in
set_option maxHeartbeats 4000000 in
theorem whole_any (w : World) (h : TrIn w t ns av) (hm : t.nl ≤ 1000000) (ha : t.al ≤ maxLen) :
    Calls Try.prog 52 #[.agg t.cs] w fun e w' => e = .returned (.int .i64 (wholeV ns av t.view)) ∧ Ext w w' := by
  have hl := h.nodes.nlen
  have hal := h.alen
  obtain ⟨na, nl, nc, aa, al, ac, view⟩ := t
  simp only at hm ha hl hal
  unfold maxLen at ha
  have HC := hide (wholeV.eq_1 ns av view)
  rw [hl, hal] at HC
  have HL := hide hl
  have HAL := hide hal
  generalize wholeV ns av view = CV at *
  clear hl hal
  by_cases h1 : 65536 < nl
  · have HV : Hid (CV = 7) := hide (by rw [unhide HC, if_pos (.inl h1)])
    have h1I : (65536 : Int) < (nl : Int) := by omega
    go_enter Try.func52, Try.ntmps52
    go_wp2_with fail
    go_ret
    exact ⟨ret1 (by rw [unhide HV]), (Ext.refl _).alloc _⟩
  have h1I : ¬ (65536 : Int) < (nl : Int) := by omega
  by_cases h2 : 4096 < al
  · have HV : Hid (CV = 7) := hide (by rw [unhide HC, if_pos (.inr h2)])
    have h2I : (4096 : Int) < (al : Int) := by omega
    go_enter Try.func52, Try.ntmps52
    go_wp2_with fail
    go_ret
    exact ⟨ret1 (by rw [unhide HV]), (Ext.refl _).alloc _⟩
  have h2I : ¬ (4096 : Int) < (al : Int) := by omega
  by_cases h3 : nl = 0
  · have HV : Hid (CV = 6) := hide (by rw [unhide HC, if_neg (by omega), if_pos (.inl h3)])
    have h3I : ((nl : Int) == 0) = true := by simpa using h3
    have H3 := hide h3
    clear h3
    go_enter Try.func52, Try.ntmps52
    go_wp2_with fail
    go_ret
    exact ⟨ret1 (by rw [unhide HV]), (Ext.refl _).alloc _⟩
  have h3I : ((nl : Int) == 0) = false := by simpa using h3
  by_cases h4 : view < 0
  · have HV : Hid (CV = 6) := hide (by rw [unhide HC, if_neg (by omega), if_pos (.inr (.inl h4))])
    go_enter Try.func52, Try.ntmps52
    go_wp2_with fail
    go_ret
    exact ⟨ret1 (by rw [unhide HV]), (Ext.refl _).alloc _⟩
  by_cases h5 : 1099511627776 < view
  · have HV : Hid (CV = 6) := hide (by rw [unhide HC, if_neg (by omega), if_pos (.inr (.inr h5))])
    go_enter Try.func52, Try.ntmps52
    go_wp2_with fail
    go_ret
    exact ⟨ret1 (by rw [unhide HV]), (Ext.refl _).alloc _⟩
  have HC2 : Hid (CV = if advV av 0 = false then 6 else 0) := hide (by rw [unhide HC, if_neg (by omega), if_neg (by omega)])
  clear HC
  go_enter Try.func52, Try.ntmps52
  go_wp2_with fail
  have BT : Blk (w.alloc (.cells (Tr.cs ⟨na, nl, nc, aa, al, ac, view⟩) 25)) w.heap.size 25 (Tr.cs ⟨na, nl, nc, aa, al, ac, view⟩) := Blk.new _ _ _
  have E0 : Ext w (w.alloc (.cells (Tr.cs ⟨na, nl, nc, aa, al, ac, view⟩) 25)) := (Ext.refl _).alloc _
  generalize w.alloc (.cells (Tr.cs ⟨na, nl, nc, aa, al, ac, view⟩) 25) = w0 at *
  have dT := BT.cell
  have lT := BT.lt
  have hA := (h.ext E0).advs
  go_loop [32] (fun i => ∃ k : Nat, i = .int .i64 k ∧ k ≤ al ∧ Hid (advV av k = advV av 0)) (fun i => al - (intOf i).toNat)
  case atStart => exact ⟨0, rfl, by omega, hide rfl⟩
  case round =>
    obtain ⟨k, rfl, q1, HQ⟩ := hrel
    by_cases hk : k < al
    · obtain ⟨b, off, u, rfl, hb, hu, hc⟩ := hA.get hk
      have hkl : k < av.length := by rw [unhide HAL]; exact hk
      have hak := List.getElem?_eq_getElem hkl
      rw [ints_get hkl] at hu
      obtain rfl : _ = u := Option.some.inj hu
      have HN := hide (fun hf : advOk (av[k]) = false => (show CV = 6 by rw [unhide HC2, if_pos (by rw [← unhide HQ, advV, if_pos hkl, hak]; simp only [hf]; simp)]))
      have HY := hide (fun hf : advOk (av[k]) = true => (show advV av (k + 1) = advV av 0 by rw [← unhide HQ, advV.eq_def av k, if_pos hkl, hak]; simp only [hf, Bool.true_and]))
      generalize (av[k]) = a at *
      have hkI : (0 : Int) ≤ (k : Int) ∧ (k : Int) < (al : Int) := by omega
      clear hak hu HQ hkl
      by_cases a1 : a < 0
      · have HV := hide (unhide HN (by simp [advOk]; omega))
        go_wp2_with fail
        go_ret
        exact ⟨ret1 (by rw [unhide HV]), E0⟩
      by_cases a2 : 1099511627776 < a
      · have HV := hide (unhide HN (by simp [advOk]; omega))
        go_wp2_with fail
        go_ret
        exact ⟨ret1 (by rw [unhide HV]), E0⟩
      have HV := hide (unhide HY (by simp [advOk]; omega))
      go_wp2_with fail
      go_round
      case rel => exact ⟨k + 1, by go_num, by omega, HV⟩
      case measure => simp [intOf]; omega
    · have HM : Hid (CV = 0) := hide (by rw [unhide HC2, if_neg (by rw [← unhide HQ, advV, if_neg (by rw [unhide HAL]; exact hk)]; simp)])
      have hkI : ¬ ((k : Int) < (al : Int)) := by omega
      clear HQ HC2 q1 hA
      go_wp2_with fail
      go_ret
      exact ⟨ret1 (by rw [unhide HM]), E0⟩
end
/-- may a node stand in its parent? -/
def stB (ns : List Nd) (i : Nat) : Bool := match ns[i]? with
  | none => false
  | some n => if i = 0 then ((n.s.kind == 1) && !looseV n.s) else if nK ns n.p.toNat = 2 then ((n.s.kind != 3) && !looseV n.s) else if nK ns n.p.toNat = 1 then ((n.s.kind == 3) == (nK ns (n.p.toNat + 1) == 3)) else false
theorem stB_of {ns : List Nd} {i : Nat} {n : Nd} (h : ns[i]? = some n) : stB ns i = if i = 0 then ((n.s.kind == 1) && !looseV n.s) else if nK ns n.p.toNat = 2 then ((n.s.kind != 3) && !looseV n.s) else if nK ns n.p.toNat = 1 then ((n.s.kind == 3) == (nK ns (n.p.toNat + 1) == 3)) else false := by rw [stB, h]
section
variable (t : Tr) (ns : List Nd)
set_option maxRecDepth 100000 in
set_option maxHeartbeats 4000000 in
theorem stands_any (i : Nat) (hi : i < ns.length) (hp : i = 0 ∨ ∃ p : Nat, nP ns i = p ∧ p < i) (w : World) (h : Rd w 44 t.na t.nl (nds ns)) (hm : t.nl ≤ 1000000) :
    Calls Try.prog 54 #[.agg t.cs, .int .i64 i] w fun e w' => e = .returned (.bool (stB ns i)) ∧ Ext w w' := by
  have hl := h.nlen
  have hi' := List.getElem?_eq_getElem hi
  have HR := stB_of hi'
  obtain ⟨b, off, ha, hb, hc⟩ := h.node hi'
  have c0 := hc 1 _ rfl
  have c2 := hc 3 _ rfl
  have c3 := hc 4 _ rfl
  have cP := hc 0 _ rfl
  have hkk := fun (k : Nat) (hk : k < ns.length) => h.same ha hk
  rw [nP_of hi] at hp
  generalize ns[i] = N at *
  obtain ⟨P, S⟩ := N
  obtain ⟨K0, FT, CL, hK0, hFT, hCL⟩ : ∃ K0 FT CL, S.kind = K0 ∧ S.float = FT ∧ S.clear = CL := ⟨_, _, _, rfl, rfl, rfl⟩
  have hlo : looseV S = ((FT != 0) || (CL != 0)) := by rw [looseV, hFT, hCL]
  simp only at HR c0 c2 c3 cP hp
  rw [hK0, hlo] at HR
  rw [hK0] at c0
  rw [hFT] at c2
  rw [hCL] at c3
  obtain ⟨na, nl, nc, aa, al, ac, view⟩ := t
  simp only at ha hm hl h hc
  subst ha
  have hin : (0 : Int) ≤ (i : Int) ∧ (i : Int) < (nl : Int) := by omega
  have HKK := hide hkk
  have HL := hide hl
  simp only [Nat.add_zero] at cP
  clear hi' h hc hkk hK0 hFT hCL hlo hl
  obtain ⟨q0, hq0⟩ : ∃ q0, (FT != 0) = q0 := ⟨_, rfl⟩
  obtain ⟨q1, hq1⟩ : ∃ q1, (CL != 0) = q1 := ⟨_, rfl⟩
  rw [hq0, hq1] at HR
  by_cases i0 : i = 0
  · rw [if_pos i0] at HR
    have i0b : ((i : Int) == 0) = true := by simpa using i0
    obtain ⟨q2, hq2⟩ : ∃ q2, (K0 == 1) = q2 := ⟨_, rfl⟩
    rw [hq2] at HR
    have H0 := hide i0
    have HRR := hide HR
    clear i0 hp HR
    cases q0 <;> cases q1 <;> cases q2
    all_goals
      go_enter Try.func54, Try.ntmps54
      go_wp2_with fail
      go_ret
      exact ⟨ret1b (unhide HRR).symm, (Ext.refl _).alloc _⟩
  · rw [if_neg i0] at HR
    have i0b : ((i : Int) == 0) = false := by simpa using i0
    obtain ⟨p, rfl, hpi⟩ : ∃ p : Nat, P = p ∧ p < i := by
      rcases hp with hp | hp
      · exact absurd hp i0
      · exact hp
    have hpI : (0 : Int) ≤ (p : Int) ∧ (p : Int) < (nl : Int) := by omega
    have hpI2 : (0 : Int) ≤ (p : Int) + 1 ∧ (p : Int) + 1 < (nl : Int) := by omega
    have ck := unhide HKK p (by omega)
    have ck1 := unhide HKK (p + 1) (by omega)
    rw [Int.toNat_natCast] at HR
    obtain ⟨kp, hkp⟩ : ∃ kp, nK ns p = kp := ⟨_, rfl⟩
    obtain ⟨k1, hk1⟩ : ∃ k1, nK ns (p + 1) = k1 := ⟨_, rfl⟩
    rw [hkp] at ck
    rw [hk1] at ck1
    rw [hkp, hk1] at HR
    clear hp hkp hk1 i0
    obtain ⟨q3, hq3⟩ : ∃ q3, (K0 == 3) = q3 := ⟨_, rfl⟩
    have hq3n : (K0 != 3) = !q3 := by rw [← hq3]; rfl
    obtain ⟨q4, hq4⟩ : ∃ q4, (k1 == 3) = q4 := ⟨_, rfl⟩
    rw [hq3, hq3n, hq4] at HR
    by_cases h2 : kp = 2
    · subst h2
      rw [if_pos rfl] at HR
      have HRR := hide HR
      clear HR
      cases q0 <;> cases q1 <;> cases q3
      all_goals
        go_enter Try.func54, Try.ntmps54
        go_wp2_with fail
        go_ret
        exact ⟨ret1b (unhide HRR).symm, (Ext.refl _).alloc _⟩
    · rw [if_neg h2] at HR
      have h2b : (kp == 2) = false := by simpa using h2
      by_cases h1 : kp = 1
      · subst h1
        rw [if_pos rfl] at HR
        have HRR := hide HR
        clear HR
        cases q0 <;> cases q1 <;> cases q3 <;> cases q4
        all_goals
          go_enter Try.func54, Try.ntmps54
          go_wp2_with fail
          go_ret
          exact ⟨ret1b (unhide HRR).symm, (Ext.refl _).alloc _⟩
      · rw [if_neg h1] at HR
        have h1b : (kp == 1) = false := by simpa using h1
        have HRR := hide HR
        clear HR h1 h2
        cases q0 <;> cases q1
        all_goals
          go_enter Try.func54, Try.ntmps54
          go_wp2_with fail
          go_ret
          exact ⟨ret1b (unhide HRR).symm, (Ext.refl _).alloc _⟩
end
end Go.Proofs.Ytnolbmfjgfojhaa
