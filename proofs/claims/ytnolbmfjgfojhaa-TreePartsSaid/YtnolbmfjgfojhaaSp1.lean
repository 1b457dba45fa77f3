/- Styles, the program's: numbers and lengths that may be, all of a list (walks). -/
import Derived.Test.YtnolbmfjgfojhaaSt3
namespace Go.Proofs.Ytnolbmfjgfojhaa
open Go.RowKit

set_option maxHeartbeats 400000 in
theorem pwithin_any (x a b : Int) (w : World) : Calls Try.prog 95 #[.int .i64 x, .int .i64 a, .int .i64 b] w fun e w' => e = .returned (.bool (decide (a ≤ x ∧ x ≤ b))) ∧ w = w' := by
  go_enter Try.func95, Try.ntmps95
  go_wp2
  all_goals go_ret
  all_goals exact ⟨ret1b (by rw [Bool.eq_iff_iff]; simp; omega), rfl⟩
theorem pthick_any (x : Int) (w : World) : Calls Try.prog 87 #[.int .i64 x] w fun e w' => e = .returned (.bool (decide (0 ≤ x ∧ x ≤ 1099511627776))) ∧ w = w' := by
  have c := fun w => hide (pwithin_any x 0 1099511627776 w)
  go_enter Try.func87, Try.ntmps87
  go_wp2_with fail
  refine (unhide (c _)).mono ?_
  rintro e w' ⟨rfl, rfl⟩
  go_wp2_with fail
  go_ret
  exact ⟨ret1b (by simp), rfl⟩
/-- may a length be, with N at least p, or at least q? -/
def fromV (l : Ln) (p q : Int) : Bool := if l.k = 0 then decide (l.n = 0) else if l.k = 1 then decide (p ≤ l.n ∧ l.n ≤ 1099511627776) else if l.k = 2 then decide (q ≤ l.n ∧ l.n ≤ 100000) else false
set_option maxHeartbeats 400000 in
theorem pfrom_any (l : Ln) (p q : Int) (w : World) : Calls Try.prog 100 #[l.v, .int .i64 p, .int .i64 q] w fun e w' => e = .returned (.bool (fromV l p q)) ∧ Ext w w' := by
  obtain ⟨k, n⟩ := l
  by_cases k0 : k = 0
  · subst k0
    go_enter Try.func100, Try.ntmps100
    go_wp2_with fail
    go_ret
    exact ⟨ret1b (by rw [Bool.eq_iff_iff]; simp [fromV]), (Ext.refl _).alloc _⟩
  have k0b : (k == 0) = false := by simpa using k0
  by_cases k1 : k = 1
  · subst k1
    have c := fun w => hide (pwithin_any n p 1099511627776 w)
    go_enter Try.func100, Try.ntmps100
    go_wp2_with fail
    refine (unhide (c _)).mono ?_
    rintro e w' ⟨rfl, rfl⟩
    go_wp2_with fail
    go_ret
    exact ⟨ret1b (by simp [fromV]), (Ext.refl _).alloc _⟩
  have k1b : (k == 1) = false := by simpa using k1
  by_cases k2 : k = 2
  · subst k2
    have c := fun w => hide (pwithin_any n q 100000 w)
    go_enter Try.func100, Try.ntmps100
    go_wp2_with fail
    refine (unhide (c _)).mono ?_
    rintro e w' ⟨rfl, rfl⟩
    go_wp2_with fail
    go_ret
    exact ⟨ret1b (by simp [fromV]), (Ext.refl _).alloc _⟩
  have k2b : (k == 2) = false := by simpa using k2
  go_enter Try.func100, Try.ntmps100
  go_wp2_with fail
  go_ret
  exact ⟨ret1b (by simp [fromV, k0, k1, k2]), (Ext.refl _).alloc _⟩
theorem from_may (l : Ln) : fromV l 0 0 = mayV l false := by
  unfold fromV mayV
  split
  · rfl
  · split
    · exact decide_eq_decide.2 (by simp; omega)
    · split
      · exact decide_eq_decide.2 (by simp; omega)
      · rfl
theorem from_margin (l : Ln) : fromV l (-1099511627776) (-100000) = mayV l true := by
  unfold fromV mayV
  split
  · rfl
  · split
    · exact decide_eq_decide.2 (by simp; omega)
    · split
      · exact decide_eq_decide.2 (by simp; omega)
      · rfl
set_option maxHeartbeats 400000 in
theorem pmay_any (l : Ln) (w : World) : Calls Try.prog 80 #[l.v] w fun e w' => e = .returned (.bool (mayV l false)) ∧ Ext w w' := by
  have c := fun w => hide (pfrom_any l 0 0 w)
  rw [from_may] at c
  obtain ⟨k, n⟩ := l
  go_enter Try.func80, Try.ntmps80
  go_wp2_with fail
  refine (unhide (c _)).mono ?_
  rintro e w' ⟨rfl, hx⟩
  go_wp2_with fail
  go_ret
  exact ⟨rfl, ((Ext.refl _).alloc _).trans hx⟩
set_option maxHeartbeats 400000 in
theorem pmargin_any (l : Ln) (w : World) : Calls Try.prog 84 #[l.v] w fun e w' => e = .returned (.bool (mayV l true)) ∧ Ext w w' := by
  have c := fun w => hide (pfrom_any l (-1099511627776) (-100000) w)
  rw [from_margin] at c
  obtain ⟨k, n⟩ := l
  go_enter Try.func84, Try.ntmps84
  go_wp2_with fail
  refine (unhide (c _)).mono ?_
  rintro e w' ⟨rfl, hx⟩
  go_wp2_with fail
  go_ret
  exact ⟨rfl, ((Ext.refl _).alloc _).trans hx⟩
def tallV (l : Ln) : Bool := (l.k != 2) && mayV l false
set_option maxHeartbeats 400000 in
theorem ptall_any (l : Ln) (w : World) : Calls Try.prog 82 #[l.v] w fun e w' => e = .returned (.bool (tallV l)) ∧ Ext w w' := by
  have c := fun w => hide (pmay_any l w)
  have HV := hide (show tallV l = ((l.k != 2) && mayV l false) from rfl)
  generalize tallV l = V at *
  generalize mayV l false = M at *
  obtain ⟨k, n⟩ := l
  cases hk : (k != 2)
  · go_enter Try.func82, Try.ntmps82
    go_wp2_with fail
    go_ret
    exact ⟨ret1b (by rw [unhide HV]; simp only [hk]; rfl), (Ext.refl _).alloc _⟩
  · go_enter Try.func82, Try.ntmps82
    go_wp2_with fail
    refine (unhide (c _)).mono ?_
    rintro e w' ⟨rfl, hx⟩
    go_wp2_with fail
    go_ret
    exact ⟨ret1b (by rw [unhide HV]; simp only [hk, Bool.true_and]), ((Ext.refl _).alloc _).trans hx⟩

/-- a function that has a body is entered -/
theorem call_enter {P : Program} {f : FuncId} {fn : Func} (hf : P.funcs[f]? = some fn) (hname : (fn.name == "runtime.NumGoroutine") = false) (hb : fn.body.isSome = true) (args : Array Value) (w : World) : (callFunc f args).run P w = .ok (.enter f args) w := by
  have h1 : fn.name ≠ "runtime.NumGoroutine" := by simpa using hname
  cases hc : fn.body with
  | none => rw [hc] at hb; cases hb
  | some c => simp [callFunc, hf, h1, hc]
@[reducible] def fv (n : Nat) : Value := .func (.func n) #[] #[]
def allL (P : Ln → Bool) (ls : List Ln) (k : Nat) : Bool := if k < ls.length then (match ls[k]? with | some x => P x | none => true) && allL P ls (k + 1) else true
termination_by ls.length - k
set_option maxRecDepth 100000 in
set_option maxHeartbeats 1000000 in
theorem eachL_any (N : Nat) (P : Ln → Bool) (hent : ∀ args w, (callFunc N args).run Try.prog w = .ok (.enter N args) w) (hf : ∀ l w, Calls Try.prog N #[l.v] w fun e w' => e = .returned (.bool (P l)) ∧ Ext w w') (A : Option Addr) (n c : Nat) (ls : List Ln) (w : World) (h : Rd w 2 A n (lnsC ls)) (hn : n ≤ 1000) :
    Calls Try.prog 79 #[fv N, .slice A n c] w fun e w' => e = .returned (.bool (allL P ls 0)) ∧ Ext w w' := by
  have hl : ls.length = n := by have := h.len; rw [lnsC_len] at this; omega
  have HL := hide hl
  have HF := fun l w => hide (hf l w)
  clear hl hf
  go_enter Try.func79, Try.ntmps79
  go_wp2_with fail
  go_loopw [9] (fun i wr => ∃ k : Nat, i = .int .i64 k ∧ k ≤ n ∧ Hid (allL P ls k = allL P ls 0) ∧ Ext w wr) (fun i _ => n - (intOf i).toNat)
  case atStart => exact ⟨0, rfl, by omega, hide rfl, Ext.refl _⟩
  case round =>
    obtain ⟨k, rfl, q1, HQ, E1⟩ := hrel
    by_cases hk : k < n
    · have hkl : k < ls.length := by rw [unhide HL]; exact hk
      have hx := List.getElem?_eq_getElem hkl
      obtain ⟨b, off, rfl, hb, ck, cn⟩ := (h.ext E1).cell2 hx
      have HN := hide (fun hp : P ls[k] = false => (show false = allL P ls 0 by rw [← unhide HQ, allL, if_pos hkl, hx]; simp only [hp]; simp))
      have HY := hide (fun hp : P ls[k] = true => (show allL P ls (k + 1) = allL P ls 0 by rw [← unhide HQ, allL.eq_def P ls k, if_pos hkl, hx]; simp only [hp, Bool.true_and]))
      have cf := HF ls[k]
      generalize ls[k] = L at *
      have hkI : (0 : Int) ≤ (k : Int) ∧ (k : Int) < (n : Int) := by omega
      obtain ⟨Lk, Lnn⟩ := L
      simp only at ck cn
      generalize P ⟨Lk, Lnn⟩ = R at *
      clear hx HQ HF hkl
      cases R
      · go_wp2_with fail
        refine (unhide (cf _)).mono ?_
        rintro e w2 ⟨rfl, hx⟩
        go_wp2_with fail
        go_ret
        exact ⟨ret1b (unhide HN (by first | rfl | trivial)), (E1.alloc _).trans hx⟩
      · go_wp2_with fail
        refine (unhide (cf _)).mono ?_
        rintro e w2 ⟨rfl, hx⟩
        go_wp2_with fail
        go_roundw
        case rel => exact ⟨k + 1, by go_num, by omega, hide (unhide HY (by first | rfl | trivial)), (E1.alloc _).trans hx⟩
        case measure => simp [intOf]; omega
    · have HV := hide (show true = allL P ls 0 by rw [← unhide HQ, allL, if_neg (by rw [unhide HL]; exact hk)])
      have hkI : ¬ ((k : Int) < (n : Int)) := by omega
      go_wp2_with fail
      go_ret
      exact ⟨ret1b (unhide HV), E1⟩
def allI (P : Int → Bool) (zs : List Int) (k : Nat) : Bool := if k < zs.length then (match zs[k]? with | some x => P x | none => true) && allI P zs (k + 1) else true
termination_by zs.length - k
set_option maxRecDepth 100000 in
set_option maxHeartbeats 1000000 in
theorem eachI_any (N : Nat) (P : Int → Bool) (hent : ∀ args w, (callFunc N args).run Try.prog w = .ok (.enter N args) w) (hf : ∀ x w, Calls Try.prog N #[.int .i64 x] w fun e w' => e = .returned (.bool (P x)) ∧ w = w') (A : Option Addr) (n c : Nat) (zs : List Int) (w : World) (h : Rd w 1 A n (zs.map (Value.int .i64))) (hn : n ≤ 1000) :
    Calls Try.prog 86 #[fv N, .slice A n c] w fun e w' => e = .returned (.bool (allI P zs 0)) ∧ Ext w w' := by
  have hl : zs.length = n := by have := h.len; rw [List.length_map] at this; omega
  have HL := hide hl
  have HF := fun l w => hide (hf l w)
  clear hl hf
  go_enter Try.func86, Try.ntmps86
  go_wp2_with fail
  go_loop [9] (fun i => ∃ k : Nat, i = .int .i64 k ∧ k ≤ n ∧ Hid (allI P zs k = allI P zs 0)) (fun i => n - (intOf i).toNat)
  case atStart => exact ⟨0, rfl, by omega, hide rfl⟩
  case round =>
    obtain ⟨k, rfl, q1, HQ⟩ := hrel
    by_cases hk : k < n
    · have hkl : k < zs.length := by rw [unhide HL]; exact hk
      have hx := List.getElem?_eq_getElem hkl
      obtain ⟨b, off, u, rfl, hb, hu, hc⟩ := h.get hk
      obtain rfl : Value.int .i64 zs[k] = u := by
        rw [List.getElem?_map, hx] at hu
        exact Option.some.inj hu
      have HN := hide (fun hp : P zs[k] = false => (show false = allI P zs 0 by rw [← unhide HQ, allI, if_pos hkl, hx]; simp only [hp]; simp))
      have HY := hide (fun hp : P zs[k] = true => (show allI P zs (k + 1) = allI P zs 0 by rw [← unhide HQ, allI.eq_def P zs k, if_pos hkl, hx]; simp only [hp, Bool.true_and]))
      have cf := HF zs[k]
      clear hu
      generalize zs[k] = X at *
      have hkI : (0 : Int) ≤ (k : Int) ∧ (k : Int) < (n : Int) := by omega
      generalize P X = R at *
      clear hx HQ HF hkl
      cases R
      · go_wp2_with fail
        refine (unhide (cf _)).mono ?_
        rintro e w2 ⟨rfl, rfl⟩
        go_wp2_with fail
        go_ret
        exact ⟨ret1b (unhide HN (by first | rfl | trivial)), Ext.refl _⟩
      · go_wp2_with fail
        refine (unhide (cf _)).mono ?_
        rintro e w2 ⟨rfl, rfl⟩
        go_wp2_with fail
        go_round
        case rel => exact ⟨k + 1, by go_num, by omega, hide (unhide HY (by first | rfl | trivial))⟩
        case measure => simp [intOf]; omega
    · have HV := hide (show true = allI P zs 0 by rw [← unhide HQ, allI, if_neg (by rw [unhide HL]; exact hk)])
      have hkI : ¬ ((k : Int) < (n : Int)) := by omega
      go_wp2_with fail
      go_ret
      exact ⟨ret1b (unhide HV), Ext.refl _⟩
end Go.Proofs.Ytnolbmfjgfojhaa
