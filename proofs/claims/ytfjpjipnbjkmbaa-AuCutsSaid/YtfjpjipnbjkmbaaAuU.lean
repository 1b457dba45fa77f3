/- Layer 1: the law on cuts (walk). -/
import Derived.Test.YtfjpjipnbjkmbaaAuW
import Derived.Test.YtfjpjipnbjkmbaaBigE
namespace Go.Proofs.Ytfjpjipnbjkmbaa
open Go.RowKit

theorem of_z {x : Int} {m : Bool} {l : List Bool} (h : OfP x m l) : bigZ m l = x := by
  obtain ⟨h1, h2, _⟩ := h
  subst h2
  by_cases hx : x < 0
  · rw [decide_eq_true hx, bigZ_t, h1]; omega
  · rw [decide_eq_false hx, bigZ_f, h1]; omega
theorem cut_twice (x : Int) : cutV (cutV x) = cutV x ∧ cutB (cutV x) = false := by
  have h : -1099511627776 ≤ cutV x ∧ cutV x ≤ 1099511627776 := by unfold cutV; split <;> (try split) <;> omega
  refine ⟨?_, by simp [cutB]; omega⟩
  generalize cutV x = y at *
  unfold cutV; rw [if_neg (by omega), if_neg (by omega)]

set_option maxHeartbeats 1000000 in
theorem law_cuts (x l m : Int) (h1 : -9223372036854775808 ≤ x) (h2 : x ≤ 9223372036854775807) (w : World) : Calls Try.prog 3 #[.int .i64 x, .int .i64 l, .int .i64 m] w fun e w' => e = .returned (.bool true) ∧ Ext w w' := by
  have c1 := fun w => hide (au_cut x w)
  have c2 := fun w => hide (by have := au_cut (cutV x) w; rwa [(cut_twice x).1, (cut_twice x).2] at this)
  have cw := fun w => hide (au_within x l m w)
  have cr := fun w => hide (ref_within x l m w)
  have co := fun w => hide (of_any x h1 h2 w)
  have crc := fun (mm : Bool) A n c ll (w : World) (hp : OfP x mm ll) (hr : Rd w 1 A n (bools ll)) (hn : n ≤ 100000) => hide (by have := refcut_any mm A n c ll w hr hn; rwa [of_z hp] at this)
  generalize cutV x = V at *
  generalize cutB x = F at *
  generalize withinV x l m = U at *
  go_enter Try.func3, Try.ntmps3
  go_wp2_with fail
  refine (unhide (c1 _)).mono ?_
  rintro e w' ⟨rfl, rfl⟩
  go_wp2_with fail
  refine (unhide (co _)).mono ?_
  rintro e w1 ⟨mm, A, c, ll, rfl, hR, k1, k2, hP, hE⟩
  go_wp2_with fail
  refine (unhide (crc mm A _ c ll _ hP hR (by have := hP.2.2; omega))).mono ?_
  rintro e w2 ⟨rfl, hE2⟩
  go_wp2_with fail
  refine (unhide (c2 _)).mono ?_
  rintro e w' ⟨rfl, rfl⟩
  go_wp2_with fail
  refine (unhide (cw _)).mono ?_
  rintro e w' ⟨rfl, rfl⟩
  go_wp2_with fail
  refine (unhide (cr _)).mono ?_
  rintro e w' ⟨rfl, rfl⟩
  go_wp2_with fail
  refine (works_any _).mono ?_
  rintro e w3 ⟨rfl, hE3⟩
  go_wp2_with fail
  go_ret
  exact ⟨rfl, (hE.trans hE2).trans hE3⟩
end Go.Proofs.Ytfjpjipnbjkmbaa
