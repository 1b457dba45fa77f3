/- Layer 2: what rectangles are, and the small functions of edges (walks). -/
import Derived.Test.YtphckjnmbbjenaaAuS
import Derived.Handy
import Derived.Deep.RegionWith
import Derived.Deep.RegionHeld3
namespace Go.Proofs.Ytphckjnmbbjenaa
open Go.RowKit

structure Rc where
  (x y w h : Int)
@[reducible] def Rc.cs (r : Rc) : Array Value := #[.int .i64 r.x, .int .i64 r.y, .int .i64 r.w, .int .i64 r.h]
def Rc.some (r : Rc) : Bool := decide (0 < r.w) && decide (0 < r.h)
/-- its numbers are of 64 bits -/
structure Rc.Ok (r : Rc) : Prop where
  (x1 : -9223372036854775808 ≤ r.x) (x2 : r.x ≤ 9223372036854775807)
  (y1 : -9223372036854775808 ≤ r.y) (y2 : r.y ≤ 9223372036854775807)
  (w1 : -9223372036854775808 ≤ r.w) (w2 : r.w ≤ 9223372036854775807)
  (h1 : -9223372036854775808 ≤ r.h) (h2 : r.h ≤ 9223372036854775807)
def meetB (a b : Rc) : Bool := a.some && b.some && decide (a.x < b.x + b.w) && decide (b.x < a.x + a.w) && decide (a.y < b.y + b.h) && decide (b.y < a.y + a.h)
def insideB (a b : Rc) : Bool := !a.some || (b.some && decide (b.x ≤ a.x ∧ a.x + a.w ≤ b.x + b.w) && decide (b.y ≤ a.y ∧ a.y + a.h ≤ b.y + b.h))

set_option maxHeartbeats 400000 in
theorem some_any (r : Rc) (w : World) : Calls Try.prog 35 #[.agg r.cs] w fun e w' => e = .returned (.bool r.some) ∧ Ext w w' := by
  obtain ⟨x, y, a, b⟩ := r
  by_cases ha : 0 < a
  · by_cases hb : 0 < b
    all_goals
      go_enter Try.func35, Try.ntmps35
      go_wp2
      go_ret
      exact ⟨ret1b (by simp [Rc.some]; omega), (Ext.refl _).alloc _⟩
  · go_enter Try.func35, Try.ntmps35
    go_wp2
    go_ret
    exact ⟨ret1b (by simp [Rc.some]; omega), (Ext.refl _).alloc _⟩

set_option maxHeartbeats 400000 in
theorem starts_any (a b c : Int) (ha : -9223372036854775808 ≤ a) (ha2 : a ≤ 9223372036854775807) (hb : -9223372036854775808 ≤ b) (hb2 : b ≤ 9223372036854775807) (hc : 0 < c) (hc2 : c ≤ 9223372036854775807) (w : World) :
    Calls Try.prog 36 #[.int .i64 a, .int .i64 b, .int .i64 c] w fun e w' => e = .returned (.bool (decide (a < b + c))) ∧ w = w' := by
  by_cases h : a < b
  · have e : decide (a < b + c) = true := by simp; omega
    rw [e]
    clear e
    go_enter Try.func36, Try.ntmps36
    go_wp2
    go_ret
    exact ⟨rfl, rfl⟩
  · obtain ⟨r, hr⟩ : ∃ r : Bool, decide (a < b + c) = r := ⟨_, rfl⟩
    have e1 : IntKind.u64.wrap a = a % 18446744073709551616 := IntKind.wrap_u64 ..
    have e2 : IntKind.u64.wrap b = b % 18446744073709551616 := IntKind.wrap_u64 ..
    have e3 : IntKind.u64.wrap c = c := by rw [IntKind.wrap_u64]; omega
    have e4 : IntKind.u64.wrap (a % 18446744073709551616 - b % 18446744073709551616) = a - b := by rw [IntKind.wrap_u64]; omega
    have e5 : decide (a - b < c) = r := by rw [← hr]; congr 1; exact propext ⟨fun h => by omega, fun h => by omega⟩
    rw [hr]
    clear hr
    go_enter Try.func36, Try.ntmps36
    go_wp2
    go_ret
    exact ⟨rfl, rfl⟩

set_option maxHeartbeats 400000 in
theorem holds_any (b m a n : Int) (ha : -9223372036854775808 ≤ a) (ha2 : a ≤ 9223372036854775807) (hb : -9223372036854775808 ≤ b) (hb2 : b ≤ 9223372036854775807) (hm : 0 < m) (hm2 : m ≤ 9223372036854775807) (hn : 0 < n) (hn2 : n ≤ 9223372036854775807) (w : World) :
    Calls Try.prog 39 #[.int .i64 b, .int .i64 m, .int .i64 a, .int .i64 n] w fun e w' => e = .returned (.bool (decide (b ≤ a ∧ a + n ≤ b + m))) ∧ w = w' := by
  by_cases h : a < b
  · have e : decide (b ≤ a ∧ a + n ≤ b + m) = false := by simp; omega
    rw [e]
    clear e
    go_enter Try.func39, Try.ntmps39
    go_wp2
    go_ret
    exact ⟨rfl, rfl⟩
  · have e1 : IntKind.u64.wrap a = a % 18446744073709551616 := IntKind.wrap_u64 ..
    have e2 : IntKind.u64.wrap b = b % 18446744073709551616 := IntKind.wrap_u64 ..
    have e3 : IntKind.u64.wrap m = m := by rw [IntKind.wrap_u64]; omega
    have e3' : IntKind.u64.wrap n = n := by rw [IntKind.wrap_u64]; omega
    have e4 : IntKind.u64.wrap (a % 18446744073709551616 - b % 18446744073709551616) = a - b := by rw [IntKind.wrap_u64]; omega
    by_cases h2 : a - b ≤ m
    · have e5 : IntKind.u64.wrap (m - (a - b)) = m - (a - b) := by rw [IntKind.wrap_u64]; omega
      have e6 : decide (b ≤ a ∧ a + n ≤ b + m) = decide (n ≤ m - (a - b)) := by congr 1; exact propext ⟨fun h => by omega, fun h => by omega⟩
      rw [e6]
      clear e6
      go_enter Try.func39, Try.ntmps39
      go_wp2
      go_ret
      exact ⟨rfl, rfl⟩
    · have e : decide (b ≤ a ∧ a + n ≤ b + m) = false := by simp; omega
      rw [e]
      clear e
      go_enter Try.func39, Try.ntmps39
      go_wp2
      go_ret
      exact ⟨rfl, rfl⟩

/-- a number turned, as a list -/
def lessL (n : Int) : List Int := if n = -9223372036854775808 then [9223372036854775807, 1] else [-n]
set_option maxHeartbeats 400000 in
theorem less_l (n : Int) (h1 : -9223372036854775808 ≤ n) (h2 : n ≤ 9223372036854775807) (w : World) : Calls Try.prog 29 #[.int .i64 n] w fun e w' =>
    e = .returned (.slice (some ⟨w.heap.size, 0, none⟩) (lessL n).length (lessL n).length) ∧ w' = w.alloc (.cells (ints (lessL n)).toArray 2) := by
  by_cases h : n = -9223372036854775808
  · subst h
    go_enter Try.func29, Try.ntmps29
    go_wp2
    go_ret
    exact ⟨rfl, rfl⟩
  · have e : lessL n = [-n] := by rw [lessL, if_neg h]
    rw [e]
    have h' : (n == -9223372036854775808) = false := by simpa using h
    clear e
    have g1 : wrap64 (-n) = -n := by simp [wrap64]; omega
    have HH := hide h
    clear h
    go_enter Try.func29, Try.ntmps29
    go_wp2
    go_ret
    exact ⟨rfl, rfl⟩
end Go.Proofs.Ytphckjnmbbjenaa
