/- Layer 1: sums (walks). -/
import Derived.Test.YtphckjnmbbjenaaAu
import Derived.Test.YtphckjnmbbjenaaRd
import Derived.Laws.Externs
import Derived.LoopTactic
import Derived.OwnWalk
import Derived.Outline
namespace Go.Proofs.Ytphckjnmbbjenaa
open Go.RowKit

set_option maxHeartbeats 400000 in
theorem wide_cut (hi lo : Int) (h0 : 0 ≤ lo) (h1 : lo ≤ 18446744073709551615) (w : World) : Calls Try.prog 45 #[.agg #[.int .i64 hi, .int .u64 lo]] w fun e w' => e = .returned (.tuple #[.int .i64 (cutV (hi * 18446744073709551616 + lo)), .bool (cutB (hi * 18446744073709551616 + lo))]) ∧ Ext w w' := by
  go_enter Try.func45, Try.ntmps45
  go_wp2_with (first | (go_at_call 41; (with_reducible refine (au_cut _ _).mono ?_); rintro e w' ⟨rfl, rfl⟩))
  · rename_i h
    go_ret2
    have e : hi * 18446744073709551616 + lo = wrap64 lo := by simp [wrap64] at h ⊢; omega
    rw [e]
    exact ⟨rfl, (Ext.refl _).alloc _⟩
  · rename_i h h2
    go_ret2
    have e : hi * 18446744073709551616 + lo < -1099511627776 := by simp [wrap64] at h ⊢; omega
    refine ⟨ret2 ?_ ?_, (Ext.refl _).alloc _⟩
    · unfold cutV; rw [if_neg (by omega), if_pos e]
    · simp [cutB, e]
  · rename_i h h2
    go_ret2
    have e : 1099511627776 < hi * 18446744073709551616 + lo := by simp [wrap64] at h ⊢; omega
    refine ⟨ret2 ?_ ?_, (Ext.refl _).alloc _⟩
    · unfold cutV; rw [if_pos e]
    · simp [cutB, e]
theorem add64_run (x y : Int) (hx : 0 ≤ x) (hy : 0 ≤ y) (w : World) : (callFunc 44 #[.int .u64 x, .int .u64 y, .int .u64 0]).run Try.prog w = .ok (.value (.tuple #[.int .u64 ((x + y) % 18446744073709551616), .int .u64 ((x + y) / 18446744073709551616)])) w := by
  rw [run_callFunc_extern Try.func44 (by kernel_rfl) (by kernel_rfl) (by kernel_rfl) (e := add64Entry) (by kernel_rfl), run_add64 x y 0 hx hy (by omega) (by omega)]
  rw [Int.add_zero]
  rfl
theorem grown_set {a w : World} {g i : Nat} (h : a.grownBy w (some g)) (u : Value) : a.grownBy (w.setCell ⟨g, i, none⟩ u) (some g) :=
  ⟨h.os, h.tape, h.output, by simpa [World.setCell] using h.size, fun k hk hne => (Below.heap_setCell w ⟨g, i, none⟩ u k (by
    rintro rfl
    exact hne rfl)).trans (h.block k hk hne)⟩
def PutPost (w : World) (g : Nat) (v : Int) (w' : World) : Prop :=
  ∃ hi lo : Int, 0 ≤ lo ∧ lo ≤ 18446744073709551615 ∧ hi * 18446744073709551616 + lo = v ∧ Blk w' g 68 #[.int .i64 hi, .int .u64 lo] ∧ w.grownBy w' (some g)
theorem put_math (x hi lo : Int) (hx : -9223372036854775808 ≤ x) (hx' : x ≤ 9223372036854775807) (hl : 0 ≤ lo) (hl' : lo ≤ 18446744073709551615) (hh : -4611686018427387904 ≤ hi) (hh' : hi ≤ 4611686018427387904) :
    wrap64 (hi + wrap64 (x / 9223372036854775808 + wrap64 ((lo + IntKind.u64.wrap x) / 18446744073709551616))) * 18446744073709551616 + (lo + IntKind.u64.wrap x) % 18446744073709551616 = hi * 18446744073709551616 + lo + x := by
  rw [IntKind.wrap_u64]
  by_cases h : x < 0
  · have h1 : x / 9223372036854775808 = -1 := by omega
    have h2 : x % 18446744073709551616 = x + 18446744073709551616 := by omega
    rw [h1, h2]
    simp only [wrap64]
    omega
  · have h1 : x / 9223372036854775808 = 0 := by omega
    have h2 : x % 18446744073709551616 = x := by omega
    rw [h1, h2]
    simp only [wrap64]
    omega
set_option maxHeartbeats 400000 in
theorem put_any (x hi lo : Int) (g : Nat) (w : World) (hx : -9223372036854775808 ≤ x) (hx' : x ≤ 9223372036854775807) (hl : 0 ≤ lo) (hl' : lo ≤ 18446744073709551615) (hh : -4611686018427387904 ≤ hi) (hh' : hi ≤ 4611686018427387904) (hB : Blk w g 68 #[.int .i64 hi, .int .u64 lo]) :
   Calls Try.prog 43 #[.int .i64 x, .pointer (some ⟨g, 0, none⟩)] w fun e w' => e = .returned (.tuple #[]) ∧ PutPost w g (hi * 18446744073709551616 + lo + x) w' := by
  have hc := hB.cell
  have hf := hB.frozen
  have hlt := hB.lt
  have hy0 : 0 ≤ IntKind.u64.wrap x := by rw [IntKind.wrap_u64]; omega
  have ha := fun w => add64_run lo (IntKind.u64.wrap x) hl hy0 w
  go_enter Try.func43, Try.ntmps43
  go_wp2
  go_end0
  refine ⟨rfl, _, _, ?_, ?_, put_math x hi lo hx hx' hl hl' hh hh', (hB.set_ 1 _).set_ 0 _, ?_⟩
  · omega
  · omega
  · exact grown_set (grown_set (World.grownBy.refl w _) _) _

def lsum : List Int → Int
  | [] => 0
  | x :: r => x + lsum r
theorem lsum_append : ∀ a b : List Int, lsum (a ++ b) = lsum a + lsum b
  | [], b => by simp [lsum]
  | x :: a, b => by simp only [List.cons_append, lsum, lsum_append a b]; omega
theorem grown_of_ext {a w : World} (h : Ext a w) (row : Option Nat) : a.grownBy w row := ⟨h.os, h.tape, h.output, h.size, fun i hi _ => h.block i hi⟩
theorem lsum_take (l : List Int) (k : Nat) (h : k < l.length) : lsum (l.take (k + 1)) = lsum (l.take k) + l[k] := by
  rw [List.take_succ_eq_append_getElem h, lsum_append]; simp [lsum]
def ints (zs : List Int) : List Value := zs.map (Value.int .i64)
/-- numbers of 64 bits -/
def I64s (zs : List Int) : Prop := ∀ z ∈ zs, -9223372036854775808 ≤ z ∧ z ≤ 9223372036854775807

/-- what the loop of a sum has come to -/
structure SumRel (w : World) (g : Nat) (zs : List Int) (k : Nat) (wr : World) : Prop where
  (ext : Ext w wr) (lt : w.heap.size ≤ g)
  (blk : ∃ hi lo : Int, 0 ≤ lo ∧ lo ≤ 18446744073709551615 ∧ -k ≤ hi ∧ hi ≤ k ∧ hi * 18446744073709551616 + lo = lsum (zs.take k) ∧ Blk wr g 68 #[.int .i64 hi, .int .u64 lo])

set_option maxHeartbeats 1000000 in
theorem au_sum (A : Option Addr) (n c : Nat) (zs : List Int) (w : World) (hr : Rd w 1 A n (ints zs)) (hz : I64s zs) (hn : n ≤ 4611686018427387000) :
    Calls Try.prog 27 #[.slice A n c] w fun e w' => e = .returned (.tuple #[.int .i64 (cutV (lsum zs)), .bool (cutB (lsum zs))]) ∧ Ext w w' := by
  have hlen : zs.length = n := by have := hr.len; simpa [ints] using this
  have Hlen := hide hlen
  clear hlen
  go_enter Try.func27, Try.ntmps27
  go_wp2
  go_loopw [11] (fun i wr => ∃ k : Nat, k ≤ n ∧ i = .int .i64 k ∧ SumRel w w.heap.size zs k wr) (fun i _ => n - (intOf i).toNat)
  case atStart => exact ⟨0, Nat.zero_le _, rfl, (Ext.refl _).alloc _, Nat.le_refl _, 0, 0, by omega, by omega, by omega, by omega, by simp [lsum], Blk.new _ _ _⟩
  case round =>
    obtain ⟨k, hk, rfl, hrel⟩ := hrel
    obtain ⟨hE, hg, hi, lo, h0, h1, h2, h3, h4, hB⟩ := hrel
    have H4 := hide h4
    clear h4
    have hBc := hB.cell
    have hBf := hB.frozen
    by_cases hlt : k < n
    · obtain ⟨b, off, u, rfl, hbl, hu, hcell0⟩ := hr.get hlt
      have hcell := (hE.cells.1 b (off + k) hbl).trans hcell0
      clear hcell0
      obtain ⟨z, hz1, rfl⟩ : ∃ z, zs[k]? = some z ∧ u = .int .i64 z := by
        unfold ints at hu
        rw [List.getElem?_map] at hu
        cases hq : zs[k]? with
        | none => simp [hq] at hu
        | some z => exact ⟨z, rfl, by simpa [hq] using hu.symm⟩
      obtain ⟨z1, z2⟩ := hz z (List.mem_of_getElem? hz1)
      have HZ := hide hz1
      clear hz1 hu
      go_wp2_with (first | (go_at_call 43; (with_reducible refine (put_any z hi lo w.heap.size _ z1 z2 h0 h1 (by omega) (by omega) hB).mono ?_); rintro e w' ⟨rfl, hP⟩))
      obtain ⟨hi', lo', p0, p1, p2, p3, p4⟩ := hP
      have P2 := hide p2
      clear p2
      go_wp2
      go_roundw
      case rel =>
        have h4 := unhide H4
        have p2 := unhide P2
        have hs := lsum_take zs k (by rw [unhide Hlen]; exact hlt)
        have hzk : zs[k]? = some z := unhide HZ
        rw [List.getElem?_eq_getElem (by rw [unhide Hlen]; exact hlt)] at hzk
        injection hzk with hzk
        rw [hzk] at hs
        refine ⟨k + 1, by omega, by go_num, hE.grown p4 (fun g e => by injection e; omega), Nat.le_refl _, hi', lo', p0, p1, by omega, by omega, by rw [hs]; omega, p3⟩
      case measure => simp [intOf]; omega
    · have hk2 : k = n := by omega
      have Hk := hide hk2
      clear hk2
      go_wp2_with (first | (go_at_call 45; (with_reducible refine (wide_cut hi lo h0 h1 _).mono ?_); rintro e w' ⟨rfl, hX⟩))
      go_ret2
      have h4 := unhide H4
      rw [unhide Hk, ← unhide Hlen, List.take_length] at h4
      rw [h4]
      exact ⟨rfl, hE.trans hX⟩
end Go.Proofs.Ytphckjnmbbjenaa
