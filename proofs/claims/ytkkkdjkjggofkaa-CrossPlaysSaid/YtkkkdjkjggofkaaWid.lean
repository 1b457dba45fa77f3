/- Widths: what each small function of layer 13, and of its reference, computes (walks). -/
import Derived.Test.YtkkkdjkjggofkaaU
namespace Go.Proofs.Ytkkkdjkjggofkaa
open Go.RowKit

def cutV (x : Int) : Int := if 1099511627776 < x then 1099511627776 else if x < -1099511627776 then -1099511627776 else x
def cutB (x : Int) : Bool := decide (1099511627776 < x) || decide (x < -1099511627776)

set_option maxHeartbeats 400000 in
theorem au_cut (x : Int) (w : World) : Calls Try.prog 25 #[.int .i64 x] w fun e w' => e = .returned (.tuple #[.int .i64 (cutV x), .bool (cutB x)]) ∧ w = w' := by
  go_enter Try.func25, Try.ntmps25
  go_wp2
  all_goals go_ret2
  all_goals (refine ⟨ret2 ?_ ?_, rfl⟩ <;> simp [cutV, cutB] <;> omega)

set_option maxHeartbeats 400000 in
theorem ref_cut (x : Int) (w : World) : Calls Try.prog 30 #[.int .i64 x] w fun e w' => e = .returned (.tuple #[.int .i64 (cutV x), .bool (cutB x)]) ∧ w = w' := by
  go_enter Try.func30, Try.ntmps30
  go_wp2
  all_goals go_ret2
  all_goals (refine ⟨ret2 ?_ ?_, rfl⟩ <;> simp [cutV, cutB] <;> omega)

theorem part_lo (c n : Int) (hn : -100000 ≤ n) (hn' : n ≤ 100000) : -1000000000 ≤ c % 10000 * n ∧ c % 10000 * n ≤ 1000000000 := by
  have h1 : 0 ≤ c % 10000 := by omega
  have h2 : c % 10000 ≤ 10000 := by omega
  constructor
  · have : (c % 10000) * (-100000) ≤ c % 10000 * n := Int.mul_le_mul_of_nonneg_left hn h1
    omega
  · have : c % 10000 * n ≤ (c % 10000) * 100000 := Int.mul_le_mul_of_nonneg_left hn' h1
    omega
theorem part_hi (c n : Int) (hc : 0 ≤ c) (hc' : c ≤ 1099511627776) (hn : -100000 ≤ n) (hn' : n ≤ 100000) : -11000000000000 ≤ c / 10000 * n ∧ c / 10000 * n ≤ 11000000000000 := by
  have h1 : 0 ≤ c / 10000 := by omega
  have h2 : c / 10000 ≤ 110000000 := by omega
  constructor
  · have : (c / 10000) * (-100000) ≤ c / 10000 * n := Int.mul_le_mul_of_nonneg_left hn h1
    omega
  · have : c / 10000 * n ≤ (c / 10000) * 100000 := Int.mul_le_mul_of_nonneg_left hn' h1
    omega
theorem part_split (c n : Int) : c * n = c / 10000 * n * 10000 + c % 10000 * n := by
  have h : c = c / 10000 * 10000 + c % 10000 := by omega
  have : c * n = (c / 10000 * 10000 + c % 10000) * n := by rw [← h]
  rw [this, Int.add_mul]; congr 1; rw [Int.mul_right_comm]

set_option maxHeartbeats 400000 in
theorem wpart (c n : Int) (hc : 0 ≤ c) (hc' : c ≤ 1099511627776) (hn : -100000 ≤ n) (hn' : n ≤ 100000) (w : World) : Calls Try.prog 40 #[.int .i64 c, .int .i64 n] w fun e w' => e = .returned (.int .i64 (c * n / 10000)) ∧ w = w' := by
  obtain ⟨a1, a2⟩ := part_lo c n hn hn'
  obtain ⟨a3, a4⟩ := part_hi c n hc hc' hn hn'
  have hs := part_split c n
  have hs' : Hid (c * n = c / 10000 * n * 10000 + c % 10000 * n) := hs
  clear hs
  go_enter Try.func40, Try.ntmps40
  go_wp2
  all_goals go_ret
  all_goals refine ⟨ret1 ?_, rfl⟩
  all_goals
    rename_i h
    have := hs'.out
    simp only [tmod_lit, tdiv_lit _ 10000 (by decide), wrap64] at h ⊢
    generalize c / 10000 * n = A at *
    generalize c % 10000 * n = B at *
    generalize c * n = C at *
    omega

set_option maxHeartbeats 400000 in
theorem floor_any (a b : Int) (ha : -9000000000000000000 ≤ a) (ha' : a ≤ 9000000000000000000) (hb : 0 < b) (hb' : b ≤ 9000000000000000000) (w : World) : Calls Try.prog 39 #[.int .i64 a, .int .i64 b] w fun e w' => e = .returned (.int .i64 (a / b)) ∧ w = w' := by
  have hb0 : (b == 0) = false := by simp; omega
  obtain ⟨t1, t2⟩ := tdiv_bound a b hb ha ha'
  have hf : Hid _ := floor_eq a b hb
  go_enter Try.func39, Try.ntmps39
  go_wp2
  all_goals go_ret
  all_goals refine ⟨ret1 ?_, rfl⟩
  all_goals (rw [hf.out]; first | rw [if_pos (by assumption)] | rw [if_neg (by omega)])

/-! ### lengths and styles -/
structure Ln where
  k : Int
  n : Int
@[reducible] def Ln.v (l : Ln) : Value := .agg #[.int .u8 l.k, .int .i64 l.n]
structure Sty where
  (kind : Int) (flow : Bool) (float clear : Int)
  (w h minw maxw minh maxh m0 m1 m2 m3 : Ln)
  (b0 b1 b2 b3 p0 p1 p2 p3 : Int)
  (align line : Int) (wrap : Bool) (justify items order grow shrink : Int) (basis : Ln) (ua : Option Addr) (ul uc : Nat)
@[reducible] def Sty.cells (s : Sty) : Array Value := #[.int .u8 s.kind, .bool s.flow, .int .u8 s.float, .int .u8 s.clear,
  .int .u8 s.w.k, .int .i64 s.w.n, .int .u8 s.h.k, .int .i64 s.h.n, .int .u8 s.minw.k, .int .i64 s.minw.n, .int .u8 s.maxw.k, .int .i64 s.maxw.n,
  .int .u8 s.minh.k, .int .i64 s.minh.n, .int .u8 s.maxh.k, .int .i64 s.maxh.n,
  .int .u8 s.m0.k, .int .i64 s.m0.n, .int .u8 s.m1.k, .int .i64 s.m1.n, .int .u8 s.m2.k, .int .i64 s.m2.n, .int .u8 s.m3.k, .int .i64 s.m3.n,
  .int .i64 s.b0, .int .i64 s.b1, .int .i64 s.b2, .int .i64 s.b3, .int .i64 s.p0, .int .i64 s.p1, .int .i64 s.p2, .int .i64 s.p3,
  .int .u8 s.align, .int .i64 s.line, .bool s.wrap, .int .u8 s.justify, .int .u8 s.items, .int .i64 s.order, .int .i64 s.grow, .int .i64 s.shrink,
  .int .u8 s.basis.k, .int .i64 s.basis.n, .slice s.ua s.ul s.uc]

theorem info_style (s : Sty) : (Try.prog.info? 28).map (·.size) = some s.cells.size := by kernel_rfl
/-- borders and paddings of a style that may be -/
structure Sty.thin (s : Sty) : Prop where
  (b0 : 0 ≤ s.b0 ∧ s.b0 ≤ 1099511627776) (b1 : 0 ≤ s.b1 ∧ s.b1 ≤ 1099511627776) (b2 : 0 ≤ s.b2 ∧ s.b2 ≤ 1099511627776) (b3 : 0 ≤ s.b3 ∧ s.b3 ≤ 1099511627776)
  (p0 : 0 ≤ s.p0 ∧ s.p0 ≤ 1099511627776) (p1 : 0 ≤ s.p1 ∧ s.p1 ≤ 1099511627776) (p2 : 0 ≤ s.p2 ∧ s.p2 ≤ 1099511627776) (p3 : 0 ≤ s.p3 ∧ s.p3 ≤ 1099511627776)
@[reducible] def frameA (s : Sty) : Int := s.b3 + s.b1 + s.p3 + s.p1
@[reducible] def frameD (s : Sty) : Int := s.b0 + s.b2 + s.p0 + s.p2

theorem frame_any (s : Sty) (hs : s.thin) (w : World) : Calls Try.prog 33 #[.agg s.cells] w fun e w' => e = .returned (.tuple #[.int .i64 (s.b3 + s.b1 + s.p3 + s.p1), .int .i64 (s.b0 + s.b2 + s.p0 + s.p2)]) ∧ Ext w w' := by
  obtain ⟨⟨a1, a2⟩, ⟨a3, a4⟩, ⟨a5, a6⟩, ⟨a7, a8⟩, ⟨a9, a10⟩, ⟨a11, a12⟩, ⟨a13, a14⟩, ⟨a15, a16⟩⟩ := hs
  go_enter Try.func33, Try.ntmps33
  go_wp2
  go_ret2
  exact ⟨rfl, (Ext.refl _).alloc _⟩
theorem ref_frame (s : Sty) (hs : s.thin) (w : World) : Calls Try.prog 28 #[.agg s.cells] w fun e w' => e = .returned (.tuple #[.int .i64 (s.b3 + s.b1 + s.p3 + s.p1), .int .i64 (s.b0 + s.b2 + s.p0 + s.p2)]) ∧ Ext w w' := by
  obtain ⟨⟨a1, a2⟩, ⟨a3, a4⟩, ⟨a5, a6⟩, ⟨a7, a8⟩, ⟨a9, a10⟩, ⟨a11, a12⟩, ⟨a13, a14⟩, ⟨a15, a16⟩⟩ := hs
  go_enter Try.func28, Try.ntmps28
  go_wp2
  go_quiet (fail)
  go_wp2
  go_ret2
  exact ⟨ret2i (by omega) (by omega), ((Ext.refl _).alloc _).drewN _⟩

theorem mul_bound (c n : Int) (hc : 0 ≤ c) (hc' : c ≤ 1099511627776) (hn : -100000 ≤ n) (hn' : n ≤ 100000) : -200000000000000000 ≤ c * n ∧ c * n ≤ 200000000000000000 := by
  have h1 : c * (-100000) ≤ c * n := Int.mul_le_mul_of_nonneg_left hn hc
  have h2 : c * n ≤ c * 100000 := Int.mul_le_mul_of_nonneg_left hn' hc
  omega
/-- what a length comes to, and whether it is one -/
def resV (l : Ln) (c : Int) : Int := if l.k = 1 then l.n else if l.k = 2 then max c 0 * l.n / 10000 else 0
def resB (l : Ln) : Bool := decide (l.k = 1) || decide (l.k = 2)
def partOk (l : Ln) : Prop := l.k = 2 → -100000 ≤ l.n ∧ l.n ≤ 100000
theorem resV_part_lo (c n : Int) (h : c ≤ 0) : 0 = resV ⟨2, n⟩ c := by simp [resV, Int.max_eq_right h]
theorem resV_part_hi (c n : Int) (h : 0 ≤ c) : c * n / 10000 = resV ⟨2, n⟩ c := by simp [resV, Int.max_eq_left h]

set_option maxHeartbeats 400000 in
theorem resolve_any (l : Ln) (c : Int) (hl : partOk l) (hc : c ≤ 1099511627776) (w : World) : Calls Try.prog 34 #[l.v, .int .i64 c] w fun e w' => e = .returned (.tuple #[.int .i64 (resV l c), .bool (resB l)]) ∧ Ext w w' := by
  obtain ⟨k, n⟩ := l
  by_cases k2 : k = 2
  · subst k2
    obtain ⟨n1, n2⟩ := hl rfl
    by_cases hc0 : 0 ≤ c
    all_goals
      go_enter Try.func34, Try.ntmps34
      go_wp2_with (go_at_call 40; refine (wpart _ _ (by omega) (by omega) n1 n2 _).mono ?_; rintro e w' ⟨rfl, rfl⟩)
      all_goals go_ret2
      all_goals exact ⟨ret2 (by first | exact resV_part_hi _ _ hc0 | (simp only [Int.zero_mul]; exact resV_part_lo _ _ (by omega)) | exact resV_part_lo _ _ (by omega)) (by simp [resB]), (Ext.refl _).alloc _⟩
  · by_cases k1 : k = 1
    · subst k1
      go_enter Try.func34, Try.ntmps34
      go_wp2
      go_ret2
      exact ⟨ret2 (by simp [resV]) (by simp [resB]), (Ext.refl _).alloc _⟩
    · go_enter Try.func34, Try.ntmps34
      go_wp2
      go_ret2
      exact ⟨ret2 (by simp [resV, *]) (by simp [resB, *]), (Ext.refl _).alloc _⟩

set_option maxHeartbeats 400000 in
theorem ref_resolve (l : Ln) (c : Int) (hl : partOk l) (hc : c ≤ 1099511627776) (w : World) : Calls Try.prog 31 #[l.v, .int .i64 c] w fun e w' => e = .returned (.tuple #[.int .i64 (resV l c), .bool (resB l)]) ∧ Ext w w' := by
  obtain ⟨k, n⟩ := l
  by_cases k2 : k = 2
  · subst k2
    obtain ⟨n1, n2⟩ := hl rfl
    by_cases hc0 : 0 ≤ c
    · obtain ⟨m1, m2⟩ := mul_bound c n hc0 hc n1 n2
      go_enter Try.func31, Try.ntmps31
      go_wp2_with (go_at_call 39; refine (floor_any _ _ (by omega) (by omega) (by omega) (by omega) _).mono ?_; rintro e w' ⟨rfl, rfl⟩)
      all_goals go_ret2
      all_goals exact ⟨ret2 (by exact resV_part_hi _ _ hc0) (by simp [resB]), (Ext.refl _).alloc _⟩
    · go_enter Try.func31, Try.ntmps31
      go_wp2_with (go_at_call 39; refine (floor_any 0 10000 (by omega) (by omega) (by omega) (by omega) _).mono ?_; rintro e w' ⟨rfl, rfl⟩)
      all_goals go_ret2
      all_goals exact ⟨ret2 (by exact resV_part_lo _ _ (by omega)) (by simp [resB]), (Ext.refl _).alloc _⟩
  · by_cases k1 : k = 1
    · subst k1
      go_enter Try.func31, Try.ntmps31
      go_wp2
      go_ret2
      exact ⟨ret2 (by simp [resV]) (by simp [resB]), (Ext.refl _).alloc _⟩
    · go_enter Try.func31, Try.ntmps31
      go_wp2
      go_ret2
      exact ⟨ret2 (by simp [resV, *]) (by simp [resB, *]), (Ext.refl _).alloc _⟩

/-- a width between the least and the greatest one -/
def clampV (s : Sty) (c w : Int) : Int :=
  let w1 := if resB s.maxw then min w (resV s.maxw c) else w
  let w2 := if resB s.minw then max w1 (resV s.minw c) else w1
  max w2 0
section
variable {s : Sty} {c x : Int}
theorem clamp_tt (h1 : resB s.maxw = true) (h2 : resB s.minw = true) : clampV s c x = max (max (min x (resV s.maxw c)) (resV s.minw c)) 0 := by simp [clampV, h1, h2]
theorem clamp_tf (h1 : resB s.maxw = true) (h2 : resB s.minw = false) : clampV s c x = max (min x (resV s.maxw c)) 0 := by simp [clampV, h1, h2]
theorem clamp_ft (h1 : resB s.maxw = false) (h2 : resB s.minw = true) : clampV s c x = max (max x (resV s.minw c)) 0 := by simp [clampV, h1, h2]
theorem clamp_ff (h1 : resB s.maxw = false) (h2 : resB s.minw = false) : clampV s c x = max x 0 := by simp [clampV, h1, h2]
end

set_option maxHeartbeats 1000000 in
theorem ref_clamp (s : Sty) (c x : Int) (h1 : partOk s.maxw) (h2 : partOk s.minw) (hc : c ≤ 1099511627776) (w : World) : Calls Try.prog 32 #[.agg s.cells, .int .i64 c, .int .i64 x] w fun e w' => e = .returned (.int .i64 (clampV s c x)) ∧ Ext w w' := by
  cases hm : resB s.maxw <;> cases hn : resB s.minw
  all_goals
    go_enter Try.func32, Try.ntmps32
    go_wp2_with (go_at_call 31; (first | (with_reducible refine (ref_resolve s.maxw _ h1 hc _).mono ?_) | (with_reducible refine (ref_resolve s.minw _ h2 hc _).mono ?_)); rintro e w' ⟨rfl, hb⟩; obtain ⟨hcc, hff⟩ := hb.cells; have hz := hb.size; try simp only [World.size_alloc] at hz)
  all_goals go_ret
  all_goals refine ⟨ret1 ?_, ?_⟩
  all_goals first
    | ((repeat (first | exact Ext.refl _ | (with_reducible refine Ext.trans ?_ (by assumption)) | (with_reducible refine Ext.alloc ?_ _))); done)
    | (rw [clamp_tt hm hn]; omega)
    | (rw [clamp_tf hm hn]; omega)
    | (rw [clamp_ft hm hn]; omega)
    | (rw [clamp_ff hm hn]; omega)
end Go.Proofs.Ytkkkdjkjggofkaa
