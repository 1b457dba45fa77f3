/- Layer 2: sums of sides, one by one (walk). -/
import Derived.Test.YtphckjnmbbjenaaEdA
namespace Go.Proofs.Ytphckjnmbbjenaa
open Go.RowKit
def Rc.nth (r : Rc) (k : Nat) : Int := match k with | 0 => r.x | 1 => r.y | 2 => r.w | _ => r.h
def nthL (l : List Rc) (k : Nat) : List Int := l.map (·.nth k)
def sideV (l : List Rc) (k i : Nat) : Int := if i < k then cutV (lsum (nthL l i)) else 0
def sideB (l : List Rc) (k i : Nat) : Bool := decide (i < k) && cutB (lsum (nthL l i))
@[reducible] def sidesC (l : List Rc) (k : Nat) : Array Value := #[.int .i64 (sideV l k 0), .int .i64 (sideV l k 1), .int .i64 (sideV l k 2), .int .i64 (sideV l k 3)]
@[reducible] def sidesD (l : List Rc) (k : Nat) : Array Value := #[.bool (sideB l k 0), .bool (sideB l k 1), .bool (sideB l k 2), .bool (sideB l k 3)]
def sidesR (l : List Rc) : Rc := ⟨cutV (lsum (nthL l 0)), cutV (lsum (nthL l 1)), cutV (lsum (nthL l 2)), cutV (lsum (nthL l 3))⟩
def sidesBB (l : List Rc) : Bool := cutB (lsum (nthL l 0)) || cutB (lsum (nthL l 1)) || cutB (lsum (nthL l 2)) || cutB (lsum (nthL l 3))
theorem nat4 {k : Nat} (h : k < 4) : k = 0 ∨ k = 1 ∨ k = 2 ∨ k = 3 := by omega
theorem sidesC_step (l : List Rc) (k : Nat) (h : k < 4) : (sidesC l k).setIfInBounds k (.int .i64 (cutV (lsum (nthL l k)))) = sidesC l (k + 1) := by
  rcases nat4 h with rfl | rfl | rfl | rfl <;> simp [sidesC, sideV]
theorem sidesD_step (l : List Rc) (k : Nat) (h : k < 4) : (sidesD l k).setIfInBounds k (.bool (cutB (lsum (nthL l k)))) = sidesD l (k + 1) := by
  rcases nat4 h with rfl | rfl | rfl | rfl <;> simp [sidesD, sideB]
theorem nth_cell (r : Rc) (k : Nat) (h : k < 4) : (r.cs)[k]? = some (.int .i64 (r.nth k)) := by
  rcases nat4 h with rfl | rfl | rfl | rfl <;> rfl
theorem nth_take (l : List Rc) (k j : Nat) (r : Rc) (h : l[j]? = some r) : nthL (l.take (j + 1)) k = nthL (l.take j) k ++ [r.nth k] := by
  rw [List.take_add_one, h]; simp [nthL]
theorem nth_ok {l : List Rc} (h : ∀ r ∈ l, r.Ok) (k : Nat) : I64s (nthL l k) := by
  intro z hz
  obtain ⟨r, hr, rfl⟩ := List.mem_map.1 hz
  obtain ⟨x1, x2, y1, y2, w1, w2, h1, h2⟩ := h r hr
  unfold Rc.nth
  split <;> omega

set_option maxRecDepth 100000 in
set_option maxHeartbeats 4000000 in
theorem sides_any (A : Option Addr) (n c : Nat) (l : List Rc) (w : World) (hr : Rd w 4 A n (rcs l)) (hok : ∀ r ∈ l, r.Ok) (hn : n ≤ 100000) :
    Calls Try.prog 11 #[.slice A n c] w fun e w' => e = .returned (.tuple #[.agg (sidesR l).cs, .bool (sidesBB l)]) ∧ Ext w w' := by
  obtain ⟨i0, hi0, hz0, hz1, hz2⟩ := info_parts i64_info
  have HI := hide (And.intro hi0 (And.intro hz0 (And.intro hz1 hz2)))
  have hl : l.length = n := by have := hr.len; rw [rcs_len] at this; omega
  have HL := hide hl
  obtain ⟨C, hC, hmk⟩ := mk64 n (n : Int) rfl (by omega)
  have HC := hide hC
  have HM := hide hmk
  clear hl hC hi0 hz0 hz1 hz2 hmk
  go_enter Try.func11, Try.ntmps11
  go_wp2_with fail
  have B0 : Blk ((w.alloc (.cells #[.int .i64 0, .int .i64 0, .int .i64 0, .int .i64 0] 24)).alloc (.cells #[.bool false, .bool false, .bool false, .bool false] 49)) w.heap.size 24 (sidesC l 0) := (Blk.new _ _ _).alloc _
  have B1 : Blk ((w.alloc (.cells #[.int .i64 0, .int .i64 0, .int .i64 0, .int .i64 0] 24)).alloc (.cells #[.bool false, .bool false, .bool false, .bool false] 49)) (w.heap.size + 1) 49 (sidesD l 0) := Blk.new1 _ _ _ _
  have E0 : Ext w ((w.alloc (.cells #[.int .i64 0, .int .i64 0, .int .i64 0, .int .i64 0] 24)).alloc (.cells #[.bool false, .bool false, .bool false, .bool false] 49)) := ((Ext.refl _).alloc _).alloc _
  generalize ((w.alloc (.cells #[.int .i64 0, .int .i64 0, .int .i64 0, .int .i64 0] 24)).alloc (.cells #[.bool false, .bool false, .bool false, .bool false] 49)) = wa at *
  go_loopw [9] (fun i wr => ∃ k : Nat, k ≤ 4 ∧ i = .int .i64 k ∧ Ext w wr ∧ Blk wr w.heap.size 24 (sidesC l k) ∧ Blk wr (w.heap.size + 1) 49 (sidesD l k)) (fun i _ => 4 - (intOf i).toNat)
  case atStart => exact ⟨0, by omega, rfl, E0, B0, B1⟩
  case round =>
    clear B0 B1 E0 wa
    obtain ⟨k, hk, rfl, E0, B0, B1⟩ := hrel
    by_cases hk4 : k < 4
    · have hk4I : (k : Int) < 4 := by omega
      have hmk := unhide HM
      have R0 := hr.ext E0
      clear hr
      go_wp2_with fail
      clear hmk
      have hO := World.ownsRow_made (base := wr.heap.size) (e := 2) (size := 1) wr C n (Nat.le_refl _) (by simp only [maxLen]; omega) (by rw [unhide HC]; omega)
      have E1 : Ext wr (wr.alloc (.cells C 2)) := (Ext.refl _).alloc _
      generalize wr.alloc (.cells C 2) = wb at *
      generalize wr = wo at *
      go_loopw [6, 17] (fun v i wq => ∃ j : Nat, j ≤ n ∧ i = .int .i64 j ∧ Ext wo wq ∧ ∃ A1 c1, v = .slice A1 j c1 ∧ wq.ownsRow wo.heap.size 2 1 (.slice A1 j c1) j (ints (nthL (l.take j) k))) (fun _ i _ => n - (intOf i).toNat)
      case atStart => exact ⟨0, Nat.zero_le _, rfl, E1, _, _, rfl, hO⟩
      case round =>
        clear hO E1
        obtain ⟨j, hj, rfl, E1, A1, c1, rfl, O1⟩ := hrel
        by_cases hlt : j < n
        · have hltI : (j : Int) < (n : Int) := by omega
          obtain ⟨b, off, r, rfl, hb, hrk, q0, q1, q2, q3⟩ := (R0.ext E1).rc hlt
          have HR := hide hrk
          have hcell : ∀ W : World, Blk W wr.heap.size 24 r.cs → W.cell? ⟨wr.heap.size, k, none⟩ = some (.int .i64 (r.nth k)) := fun W h => by rw [h.cell]; exact nth_cell r k hk4
          have hc := hcell _ (Blk.new wr 24 r.cs)
          have hkI0 : (0 : Int) ≤ (k : Int) := by omega
          have HO := hide hok
          clear hrk hok hcell B0 B1 R0
          go_wp2_with (first
            | (at_builtin
               refine wpList_append_rd rfl (.tmp 21) (.tmp 25) _ rfl wo.heap.size 2 i0 _ 1 8 Try.underlying50 (unhide HI).1 (unhide HI).2.1 (unhide HI).2.2.1 (unhide HI).2.2.2 rfl (by omega) _ j (ints (nthL (l.take j) k)) rfl ((O1.alloc _).alloc _) _ 1 1 [.int .i64 (r.nth k)] rfl (by have h := (Blk.new (wr.alloc (.cells r.cs 24)) 2 #[.int .i64 (r.nth k)]).rd (n := 1) rfl; rw [World.size_alloc] at h; exact h) (by simp [Value.oneCell']) (by simp only [maxLen]; omega) (by omega) (by have := E1.size; simp; omega) ?_
               intro A7 c7 w7 own7 g7 at7))
          go_roundw
          case rel =>
            refine ⟨j + 1, by omega, by go_num, ((E1.alloc _).alloc _).grown g7 (fun g e => (O1.lt g e).1), A7, c7, rfl, ?_⟩
            rw [nth_take l k j _ (unhide HR), ints_app]
            exact own7
          case measure => simp [intOf]; omega
        · obtain rfl : j = n := by omega
          have hS : l.take j = l := List.take_of_length_le (by have := unhide HL; omega)
          rw [hS] at O1
          have cs := hide (au_sum A1 j c1 (nthL l k) wr (Rd.of_own O1) (nth_ok hok k) (by omega))
          have b0 := B0.ext E1
          have b1 := B1.ext E1
          have e1 := E0.trans E1
          have hkI0 : (0 : Int) ≤ (k : Int) := by omega
          obtain ⟨X, hX⟩ : ∃ X, cutV (lsum (nthL l k)) = X := ⟨_, rfl⟩
          obtain ⟨p, hp⟩ : ∃ X, cutB (lsum (nthL l k)) = X := ⟨_, rfl⟩
          rw [hX, hp] at cs
          have HX := hide (And.intro hX hp)
          clear hX hp hS O1 hok R0 B0 B1 E0 E1
          go_wp2_with fail
          refine (unhide cs).mono ?_
          rintro e w2 ⟨rfl, hx⟩
          have B0 := b0.ext hx
          have B1 := b1.ext hx
          have E1 := e1.trans hx
          have d0 : ∃ u, w2.cell? ⟨w.heap.size, k, none⟩ = some u := ⟨_, by rw [B0.cell]; exact nth_cell ⟨_, _, _, _⟩ k hk4⟩
          have d1 : ∃ u, w2.cell? ⟨w.heap.size + 1, k, none⟩ = some u := by rw [B1.cell]; rcases nat4 hk4 with rfl | rfl | rfl | rfl <;> exact ⟨_, rfl⟩
          obtain ⟨u0, d0⟩ := d0
          obtain ⟨u1, d1⟩ := d1
          have f0 := B0.frozen
          have f1 := B1.frozen
          have HB := hide (And.intro B0 B1)
          clear b0 b1 e1 hx cs B0 B1
          go_wp2_with fail
          go_roundw
          case rel =>
            obtain ⟨B0, B1⟩ := unhide HB
            obtain ⟨hX, hp⟩ := unhide HX
            refine ⟨k + 1, by omega, by go_num, (E1.set (by simp) _).set (by simp) _, ?_, ?_⟩
            · rw [← sidesC_step l k hk4, hX]; exact (B0.set_ k _).far (by simp) _
            · rw [← sidesD_step l k hk4, hp]; exact (B1.far (by simp) _).set_ k _
          case measure => simp [intOf]; omega
    · obtain rfl : k = 4 := by omega
      have hfin : Rc.mk (sideV l 4 0) (sideV l 4 1) (sideV l 4 2) (sideV l 4 3) = sidesR l ∧ (sideB l 4 0 || sideB l 4 1 || sideB l 4 2 || sideB l 4 3) = sidesBB l := by
        constructor
        · simp [sideV, sidesR]
        · simp [sideB, sidesBB]
      have HF := hide hfin
      clear hr hok hfin
      unfold sidesC at B0
      unfold sidesD at B1
      generalize sideV l 4 0 = X0 at *
      generalize sideV l 4 1 = X1 at *
      generalize sideV l 4 2 = X2 at *
      generalize sideV l 4 3 = X3 at *
      generalize sideB l 4 0 = p0 at *
      generalize sideB l 4 1 = p1 at *
      generalize sideB l 4 2 = p2 at *
      generalize sideB l 4 3 = p3 at *
      have e0 := B0.cell
      have f0 := B0.frozen
      have e1 := B1.cell
      have f1 := B1.frozen
      have heq := eq_bool4
      go_wp2_with fail
      go_region
      go_wp2
      refine bodyPost_ret (results_cell_tmp rfl _ _ w.heap.size 24 _ _ rfl ((((B0.set_ 0 _).set_ 1 _).set_ 2 _).set_ 3 _) Try.underlying24 rfl (by kernel_rfl)) rfl ⟨?_, ?_⟩
      · rw [← (unhide HF).1, ← (unhide HF).2]; rfl
      · exact ((((E0.set (by simp) _).set (by simp) _).set (by simp) _).set (by simp) _).drew
end Go.Proofs.Ytphckjnmbbjenaa
