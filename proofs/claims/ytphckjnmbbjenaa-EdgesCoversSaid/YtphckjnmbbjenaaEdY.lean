/- Layer 2: the reference's sums of sides, one by one (walk). -/
import Derived.Test.YtphckjnmbbjenaaEdX
import Derived.Test.YtphckjnmbbjenaaEdS
namespace Go.Proofs.Ytphckjnmbbjenaa
open Go.RowKit
def cutsOr (l : List Rc) (k : Nat) : Bool := (List.range k).any fun i => cutB (lsum (nthL l i))
theorem cutsOr_step (l : List Rc) (k : Nat) : cutsOr l (k + 1) = (cutsOr l k || cutB (lsum (nthL l k))) := by
  unfold cutsOr; rw [List.range_succ, List.any_append]; simp
theorem cutsOr_all (l : List Rc) : cutsOr l 4 = sidesBB l := by
  rw [cutsOr_step, cutsOr_step, cutsOr_step, cutsOr_step]; rfl
theorem Rd.nth4 {w : World} {A : Option Addr} {n : Nat} {l : List Rc} (h : Rd w 4 A n (rcs l)) {j k : Nat} (hj : j < n) (hk : k < 4) : ∃ b off r, A = some ⟨b, off, none⟩ ∧ b < w.heap.size ∧ l[j]? = some r ∧ w.cell? ⟨b, off + j * 4 + k, none⟩ = some (.int .i64 (r.nth k)) := by
  obtain ⟨b, off, r, h1, h2, h3, q0, q1, q2, q3⟩ := h.rc hj
  refine ⟨b, off, r, h1, h2, h3, ?_⟩
  rcases nat4 hk with rfl | rfl | rfl | rfl
  · exact q0
  · exact q1
  · exact q2
  · exact q3

set_option maxRecDepth 100000 in
set_option maxHeartbeats 4000000 in
theorem refsides_any (A : Option Addr) (n c : Nat) (l : List Rc) (w : World) (hr : Rd w 4 A n (rcs l)) (hok : ∀ r ∈ l, r.Ok) (hn : n ≤ 1000) :
    Calls Try.prog 12 #[.slice A n c] w fun e w' => e = .returned (.tuple #[.agg (sidesR l).cs, .bool (sidesBB l)]) ∧ Ext w w' := by
  obtain ⟨i0, hi0, hz0, hz1, hz2⟩ := info_parts i64_info
  have HI := hide (And.intro hi0 (And.intro hz0 (And.intro hz1 hz2)))
  have hl : l.length = n := by have := hr.len; rw [rcs_len] at this; omega
  have HL := hide hl
  clear hl hi0 hz0 hz1 hz2
  go_enter Try.func12, Try.ntmps12
  go_wp2_with fail
  have B0 : Blk ((w.alloc (.cells #[.int .i64 0, .int .i64 0, .int .i64 0, .int .i64 0] 24)).alloc (.cells #[.int .i64 0, .int .i64 0, .int .i64 0, .int .i64 0] 24)) w.heap.size 24 #[.int .i64 0, .int .i64 0, .int .i64 0, .int .i64 0] := (Blk.new _ _ _).alloc _
  have B1 : Blk ((w.alloc (.cells #[.int .i64 0, .int .i64 0, .int .i64 0, .int .i64 0] 24)).alloc (.cells #[.int .i64 0, .int .i64 0, .int .i64 0, .int .i64 0] 24)) (w.heap.size + 1) 24 (sidesC l 0) := Blk.new1 _ _ _ _
  have E0 : Ext w ((w.alloc (.cells #[.int .i64 0, .int .i64 0, .int .i64 0, .int .i64 0] 24)).alloc (.cells #[.int .i64 0, .int .i64 0, .int .i64 0, .int .i64 0] 24)) := ((Ext.refl _).alloc _).alloc _
  generalize ((w.alloc (.cells #[.int .i64 0, .int .i64 0, .int .i64 0, .int .i64 0] 24)).alloc (.cells #[.int .i64 0, .int .i64 0, .int .i64 0, .int .i64 0] 24)) = wa at *
  generalize hga : w.heap.size = ga at *
  have HGA := hide hga
  clear hga
  go_loopw [5, 6] (fun p i wr => ∃ k : Nat, k ≤ 4 ∧ p = .bool (cutsOr l k) ∧ i = .int .i64 k ∧ Ext w wr ∧ Blk wr ga 24 #[.int .i64 0, .int .i64 0, .int .i64 0, .int .i64 0] ∧ Blk wr (ga + 1) 24 (sidesC l k)) (fun _ i _ => 4 - (intOf i).toNat)
  case atStart => exact ⟨0, by omega, rfl, rfl, E0, B0, B1⟩
  case round =>
    clear B0 B1 E0 wa
    obtain ⟨k, hk, rfl, rfl, E0, B0, B1⟩ := hrel
    obtain ⟨P, hP⟩ : ∃ P, cutsOr l k = P := ⟨_, rfl⟩
    rw [hP]
    have HP := hide hP
    clear hP
    by_cases hk4 : k < 4
    · have hk4I : (k : Int) < 4 := by omega
      have R0 := hr.ext E0
      clear hr
      go_wp2_with fail
      generalize wr = wo at *
      go_loopw [7, 8] (fun v i wq => ∃ j : Nat, j ≤ n ∧ i = .int .i64 j ∧ Ext wo wq ∧ ∃ A1 c1, v = .slice A1 j c1 ∧ wq.ownsRow wo.heap.size 2 1 (.slice A1 j c1) j (ints (nthL (l.take j) k))) (fun _ i _ => n - (intOf i).toNat)
      case atStart => exact ⟨0, Nat.zero_le _, rfl, Ext.refl _, _, _, rfl, World.ownsRow_nil _ _ _ _⟩
      case round =>
        obtain ⟨j, hj, rfl, E1, A1, c1, rfl, O1⟩ := hrel
        by_cases hlt : j < n
        · have hltI : (j : Int) < (n : Int) := by omega
          obtain ⟨b, off, r, rfl, hb, hrk, hc⟩ := (R0.ext E1).nth4 hlt hk4
          have HR := hide hrk
          have hkI0 : (0 : Int) ≤ (k : Int) := by omega
          have HO := hide hok
          clear hrk hok B0 B1 R0
          go_wp2_with (first
            | (at_builtin
               refine wpList_append_rd rfl (.tmp 21) (.tmp 28) _ rfl wo.heap.size 2 i0 _ 1 8 Try.underlying50 (unhide HI).1 (unhide HI).2.1 (unhide HI).2.2.1 (unhide HI).2.2.2 rfl (by omega) _ j (ints (nthL (l.take j) k)) rfl (O1.alloc _) _ 1 1 [.int .i64 (r.nth k)] rfl ((Blk.new wr 2 #[.int .i64 (r.nth k)]).rd (n := 1) rfl) (by simp [Value.oneCell']) (by simp only [maxLen]; omega) (by omega) (by have := E1.size; simp; omega) ?_
               intro A7 c7 w7 own7 g7 at7))
          go_roundw
          case rel =>
            refine ⟨j + 1, by omega, by go_num, (E1.alloc _).grown g7 (fun g e => (O1.lt g e).1), A7, c7, rfl, ?_⟩
            rw [nth_take l k j _ (unhide HR), ints_app]
            exact own7
          case measure => simp [intOf]; omega
        · obtain rfl : j = n := by omega
          have hS : l.take j = l := List.take_of_length_le (by have := unhide HL; omega)
          rw [hS] at O1
          have cs := hide (refsum_any A1 j c1 (nthL l k) wr (Rd.of_own O1) (nth_ok hok k) (by omega))
          have b0 := B0.ext E1
          have b1 := B1.ext E1
          have e1 := E0.trans E1
          have hkI0 : (0 : Int) ≤ (k : Int) := by omega
          obtain ⟨X, hX⟩ : ∃ X, cutV (lsum (nthL l k)) = X := ⟨_, rfl⟩
          obtain ⟨p, hp⟩ : ∃ X, cutB (lsum (nthL l k)) = X := ⟨_, rfl⟩
          rw [hX, hp] at cs
          have HX := hide (And.intro hX hp)
          clear hX hp hS O1 hok R0 B0 B1 E0 E1
          go_wp2_with fail
          refine (unhide cs).mono ?_
          rintro e w2 ⟨rfl, hx⟩
          have B0 := b0.ext hx
          have B1 := b1.ext hx
          have E1 := e1.trans hx
          have d1 : ∃ u, w2.cell? ⟨ga + 1, k, none⟩ = some u := ⟨_, by rw [B1.cell]; exact nth_cell ⟨_, _, _, _⟩ k hk4⟩
          obtain ⟨u1, d1⟩ := d1
          have f1 := B1.frozen
          have HB := hide (And.intro B0 B1)
          have hst : cutsOr l (k + 1) = (P || p) := by rw [cutsOr_step, unhide HP, (unhide HX).2]
          have HST := hide hst
          clear b0 b1 e1 hx cs B0 B1 hst
          cases P
          all_goals
            go_wp2_with fail
            go_roundw
            case rel =>
              obtain ⟨B0, B1⟩ := unhide HB
              obtain ⟨hX, hp⟩ := unhide HX
              refine ⟨k + 1, by omega, by rw [unhide HST]; rfl, by go_num, E1.set (by have := unhide HGA; simp; omega) _, B0.far (by simp) _, ?_⟩
              rw [← sidesC_step l k hk4, hX]; exact B1.set_ k _
            case measure => simp [intOf]; omega
    · obtain rfl : k = 4 := by omega
      have hfin : Rc.mk (sideV l 4 0) (sideV l 4 1) (sideV l 4 2) (sideV l 4 3) = sidesR l ∧ P = sidesBB l := by
        constructor
        · simp [sideV, sidesR]
        · rw [← unhide HP, cutsOr_all]
      have HF := hide hfin
      clear hr hok hfin
      unfold sidesC at B1
      generalize sideV l 4 0 = X0 at *
      generalize sideV l 4 1 = X1 at *
      generalize sideV l 4 2 = X2 at *
      generalize sideV l 4 3 = X3 at *
      have e0 := B0.cell
      have f0 := B0.frozen
      have e1 := B1.cell
      have z1 := B1.lt
      go_wp2_with fail
      refine bodyPost_ret (results_cell_tmp rfl _ _ ga 24 _ _ rfl ((((B0.set_ 0 _).set_ 1 _).set_ 2 _).set_ 3 _) Try.underlying24 rfl (by kernel_rfl)) rfl ⟨?_, ?_⟩
      · rw [← (unhide HF).1, ← (unhide HF).2]; rfl
      · exact (((E0.set (by have := unhide HGA; simp; omega) _).set (by have := unhide HGA; simp; omega) _).set (by have := unhide HGA; simp; omega) _).set (by have := unhide HGA; simp; omega) _
end Go.Proofs.Ytphckjnmbbjenaa
