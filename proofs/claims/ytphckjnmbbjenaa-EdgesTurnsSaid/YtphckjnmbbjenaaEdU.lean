/- Layer 2: the law on turns (walk). -/
import Derived.Test.YtphckjnmbbjenaaEdH
namespace Go.Proofs.Ytphckjnmbbjenaa
open Go.RowKit

theorem cutB_f {x : Int} (h : cutB x = false) : -1099511627776 ≤ x ∧ x ≤ 1099511627776 := by
  simp [cutB] at h; omega
theorem grow_back (a : Rc) (l0 l1 l2 l3 : Int) (h : growB a l0 l1 l2 l3 = false) :
    growR (growR a l0 l1 l2 l3) (-l0) (-l1) (-l2) (-l3) = growR a 0 0 0 0 ∧ growB (growR a l0 l1 l2 l3) (-l0) (-l1) (-l2) (-l3) = growB a 0 0 0 0 := by
  simp only [growB, Bool.or_eq_false_iff] at h
  obtain ⟨⟨⟨h1, h2⟩, h3⟩, h4⟩ := h
  have e1 := (cut_id (cutB_f h1).1 (cutB_f h1).2).1
  have e2 := (cut_id (cutB_f h2).1 (cutB_f h2).2).1
  have e3 := (cut_id (cutB_f h3).1 (cutB_f h3).2).1
  have e4 := (cut_id (cutB_f h4).1 (cutB_f h4).2).1
  have q1 : a.x - l3 - -l3 = a.x - 0 := by omega
  have q2 : a.y - l0 - -l0 = a.y - 0 := by omega
  have q3 : a.w + l3 + l1 + -l3 + -l1 = a.w + 0 + 0 := by omega
  have q4 : a.h + l0 + l2 + -l0 + -l2 = a.h + 0 + 0 := by omega
  constructor
  · simp only [growR, e1, e2, e3, e4, q1, q2, q3, q4]
  · simp only [growB, growR, e1, e2, e3, e4, q1, q2, q3, q4]
theorem growR_ok (a : Rc) (l0 l1 l2 l3 : Int) : (growR a l0 l1 l2 l3).Ok := by
  have h : ∀ x : Int, -1099511627776 ≤ cutV x ∧ cutV x ≤ 1099511627776 := fun x => by unfold cutV; split <;> (try split) <;> omega
  have h1 := h (a.x - l3)
  have h2 := h (a.y - l0)
  have h3 := h (a.w + l3 + l1)
  have h4 := h (a.h + l0 + l2)
  constructor <;> simp only [growR] <;> omega
theorem meet_comm (a b : Rc) : meetB b a = meetB a b := by
  rw [Bool.eq_iff_iff, meet_iff, meet_iff]; omega
theorem meet_self (a : Rc) : meetB a a = (decide (0 < a.w) && decide (0 < a.h)) := by
  rw [Bool.eq_iff_iff, meet_iff]; simp; omega
theorem inside_self (a : Rc) : insideB a a = true := by
  rw [inside_iff]; omega
theorem inside_some {a b : Rc} (h : insideB a b = true) (h1 : 0 < a.w) (h2 : 0 < a.h) : meetB a b = true := by
  rw [inside_iff] at h
  rw [meet_iff]; omega
def negV (b : Rc) (k i : Nat) : Int := if i < k then -(b.nth i) else 0
@[reducible] def negC (b : Rc) (k : Nat) : Array Value := #[.int .i64 (negV b k 0), .int .i64 (negV b k 1), .int .i64 (negV b k 2), .int .i64 (negV b k 3)]
theorem negC_step (b : Rc) (k : Nat) (h : k < 4) : (negC b k).setIfInBounds k (.int .i64 (-(b.nth k))) = negC b (k + 1) := by
  rcases nat4 h with rfl | rfl | rfl | rfl <;> simp [negC, negV]
theorem neg_cell (b : Rc) (j k : Nat) (h : k < 4) : (negC b j)[k]? = some (.int .i64 (negV b j k)) := by
  rcases nat4 h with rfl | rfl | rfl | rfl <;> rfl

set_option maxRecDepth 100000 in
set_option maxHeartbeats 16000000 in
theorem law_turns (a b l : Rc) (oa : a.Ok) (ob : b.Ok) (ol : l.Ok) (w : World) :
    Calls Try.prog 7 #[.agg a.cs, .agg b.cs, .agg l.cs] w fun e w' => e = .returned (.bool true) ∧ Ext w w' := by
  have m1 := fun w => hide (meet_any a b oa ob w)
  have m2 := fun w => hide (by have := meet_any b a ob oa w; rwa [meet_comm] at this)
  have m3 := fun w => hide (by have := meet_any a a oa oa w; rwa [meet_self] at this)
  have i1 := fun w => hide (by have := inside_any a a oa oa w; rwa [inside_self] at this)
  have i2 := fun w => hide (inside_any a b oa ob w)
  have m4 := fun (h : insideB a b = true) (h1 : decide (0 < a.w) = true) (h2 : decide (0 < a.h) = true) w => hide (by have := meet_any a b oa ob w; rwa [inside_some h (by simpa using h1) (by simpa using h2)] at this)
  have z0 : -9223372036854775808 ≤ l.x ∧ l.x ≤ 9223372036854775807 := ⟨ol.x1, ol.x2⟩
  have z1 : -9223372036854775808 ≤ l.y ∧ l.y ≤ 9223372036854775807 := ⟨ol.y1, ol.y2⟩
  have z2 : -9223372036854775808 ≤ l.w ∧ l.w ≤ 9223372036854775807 := ⟨ol.w1, ol.w2⟩
  have z3 : -9223372036854775808 ≤ l.h ∧ l.h ≤ 9223372036854775807 := ⟨ol.h1, ol.h2⟩
  have g1 := fun w => hide (grow_any a oa l.x l.y l.w l.h z0 z1 z2 z3 w)
  have g2 := fun (h0 : l.x ≠ -9223372036854775808) (h1 : l.y ≠ -9223372036854775808) (h2 : l.w ≠ -9223372036854775808) (h3 : l.h ≠ -9223372036854775808) w => hide (grow_any (growR a l.x l.y l.w l.h) (growR_ok _ _ _ _ _) (-l.x) (-l.y) (-l.w) (-l.h) (by omega) (by omega) (by omega) (by omega) w)
  have g3 := fun w => hide (grow_any a oa 0 0 0 0 (by omega) (by omega) (by omega) (by omega) w)
  have hgb := grow_back a l.x l.y l.w l.h
  have HGB := hide hgb
  have heq := fun r : Rc => hide (eq_self r)
  have hn : ∀ i, i < 4 → -9223372036854775808 ≤ l.nth i ∧ l.nth i ≤ 9223372036854775807 := by
    intro i hi
    rcases nat4 hi with rfl | rfl | rfl | rfl <;> assumption
  have HN := hide hn
  clear hn hgb z0 z1 z2 z3 oa ob ol
  generalize growR a l.x l.y l.w l.h = r at *
  generalize growB a l.x l.y l.w l.h = gb at *
  generalize meetB a b = m at *
  generalize insideB a b = ib at *
  obtain ⟨p1, hp1⟩ : ∃ p, decide (0 < a.w) = p := ⟨_, rfl⟩
  obtain ⟨p2, hp2⟩ : ∃ p, decide (0 < a.h) = p := ⟨_, rfl⟩
  rw [hp1, hp2] at m3 m4
  obtain ⟨ax, ay, aw, ah⟩ := a
  obtain ⟨bx, bY, bw, bh⟩ := b
  obtain ⟨rx, ry, rw, rh⟩ := r
  simp only at hp1 hp2
  have HP1 := hide hp1
  have HP2 := hide hp2
  clear hp1 hp2
  have hlc : l.cs = #[.int .i64 l.x, .int .i64 l.y, .int .i64 l.w, .int .i64 l.h] := rfl
  have HLC := hide hlc
  clear hlc
  go_enter Try.func7, Try.ntmps7
  go_upto_region 1 with fail
  have Ba : Blk (((w.alloc (.cells #[.int .i64 ax, .int .i64 ay, .int .i64 aw, .int .i64 ah] 33)).alloc (.cells #[.int .i64 bx, .int .i64 bY, .int .i64 bw, .int .i64 bh] 33)).alloc (.cells l.cs 24)) w.heap.size 33 #[.int .i64 ax, .int .i64 ay, .int .i64 aw, .int .i64 ah] := ((Blk.new _ _ _).alloc _).alloc _
  have Bb : Blk (((w.alloc (.cells #[.int .i64 ax, .int .i64 ay, .int .i64 aw, .int .i64 ah] 33)).alloc (.cells #[.int .i64 bx, .int .i64 bY, .int .i64 bw, .int .i64 bh] 33)).alloc (.cells l.cs 24)) (w.heap.size + 1) 33 #[.int .i64 bx, .int .i64 bY, .int .i64 bw, .int .i64 bh] := (Blk.new1 _ _ _ _).alloc _
  have Bl : Blk (((w.alloc (.cells #[.int .i64 ax, .int .i64 ay, .int .i64 aw, .int .i64 ah] 33)).alloc (.cells #[.int .i64 bx, .int .i64 bY, .int .i64 bw, .int .i64 bh] 33)).alloc (.cells l.cs 24)) (w.heap.size + 2) 24 l.cs := Blk.new2 _ _ _ _ _
  have E0 : Ext w (((w.alloc (.cells #[.int .i64 ax, .int .i64 ay, .int .i64 aw, .int .i64 ah] 33)).alloc (.cells #[.int .i64 bx, .int .i64 bY, .int .i64 bw, .int .i64 bh] 33)).alloc (.cells l.cs 24)) := (((Ext.refl _).alloc _).alloc _).alloc _
  generalize (((w.alloc (.cells #[.int .i64 ax, .int .i64 ay, .int .i64 aw, .int .i64 ah] 33)).alloc (.cells #[.int .i64 bx, .int .i64 bY, .int .i64 bw, .int .i64 bh] 33)).alloc (.cells l.cs 24)) = wa at *
  generalize hga : w.heap.size = ga at *
  have HGA := hide hga
  clear hga
  refine wp_region_lin0 (fun w' => (ExtX wa w' [])) (fun ii vv ww => match ii with | 0 => vv = .pointer (some ⟨ga, 2, none⟩) | 1 => vv = .int .i64 aw | 2 => vv = .bool p1 | 3 => vv = .bool p1 | 4 => vv = (if (p1) = true then .pointer (some ⟨ga, 3, none⟩) else undef) | 5 => vv = (if (p1) = true then .int .i64 ah else undef) | 6 => vv = (if (p1) = true then .bool p2 else undef) | 7 => vv = .bool (p1 && p2) | 8 => vv = .bool (p1 && p2) | _ => True) (fun ii => match ii with | 1 => [(0, 16)] | 2 => [(1, 17)] | 3 => [(2, 18)] | 4 => [(3, 19)] | 5 => [(4, 20), (3, 19)] | 6 => [(5, 21), (3, 19)] | 7 => [(3, 19), (6, 22)] | 8 => [(7, 23)] | _ => []) (fun ii => match ii with | 0 => [3] | 4 => [3] | _ => []) (fun ii => match ii with | 4 => [3] | 5 => [3] | 6 => [3] | _ => []) [8] [0, 1, 3, 7, 15, 31, 63, 127, 255] 104 rfl (by kernel_rfl) (ExtX.refl _ _) ?_ ?_
  · rename_i hcont; clear hcont
    refine ⟨?_, ?_, ?_, ?_, ?_, ?_, ?_, ?_, ?_, trivial⟩
    · refine stepL_plain rfl ?_
      rintro F a w1 jE - ⟨t3, -⟩ K hK
      have t3 : a.tmps[3]? = some (.pointer (some ⟨ga, 0, none⟩)) := t3
      go_simp
      exact hK _ _ jE rfl (fun _ _ _ h => h)
    · refine stepL_plain rfl ?_
      rintro F a w1 jE ⟨h0, t16, -⟩ - K hK
      have h0 : (F 0) = .pointer (some ⟨ga, 2, none⟩) := h0
      rw [h0] at t16
      clear h0
      have c := (jE.blk Ba (by simp)).cell
      go_simp
      exact hK _ _ jE rfl (fun _ _ _ h => h)
    · refine stepL_plain rfl ?_
      rintro F a w1 jE ⟨h1, t17, -⟩ - K hK
      have h1 : (F 1) = .int .i64 aw := h1
      rw [h1] at t17
      clear h1
      have e1 := unhide HP1
      go_simp
      exact hK _ _ jE rfl (fun _ _ _ h => h)
    · refine stepL_plain rfl ?_
      rintro F a w1 jE ⟨h2, t18, -⟩ - K hK
      have h2 : (F 2) = .bool p1 := h2
      rw [h2] at t18
      clear h2
      go_simp
      exact hK _ _ jE rfl (fun _ _ _ h => h)
    · refine stepL_of ?_
      rintro F a w1 jE ⟨h3, t19, -⟩ ⟨t3, -⟩ K hK
      have h3 : (F 3) = .bool p1 := h3
      rw [h3] at t19
      clear h3
      have t3 : a.tmps[3]? = some (.pointer (some ⟨ga, 0, none⟩)) := t3
      cases p1
      all_goals first
        | (exact stepN ((wanted_of 3 true 19 _ rfl rfl t19).trans rfl) (hK undef _ jE rfl (fun _ _ _ h => h)))
        | (exact stepN (wanted_undef 3 true 19 rfl rfl t19) (hK undef _ jE rfl (fun _ _ _ h => h)))
        | (refine stepY ((wanted_of 3 true 19 _ rfl rfl t19).trans rfl) ?_
           go_simp
           exact hK _ _ jE rfl (fun _ _ _ h => h))
    · refine stepL_of ?_
      rintro F a w1 jE ⟨h4, t20, h3, t19, -⟩ - K hK
      have h4 : (F 4) = (if (p1) = true then .pointer (some ⟨ga, 3, none⟩) else undef) := h4
      rw [h4] at t20
      clear h4
      have h3 : (F 3) = .bool p1 := h3
      rw [h3] at t19
      clear h3
      cases p1
      all_goals first
        | (exact stepN ((wanted_of 3 true 19 _ rfl rfl t19).trans rfl) (hK undef _ jE rfl (fun _ _ _ h => h)))
        | (exact stepN (wanted_undef 3 true 19 rfl rfl t19) (hK undef _ jE rfl (fun _ _ _ h => h)))
        | (refine stepY ((wanted_of 3 true 19 _ rfl rfl t19).trans rfl) ?_
           have c := (jE.blk Ba (by simp)).cell
           go_simp
           exact hK _ _ jE rfl (fun _ _ _ h => h))
    · refine stepL_of ?_
      rintro F a w1 jE ⟨h5, t21, h3, t19, -⟩ - K hK
      have h5 : (F 5) = (if (p1) = true then .int .i64 ah else undef) := h5
      rw [h5] at t21
      clear h5
      have h3 : (F 3) = .bool p1 := h3
      rw [h3] at t19
      clear h3
      cases p1
      all_goals first
        | (exact stepN ((wanted_of 3 true 19 _ rfl rfl t19).trans rfl) (hK undef _ jE rfl (fun _ _ _ h => h)))
        | (exact stepN (wanted_undef 3 true 19 rfl rfl t19) (hK undef _ jE rfl (fun _ _ _ h => h)))
        | (refine stepY ((wanted_of 3 true 19 _ rfl rfl t19).trans rfl) ?_
           have e1 := unhide HP2
           go_simp
           exact hK _ _ jE rfl (fun _ _ _ h => h))
    · refine stepL_plain rfl ?_
      rintro F a w1 jE ⟨h3, t19, h6, t22, -⟩ - K hK
      have h3 : (F 3) = .bool p1 := h3
      rw [h3] at t19
      clear h3
      have h6 : (F 6) = (if (p1) = true then .bool p2 else undef) := h6
      rw [h6] at t22
      clear h6
      cases p1
      all_goals
        go_simp
        exact hK _ _ jE rfl (fun _ _ _ h => h)
    · refine stepL_plain rfl ?_
      rintro F a w1 jE ⟨h7, t23, -⟩ - K hK
      have h7 : (F 7) = .bool (p1 && p2) := h7
      rw [h7] at t23
      clear h7
      go_simp
      exact hK _ _ jE rfl (fun _ _ _ h => h)
  · rintro F wb jE ⟨h8, -⟩
    have h8 : (F 8) = .bool (p1 && p2) := h8
    have hx := jE.ext (Ext.refl _) (by simp)
    replace Ba := Ba.ext hx
    replace Bb := Bb.ext hx
    replace Bl := Bl.ext hx
    replace E0 := E0.trans hx
    clear jE hx
    simp only [putL, Act.put, Nat.reduceAdd, Nat.zero_add, List.setIfInBounds_toArray, List.set_cons_succ, List.set_cons_zero]
    rw [h8]
    clear h8
    go_upto_region 2 with fail
    refine wp_region_lin (by kernel_rfl) (fun w' => (ExtX wb w' [])) (fun ii vv ww => match ii with | 0 => vv = (.agg #[.int .i64 ax, .int .i64 ay, .int .i64 aw, .int .i64 ah]) | 1 => vv = (.agg #[.int .i64 bx, .int .i64 bY, .int .i64 bw, .int .i64 bh]) | 2 => vv = .bool m | 3 => vv = (.agg #[.int .i64 bx, .int .i64 bY, .int .i64 bw, .int .i64 bh]) | 4 => vv = (.agg #[.int .i64 ax, .int .i64 ay, .int .i64 aw, .int .i64 ah]) | 5 => vv = .bool m | 6 => vv = .bool false | 7 => vv = .bool false | 8 => vv = (.agg #[.int .i64 ax, .int .i64 ay, .int .i64 aw, .int .i64 ah]) | 9 => vv = (.agg #[.int .i64 ax, .int .i64 ay, .int .i64 aw, .int .i64 ah]) | 10 => vv = .bool (p1 && p2) | 11 => vv = .bool (p1 && p2) | 12 => vv = .bool false | 13 => vv = .bool false | 14 => vv = .bool false | 15 => vv = (.agg #[.int .i64 ax, .int .i64 ay, .int .i64 aw, .int .i64 ah]) | 16 => vv = (.agg #[.int .i64 ax, .int .i64 ay, .int .i64 aw, .int .i64 ah]) | 17 => vv = .bool true | 18 => vv = .bool false | 19 => vv = .bool false | 20 => vv = .bool false | 21 => vv = (.agg #[.int .i64 ax, .int .i64 ay, .int .i64 aw, .int .i64 ah]) | 22 => vv = (.agg #[.int .i64 bx, .int .i64 bY, .int .i64 bw, .int .i64 bh]) | 23 => vv = .bool ib | 24 => vv = .bool ib | 25 => vv = (if (ib) = true then .bool (p1 && p2) else undef) | 26 => vv = .bool (ib && (p1 && p2)) | 27 => vv = .bool (ib && (p1 && p2)) | 28 => vv = (if ((ib && (p1 && p2))) = true then (.agg #[.int .i64 ax, .int .i64 ay, .int .i64 aw, .int .i64 ah]) else undef) | 29 => vv = (if ((ib && (p1 && p2))) = true then (.agg #[.int .i64 bx, .int .i64 bY, .int .i64 bw, .int .i64 bh]) else undef) | 30 => vv = (if ((ib && (p1 && p2))) = true then .bool true else undef) | 31 => vv = (if ((ib && (p1 && p2))) = true then .bool false else undef) | 32 => vv = .bool false | 33 => vv = .bool false | _ => True) (fun ii => match ii with | 2 => [(0, 24), (1, 25)] | 5 => [(3, 27), (4, 28)] | 6 => [(2, 26), (5, 29)] | 7 => [(6, 30)] | 8 => [(7, 31)] | 9 => [(7, 31)] | 10 => [(8, 32), (9, 33), (7, 31)] | 11 => [(7, 31)] | 12 => [(10, 34), (11, 35), (7, 31)] | 13 => [(7, 31), (12, 36)] | 14 => [(13, 37)] | 15 => [(14, 38)] | 16 => [(14, 38)] | 17 => [(15, 39), (16, 40), (14, 38)] | 18 => [(17, 41), (14, 38)] | 19 => [(14, 38), (18, 42)] | 20 => [(19, 43)] | 21 => [(20, 44)] | 22 => [(20, 44)] | 23 => [(21, 45), (22, 46), (20, 44)] | 24 => [(23, 47), (20, 44)] | 25 => [(24, 48)] | 26 => [(24, 48), (25, 49), (20, 44)] | 27 => [(26, 50), (20, 44)] | 28 => [(27, 51)] | 29 => [(27, 51)] | 30 => [(28, 52), (29, 53), (27, 51)] | 31 => [(30, 54), (27, 51)] | 32 => [(27, 51), (31, 55), (20, 44)] | 33 => [(20, 44), (32, 56)] | _ => []) (fun ii => match ii with | 0 => [3] | 1 => [4] | 3 => [4] | 4 => [3] | 8 => [3] | 9 => [3] | 11 => [7] | 15 => [3] | 16 => [3] | 21 => [3] | 22 => [4] | 25 => [7] | 28 => [3] | 29 => [4] | _ => []) (fun ii => match ii with | 0 => [1, 3, 4] | 1 => [0, 3, 4] | 2 => [3, 4] | 3 => [0, 1, 4, 2] | 4 => [0, 1, 3, 2] | 5 => [2] | 8 => [7, 9, 11] | 9 => [7, 8, 11] | 10 => [7, 11] | 11 => [7, 8, 9, 10] | 12 => [7] | 15 => [14, 16] | 16 => [14, 15] | 17 => [14] | 18 => [14] | 21 => [20, 22] | 22 => [20, 21] | 23 => [20] | 24 => [20] | 25 => [24, 20] | 26 => [20] | 27 => [20] | 28 => [27, 29, 20] | 29 => [27, 28, 20] | 30 => [27, 20] | 31 => [27, 20] | 32 => [20] | _ => []) [33] [0, 0, 3, 0, 0, 31, 63, 127, 255, 255, 1023, 255, 4095, 8191, 16383, 32767, 32767, 131071, 262143, 524287, 1048575, 2097151, 2097151, 8388607, 16777215, 33554431, 67108863, 134217727, 268435455, 268435455, 1073741823, 2147483647, 4294967295, 8589934591] 104 rfl (by kernel_rfl) (ExtX.start _ _) ?_ ?_
    · rename_i hcont; clear hcont
      refine ⟨?_, ?_, ?_, ?_, ?_, ?_, ?_, ?_, ?_, ?_, ?_, ?_, ?_, ?_, ?_, ?_, ?_, ?_, ?_, ?_, ?_, ?_, ?_, ?_, ?_, ?_, ?_, ?_, ?_, ?_, ?_, ?_, ?_, ?_, trivial⟩
      · refine stepL_plain rfl ?_
        rintro F a w1 jE - ⟨t3, -⟩ K hK
        have t3 : a.tmps[3]? = some (.pointer (some ⟨ga, 0, none⟩)) := t3
        have c := (jE.blk Ba (by simp)).cell
        go_simp
        exact hK _ _ jE rfl (fun _ _ _ h => h)
      · refine stepL_plain rfl ?_
        rintro F a w1 jE - ⟨t4, -⟩ K hK
        have t4 : a.tmps[4]? = some (.pointer (some ⟨(ga + 1), 0, none⟩)) := t4
        have c := (jE.blk Bb (by simp)).cell
        go_simp
        exact hK _ _ jE rfl (fun _ _ _ h => h)
      · refine stepL_plain rfl ?_
        rintro F a w1 jE ⟨h0, t24, h1, t25, -⟩ - K hK
        have h0 : (F 0) = (.agg #[.int .i64 ax, .int .i64 ay, .int .i64 aw, .int .i64 ah]) := h0
        rw [h0] at t24
        clear h0
        have h1 : (F 1) = (.agg #[.int .i64 bx, .int .i64 bY, .int .i64 bw, .int .i64 bh]) := h1
        rw [h1] at t25
        clear h1
        go_simp
        with_reducible refine (unhide (m1 _)).mono ?_
        rintro e w2 ⟨rfl, hx⟩
        exact hK _ _ (jE.trans hx) (rfl) (by intro jq hj uq h; have hj : jq ∈ [3, 4] := hj; simp only [List.mem_cons, List.not_mem_nil, or_false] at hj; rcases hj with rfl | rfl; exact h; exact h)
      · refine stepL_plain rfl ?_
        rintro F a w1 jE - ⟨t4, -⟩ K hK
        have t4 : a.tmps[4]? = some (.pointer (some ⟨(ga + 1), 0, none⟩)) := t4
        have c := (jE.blk Bb (by simp)).cell
        go_simp
        exact hK _ _ jE rfl (fun _ _ _ h => h)
      · refine stepL_plain rfl ?_
        rintro F a w1 jE - ⟨t3, -⟩ K hK
        have t3 : a.tmps[3]? = some (.pointer (some ⟨ga, 0, none⟩)) := t3
        have c := (jE.blk Ba (by simp)).cell
        go_simp
        exact hK _ _ jE rfl (fun _ _ _ h => h)
      · refine stepL_plain rfl ?_
        rintro F a w1 jE ⟨h3, t27, h4, t28, -⟩ - K hK
        have h3 : (F 3) = (.agg #[.int .i64 bx, .int .i64 bY, .int .i64 bw, .int .i64 bh]) := h3
        rw [h3] at t27
        clear h3
        have h4 : (F 4) = (.agg #[.int .i64 ax, .int .i64 ay, .int .i64 aw, .int .i64 ah]) := h4
        rw [h4] at t28
        clear h4
        go_simp
        with_reducible refine (unhide (m2 _)).mono ?_
        rintro e w2 ⟨rfl, hx⟩
        exact hK _ _ (jE.trans hx) (rfl) (by intro jq hj uq h; have hj : jq ∈ [2] := hj; simp only [List.mem_singleton] at hj; subst hj; exact h)
      · refine stepL_plain rfl ?_
        rintro F a w1 jE ⟨h2, t26, h5, t29, -⟩ - K hK
        have h2 : (F 2) = .bool m := h2
        rw [h2] at t26
        clear h2
        have h5 : (F 5) = .bool m := h5
        rw [h5] at t29
        clear h5
        go_simp
        exact hK _ _ jE rfl (fun _ _ _ h => h)
      · refine stepL_plain rfl ?_
        rintro F a w1 jE ⟨h6, t30, -⟩ - K hK
        have h6 : (F 6) = .bool false := h6
        rw [h6] at t30
        clear h6
        go_simp
        exact hK _ _ jE rfl (fun _ _ _ h => h)
      · refine stepL_of ?_
        rintro F a w1 jE ⟨h7, t31, -⟩ ⟨t3, -⟩ K hK
        have h7 : (F 7) = .bool false := h7
        rw [h7] at t31
        clear h7
        have t3 : a.tmps[3]? = some (.pointer (some ⟨ga, 0, none⟩)) := t3
        refine stepY ((wanted_of 7 false 31 _ rfl rfl t31).trans rfl) ?_
        have c := (jE.blk Ba (by simp)).cell
        go_simp
        exact hK _ _ jE rfl (fun _ _ _ h => h)
      · refine stepL_of ?_
        rintro F a w1 jE ⟨h7, t31, -⟩ ⟨t3, -⟩ K hK
        have h7 : (F 7) = .bool false := h7
        rw [h7] at t31
        clear h7
        have t3 : a.tmps[3]? = some (.pointer (some ⟨ga, 0, none⟩)) := t3
        refine stepY ((wanted_of 7 false 31 _ rfl rfl t31).trans rfl) ?_
        have c := (jE.blk Ba (by simp)).cell
        go_simp
        exact hK _ _ jE rfl (fun _ _ _ h => h)
      · refine stepL_of ?_
        rintro F a w1 jE ⟨h8, t32, h9, t33, h7, t31, -⟩ - K hK
        have h8 : (F 8) = (.agg #[.int .i64 ax, .int .i64 ay, .int .i64 aw, .int .i64 ah]) := h8
        rw [h8] at t32
        clear h8
        have h9 : (F 9) = (.agg #[.int .i64 ax, .int .i64 ay, .int .i64 aw, .int .i64 ah]) := h9
        rw [h9] at t33
        clear h9
        have h7 : (F 7) = .bool false := h7
        rw [h7] at t31
        clear h7
        refine stepY ((wanted_of 7 false 31 _ rfl rfl t31).trans rfl) ?_
        go_simp
        with_reducible refine (unhide (m3 _)).mono ?_
        rintro e w2 ⟨rfl, hx⟩
        exact hK _ _ (jE.trans hx) (rfl) (by intro jq hj uq h; have hj : jq ∈ [7, 11] := hj; simp only [List.mem_cons, List.not_mem_nil, or_false] at hj; rcases hj with rfl | rfl; exact h; exact h)
      · refine stepL_of ?_
        rintro F a w1 jE ⟨h7, t31, -⟩ ⟨t7, -⟩ K hK
        have h7 : (F 7) = .bool false := h7
        rw [h7] at t31
        clear h7
        have t7 : a.tmps[7]? = some (.bool (p1 && p2)) := t7
        refine stepY ((wanted_of 7 false 31 _ rfl rfl t31).trans rfl) ?_
        go_simp
        exact hK _ _ jE rfl (fun _ _ _ h => h)
      · refine stepL_of ?_
        rintro F a w1 jE ⟨h10, t34, h11, t35, h7, t31, -⟩ - K hK
        have h10 : (F 10) = .bool (p1 && p2) := h10
        rw [h10] at t34
        clear h10
        have h11 : (F 11) = .bool (p1 && p2) := h11
        rw [h11] at t35
        clear h11
        have h7 : (F 7) = .bool false := h7
        rw [h7] at t31
        clear h7
        refine stepY ((wanted_of 7 false 31 _ rfl rfl t31).trans rfl) ?_
        go_simp
        exact hK _ _ jE rfl (fun _ _ _ h => h)
      · refine stepL_plain rfl ?_
        rintro F a w1 jE ⟨h7, t31, h12, t36, -⟩ - K hK
        have h7 : (F 7) = .bool false := h7
        rw [h7] at t31
        clear h7
        have h12 : (F 12) = .bool false := h12
        rw [h12] at t36
        clear h12
        go_simp
        exact hK _ _ jE rfl (fun _ _ _ h => h)
      · refine stepL_plain rfl ?_
        rintro F a w1 jE ⟨h13, t37, -⟩ - K hK
        have h13 : (F 13) = .bool false := h13
        rw [h13] at t37
        clear h13
        go_simp
        exact hK _ _ jE rfl (fun _ _ _ h => h)
      · refine stepL_of ?_
        rintro F a w1 jE ⟨h14, t38, -⟩ ⟨t3, -⟩ K hK
        have h14 : (F 14) = .bool false := h14
        rw [h14] at t38
        clear h14
        have t3 : a.tmps[3]? = some (.pointer (some ⟨ga, 0, none⟩)) := t3
        refine stepY ((wanted_of 14 false 38 _ rfl rfl t38).trans rfl) ?_
        have c := (jE.blk Ba (by simp)).cell
        go_simp
        exact hK _ _ jE rfl (fun _ _ _ h => h)
      · refine stepL_of ?_
        rintro F a w1 jE ⟨h14, t38, -⟩ ⟨t3, -⟩ K hK
        have h14 : (F 14) = .bool false := h14
        rw [h14] at t38
        clear h14
        have t3 : a.tmps[3]? = some (.pointer (some ⟨ga, 0, none⟩)) := t3
        refine stepY ((wanted_of 14 false 38 _ rfl rfl t38).trans rfl) ?_
        have c := (jE.blk Ba (by simp)).cell
        go_simp
        exact hK _ _ jE rfl (fun _ _ _ h => h)
      · refine stepL_of ?_
        rintro F a w1 jE ⟨h15, t39, h16, t40, h14, t38, -⟩ - K hK
        have h15 : (F 15) = (.agg #[.int .i64 ax, .int .i64 ay, .int .i64 aw, .int .i64 ah]) := h15
        rw [h15] at t39
        clear h15
        have h16 : (F 16) = (.agg #[.int .i64 ax, .int .i64 ay, .int .i64 aw, .int .i64 ah]) := h16
        rw [h16] at t40
        clear h16
        have h14 : (F 14) = .bool false := h14
        rw [h14] at t38
        clear h14
        refine stepY ((wanted_of 14 false 38 _ rfl rfl t38).trans rfl) ?_
        go_simp
        with_reducible refine (unhide (i1 _)).mono ?_
        rintro e w2 ⟨rfl, hx⟩
        exact hK _ _ (jE.trans hx) (rfl) (by intro jq hj uq h; have hj : jq ∈ [14] := hj; simp only [List.mem_singleton] at hj; subst hj; exact h)
      · refine stepL_of ?_
        rintro F a w1 jE ⟨h17, t41, h14, t38, -⟩ - K hK
        have h17 : (F 17) = .bool true := h17
        rw [h17] at t41
        clear h17
        have h14 : (F 14) = .bool false := h14
        rw [h14] at t38
        clear h14
        refine stepY ((wanted_of 14 false 38 _ rfl rfl t38).trans rfl) ?_
        go_simp
        exact hK _ _ jE rfl (fun _ _ _ h => h)
      · refine stepL_plain rfl ?_
        rintro F a w1 jE ⟨h14, t38, h18, t42, -⟩ - K hK
        have h14 : (F 14) = .bool false := h14
        rw [h14] at t38
        clear h14
        have h18 : (F 18) = .bool false := h18
        rw [h18] at t42
        clear h18
        go_simp
        exact hK _ _ jE rfl (fun _ _ _ h => h)
      · refine stepL_plain rfl ?_
        rintro F a w1 jE ⟨h19, t43, -⟩ - K hK
        have h19 : (F 19) = .bool false := h19
        rw [h19] at t43
        clear h19
        go_simp
        exact hK _ _ jE rfl (fun _ _ _ h => h)
      · refine stepL_of ?_
        rintro F a w1 jE ⟨h20, t44, -⟩ ⟨t3, -⟩ K hK
        have h20 : (F 20) = .bool false := h20
        rw [h20] at t44
        clear h20
        have t3 : a.tmps[3]? = some (.pointer (some ⟨ga, 0, none⟩)) := t3
        refine stepY ((wanted_of 20 false 44 _ rfl rfl t44).trans rfl) ?_
        have c := (jE.blk Ba (by simp)).cell
        go_simp
        exact hK _ _ jE rfl (fun _ _ _ h => h)
      · refine stepL_of ?_
        rintro F a w1 jE ⟨h20, t44, -⟩ ⟨t4, -⟩ K hK
        have h20 : (F 20) = .bool false := h20
        rw [h20] at t44
        clear h20
        have t4 : a.tmps[4]? = some (.pointer (some ⟨(ga + 1), 0, none⟩)) := t4
        refine stepY ((wanted_of 20 false 44 _ rfl rfl t44).trans rfl) ?_
        have c := (jE.blk Bb (by simp)).cell
        go_simp
        exact hK _ _ jE rfl (fun _ _ _ h => h)
      · refine stepL_of ?_
        rintro F a w1 jE ⟨h21, t45, h22, t46, h20, t44, -⟩ - K hK
        have h21 : (F 21) = (.agg #[.int .i64 ax, .int .i64 ay, .int .i64 aw, .int .i64 ah]) := h21
        rw [h21] at t45
        clear h21
        have h22 : (F 22) = (.agg #[.int .i64 bx, .int .i64 bY, .int .i64 bw, .int .i64 bh]) := h22
        rw [h22] at t46
        clear h22
        have h20 : (F 20) = .bool false := h20
        rw [h20] at t44
        clear h20
        refine stepY ((wanted_of 20 false 44 _ rfl rfl t44).trans rfl) ?_
        go_simp
        with_reducible refine (unhide (i2 _)).mono ?_
        rintro e w2 ⟨rfl, hx⟩
        exact hK _ _ (jE.trans hx) (rfl) (by intro jq hj uq h; have hj : jq ∈ [20] := hj; simp only [List.mem_singleton] at hj; subst hj; exact h)
      · refine stepL_of ?_
        rintro F a w1 jE ⟨h23, t47, h20, t44, -⟩ - K hK
        have h23 : (F 23) = .bool ib := h23
        rw [h23] at t47
        clear h23
        have h20 : (F 20) = .bool false := h20
        rw [h20] at t44
        clear h20
        refine stepY ((wanted_of 20 false 44 _ rfl rfl t44).trans rfl) ?_
        go_simp
        exact hK _ _ jE rfl (fun _ _ _ h => h)
      · refine stepL_of ?_
        rintro F a w1 jE ⟨h24, t48, -⟩ ⟨t7, -⟩ K hK
        have h24 : (F 24) = .bool ib := h24
        rw [h24] at t48
        clear h24
        have t7 : a.tmps[7]? = some (.bool (p1 && p2)) := t7
        cases ib
        all_goals first
          | (exact stepN ((wanted_of 24 true 48 _ rfl rfl t48).trans rfl) (hK undef _ jE rfl (fun _ _ _ h => h)))
          | (exact stepN (wanted_undef 24 true 48 rfl rfl t48) (hK undef _ jE rfl (fun _ _ _ h => h)))
          | (refine stepY ((wanted_of 24 true 48 _ rfl rfl t48).trans rfl) ?_
             go_simp
             exact hK _ _ jE rfl (fun _ _ _ h => h))
      · refine stepL_of ?_
        rintro F a w1 jE ⟨h24, t48, h25, t49, h20, t44, -⟩ - K hK
        have h24 : (F 24) = .bool ib := h24
        rw [h24] at t48
        clear h24
        have h25 : (F 25) = (if (ib) = true then .bool (p1 && p2) else undef) := h25
        rw [h25] at t49
        clear h25
        have h20 : (F 20) = .bool false := h20
        rw [h20] at t44
        clear h20
        cases ib
        all_goals
          refine stepY ((wanted_of 20 false 44 _ rfl rfl t44).trans rfl) ?_
          go_simp
          exact hK _ _ jE rfl (fun _ _ _ h => h)
      · refine stepL_of ?_
        rintro F a w1 jE ⟨h26, t50, h20, t44, -⟩ - K hK
        have h26 : (F 26) = .bool (ib && (p1 && p2)) := h26
        rw [h26] at t50
        clear h26
        have h20 : (F 20) = .bool false := h20
        rw [h20] at t44
        clear h20
        refine stepY ((wanted_of 20 false 44 _ rfl rfl t44).trans rfl) ?_
        go_simp
        exact hK _ _ jE rfl (fun _ _ _ h => h)
      · refine stepL_of ?_
        rintro F a w1 jE ⟨h27, t51, -⟩ ⟨t3, -⟩ K hK
        have h27 : (F 27) = .bool (ib && (p1 && p2)) := h27
        rw [h27] at t51
        clear h27
        have t3 : a.tmps[3]? = some (.pointer (some ⟨ga, 0, none⟩)) := t3
        cases ib <;> cases p1 <;> cases p2
        all_goals first
          | (exact stepN ((wanted_of 27 true 51 _ rfl rfl t51).trans rfl) (hK undef _ jE rfl (fun _ _ _ h => h)))
          | (exact stepN (wanted_undef 27 true 51 rfl rfl t51) (hK undef _ jE rfl (fun _ _ _ h => h)))
          | (refine stepY ((wanted_of 27 true 51 _ rfl rfl t51).trans rfl) ?_
             have c := (jE.blk Ba (by simp)).cell
             go_simp
             exact hK _ _ jE rfl (fun _ _ _ h => h))
      · refine stepL_of ?_
        rintro F a w1 jE ⟨h27, t51, -⟩ ⟨t4, -⟩ K hK
        have h27 : (F 27) = .bool (ib && (p1 && p2)) := h27
        rw [h27] at t51
        clear h27
        have t4 : a.tmps[4]? = some (.pointer (some ⟨(ga + 1), 0, none⟩)) := t4
        cases ib <;> cases p1 <;> cases p2
        all_goals first
          | (exact stepN ((wanted_of 27 true 51 _ rfl rfl t51).trans rfl) (hK undef _ jE rfl (fun _ _ _ h => h)))
          | (exact stepN (wanted_undef 27 true 51 rfl rfl t51) (hK undef _ jE rfl (fun _ _ _ h => h)))
          | (refine stepY ((wanted_of 27 true 51 _ rfl rfl t51).trans rfl) ?_
             have c := (jE.blk Bb (by simp)).cell
             go_simp
             exact hK _ _ jE rfl (fun _ _ _ h => h))
      · refine stepL_of ?_
        rintro F a w1 jE ⟨h28, t52, h29, t53, h27, t51, -⟩ - K hK
        have h28 : (F 28) = (if ((ib && (p1 && p2))) = true then (.agg #[.int .i64 ax, .int .i64 ay, .int .i64 aw, .int .i64 ah]) else undef) := h28
        rw [h28] at t52
        clear h28
        have h29 : (F 29) = (if ((ib && (p1 && p2))) = true then (.agg #[.int .i64 bx, .int .i64 bY, .int .i64 bw, .int .i64 bh]) else undef) := h29
        rw [h29] at t53
        clear h29
        have h27 : (F 27) = .bool (ib && (p1 && p2)) := h27
        rw [h27] at t51
        clear h27
        cases ib <;> cases p1 <;> cases p2
        all_goals first
          | (exact stepN ((wanted_of 27 true 51 _ rfl rfl t51).trans rfl) (hK undef _ jE rfl (fun _ _ _ h => h)))
          | (exact stepN (wanted_undef 27 true 51 rfl rfl t51) (hK undef _ jE rfl (fun _ _ _ h => h)))
          | (refine stepY ((wanted_of 27 true 51 _ rfl rfl t51).trans rfl) ?_
             go_simp
             with_reducible refine (unhide (m4 rfl rfl rfl _)).mono ?_
             rintro e w2 ⟨rfl, hx⟩
             exact hK _ _ (jE.trans hx) (rfl) (by intro jq hj uq h; have hj : jq ∈ [27, 20] := hj; simp only [List.mem_cons, List.not_mem_nil, or_false] at hj; rcases hj with rfl | rfl; exact h; exact h))
      · refine stepL_of ?_
        rintro F a w1 jE ⟨h30, t54, h27, t51, -⟩ - K hK
        have h30 : (F 30) = (if ((ib && (p1 && p2))) = true then .bool true else undef) := h30
        rw [h30] at t54
        clear h30
        have h27 : (F 27) = .bool (ib && (p1 && p2)) := h27
        rw [h27] at t51
        clear h27
        cases ib <;> cases p1 <;> cases p2
        all_goals first
          | (exact stepN ((wanted_of 27 true 51 _ rfl rfl t51).trans rfl) (hK undef _ jE rfl (fun _ _ _ h => h)))
          | (exact stepN (wanted_undef 27 true 51 rfl rfl t51) (hK undef _ jE rfl (fun _ _ _ h => h)))
          | (refine stepY ((wanted_of 27 true 51 _ rfl rfl t51).trans rfl) ?_
             go_simp
             exact hK _ _ jE rfl (fun _ _ _ h => h))
      · refine stepL_of ?_
        rintro F a w1 jE ⟨h27, t51, h31, t55, h20, t44, -⟩ - K hK
        have h27 : (F 27) = .bool (ib && (p1 && p2)) := h27
        rw [h27] at t51
        clear h27
        have h31 : (F 31) = (if ((ib && (p1 && p2))) = true then .bool false else undef) := h31
        rw [h31] at t55
        clear h31
        have h20 : (F 20) = .bool false := h20
        rw [h20] at t44
        clear h20
        cases ib <;> cases p1 <;> cases p2
        all_goals
          refine stepY ((wanted_of 20 false 44 _ rfl rfl t44).trans rfl) ?_
          go_simp
          exact hK _ _ jE rfl (fun _ _ _ h => h)
      · refine stepL_plain rfl ?_
        rintro F a w1 jE ⟨h20, t44, h32, t56, -⟩ - K hK
        have h20 : (F 20) = .bool false := h20
        rw [h20] at t44
        clear h20
        have h32 : (F 32) = .bool false := h32
        rw [h32] at t56
        clear h32
        go_simp
        exact hK _ _ jE rfl (fun _ _ _ h => h)
    · rintro F wc jE ⟨h33, -⟩
      have h33 : (F 33) = .bool false := h33
      have hx := jE.ext (Ext.refl _) (by simp)
      replace Ba := Ba.ext hx
      replace Bl := Bl.ext hx
      replace E0 := E0.trans hx
      clear jE hx Bb m1 m2 m3 i1 i2 m4
      simp only [putL, Act.put, Nat.reduceAdd, Nat.zero_add, List.setIfInBounds_toArray, List.set_cons_succ, List.set_cons_zero]
      rw [h33]
      clear h33
      have dA := Ba.cell
      have zA := Ba.lt
      have dL : ∀ i : Nat, wc.cell? ⟨ga + 2, i, none⟩ = #[Value.int .i64 l.x, .int .i64 l.y, .int .i64 l.w, .int .i64 l.h][i]? := Bl.cell
      have zL := Bl.lt
      go_wp2_with fail
      refine (unhide (g1 _)).mono ?_
      rintro e w1 ⟨rfl, hx⟩
      replace Ba := Ba.ext hx
      replace Bl := Bl.ext hx
      replace E0 := E0.trans hx
      clear dA zA dL zL hx g1
      go_wp2_with fail
      have zg := Bl.lt
      have Br : Blk ((w1.alloc (.cells #[.int .i64 rx, .int .i64 ry, .int .i64 rw, .int .i64 rh] 33)).alloc (.cells #[.int .i64 0, .int .i64 0, .int .i64 0, .int .i64 0] 24)) w1.heap.size 33 #[.int .i64 rx, .int .i64 ry, .int .i64 rw, .int .i64 rh] := (Blk.new _ _ _).alloc _
      have Bk : Blk ((w1.alloc (.cells #[.int .i64 rx, .int .i64 ry, .int .i64 rw, .int .i64 rh] 33)).alloc (.cells #[.int .i64 0, .int .i64 0, .int .i64 0, .int .i64 0] 24)) (w1.heap.size + 1) 24 (negC l 0) := Blk.new1 _ _ _ _
      have hx : Ext w1 ((w1.alloc (.cells #[.int .i64 rx, .int .i64 ry, .int .i64 rw, .int .i64 rh] 33)).alloc (.cells #[.int .i64 0, .int .i64 0, .int .i64 0, .int .i64 0] 24)) := ((Ext.refl _).alloc _).alloc _
      have hlt := E0.size
      generalize (w1.alloc (.cells #[.int .i64 rx, .int .i64 ry, .int .i64 rw, .int .i64 rh] 33)).alloc (.cells #[.int .i64 0, .int .i64 0, .int .i64 0, .int .i64 0] 24) = w2 at *
      have E1 : Ext w w2 := E0.trans hx
      replace Ba := Ba.ext hx
      replace Bl := Bl.ext hx
      have zl := Ba.lt
      generalize hgr : w1.heap.size = gr at *
      clear hx E0 hgr
      go_loopw [11] (fun i wr => ∃ k : Nat, k ≤ 4 ∧ i = .int .i64 k ∧ Ext w wr ∧ Blk wr ga 33 #[.int .i64 ax, .int .i64 ay, .int .i64 aw, .int .i64 ah] ∧ Blk wr (ga + 2) 24 l.cs ∧ Blk wr gr 33 #[.int .i64 rx, .int .i64 ry, .int .i64 rw, .int .i64 rh] ∧ Blk wr (gr + 1) 24 (negC l k) ∧ ∀ i, i < k → l.nth i ≠ -9223372036854775808) (fun i _ => 4 - (intOf i).toNat)
      case atStart => exact ⟨0, by omega, rfl, E1, Ba, Bl, Br, Bk, fun i h => by omega⟩
      case round =>
        clear Ba Bl Br Bk E1 zl hlt w2
        obtain ⟨k, hk, rfl, E1, Ba, Bl, Br, Bk, hmin⟩ := hrel
        have HM := hide hmin
        clear hmin
        by_cases hk4 : k < 4
        · have hkI : (k : Int) < 4 := by omega
          have hkI0 : (0 : Int) ≤ (k : Int) := by omega
          have hc : wr.cell? ⟨ga + 2, k, none⟩ = some (.int .i64 (l.nth k)) := by rw [Bl.cell]; exact nth_cell l k hk4
          have hb := unhide HN k hk4
          generalize hZ : l.nth k = Z at *
          have HZ := hide hZ
          clear hZ
          by_cases hm : Z = -9223372036854775808
          · have hme : (Z == -9223372036854775808) = true := by simpa using hm
            have HM2 := hide hm
            clear hm
            go_wp2_with fail
            with_reducible refine (works_any _).mono ?_
            rintro e w3 ⟨rfl, hx⟩
            go_wp2_with fail
            go_ret
            exact ⟨rfl, E1.trans hx⟩
          · have hme : (Z == -9223372036854775808) = false := by simpa using hm
            have hw : wrap64 (-Z) = -Z := by simp [wrap64]; omega
            have hk2 : wr.cell? ⟨gr + 1, k, none⟩ = some (.int .i64 (negV l k k)) := by rw [Bk.cell]; exact neg_cell l k k hk4
            have fk := Bk.frozen
            have HM2 := hide hm
            have zr := Bk.lt
            have zga : w.heap.size ≤ ga := by have := unhide HGA; omega
            clear hm hb
            go_wp2_with fail
            go_roundw
            case rel =>
              refine ⟨k + 1, by omega, by go_num, E1.set (by simp; omega) _, Ba.far (by simp; omega) _, Bl.far (by simp; omega) _, Br.far (by simp) _, ?_, fun i hi => ?_⟩
              · have h := Bk.set_ k (.int .i64 (-Z))
                rw [← unhide HZ, negC_step l k hk4] at h
                rw [← unhide HZ]
                exact h
              · by_cases hik : i = k
                · subst hik; rw [unhide HZ]; exact unhide HM2
                · exact unhide HM i (by omega)
            case measure => simp [intOf]; omega
        · obtain rfl : k = 4 := by omega
          have hmin := unhide HM
          have g4 := g2 (hmin 0 (by omega)) (hmin 1 (by omega)) (hmin 2 (by omega)) (hmin 3 (by omega))
          have dR := Br.cell
          have zR := Br.lt
          have dK : ∀ i : Nat, wr.cell? ⟨gr + 1, i, none⟩ = #[.int .i64 (-l.x), .int .i64 (-l.y), .int .i64 (-l.w), .int .i64 (-l.h)][i]? := Bk.cell
          have zK := Bk.lt
          clear hmin g2
          go_wp2_with fail
          cases gb
          · obtain ⟨q1, q2⟩ := unhide HGB rfl
            rw [q1, q2] at g4
            clear q1 q2
            generalize growR ⟨ax, ay, aw, ah⟩ 0 0 0 0 = s at *
            generalize growB ⟨ax, ay, aw, ah⟩ 0 0 0 0 = f at *
            obtain ⟨sx, sy, sw, sh⟩ := s
            refine (unhide (g4 _)).mono ?_
            rintro e w3 ⟨rfl, hx⟩
            replace Ba := Ba.ext hx
            replace E1 := E1.trans hx
            clear dR zR dK zK hx g4
            have dA := Ba.cell
            have zA := Ba.lt
            go_wp2_with fail
            have Bs : Blk (w3.alloc (.cells #[.int .i64 sx, .int .i64 sy, .int .i64 sw, .int .i64 sh] 33)) w3.heap.size 33 #[.int .i64 sx, .int .i64 sy, .int .i64 sw, .int .i64 sh] := Blk.new _ _ _
            have E2 : Ext w (w3.alloc (.cells #[.int .i64 sx, .int .i64 sy, .int .i64 sw, .int .i64 sh] 33)) := E1.alloc _
            generalize hgs : w3.heap.size = gs at *
            generalize w3.alloc (.cells #[.int .i64 sx, .int .i64 sy, .int .i64 sw, .int .i64 sh] 33) = w4 at *
            refine (unhide (g3 _)).mono ?_
            rintro e w5 ⟨rfl, hx⟩
            replace Bs := Bs.ext hx
            replace E2 := E2.trans hx
            have dS := (Bs.alloc (.cells #[.int .i64 sx, .int .i64 sy, .int .i64 sw, .int .i64 sh] 33)).cell
            have zS := Bs.lt
            have heq := unhide (heq ⟨sx, sy, sw, sh⟩)
            have hff : (f == f) = true := by simp
            clear dA zA hx g3 hgs
            go_wp2_with fail
            refine (works_any _).mono ?_
            rintro e w6 ⟨rfl, hx⟩
            go_wp2_with fail
            go_ret
            exact ⟨rfl, (E2.alloc _).trans hx⟩
          · refine (unhide (g4 _)).mono ?_
            rintro e w3 ⟨rfl, hx⟩
            replace E1 := E1.trans hx
            clear dR zR dK zK hx g4
            go_wp2_with fail
            refine (works_any _).mono ?_
            rintro e w6 ⟨rfl, hx⟩
            go_wp2_with fail
            go_ret
            exact ⟨rfl, (E1.alloc _).trans hx⟩
end Go.Proofs.Ytphckjnmbbjenaa
