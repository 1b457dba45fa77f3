/- Layer 2: whether rectangles meet, whether one is inside another (walks). -/
import Derived.Test.YtphckjnmbbjenaaEd
namespace Go.Proofs.Ytphckjnmbbjenaa
open Go.RowKit

set_option maxRecDepth 100000 in
set_option maxHeartbeats 2000000 in
theorem meet_any (a b : Rc) (ha : a.Ok) (hb : b.Ok) (w : World) : Calls Try.prog 17 #[.agg a.cs, .agg b.cs] w fun e w' => e = .returned (.bool (meetB a b)) ∧ Ext w w' := by
  obtain ⟨x, y, p, q⟩ := a
  obtain ⟨x2, y2, p2, q2⟩ := b
  obtain ⟨a1, a2, a3, a4, a5, a6, a7, a8⟩ := ha
  obtain ⟨b1, b2, b3, b4, b5, b6, b7, b8⟩ := hb
  simp only at a1 a2 a3 a4 a5 a6 a7 a8 b1 b2 b3 b4 b5 b6 b7 b8
  have c1 := fun w => hide (some_any ⟨x, y, p, q⟩ w)
  have c2 := fun w => hide (some_any ⟨x2, y2, p2, q2⟩ w)
  have k1 : Rc.some ⟨x, y, p, q⟩ = true → 0 < p ∧ 0 < q := by simp [Rc.some]
  have k2 : Rc.some ⟨x2, y2, p2, q2⟩ = true → 0 < p2 ∧ 0 < q2 := by simp [Rc.some]
  have d1 := fun w (h : 0 < p2) => hide (starts_any x x2 p2 a1 a2 b1 b2 h b6 w)
  have d2 := fun w (h : 0 < p) => hide (starts_any x2 x p b1 b2 a1 a2 h a6 w)
  have d3 := fun w (h : 0 < q2) => hide (starts_any y y2 q2 a3 a4 b3 b4 h b8 w)
  have d4 := fun w (h : 0 < q) => hide (starts_any y2 y q b3 b4 a3 a4 h a8 w)
  have em : meetB ⟨x, y, p, q⟩ ⟨x2, y2, p2, q2⟩ = (Rc.some ⟨x, y, p, q⟩ && Rc.some ⟨x2, y2, p2, q2⟩ && decide (x < x2 + p2) && decide (x2 < x + p) && decide (y < y2 + q2) && decide (y2 < y + q)) := rfl
  generalize Rc.some ⟨x, y, p, q⟩ = s1 at *
  generalize Rc.some ⟨x2, y2, p2, q2⟩ = s2 at *
  generalize decide (x < x2 + p2) = t1 at *
  generalize decide (x2 < x + p) = t2 at *
  generalize decide (y < y2 + q2) = t3 at *
  generalize decide (y2 < y + q) = t4 at *
  rw [em]
  clear em a1 a2 a3 a4 a5 a6 a7 a8 b1 b2 b3 b4 b5 b6 b7 b8
  have K1 := hide k1
  have K2 := hide k2
  clear k1 k2
  go_enter Try.func17, Try.ntmps17
  go_wp2_with fail
  have Ba : Blk ((w.alloc (.cells #[.int .i64 x, .int .i64 y, .int .i64 p, .int .i64 q] 33)).alloc (.cells #[.int .i64 x2, .int .i64 y2, .int .i64 p2, .int .i64 q2] 33)) (w.heap.size) 33 #[.int .i64 x, .int .i64 y, .int .i64 p, .int .i64 q] := (Blk.new _ _ _).alloc _
  have Bb : Blk ((w.alloc (.cells #[.int .i64 x, .int .i64 y, .int .i64 p, .int .i64 q] 33)).alloc (.cells #[.int .i64 x2, .int .i64 y2, .int .i64 p2, .int .i64 q2] 33)) (w.heap.size + 1) 33 #[.int .i64 x2, .int .i64 y2, .int .i64 p2, .int .i64 q2] := Blk.new1 _ _ _ _
  have E0 : Ext w ((w.alloc (.cells #[.int .i64 x, .int .i64 y, .int .i64 p, .int .i64 q] 33)).alloc (.cells #[.int .i64 x2, .int .i64 y2, .int .i64 p2, .int .i64 q2] 33)) := ((Ext.refl _).alloc _).alloc _
  generalize ((w.alloc (.cells #[.int .i64 x, .int .i64 y, .int .i64 p, .int .i64 q] 33)).alloc (.cells #[.int .i64 x2, .int .i64 y2, .int .i64 p2, .int .i64 q2] 33)) = wa at *
  have Bac := Ba.cell
  have Bal := Ba.lt
  have Bbc := Bb.cell
  have Bbl := Bb.lt
  go_wp2_with fail
  with_reducible refine (unhide (c1 _)).mono ?_
  rintro e w1 ⟨rfl, hx⟩
  have B2 := Ba.ext hx
  have B3 := Bb.ext hx
  have E4 := E0.trans hx
  clear Bac Bal Bbc Bbl
  clear Ba Bb E0 hx
  have Bac := B2.cell
  have Bal := B2.lt
  have Bbc := B3.cell
  have Bbl := B3.lt
  cases s1
  · go_wp2_with fail
    go_ret
    exact ⟨rfl, E4⟩
  go_wp2_with fail
  with_reducible refine (unhide (c2 _)).mono ?_
  rintro e w5 ⟨rfl, hx⟩
  have B6 := B2.ext hx
  have B7 := B3.ext hx
  have E8 := E4.trans hx
  clear Bac Bal Bbc Bbl
  clear B2 B3 E4 hx
  have Bac := B6.cell
  have Bal := B6.lt
  have Bbc := B7.cell
  have Bbl := B7.lt
  cases s2
  · go_wp2_with fail
    go_ret
    exact ⟨rfl, E8⟩
  obtain ⟨h1, h2⟩ := unhide K1 (by trivial)
  obtain ⟨h3, h4⟩ := unhide K2 (by trivial)
  replace d1 := fun w => d1 w h3
  replace d2 := fun w => d2 w h1
  replace d3 := fun w => d3 w h4
  replace d4 := fun w => d4 w h2
  clear h1 h2 h3 h4
  go_wp2_with fail
  with_reducible refine (unhide (d1 _)).mono ?_
  rintro e w9 ⟨rfl, rfl⟩
  cases t1
  · go_wp2_with fail
    go_ret
    exact ⟨rfl, E8⟩
  go_wp2_with fail
  with_reducible refine (unhide (d2 _)).mono ?_
  rintro e w10 ⟨rfl, rfl⟩
  cases t2
  · go_wp2_with fail
    go_ret
    exact ⟨rfl, E8⟩
  go_wp2_with fail
  with_reducible refine (unhide (d3 _)).mono ?_
  rintro e w11 ⟨rfl, rfl⟩
  cases t3
  · go_wp2_with fail
    go_ret
    exact ⟨rfl, E8⟩
  go_wp2_with fail
  with_reducible refine (unhide (d4 _)).mono ?_
  rintro e w12 ⟨rfl, rfl⟩
  go_wp2_with fail
  go_ret
  exact ⟨ret1b (by simp), E8⟩

set_option maxRecDepth 100000 in
set_option maxHeartbeats 2000000 in
theorem inside_any (a b : Rc) (ha : a.Ok) (hb : b.Ok) (w : World) : Calls Try.prog 19 #[.agg a.cs, .agg b.cs] w fun e w' => e = .returned (.bool (insideB a b)) ∧ Ext w w' := by
  obtain ⟨x, y, p, q⟩ := a
  obtain ⟨x2, y2, p2, q2⟩ := b
  obtain ⟨a1, a2, a3, a4, a5, a6, a7, a8⟩ := ha
  obtain ⟨b1, b2, b3, b4, b5, b6, b7, b8⟩ := hb
  simp only at a1 a2 a3 a4 a5 a6 a7 a8 b1 b2 b3 b4 b5 b6 b7 b8
  have c1 := fun w => hide (some_any ⟨x, y, p, q⟩ w)
  have c2 := fun w => hide (some_any ⟨x2, y2, p2, q2⟩ w)
  have k1 : Rc.some ⟨x, y, p, q⟩ = true → 0 < p ∧ 0 < q := by simp [Rc.some]
  have k2 : Rc.some ⟨x2, y2, p2, q2⟩ = true → 0 < p2 ∧ 0 < q2 := by simp [Rc.some]
  have d1 := fun w (h : 0 < p2) (h' : 0 < p) => hide (holds_any x2 p2 x p a1 a2 b1 b2 h b6 h' a6 w)
  have d2 := fun w (h : 0 < q2) (h' : 0 < q) => hide (holds_any y2 q2 y q a3 a4 b3 b4 h b8 h' a8 w)
  have em : insideB ⟨x, y, p, q⟩ ⟨x2, y2, p2, q2⟩ = (!Rc.some ⟨x, y, p, q⟩ || (Rc.some ⟨x2, y2, p2, q2⟩ && decide (x2 ≤ x ∧ x + p ≤ x2 + p2) && decide (y2 ≤ y ∧ y + q ≤ y2 + q2))) := rfl
  generalize Rc.some ⟨x, y, p, q⟩ = s1 at *
  generalize Rc.some ⟨x2, y2, p2, q2⟩ = s2 at *
  generalize decide (x2 ≤ x ∧ x + p ≤ x2 + p2) = t1 at *
  generalize decide (y2 ≤ y ∧ y + q ≤ y2 + q2) = t2 at *
  rw [em]
  clear em a1 a2 a3 a4 a5 a6 a7 a8 b1 b2 b3 b4 b5 b6 b7 b8
  have K1 := hide k1
  have K2 := hide k2
  clear k1 k2
  go_enter Try.func19, Try.ntmps19
  go_wp2_with fail
  have Ba : Blk ((w.alloc (.cells #[.int .i64 x, .int .i64 y, .int .i64 p, .int .i64 q] 33)).alloc (.cells #[.int .i64 x2, .int .i64 y2, .int .i64 p2, .int .i64 q2] 33)) (w.heap.size) 33 #[.int .i64 x, .int .i64 y, .int .i64 p, .int .i64 q] := (Blk.new _ _ _).alloc _
  have Bb : Blk ((w.alloc (.cells #[.int .i64 x, .int .i64 y, .int .i64 p, .int .i64 q] 33)).alloc (.cells #[.int .i64 x2, .int .i64 y2, .int .i64 p2, .int .i64 q2] 33)) (w.heap.size + 1) 33 #[.int .i64 x2, .int .i64 y2, .int .i64 p2, .int .i64 q2] := Blk.new1 _ _ _ _
  have E0 : Ext w ((w.alloc (.cells #[.int .i64 x, .int .i64 y, .int .i64 p, .int .i64 q] 33)).alloc (.cells #[.int .i64 x2, .int .i64 y2, .int .i64 p2, .int .i64 q2] 33)) := ((Ext.refl _).alloc _).alloc _
  generalize ((w.alloc (.cells #[.int .i64 x, .int .i64 y, .int .i64 p, .int .i64 q] 33)).alloc (.cells #[.int .i64 x2, .int .i64 y2, .int .i64 p2, .int .i64 q2] 33)) = wa at *
  have Bac := Ba.cell
  have Bal := Ba.lt
  have Bbc := Bb.cell
  have Bbl := Bb.lt
  go_wp2_with fail
  with_reducible refine (unhide (c1 _)).mono ?_
  rintro e w1 ⟨rfl, hx⟩
  have B2 := Ba.ext hx
  have B3 := Bb.ext hx
  have E4 := E0.trans hx
  clear Bac Bal Bbc Bbl
  clear Ba Bb E0 hx
  have Bac := B2.cell
  have Bal := B2.lt
  have Bbc := B3.cell
  have Bbl := B3.lt
  cases s1
  · go_wp2_with fail
    go_ret
    exact ⟨rfl, E4⟩
  go_wp2_with fail
  with_reducible refine (unhide (c2 _)).mono ?_
  rintro e w5 ⟨rfl, hx⟩
  have B6 := B2.ext hx
  have B7 := B3.ext hx
  have E8 := E4.trans hx
  clear Bac Bal Bbc Bbl
  clear B2 B3 E4 hx
  have Bac := B6.cell
  have Bal := B6.lt
  have Bbc := B7.cell
  have Bbl := B7.lt
  cases s2
  · go_wp2_with fail
    go_ret
    exact ⟨rfl, E8⟩
  obtain ⟨h1, h2⟩ := unhide K1 (by trivial)
  obtain ⟨h3, h4⟩ := unhide K2 (by trivial)
  replace d1 := fun w => d1 w h3 h1
  replace d2 := fun w => d2 w h4 h2
  clear h1 h2 h3 h4
  go_wp2_with fail
  with_reducible refine (unhide (d1 _)).mono ?_
  rintro e w9 ⟨rfl, rfl⟩
  cases t1
  · go_wp2_with fail
    go_ret
    exact ⟨rfl, E8⟩
  go_wp2_with fail
  with_reducible refine (unhide (d2 _)).mono ?_
  rintro e w10 ⟨rfl, rfl⟩
  go_wp2_with fail
  go_ret
  exact ⟨ret1b (by simp), E8⟩
end Go.Proofs.Ytphckjnmbbjenaa
