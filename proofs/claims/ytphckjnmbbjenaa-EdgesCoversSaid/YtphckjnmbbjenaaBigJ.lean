/- Numbers as lists of digits, seen as values that stand for a number; the reference's Some, Meet, Inside (walks). -/
import Derived.Test.YtphckjnmbbjenaaBigI
import Derived.Test.YtphckjnmbbjenaaEd
namespace Go.Proofs.Ytphckjnmbbjenaa
open Go.RowKit

/-- a value that stands for the number z, of at most k digits -/
def BigAt (w : World) (v : Value) (z : Int) (k : Nat) : Prop := ∃ m A c l, v = bigV m A l.length c ∧ Rd w 1 A l.length (bools l) ∧ bigZ m l = z ∧ l.length ≤ k
theorem BigAt.ext {w w' : World} {v : Value} {z : Int} {k : Nat} (h : BigAt w v z k) (hx : Ext w w') : BigAt w' v z k := by
  obtain ⟨m, A, c, l, h1, h2, h3⟩ := h
  exact ⟨m, A, c, l, h1, h2.ext hx, h3⟩
theorem BigAt.eq {w : World} {v : Value} {z z' : Int} {k : Nat} (h : BigAt w v z k) (e : z = z') : BigAt w v z' k := e ▸ h
def BigTo (w : World) (z : Int) (k : Nat) (e : Ending) (w' : World) : Prop := (∃ v, e = .returned v ∧ BigAt w' v z k) ∧ Ext w w'
theorem BigFr.to {w w' : World} {e : Ending} {z : Int} {k : Nat} (h : BigFr w (ZP z k) e w') : BigTo w z k e w' := by
  obtain ⟨m, A, c, l, rfl, hD, hZ, hx⟩ := h
  exact ⟨⟨_, rfl, m, A, c, l, rfl, hD.rd, hZ.1, hZ.2.2.2⟩, hx⟩
section
variable (w : World)
theorem of_at (x : Int) (h : -9223372036854775808 ≤ x ∧ x ≤ 9223372036854775807) : Calls Try.prog 32 #[.int .i64 x] w (BigTo w x 64) :=
  (of_any x h.1 h.2 w).mono fun _ _ ⟨m, A, c, l, h1, h2, _, _, h5, hx⟩ => ⟨⟨_, h1, m, A, c, l, rfl, h2, of_zs h5, h5.2.2⟩, hx⟩
theorem minus_at (x : Int) (h : -9223372036854775808 ≤ x ∧ x ≤ 9223372036854775807) : Calls Try.prog 33 #[.int .i64 x] w (BigTo w (-x) 130) :=
  (refminus_any x h.1 h.2 w).mono fun _ _ => BigFr.to
theorem add2_at (x y : Int) (h : -9223372036854775808 ≤ x ∧ x ≤ 9223372036854775807) (h' : -9223372036854775808 ≤ y ∧ y ≤ 9223372036854775807) : Calls Try.prog 34 #[.int .i64 x, .int .i64 y] w (BigTo w (x + y) 130) :=
  (refadd_any x y h.1 h.2 h'.1 h'.2 w).mono fun _ _ => BigFr.to
variable {w}
theorem add_at {u v : Value} {x y : Int} {k l : Nat} (h : BigAt w u x k) (h' : BigAt w v y l) (hk : k ≤ 9000) (hl : l ≤ 9000) : Calls Try.prog 31 #[u, v] w (BigTo w (x + y) (max k l + 1)) := by
  obtain ⟨m1, A1, c1, l1, rfl, R1, z1, k1⟩ := h
  obtain ⟨m2, A2, c2, l2, rfl, R2, z2, k2⟩ := h'
  refine (add_any m1 m2 A1 A2 l1.length c1 l2.length c2 l1 l2 w R1 R2 (by omega) (by omega)).mono fun e w' hh => ?_
  obtain ⟨⟨v, q1, m, A, c, l, q2, q3, q4, q5⟩, hx⟩ := BigFr.to hh
  exact ⟨⟨v, q1, m, A, c, l, q2, q3, by rw [q4, z1, z2], by omega⟩, hx⟩
theorem mul_at {u v : Value} {x y : Int} {k l : Nat} (h : BigAt w u x k) (h' : BigAt w v y l) (hk : k ≤ 9000) (hl : l ≤ 9000) : Calls Try.prog 51 #[u, v] w (BigTo w (x * y) (k + l + 1)) := by
  obtain ⟨m1, A1, c1, l1, rfl, R1, z1, k1⟩ := h
  obtain ⟨m2, A2, c2, l2, rfl, R2, z2, k2⟩ := h'
  refine (mul_any m1 m2 A1 A2 l1.length c1 l2.length c2 l1 l2 w R1 R2 (by omega) (by omega)).mono fun e w' hh => ?_
  obtain ⟨⟨v, q1, m, A, c, l, q2, q3, q4, q5⟩, hx⟩ := BigFr.to hh
  exact ⟨⟨v, q1, m, A, c, l, q2, q3, by rw [q4, z1, z2], by omega⟩, hx⟩
theorem lessZ_at {u v : Value} {x y : Int} {k l : Nat} {p : Bool} (hp : decide (x < y) = p) (h : BigAt w u x k) (h' : BigAt w v y l) (hk : k ≤ 9000) (hl : l ≤ 9000) : Calls Try.prog 52 #[u, v] w fun e w' => e = .returned (.bool p) ∧ Ext w w' := by
  obtain ⟨m1, A1, c1, l1, rfl, R1, z1, k1⟩ := h
  obtain ⟨m2, A2, c2, l2, rfl, R2, z2, k2⟩ := h'
  refine (bigless_any m1 m2 A1 A2 l1.length c1 l2.length c2 l1 l2 w R1 R2 (by omega) (by omega)).mono fun e w' hh => ?_
  rw [z1, z2, hp] at hh
  exact hh
theorem cut_at {u : Value} {x : Int} {k : Nat} (h : BigAt w u x k) (hk : k ≤ 9000) : Calls Try.prog 30 #[u] w fun e w' => e = .returned (.tuple #[.int .i64 (cutV x), .bool (cutB x)]) ∧ Ext w w' := by
  obtain ⟨m1, A1, c1, l1, rfl, R1, z1, k1⟩ := h
  have := refcut_any m1 A1 l1.length c1 l1 w R1 (by omega)
  rw [z1] at this
  exact this
end

set_option maxRecDepth 100000 in
set_option maxHeartbeats 8000000 in
theorem refmeet2_any (a n b m : Int) (ha : -9223372036854775808 ≤ a ∧ a ≤ 9223372036854775807) (hn : -9223372036854775808 ≤ n ∧ n ≤ 9223372036854775807) (hb : -9223372036854775808 ≤ b ∧ b ≤ 9223372036854775807) (hm : -9223372036854775808 ≤ m ∧ m ≤ 9223372036854775807) (w : World) :
    Calls Try.prog 38 #[.int .i64 a, .int .i64 n, .int .i64 b, .int .i64 m] w fun e w' => e = .returned (.bool (decide (a < b + m) && decide (b < a + n))) ∧ Ext w w' := by
  obtain ⟨p, hp⟩ : ∃ p, decide (a < b + m) = p := ⟨_, rfl⟩
  obtain ⟨q, hq⟩ : ∃ q, decide (b < a + n) = q := ⟨_, rfl⟩
  rw [hp, hq]
  have HP := hide hp
  have HQ := hide hq
  have HA := hide (And.intro ha hn)
  have HB := hide (And.intro hb hm)
  clear hp hq ha hn hb hm
  have E0 : Ext w w := Ext.refl _
  go_enter Try.func38, Try.ntmps38
  skip
  go_wp2_with fail
  with_reducible refine (of_at _ a (unhide HA).1).mono ?_
  rintro e w1 ⟨⟨v1, rfl, b1⟩, hx⟩
  replace E0 := E0.trans hx
  clear hx
  go_wp2_with fail
  with_reducible refine (add2_at _ b m (unhide HB).1 (unhide HB).2).mono ?_
  rintro e w2 ⟨⟨v2, rfl, b2⟩, hx⟩
  replace b1 := b1.ext hx
  replace E0 := E0.trans hx
  clear hx
  go_wp2_with fail
  with_reducible refine (lessZ_at (unhide HP) b1 b2 (by omega) (by omega)).mono ?_
  rintro e w3 ⟨rfl, hx⟩
  replace E0 := E0.trans hx
  clear hx
  clear b1 b2
  cases p
  · go_wp2_with fail
    go_ret
    exact ⟨rfl, E0⟩
  go_wp2_with fail
  with_reducible refine (of_at _ b (unhide HB).1).mono ?_
  rintro e w4 ⟨⟨v1, rfl, b1⟩, hx⟩
  replace E0 := E0.trans hx
  clear hx
  go_wp2_with fail
  with_reducible refine (add2_at _ a n (unhide HA).1 (unhide HA).2).mono ?_
  rintro e w5 ⟨⟨v2, rfl, b2⟩, hx⟩
  replace b1 := b1.ext hx
  replace E0 := E0.trans hx
  clear hx
  go_wp2_with fail
  with_reducible refine (lessZ_at (unhide HQ) b1 b2 (by omega) (by omega)).mono ?_
  rintro e w6 ⟨rfl, hx⟩
  replace E0 := E0.trans hx
  clear hx
  go_wp2_with fail
  go_ret
  exact ⟨rfl, E0⟩

set_option maxRecDepth 100000 in
set_option maxHeartbeats 8000000 in
theorem refinside2_any (a n b m : Int) (ha : -9223372036854775808 ≤ a ∧ a ≤ 9223372036854775807) (hn : -9223372036854775808 ≤ n ∧ n ≤ 9223372036854775807) (hb : -9223372036854775808 ≤ b ∧ b ≤ 9223372036854775807) (hm : -9223372036854775808 ≤ m ∧ m ≤ 9223372036854775807) (w : World) :
    Calls Try.prog 40 #[.int .i64 a, .int .i64 n, .int .i64 b, .int .i64 m] w fun e w' => e = .returned (.bool (decide (b ≤ a ∧ a + n ≤ b + m))) ∧ Ext w w' := by
  obtain ⟨p, hp⟩ : ∃ p, decide (b + m < a + n) = p := ⟨_, rfl⟩
  have he : decide (b ≤ a ∧ a + n ≤ b + m) = (decide (b ≤ a) && !p) := by rw [← hp]; by_cases h1 : b ≤ a <;> by_cases h2 : b + m < a + n <;> simp [h1, h2] <;> omega
  rw [he]
  have HP := hide hp
  have HA := hide (And.intro ha hn)
  have HB := hide (And.intro hb hm)
  clear hp he ha hn hb hm
  have E0 : Ext w w := Ext.refl _
  by_cases hab : b ≤ a
  · have hd : decide (b ≤ a) = true := by simpa using hab
    rw [hd]
    go_enter Try.func40, Try.ntmps40
    go_wp2_with fail
    with_reducible refine (add2_at _ b m (unhide HB).1 (unhide HB).2).mono ?_
    rintro e w1 ⟨⟨v1, rfl, b1⟩, hx⟩
    replace E0 := E0.trans hx
    clear hx
    go_wp2_with fail
    with_reducible refine (add2_at _ a n (unhide HA).1 (unhide HA).2).mono ?_
    rintro e w2 ⟨⟨v2, rfl, b2⟩, hx⟩
    replace b1 := b1.ext hx
    replace E0 := E0.trans hx
    clear hx
    go_wp2_with fail
    with_reducible refine (lessZ_at (unhide HP) b1 b2 (by omega) (by omega)).mono ?_
    rintro e w3 ⟨rfl, hx⟩
    replace E0 := E0.trans hx
    clear hx
    go_wp2_with fail
    go_ret
    exact ⟨rfl, E0⟩
  · have hd : decide (b ≤ a) = false := by simpa using hab
    rw [hd]
    go_enter Try.func40, Try.ntmps40
    go_wp2_with fail
    go_ret
    exact ⟨rfl, E0⟩

set_option maxHeartbeats 400000 in
theorem refsome_any (r : Rc) (w : World) : Calls Try.prog 37 #[.agg r.cs] w fun e w' => e = .returned (.bool r.some) ∧ Ext w w' := by
  obtain ⟨x, y, a, b⟩ := r
  by_cases ha : 0 < a
  · by_cases hb : 0 < b
    all_goals
      go_enter Try.func37, Try.ntmps37
      go_wp2
      go_ret
      exact ⟨ret1b (by simp [Rc.some]; omega), (Ext.refl _).alloc _⟩
  · go_enter Try.func37, Try.ntmps37
    go_wp2
    go_ret
    exact ⟨ret1b (by simp [Rc.some]; omega), (Ext.refl _).alloc _⟩

set_option maxRecDepth 100000 in
set_option maxHeartbeats 2000000 in
theorem refmeet_any (a b : Rc) (ha : a.Ok) (hb : b.Ok) (w : World) : Calls Try.prog 18 #[.agg a.cs, .agg b.cs] w fun e w' => e = .returned (.bool (meetB a b)) ∧ Ext w w' := by
  obtain ⟨x, y, p, q⟩ := a
  obtain ⟨x2, y2, p2, q2⟩ := b
  obtain ⟨a1, a2, a3, a4, a5, a6, a7, a8⟩ := ha
  obtain ⟨b1, b2, b3, b4, b5, b6, b7, b8⟩ := hb
  simp only at a1 a2 a3 a4 a5 a6 a7 a8 b1 b2 b3 b4 b5 b6 b7 b8
  have c1 := fun w => hide (refsome_any ⟨x, y, p, q⟩ w)
  have c2 := fun w => hide (refsome_any ⟨x2, y2, p2, q2⟩ w)
  have d1 := fun w => hide (refmeet2_any x p x2 p2 ⟨a1, a2⟩ ⟨a5, a6⟩ ⟨b1, b2⟩ ⟨b5, b6⟩ w)
  have d2 := fun w => hide (refmeet2_any y q y2 q2 ⟨a3, a4⟩ ⟨a7, a8⟩ ⟨b3, b4⟩ ⟨b7, b8⟩ w)
  have em : meetB ⟨x, y, p, q⟩ ⟨x2, y2, p2, q2⟩ = (Rc.some ⟨x, y, p, q⟩ && (Rc.some ⟨x2, y2, p2, q2⟩ && ((decide (x < x2 + p2) && decide (x2 < x + p)) && (decide (y < y2 + q2) && decide (y2 < y + q))))) := by unfold meetB; simp only [Bool.and_assoc]
  generalize Rc.some ⟨x, y, p, q⟩ = s1 at *
  generalize Rc.some ⟨x2, y2, p2, q2⟩ = s2 at *
  generalize (decide (x < x2 + p2) && decide (x2 < x + p)) = t1 at *
  generalize (decide (y < y2 + q2) && decide (y2 < y + q)) = t2 at *
  rw [em]
  clear em a1 a2 a3 a4 a5 a6 a7 a8 b1 b2 b3 b4 b5 b6 b7 b8
  go_enter Try.func18, Try.ntmps18
  go_wp2_with fail
  have Ba : Blk ((w.alloc (.cells #[.int .i64 x, .int .i64 y, .int .i64 p, .int .i64 q] 33)).alloc (.cells #[.int .i64 x2, .int .i64 y2, .int .i64 p2, .int .i64 q2] 33)) (w.heap.size) 33 #[.int .i64 x, .int .i64 y, .int .i64 p, .int .i64 q] := (Blk.new _ _ _).alloc _
  have Bb : Blk ((w.alloc (.cells #[.int .i64 x, .int .i64 y, .int .i64 p, .int .i64 q] 33)).alloc (.cells #[.int .i64 x2, .int .i64 y2, .int .i64 p2, .int .i64 q2] 33)) (w.heap.size + 1) 33 #[.int .i64 x2, .int .i64 y2, .int .i64 p2, .int .i64 q2] := Blk.new1 _ _ _ _
  have E0 : Ext w ((w.alloc (.cells #[.int .i64 x, .int .i64 y, .int .i64 p, .int .i64 q] 33)).alloc (.cells #[.int .i64 x2, .int .i64 y2, .int .i64 p2, .int .i64 q2] 33)) := ((Ext.refl _).alloc _).alloc _
  generalize ((w.alloc (.cells #[.int .i64 x, .int .i64 y, .int .i64 p, .int .i64 q] 33)).alloc (.cells #[.int .i64 x2, .int .i64 y2, .int .i64 p2, .int .i64 q2] 33)) = wa at *
  have Bac := Ba.cell
  have Bal := Ba.lt
  have Bbc := Bb.cell
  have Bbl := Bb.lt
  go_wp2_with fail
  with_reducible refine (unhide (c1 _)).mono ?_
  rintro e w1 ⟨rfl, hx⟩
  have B2 := Ba.ext hx
  have B3 := Bb.ext hx
  have E4 := E0.trans hx
  clear Bac Bal Bbc Bbl
  clear Ba Bb E0 hx
  have Bac := B2.cell
  have Bal := B2.lt
  have Bbc := B3.cell
  have Bbl := B3.lt
  cases s1
  · go_wp2_with fail
    go_ret
    exact ⟨rfl, E4⟩
  go_wp2_with fail
  with_reducible refine (unhide (c2 _)).mono ?_
  rintro e w5 ⟨rfl, hx⟩
  have B6 := B2.ext hx
  have B7 := B3.ext hx
  have E8 := E4.trans hx
  clear Bac Bal Bbc Bbl
  clear B2 B3 E4 hx
  have Bac := B6.cell
  have Bal := B6.lt
  have Bbc := B7.cell
  have Bbl := B7.lt
  cases s2
  · go_wp2_with fail
    go_ret
    exact ⟨rfl, E8⟩
  go_wp2_with fail
  with_reducible refine (unhide (d1 _)).mono ?_
  rintro e w9 ⟨rfl, hx⟩
  have B10 := B6.ext hx
  have B11 := B7.ext hx
  have E12 := E8.trans hx
  clear Bac Bal Bbc Bbl
  clear B6 B7 E8 hx
  have Bac := B10.cell
  have Bal := B10.lt
  have Bbc := B11.cell
  have Bbl := B11.lt
  cases t1
  · go_wp2_with fail
    go_ret
    exact ⟨rfl, E12⟩
  go_wp2_with fail
  with_reducible refine (unhide (d2 _)).mono ?_
  rintro e w13 ⟨rfl, hx⟩
  have B14 := B10.ext hx
  have B15 := B11.ext hx
  have E16 := E12.trans hx
  clear Bac Bal Bbc Bbl
  clear B10 B11 E12 hx
  have Bac := B14.cell
  have Bal := B14.lt
  have Bbc := B15.cell
  have Bbl := B15.lt
  go_wp2_with fail
  go_ret
  exact ⟨ret1b (by simp), E16⟩

set_option maxRecDepth 100000 in
set_option maxHeartbeats 2000000 in
theorem refinside_any (a b : Rc) (ha : a.Ok) (hb : b.Ok) (w : World) : Calls Try.prog 20 #[.agg a.cs, .agg b.cs] w fun e w' => e = .returned (.bool (insideB a b)) ∧ Ext w w' := by
  obtain ⟨x, y, p, q⟩ := a
  obtain ⟨x2, y2, p2, q2⟩ := b
  obtain ⟨a1, a2, a3, a4, a5, a6, a7, a8⟩ := ha
  obtain ⟨b1, b2, b3, b4, b5, b6, b7, b8⟩ := hb
  simp only at a1 a2 a3 a4 a5 a6 a7 a8 b1 b2 b3 b4 b5 b6 b7 b8
  have c1 := fun w => hide (refsome_any ⟨x, y, p, q⟩ w)
  have c2 := fun w => hide (refsome_any ⟨x2, y2, p2, q2⟩ w)
  have d1 := fun w => hide (refinside2_any x p x2 p2 ⟨a1, a2⟩ ⟨a5, a6⟩ ⟨b1, b2⟩ ⟨b5, b6⟩ w)
  have d2 := fun w => hide (refinside2_any y q y2 q2 ⟨a3, a4⟩ ⟨a7, a8⟩ ⟨b3, b4⟩ ⟨b7, b8⟩ w)
  have em : insideB ⟨x, y, p, q⟩ ⟨x2, y2, p2, q2⟩ = (!Rc.some ⟨x, y, p, q⟩ || (Rc.some ⟨x2, y2, p2, q2⟩ && decide (x2 ≤ x ∧ x + p ≤ x2 + p2) && decide (y2 ≤ y ∧ y + q ≤ y2 + q2))) := by rfl
  generalize Rc.some ⟨x, y, p, q⟩ = s1 at *
  generalize Rc.some ⟨x2, y2, p2, q2⟩ = s2 at *
  generalize decide (x2 ≤ x ∧ x + p ≤ x2 + p2) = t1 at *
  generalize decide (y2 ≤ y ∧ y + q ≤ y2 + q2) = t2 at *
  rw [em]
  clear em a1 a2 a3 a4 a5 a6 a7 a8 b1 b2 b3 b4 b5 b6 b7 b8
  go_enter Try.func20, Try.ntmps20
  go_wp2_with fail
  have Ba : Blk ((w.alloc (.cells #[.int .i64 x, .int .i64 y, .int .i64 p, .int .i64 q] 33)).alloc (.cells #[.int .i64 x2, .int .i64 y2, .int .i64 p2, .int .i64 q2] 33)) (w.heap.size) 33 #[.int .i64 x, .int .i64 y, .int .i64 p, .int .i64 q] := (Blk.new _ _ _).alloc _
  have Bb : Blk ((w.alloc (.cells #[.int .i64 x, .int .i64 y, .int .i64 p, .int .i64 q] 33)).alloc (.cells #[.int .i64 x2, .int .i64 y2, .int .i64 p2, .int .i64 q2] 33)) (w.heap.size + 1) 33 #[.int .i64 x2, .int .i64 y2, .int .i64 p2, .int .i64 q2] := Blk.new1 _ _ _ _
  have E0 : Ext w ((w.alloc (.cells #[.int .i64 x, .int .i64 y, .int .i64 p, .int .i64 q] 33)).alloc (.cells #[.int .i64 x2, .int .i64 y2, .int .i64 p2, .int .i64 q2] 33)) := ((Ext.refl _).alloc _).alloc _
  generalize ((w.alloc (.cells #[.int .i64 x, .int .i64 y, .int .i64 p, .int .i64 q] 33)).alloc (.cells #[.int .i64 x2, .int .i64 y2, .int .i64 p2, .int .i64 q2] 33)) = wa at *
  have Bac := Ba.cell
  have Bal := Ba.lt
  have Bbc := Bb.cell
  have Bbl := Bb.lt
  go_wp2_with fail
  with_reducible refine (unhide (c1 _)).mono ?_
  rintro e w1 ⟨rfl, hx⟩
  have B2 := Ba.ext hx
  have B3 := Bb.ext hx
  have E4 := E0.trans hx
  clear Bac Bal Bbc Bbl
  clear Ba Bb E0 hx
  have Bac := B2.cell
  have Bal := B2.lt
  have Bbc := B3.cell
  have Bbl := B3.lt
  cases s1
  · go_wp2_with fail
    go_ret
    exact ⟨rfl, E4⟩
  go_wp2_with fail
  with_reducible refine (unhide (c2 _)).mono ?_
  rintro e w5 ⟨rfl, hx⟩
  have B6 := B2.ext hx
  have B7 := B3.ext hx
  have E8 := E4.trans hx
  clear Bac Bal Bbc Bbl
  clear B2 B3 E4 hx
  have Bac := B6.cell
  have Bal := B6.lt
  have Bbc := B7.cell
  have Bbl := B7.lt
  cases s2
  · go_wp2_with fail
    go_ret
    exact ⟨rfl, E8⟩
  go_wp2_with fail
  with_reducible refine (unhide (d1 _)).mono ?_
  rintro e w9 ⟨rfl, hx⟩
  have B10 := B6.ext hx
  have B11 := B7.ext hx
  have E12 := E8.trans hx
  clear Bac Bal Bbc Bbl
  clear B6 B7 E8 hx
  have Bac := B10.cell
  have Bal := B10.lt
  have Bbc := B11.cell
  have Bbl := B11.lt
  cases t1
  · go_wp2_with fail
    go_ret
    exact ⟨rfl, E12⟩
  go_wp2_with fail
  with_reducible refine (unhide (d2 _)).mono ?_
  rintro e w13 ⟨rfl, hx⟩
  have B14 := B10.ext hx
  have B15 := B11.ext hx
  have E16 := E12.trans hx
  clear Bac Bal Bbc Bbl
  clear B10 B11 E12 hx
  have Bac := B14.cell
  have Bal := B14.lt
  have Bbc := B15.cell
  have Bbl := B15.lt
  go_wp2_with fail
  go_ret
  exact ⟨ret1b (by simp), E16⟩
end Go.Proofs.Ytphckjnmbbjenaa
