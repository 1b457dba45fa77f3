/- Layer 2: the law on rectangles that are moved (walk). -/
import Derived.Test.YtphckjnmbbjenaaEdL
import Derived.Test.YtphckjnmbbjenaaLinG
import Derived.Test.YtphckjnmbbjenaaLaw
namespace Go.Proofs.Ytphckjnmbbjenaa
open Go.RowKit

theorem eq_self (r : Rc) (w : World) : (Op.equalIn 10000 33 (.agg r.cs) (.agg r.cs)).run Try.prog w = .ok true w := by
  rw [eq_rect]; simp
theorem cov2_near {a b : Rc} (Na : a.Near 1073741824) (Nb : b.Near 1073741824) : (cov2 a b).Near 17179869184 := by
  obtain ⟨q1, q2, q3, q4, q5, q6, q7, q8⟩ := Na
  obtain ⟨r1, r2, r3, r4, r5, r6, r7, r8⟩ := Nb
  unfold cov2
  split
  · split
    · constructor <;> simp only [joinR] <;> omega
    · constructor <;> omega
  · split
    · constructor <;> omega
    · constructor <;> simp
/-- a law whose first test says: nothing to be shown -/
theorem moved_far (a b : Rc) (dx dy : Int) (h : nearB a = false ∨ nearB b = false) (w : World) :
    Calls Try.prog 8 #[.agg a.cs, .agg b.cs, .int .i32 dx, .int .i32 dy] w fun e w' => e = .returned (.bool true) ∧ Ext w w' := by
  have c1 := fun w => hide (near_any a w)
  have c2 := fun w => hide (near_any b w)
  obtain ⟨ax, ay, aw, ah⟩ := a
  obtain ⟨bx, bY, bw, bh⟩ := b
  generalize nearB ⟨ax, ay, aw, ah⟩ = n1 at *
  generalize nearB ⟨bx, bY, bw, bh⟩ = n2 at *
  cases n1
  · go_enter Try.func8, Try.ntmps8
    go_wp2_with fail
    have Ba : Blk ((w.alloc (.cells #[.int .i64 ax, .int .i64 ay, .int .i64 aw, .int .i64 ah] 33)).alloc (.cells #[.int .i64 bx, .int .i64 bY, .int .i64 bw, .int .i64 bh] 33)) w.heap.size 33 #[.int .i64 ax, .int .i64 ay, .int .i64 aw, .int .i64 ah] := (Blk.new _ _ _).alloc _
    have Bb : Blk ((w.alloc (.cells #[.int .i64 ax, .int .i64 ay, .int .i64 aw, .int .i64 ah] 33)).alloc (.cells #[.int .i64 bx, .int .i64 bY, .int .i64 bw, .int .i64 bh] 33)) (w.heap.size + 1) 33 #[.int .i64 bx, .int .i64 bY, .int .i64 bw, .int .i64 bh] := Blk.new1 _ _ _ _
    have E0 : Ext w ((w.alloc (.cells #[.int .i64 ax, .int .i64 ay, .int .i64 aw, .int .i64 ah] 33)).alloc (.cells #[.int .i64 bx, .int .i64 bY, .int .i64 bw, .int .i64 bh] 33)) := ((Ext.refl _).alloc _).alloc _
    generalize (w.alloc (.cells #[.int .i64 ax, .int .i64 ay, .int .i64 aw, .int .i64 ah] 33)).alloc (.cells #[.int .i64 bx, .int .i64 bY, .int .i64 bw, .int .i64 bh] 33) = wa at *
    generalize hga : w.heap.size = ga at *
    have HGA := hide hga
    clear hga
    have Bac := Ba.cell
    have Bal := Ba.lt
    have Bbc := Bb.cell
    have Bbl := Bb.lt
    go_wp2_with fail
    with_reducible refine (unhide (c1 _)).mono ?_
    rintro e w1 ⟨rfl, hx⟩
    have B2 := Ba.ext hx
    have B3 := Bb.ext hx
    have E4 := E0.trans hx
    clear Bac Bal Bbc Bbl
    clear Ba Bb E0 hx
    have Bac := B2.cell
    have Bal := B2.lt
    have Bbc := B3.cell
    have Bbl := B3.lt
    go_wp2_with fail
    with_reducible refine (works_any _).mono ?_
    rintro e w5 ⟨rfl, hx⟩
    have B6 := B2.ext hx
    have B7 := B3.ext hx
    have E8 := E4.trans hx
    clear Bac Bal Bbc Bbl
    clear B2 B3 E4 hx
    have Bac := B6.cell
    have Bal := B6.lt
    have Bbc := B7.cell
    have Bbl := B7.lt
    go_wp2_with fail
    go_ret
    exact ⟨rfl, E8⟩
  · have h2 : n2 = false := by simpa using h
    subst h2
    go_enter Try.func8, Try.ntmps8
    go_wp2_with fail
    have Ba : Blk ((w.alloc (.cells #[.int .i64 ax, .int .i64 ay, .int .i64 aw, .int .i64 ah] 33)).alloc (.cells #[.int .i64 bx, .int .i64 bY, .int .i64 bw, .int .i64 bh] 33)) w.heap.size 33 #[.int .i64 ax, .int .i64 ay, .int .i64 aw, .int .i64 ah] := (Blk.new _ _ _).alloc _
    have Bb : Blk ((w.alloc (.cells #[.int .i64 ax, .int .i64 ay, .int .i64 aw, .int .i64 ah] 33)).alloc (.cells #[.int .i64 bx, .int .i64 bY, .int .i64 bw, .int .i64 bh] 33)) (w.heap.size + 1) 33 #[.int .i64 bx, .int .i64 bY, .int .i64 bw, .int .i64 bh] := Blk.new1 _ _ _ _
    have E0 : Ext w ((w.alloc (.cells #[.int .i64 ax, .int .i64 ay, .int .i64 aw, .int .i64 ah] 33)).alloc (.cells #[.int .i64 bx, .int .i64 bY, .int .i64 bw, .int .i64 bh] 33)) := ((Ext.refl _).alloc _).alloc _
    generalize (w.alloc (.cells #[.int .i64 ax, .int .i64 ay, .int .i64 aw, .int .i64 ah] 33)).alloc (.cells #[.int .i64 bx, .int .i64 bY, .int .i64 bw, .int .i64 bh] 33) = wa at *
    generalize hga : w.heap.size = ga at *
    have HGA := hide hga
    clear hga
    have Bac := Ba.cell
    have Bal := Ba.lt
    have Bbc := Bb.cell
    have Bbl := Bb.lt
    go_wp2_with fail
    with_reducible refine (unhide (c1 _)).mono ?_
    rintro e w1 ⟨rfl, hx⟩
    have B2 := Ba.ext hx
    have B3 := Bb.ext hx
    have E4 := E0.trans hx
    clear Bac Bal Bbc Bbl
    clear Ba Bb E0 hx
    have Bac := B2.cell
    have Bal := B2.lt
    have Bbc := B3.cell
    have Bbl := B3.lt
    go_wp2_with fail
    with_reducible refine (unhide (c2 _)).mono ?_
    rintro e w5 ⟨rfl, hx⟩
    have B6 := B2.ext hx
    have B7 := B3.ext hx
    have E8 := E4.trans hx
    clear Bac Bal Bbc Bbl
    clear B2 B3 E4 hx
    have Bac := B6.cell
    have Bal := B6.lt
    have Bbc := B7.cell
    have Bbl := B7.lt
    go_wp2_with fail
    with_reducible refine (works_any _).mono ?_
    rintro e w9 ⟨rfl, hx⟩
    have B10 := B6.ext hx
    have B11 := B7.ext hx
    have E12 := E8.trans hx
    clear Bac Bal Bbc Bbl
    clear B6 B7 E8 hx
    have Bac := B10.cell
    have Bal := B10.lt
    have Bbc := B11.cell
    have Bbl := B11.lt
    go_wp2_with fail
    go_ret
    exact ⟨rfl, E12⟩

set_option maxRecDepth 100000 in
set_option maxHeartbeats 8000000 in
theorem moved_some_ (a b : Rc) (dx dy : Int) (h1 : -2147483648 ≤ dx ∧ dx ≤ 2147483647) (h2 : -2147483648 ≤ dy ∧ dy ≤ 2147483647) (na : nearB a = true) (nb : nearB b = true) (hs : (a.some || b.some) = true) (w : World) :
    Calls Try.prog 8 #[.agg a.cs, .agg b.cs, .int .i32 dx, .int .i32 dy] w fun e w' => e = .returned (.bool true) ∧ Ext w w' := by
  have Na := near_of na
  have Nb := near_of nb
  have c1 := fun w => hide (by have := near_any a w; rwa [na] at this)
  have c2 := fun w => hide (by have := near_any b w; rwa [nb] at this)
  have ca := fun w => hide (moved_any a dx dy (Na.mono (by omega)) h1 h2 w)
  have cb := fun w => hide (moved_any b dx dy (Nb.mono (by omega)) h1 h2 w)
  have Nc : (movedR a dx dy).Near 4294967296 := by obtain ⟨q1, q2, q3, q4, q5, q6, q7, q8⟩ := Na; constructor <;> simp only [movedR] <;> omega
  have Nd : (movedR b dx dy).Near 4294967296 := by obtain ⟨q1, q2, q3, q4, q5, q6, q7, q8⟩ := Nb; constructor <;> simp only [movedR] <;> omega
  have m1 := fun w => hide (meet_any a b (Na.ok (by omega)) (Nb.ok (by omega)) w)
  have m2 := fun w => hide (by have := meet_any (movedR a dx dy) (movedR b dx dy) (Nc.ok (by omega)) (Nd.ok (by omega)) w; rwa [moved_meet] at this)
  have i1 := fun w => hide (inside_any a b (Na.ok (by omega)) (Nb.ok (by omega)) w)
  have i2 := fun w => hide (by have := inside_any (movedR a dx dy) (movedR b dx dy) (Nc.ok (by omega)) (Nd.ok (by omega)) w; rwa [moved_inside] at this)
  have j1 := fun w => hide (inside_any b a (Nb.ok (by omega)) (Na.ok (by omega)) w)
  have j2 := fun w => hide (by have := inside_any (movedR b dx dy) (movedR a dx dy) (Nd.ok (by omega)) (Nc.ok (by omega)) w; rwa [moved_inside] at this)
  have k1 := fun g t w (h : Blk w g t #[.int .i64 a.x, .int .i64 a.y, .int .i64 a.w, .int .i64 a.h, .int .i64 b.x, .int .i64 b.y, .int .i64 b.w, .int .i64 b.h]) => hide (by
    have := cover_any (some ⟨g, 0, none⟩) 2 2 [a, b] w (h.rd4 rfl) (by intro r hr; simp at hr; rcases hr with rfl | rfl; exact Na.ok (by omega); exact Nb.ok (by omega)) (by omega)
    rwa [(cover2 a b (Na.mono (by omega)) (Nb.mono (by omega))).1, (cover2 a b (Na.mono (by omega)) (Nb.mono (by omega))).2] at this)
  have k2 := fun g t w (h : Blk w g t #[.int .i64 (movedR a dx dy).x, .int .i64 (movedR a dx dy).y, .int .i64 (movedR a dx dy).w, .int .i64 (movedR a dx dy).h, .int .i64 (movedR b dx dy).x, .int .i64 (movedR b dx dy).y, .int .i64 (movedR b dx dy).w, .int .i64 (movedR b dx dy).h]) => hide (by
    have := cover_any (some ⟨g, 0, none⟩) 2 2 [movedR a dx dy, movedR b dx dy] w (h.rd4 rfl) (by intro r hr; simp at hr; rcases hr with rfl | rfl; exact Nc.ok (by omega); exact Nd.ok (by omega)) (by omega)
    rwa [(cover2 _ _ (Nc.mono (by omega)) (Nd.mono (by omega))).1, (cover2 _ _ (Nc.mono (by omega)) (Nd.mono (by omega))).2] at this)
  have hor : a.some = true ∨ b.some = true := by simpa using hs
  rw [moved_cov a b dx dy hor] at k2
  have hx := cov2_some a b
  rw [hs] at hx
  obtain ⟨hw, hh⟩ := some_t hx
  have Nx := cov2_near Na Nb
  have cx := fun w => hide (moved_any (cov2 a b) dx dy Nx h1 h2 w)
  clear hor hx Nx
  have heq := eq_self
  clear na nb hs h1 h2 Na Nb Nc Nd
  generalize meetB a b = m at *
  generalize insideB a b = i at *
  generalize insideB b a = j at *
  generalize cov2 a b = x at *
  generalize movedR x dx dy = y at *
  generalize movedR a dx dy = c at *
  generalize movedR b dx dy = d at *
  obtain ⟨ax, ay, aw, ah⟩ := a
  obtain ⟨bx, bY, bw, bh⟩ := b
  obtain ⟨cx', cy, cw, ch⟩ := c
  obtain ⟨dx', dY, dw, dh⟩ := d
  obtain ⟨xx, xy, xw, xh⟩ := x
  obtain ⟨yx, yy, yw, yh⟩ := y
  simp only at hw hh
  go_enter Try.func8, Try.ntmps8
  go_wp2_with fail
  have Ba : Blk ((w.alloc (.cells #[.int .i64 ax, .int .i64 ay, .int .i64 aw, .int .i64 ah] 33)).alloc (.cells #[.int .i64 bx, .int .i64 bY, .int .i64 bw, .int .i64 bh] 33)) w.heap.size 33 #[.int .i64 ax, .int .i64 ay, .int .i64 aw, .int .i64 ah] := (Blk.new _ _ _).alloc _
  have Bb : Blk ((w.alloc (.cells #[.int .i64 ax, .int .i64 ay, .int .i64 aw, .int .i64 ah] 33)).alloc (.cells #[.int .i64 bx, .int .i64 bY, .int .i64 bw, .int .i64 bh] 33)) (w.heap.size + 1) 33 #[.int .i64 bx, .int .i64 bY, .int .i64 bw, .int .i64 bh] := Blk.new1 _ _ _ _
  have E0 : Ext w ((w.alloc (.cells #[.int .i64 ax, .int .i64 ay, .int .i64 aw, .int .i64 ah] 33)).alloc (.cells #[.int .i64 bx, .int .i64 bY, .int .i64 bw, .int .i64 bh] 33)) := ((Ext.refl _).alloc _).alloc _
  generalize (w.alloc (.cells #[.int .i64 ax, .int .i64 ay, .int .i64 aw, .int .i64 ah] 33)).alloc (.cells #[.int .i64 bx, .int .i64 bY, .int .i64 bw, .int .i64 bh] 33) = wa at *
  generalize hga : w.heap.size = ga at *
  have HGA := hide hga
  clear hga
  have Bac := Ba.cell
  have Bal := Ba.lt
  have Bbc := Bb.cell
  have Bbl := Bb.lt
  go_wp2_with fail
  with_reducible refine (unhide (c1 _)).mono ?_
  rintro e w1 ⟨rfl, hx⟩
  have B2 := Ba.ext hx
  have B3 := Bb.ext hx
  have E4 := E0.trans hx
  clear Bac Bal Bbc Bbl
  clear Ba Bb E0 hx
  have Bac := B2.cell
  have Bal := B2.lt
  have Bbc := B3.cell
  have Bbl := B3.lt
  go_wp2_with fail
  with_reducible refine (unhide (c2 _)).mono ?_
  rintro e w5 ⟨rfl, hx⟩
  have B6 := B2.ext hx
  have B7 := B3.ext hx
  have E8 := E4.trans hx
  clear Bac Bal Bbc Bbl
  clear B2 B3 E4 hx
  have Bac := B6.cell
  have Bal := B6.lt
  have Bbc := B7.cell
  have Bbl := B7.lt
  go_wp2_with fail
  with_reducible refine (unhide (ca _)).mono ?_
  rintro e w9 ⟨rfl, hx⟩
  have B10 := B6.ext hx
  have B11 := B7.ext hx
  have E12 := E8.trans hx
  clear Bac Bal Bbc Bbl
  clear B6 B7 E8 hx
  have Bac := B10.cell
  have Bal := B10.lt
  have Bbc := B11.cell
  have Bbl := B11.lt
  go_wp2_with fail
  have Bc : Blk (w9.alloc (.cells #[.int .i64 cx', .int .i64 cy, .int .i64 cw, .int .i64 ch] 33)) w9.heap.size 33 #[.int .i64 cx', .int .i64 cy, .int .i64 cw, .int .i64 ch] := Blk.new _ _ _
  have hx : Ext w9 (w9.alloc (.cells #[.int .i64 cx', .int .i64 cy, .int .i64 cw, .int .i64 ch] 33)) := (Ext.refl _).alloc _
  have hsc : (w9.alloc (.cells #[.int .i64 cx', .int .i64 cy, .int .i64 cw, .int .i64 ch] 33)).heap.size = w9.heap.size + 1 := World.size_alloc _ _
  generalize hgc : w9.heap.size = gc at *
  have HGc := hide hgc
  clear hgc
  generalize w9.alloc (.cells #[.int .i64 cx', .int .i64 cy, .int .i64 cw, .int .i64 ch] 33) = w13 at *
  have B14 := B10.ext hx
  have B15 := B11.ext hx
  have E16 := E12.trans hx
  clear Bac Bal Bbc Bbl
  clear B10 B11 E12 hx
  have Bac := B14.cell
  have Bal := B14.lt
  have Bbc := B15.cell
  have Bbl := B15.lt
  have Bcc := Bc.cell
  have Bcl := Bc.lt
  go_wp2_with fail
  with_reducible refine (unhide (cb _)).mono ?_
  rintro e w17 ⟨rfl, hx⟩
  have B18 := B14.ext hx
  have B19 := B15.ext hx
  have B20 := Bc.ext hx
  have E21 := E16.trans hx
  clear Bac Bal Bbc Bbl Bcc Bcl
  clear B14 B15 Bc E16 hx
  have Bac := B18.cell
  have Bal := B18.lt
  have Bbc := B19.cell
  have Bbl := B19.lt
  have Bcc := B20.cell
  have Bcl := B20.lt
  go_wp2_with fail
  have Bd : Blk (w17.alloc (.cells #[.int .i64 dx', .int .i64 dY, .int .i64 dw, .int .i64 dh] 33)) w17.heap.size 33 #[.int .i64 dx', .int .i64 dY, .int .i64 dw, .int .i64 dh] := Blk.new _ _ _
  have hx : Ext w17 (w17.alloc (.cells #[.int .i64 dx', .int .i64 dY, .int .i64 dw, .int .i64 dh] 33)) := (Ext.refl _).alloc _
  have hsd : (w17.alloc (.cells #[.int .i64 dx', .int .i64 dY, .int .i64 dw, .int .i64 dh] 33)).heap.size = w17.heap.size + 1 := World.size_alloc _ _
  generalize hgd : w17.heap.size = gd at *
  have HGd := hide hgd
  clear hgd
  generalize w17.alloc (.cells #[.int .i64 dx', .int .i64 dY, .int .i64 dw, .int .i64 dh] 33) = w22 at *
  have B23 := B18.ext hx
  have B24 := B19.ext hx
  have B25 := B20.ext hx
  have E26 := E21.trans hx
  clear Bac Bal Bbc Bbl Bcc Bcl
  clear B18 B19 B20 E21 hx
  have Bac := B23.cell
  have Bal := B23.lt
  have Bbc := B24.cell
  have Bbl := B24.lt
  have Bcc := B25.cell
  have Bcl := B25.lt
  have Bdc := Bd.cell
  have Bdl := Bd.lt
  clear Bac Bal Bbc Bbl Bcc Bcl Bdc Bdl
  refine wp_region_lin (by kernel_rfl) (fun w' => (ExtX w22 w' [])) (fun ii vv ww => match ii with | 0 => vv = (.agg #[.int .i64 ax, .int .i64 ay, .int .i64 aw, .int .i64 ah]) | 1 => vv = (.agg #[.int .i64 bx, .int .i64 bY, .int .i64 bw, .int .i64 bh]) | 2 => vv = .bool m | 3 => vv = (.agg #[.int .i64 cx', .int .i64 cy, .int .i64 cw, .int .i64 ch]) | 4 => vv = (.agg #[.int .i64 dx', .int .i64 dY, .int .i64 dw, .int .i64 dh]) | 5 => vv = .bool m | 6 => vv = .bool false | 7 => vv = .bool false | 8 => vv = (.agg #[.int .i64 ax, .int .i64 ay, .int .i64 aw, .int .i64 ah]) | 9 => vv = (.agg #[.int .i64 bx, .int .i64 bY, .int .i64 bw, .int .i64 bh]) | 10 => vv = .bool i | 11 => vv = (.agg #[.int .i64 cx', .int .i64 cy, .int .i64 cw, .int .i64 ch]) | 12 => vv = (.agg #[.int .i64 dx', .int .i64 dY, .int .i64 dw, .int .i64 dh]) | 13 => vv = .bool i | 14 => vv = .bool false | 15 => vv = .bool false | 16 => vv = .bool false | 17 => vv = (.agg #[.int .i64 bx, .int .i64 bY, .int .i64 bw, .int .i64 bh]) | 18 => vv = (.agg #[.int .i64 ax, .int .i64 ay, .int .i64 aw, .int .i64 ah]) | 19 => vv = .bool j | 20 => vv = (.agg #[.int .i64 dx', .int .i64 dY, .int .i64 dw, .int .i64 dh]) | 21 => vv = (.agg #[.int .i64 cx', .int .i64 cy, .int .i64 cw, .int .i64 ch]) | 22 => vv = .bool j | 23 => vv = .bool false | 24 => vv = .bool false | _ => True) (fun ii => match ii with | 2 => [(0, 32), (1, 33)] | 5 => [(3, 35), (4, 36)] | 6 => [(2, 34), (5, 37)] | 7 => [(6, 38)] | 8 => [(7, 39)] | 9 => [(7, 39)] | 10 => [(8, 40), (9, 41), (7, 39)] | 11 => [(7, 39)] | 12 => [(7, 39)] | 13 => [(11, 43), (12, 44), (7, 39)] | 14 => [(10, 42), (13, 45), (7, 39)] | 15 => [(7, 39), (14, 46)] | 16 => [(15, 47)] | 17 => [(16, 48)] | 18 => [(16, 48)] | 19 => [(17, 49), (18, 50), (16, 48)] | 20 => [(16, 48)] | 21 => [(16, 48)] | 22 => [(20, 52), (21, 53), (16, 48)] | 23 => [(19, 51), (22, 54), (16, 48)] | 24 => [(16, 48), (23, 55)] | _ => []) (fun ii => match ii with | 0 => [4] | 1 => [5] | 3 => [9] | 4 => [10] | 8 => [4] | 9 => [5] | 11 => [9] | 12 => [10] | 17 => [5] | 18 => [4] | 20 => [10] | 21 => [9] | _ => []) (fun ii => match ii with | 0 => [1, 3, 4] | 1 => [0, 3, 4] | 2 => [3, 4] | 3 => [0, 1, 4, 2] | 4 => [0, 1, 3, 2] | 5 => [2] | 8 => [7, 9, 11, 12] | 9 => [7, 8, 11, 12] | 10 => [7, 11, 12] | 11 => [7, 8, 9, 12, 10] | 12 => [7, 8, 9, 11, 10] | 13 => [10, 7] | 14 => [7] | 17 => [16, 18, 20, 21] | 18 => [16, 17, 20, 21] | 19 => [16, 20, 21] | 20 => [16, 17, 18, 21, 19] | 21 => [16, 17, 18, 20, 19] | 22 => [19, 16] | 23 => [16] | _ => []) [24] [0, 0, 3, 0, 0, 31, 63, 127, 255, 255, 1023, 255, 255, 8191, 16383, 32767, 65535, 131071, 131071, 524287, 131071, 131071, 4194303, 8388607, 16777215] 103 rfl (by kernel_rfl) (ExtX.start _ _) ?_ ?_
  · rename_i hcont; clear hcont
    refine ⟨?_, ?_, ?_, ?_, ?_, ?_, ?_, ?_, ?_, ?_, ?_, ?_, ?_, ?_, ?_, ?_, ?_, ?_, ?_, ?_, ?_, ?_, ?_, ?_, ?_, trivial⟩
    · refine stepL_plain rfl ?_
      rintro F a w1 jE - ⟨t4, -⟩ K hK
      have t4 : a.tmps[4]? = some (.pointer (some ⟨ga, 0, none⟩)) := t4
      have c := (jE.blk B23 (by simp)).cell
      go_simp
      exact hK _ _ jE rfl (fun _ _ _ h => h)
    · refine stepL_plain rfl ?_
      rintro F a w1 jE - ⟨t5, -⟩ K hK
      have t5 : a.tmps[5]? = some (.pointer (some ⟨(ga + 1), 0, none⟩)) := t5
      have c := (jE.blk B24 (by simp)).cell
      go_simp
      exact hK _ _ jE rfl (fun _ _ _ h => h)
    · refine stepL_plain rfl ?_
      rintro F a w1 jE ⟨h0, t32, h1, t33, -⟩ - K hK
      have h0 : (F 0) = (.agg #[.int .i64 ax, .int .i64 ay, .int .i64 aw, .int .i64 ah]) := h0
      rw [h0] at t32
      clear h0
      have h1 : (F 1) = (.agg #[.int .i64 bx, .int .i64 bY, .int .i64 bw, .int .i64 bh]) := h1
      rw [h1] at t33
      clear h1
      go_simp
      with_reducible refine (unhide (m1 _)).mono ?_
      rintro e w2 ⟨rfl, hx⟩
      exact hK _ _ (jE.trans hx) (rfl) (by intro jq hj uq h; have hj : jq ∈ [3, 4] := hj; simp only [List.mem_cons, List.not_mem_nil, or_false] at hj; rcases hj with rfl | rfl; exact (have h : uq = (.agg #[.int .i64 cx', .int .i64 cy, .int .i64 cw, .int .i64 ch]) := h; h); exact (have h : uq = (.agg #[.int .i64 dx', .int .i64 dY, .int .i64 dw, .int .i64 dh]) := h; h))
    · refine stepL_plain rfl ?_
      rintro F a w1 jE - ⟨t9, -⟩ K hK
      have t9 : a.tmps[9]? = some (.pointer (some ⟨gc, 0, none⟩)) := t9
      have c := (jE.blk B25 (by simp)).cell
      go_simp
      exact hK _ _ jE rfl (fun _ _ _ h => h)
    · refine stepL_plain rfl ?_
      rintro F a w1 jE - ⟨t10, -⟩ K hK
      have t10 : a.tmps[10]? = some (.pointer (some ⟨gd, 0, none⟩)) := t10
      have c := (jE.blk Bd (by simp)).cell
      go_simp
      exact hK _ _ jE rfl (fun _ _ _ h => h)
    · refine stepL_plain rfl ?_
      rintro F a w1 jE ⟨h3, t35, h4, t36, -⟩ - K hK
      have h3 : (F 3) = (.agg #[.int .i64 cx', .int .i64 cy, .int .i64 cw, .int .i64 ch]) := h3
      rw [h3] at t35
      clear h3
      have h4 : (F 4) = (.agg #[.int .i64 dx', .int .i64 dY, .int .i64 dw, .int .i64 dh]) := h4
      rw [h4] at t36
      clear h4
      go_simp
      with_reducible refine (unhide (m2 _)).mono ?_
      rintro e w2 ⟨rfl, hx⟩
      exact hK _ _ (jE.trans hx) (rfl) (by intro jq hj uq h; have hj : jq ∈ [2] := hj; simp only [List.mem_singleton] at hj; subst hj; exact (have h : uq = .bool m := h; h))
    · refine stepL_plain rfl ?_
      rintro F a w1 jE ⟨h2, t34, h5, t37, -⟩ - K hK
      have h2 : (F 2) = .bool m := h2
      rw [h2] at t34
      clear h2
      have h5 : (F 5) = .bool m := h5
      rw [h5] at t37
      clear h5
      go_simp
      exact hK _ _ jE rfl (fun _ _ _ h => h)
    · refine stepL_plain rfl ?_
      rintro F a w1 jE ⟨h6, t38, -⟩ - K hK
      have h6 : (F 6) = .bool false := h6
      rw [h6] at t38
      clear h6
      go_simp
      exact hK _ _ jE rfl (fun _ _ _ h => h)
    · refine stepL_of ?_
      rintro F a w1 jE ⟨h7, t39, -⟩ ⟨t4, -⟩ K hK
      have h7 : (F 7) = .bool false := h7
      rw [h7] at t39
      clear h7
      have t4 : a.tmps[4]? = some (.pointer (some ⟨ga, 0, none⟩)) := t4
      refine stepY ((wanted_of 7 false 39 _ rfl rfl t39).trans rfl) ?_
      have c := (jE.blk B23 (by simp)).cell
      go_simp
      exact hK _ _ jE rfl (fun _ _ _ h => h)
    · refine stepL_of ?_
      rintro F a w1 jE ⟨h7, t39, -⟩ ⟨t5, -⟩ K hK
      have h7 : (F 7) = .bool false := h7
      rw [h7] at t39
      clear h7
      have t5 : a.tmps[5]? = some (.pointer (some ⟨(ga + 1), 0, none⟩)) := t5
      refine stepY ((wanted_of 7 false 39 _ rfl rfl t39).trans rfl) ?_
      have c := (jE.blk B24 (by simp)).cell
      go_simp
      exact hK _ _ jE rfl (fun _ _ _ h => h)
    · refine stepL_of ?_
      rintro F a w1 jE ⟨h8, t40, h9, t41, h7, t39, -⟩ - K hK
      have h8 : (F 8) = (.agg #[.int .i64 ax, .int .i64 ay, .int .i64 aw, .int .i64 ah]) := h8
      rw [h8] at t40
      clear h8
      have h9 : (F 9) = (.agg #[.int .i64 bx, .int .i64 bY, .int .i64 bw, .int .i64 bh]) := h9
      rw [h9] at t41
      clear h9
      have h7 : (F 7) = .bool false := h7
      rw [h7] at t39
      clear h7
      refine stepY ((wanted_of 7 false 39 _ rfl rfl t39).trans rfl) ?_
      go_simp
      with_reducible refine (unhide (i1 _)).mono ?_
      rintro e w2 ⟨rfl, hx⟩
      exact hK _ _ (jE.trans hx) (rfl) (by intro jq hj uq h; have hj : jq ∈ [7, 11, 12] := hj; simp only [List.mem_cons, List.not_mem_nil, or_false] at hj; rcases hj with rfl | rfl | rfl; exact (have h : uq = .bool false := h; h); exact (have h : uq = (.agg #[.int .i64 cx', .int .i64 cy, .int .i64 cw, .int .i64 ch]) := h; h); exact (have h : uq = (.agg #[.int .i64 dx', .int .i64 dY, .int .i64 dw, .int .i64 dh]) := h; h))
    · refine stepL_of ?_
      rintro F a w1 jE ⟨h7, t39, -⟩ ⟨t9, -⟩ K hK
      have h7 : (F 7) = .bool false := h7
      rw [h7] at t39
      clear h7
      have t9 : a.tmps[9]? = some (.pointer (some ⟨gc, 0, none⟩)) := t9
      refine stepY ((wanted_of 7 false 39 _ rfl rfl t39).trans rfl) ?_
      have c := (jE.blk B25 (by simp)).cell
      go_simp
      exact hK _ _ jE rfl (fun _ _ _ h => h)
    · refine stepL_of ?_
      rintro F a w1 jE ⟨h7, t39, -⟩ ⟨t10, -⟩ K hK
      have h7 : (F 7) = .bool false := h7
      rw [h7] at t39
      clear h7
      have t10 : a.tmps[10]? = some (.pointer (some ⟨gd, 0, none⟩)) := t10
      refine stepY ((wanted_of 7 false 39 _ rfl rfl t39).trans rfl) ?_
      have c := (jE.blk Bd (by simp)).cell
      go_simp
      exact hK _ _ jE rfl (fun _ _ _ h => h)
    · refine stepL_of ?_
      rintro F a w1 jE ⟨h11, t43, h12, t44, h7, t39, -⟩ - K hK
      have h11 : (F 11) = (.agg #[.int .i64 cx', .int .i64 cy, .int .i64 cw, .int .i64 ch]) := h11
      rw [h11] at t43
      clear h11
      have h12 : (F 12) = (.agg #[.int .i64 dx', .int .i64 dY, .int .i64 dw, .int .i64 dh]) := h12
      rw [h12] at t44
      clear h12
      have h7 : (F 7) = .bool false := h7
      rw [h7] at t39
      clear h7
      refine stepY ((wanted_of 7 false 39 _ rfl rfl t39).trans rfl) ?_
      go_simp
      with_reducible refine (unhide (i2 _)).mono ?_
      rintro e w2 ⟨rfl, hx⟩
      exact hK _ _ (jE.trans hx) (rfl) (by intro jq hj uq h; have hj : jq ∈ [10, 7] := hj; simp only [List.mem_cons, List.not_mem_nil, or_false] at hj; rcases hj with rfl | rfl; exact (have h : uq = .bool i := h; h); exact (have h : uq = .bool false := h; h))
    · refine stepL_of ?_
      rintro F a w1 jE ⟨h10, t42, h13, t45, h7, t39, -⟩ - K hK
      have h10 : (F 10) = .bool i := h10
      rw [h10] at t42
      clear h10
      have h13 : (F 13) = .bool i := h13
      rw [h13] at t45
      clear h13
      have h7 : (F 7) = .bool false := h7
      rw [h7] at t39
      clear h7
      refine stepY ((wanted_of 7 false 39 _ rfl rfl t39).trans rfl) ?_
      go_simp
      exact hK _ _ jE rfl (fun _ _ _ h => h)
    · refine stepL_plain rfl ?_
      rintro F a w1 jE ⟨h7, t39, h14, t46, -⟩ - K hK
      have h7 : (F 7) = .bool false := h7
      rw [h7] at t39
      clear h7
      have h14 : (F 14) = .bool false := h14
      rw [h14] at t46
      clear h14
      go_simp
      exact hK _ _ jE rfl (fun _ _ _ h => h)
    · refine stepL_plain rfl ?_
      rintro F a w1 jE ⟨h15, t47, -⟩ - K hK
      have h15 : (F 15) = .bool false := h15
      rw [h15] at t47
      clear h15
      go_simp
      exact hK _ _ jE rfl (fun _ _ _ h => h)
    · refine stepL_of ?_
      rintro F a w1 jE ⟨h16, t48, -⟩ ⟨t5, -⟩ K hK
      have h16 : (F 16) = .bool false := h16
      rw [h16] at t48
      clear h16
      have t5 : a.tmps[5]? = some (.pointer (some ⟨(ga + 1), 0, none⟩)) := t5
      refine stepY ((wanted_of 16 false 48 _ rfl rfl t48).trans rfl) ?_
      have c := (jE.blk B24 (by simp)).cell
      go_simp
      exact hK _ _ jE rfl (fun _ _ _ h => h)
    · refine stepL_of ?_
      rintro F a w1 jE ⟨h16, t48, -⟩ ⟨t4, -⟩ K hK
      have h16 : (F 16) = .bool false := h16
      rw [h16] at t48
      clear h16
      have t4 : a.tmps[4]? = some (.pointer (some ⟨ga, 0, none⟩)) := t4
      refine stepY ((wanted_of 16 false 48 _ rfl rfl t48).trans rfl) ?_
      have c := (jE.blk B23 (by simp)).cell
      go_simp
      exact hK _ _ jE rfl (fun _ _ _ h => h)
    · refine stepL_of ?_
      rintro F a w1 jE ⟨h17, t49, h18, t50, h16, t48, -⟩ - K hK
      have h17 : (F 17) = (.agg #[.int .i64 bx, .int .i64 bY, .int .i64 bw, .int .i64 bh]) := h17
      rw [h17] at t49
      clear h17
      have h18 : (F 18) = (.agg #[.int .i64 ax, .int .i64 ay, .int .i64 aw, .int .i64 ah]) := h18
      rw [h18] at t50
      clear h18
      have h16 : (F 16) = .bool false := h16
      rw [h16] at t48
      clear h16
      refine stepY ((wanted_of 16 false 48 _ rfl rfl t48).trans rfl) ?_
      go_simp
      with_reducible refine (unhide (j1 _)).mono ?_
      rintro e w2 ⟨rfl, hx⟩
      exact hK _ _ (jE.trans hx) (rfl) (by intro jq hj uq h; have hj : jq ∈ [16, 20, 21] := hj; simp only [List.mem_cons, List.not_mem_nil, or_false] at hj; rcases hj with rfl | rfl | rfl; exact (have h : uq = .bool false := h; h); exact (have h : uq = (.agg #[.int .i64 dx', .int .i64 dY, .int .i64 dw, .int .i64 dh]) := h; h); exact (have h : uq = (.agg #[.int .i64 cx', .int .i64 cy, .int .i64 cw, .int .i64 ch]) := h; h))
    · refine stepL_of ?_
      rintro F a w1 jE ⟨h16, t48, -⟩ ⟨t10, -⟩ K hK
      have h16 : (F 16) = .bool false := h16
      rw [h16] at t48
      clear h16
      have t10 : a.tmps[10]? = some (.pointer (some ⟨gd, 0, none⟩)) := t10
      refine stepY ((wanted_of 16 false 48 _ rfl rfl t48).trans rfl) ?_
      have c := (jE.blk Bd (by simp)).cell
      go_simp
      exact hK _ _ jE rfl (fun _ _ _ h => h)
    · refine stepL_of ?_
      rintro F a w1 jE ⟨h16, t48, -⟩ ⟨t9, -⟩ K hK
      have h16 : (F 16) = .bool false := h16
      rw [h16] at t48
      clear h16
      have t9 : a.tmps[9]? = some (.pointer (some ⟨gc, 0, none⟩)) := t9
      refine stepY ((wanted_of 16 false 48 _ rfl rfl t48).trans rfl) ?_
      have c := (jE.blk B25 (by simp)).cell
      go_simp
      exact hK _ _ jE rfl (fun _ _ _ h => h)
    · refine stepL_of ?_
      rintro F a w1 jE ⟨h20, t52, h21, t53, h16, t48, -⟩ - K hK
      have h20 : (F 20) = (.agg #[.int .i64 dx', .int .i64 dY, .int .i64 dw, .int .i64 dh]) := h20
      rw [h20] at t52
      clear h20
      have h21 : (F 21) = (.agg #[.int .i64 cx', .int .i64 cy, .int .i64 cw, .int .i64 ch]) := h21
      rw [h21] at t53
      clear h21
      have h16 : (F 16) = .bool false := h16
      rw [h16] at t48
      clear h16
      refine stepY ((wanted_of 16 false 48 _ rfl rfl t48).trans rfl) ?_
      go_simp
      with_reducible refine (unhide (j2 _)).mono ?_
      rintro e w2 ⟨rfl, hx⟩
      exact hK _ _ (jE.trans hx) (rfl) (by intro jq hj uq h; have hj : jq ∈ [19, 16] := hj; simp only [List.mem_cons, List.not_mem_nil, or_false] at hj; rcases hj with rfl | rfl; exact (have h : uq = .bool j := h; h); exact (have h : uq = .bool false := h; h))
    · refine stepL_of ?_
      rintro F a w1 jE ⟨h19, t51, h22, t54, h16, t48, -⟩ - K hK
      have h19 : (F 19) = .bool j := h19
      rw [h19] at t51
      clear h19
      have h22 : (F 22) = .bool j := h22
      rw [h22] at t54
      clear h22
      have h16 : (F 16) = .bool false := h16
      rw [h16] at t48
      clear h16
      refine stepY ((wanted_of 16 false 48 _ rfl rfl t48).trans rfl) ?_
      go_simp
      exact hK _ _ jE rfl (fun _ _ _ h => h)
    · refine stepL_plain rfl ?_
      rintro F a w1 jE ⟨h16, t48, h23, t55, -⟩ - K hK
      have h16 : (F 16) = .bool false := h16
      rw [h16] at t48
      clear h16
      have h23 : (F 23) = .bool false := h23
      rw [h23] at t55
      clear h23
      go_simp
      exact hK _ _ jE rfl (fun _ _ _ h => h)
  · rintro F w90 jE ⟨h24, -⟩
    have h24 : (F 24) = .bool false := h24
    have hx := jE.ext (Ext.refl _) (by simp)
    have Bac := B23.cell
    have Bal := B23.lt
    have Bbc := B24.cell
    have Bbl := B24.lt
    have Bcc := B25.cell
    have Bcl := B25.lt
    have Bdc := Bd.cell
    have Bdl := Bd.lt
    have B27 := B23.ext hx
    have B28 := B24.ext hx
    have B29 := B25.ext hx
    have B30 := Bd.ext hx
    have E31 := E26.trans hx
    clear Bac Bal Bbc Bbl Bcc Bcl Bdc Bdl
    clear B23 B24 B25 Bd E26 hx
    have Bac := B27.cell
    have Bal := B27.lt
    have Bbc := B28.cell
    have Bbl := B28.lt
    have Bcc := B29.cell
    have Bcl := B29.lt
    have Bdc := B30.cell
    have Bdl := B30.lt
    clear jE
    simp only [putL, Act.put, Nat.reduceAdd, Nat.zero_add, List.setIfInBounds_toArray, List.set_cons_succ, List.set_cons_zero]
    rw [h24]
    clear h24
    go_wp2_with fail
    refine (unhide (k1 _ 33 _ (Blk.new _ _ _))).mono ?_
    rintro e w32 ⟨rfl, hx⟩
    replace hx : Ext w90 w32 := ((Ext.refl _).alloc _).trans hx
    have B33 := B27.ext hx
    have B34 := B28.ext hx
    have B35 := B29.ext hx
    have B36 := B30.ext hx
    have E37 := E31.trans hx
    clear Bac Bal Bbc Bbl Bcc Bcl Bdc Bdl
    clear B27 B28 B29 B30 E31 hx
    have Bac := B33.cell
    have Bal := B33.lt
    have Bbc := B34.cell
    have Bbl := B34.lt
    have Bcc := B35.cell
    have Bcl := B35.lt
    have Bdc := B36.cell
    have Bdl := B36.lt
    go_wp2_with fail
    have Bx : Blk (w32.alloc (.cells #[.int .i64 xx, .int .i64 xy, .int .i64 xw, .int .i64 xh] 33)) w32.heap.size 33 #[.int .i64 xx, .int .i64 xy, .int .i64 xw, .int .i64 xh] := Blk.new _ _ _
    have hx : Ext w32 (w32.alloc (.cells #[.int .i64 xx, .int .i64 xy, .int .i64 xw, .int .i64 xh] 33)) := (Ext.refl _).alloc _
    have hsx : (w32.alloc (.cells #[.int .i64 xx, .int .i64 xy, .int .i64 xw, .int .i64 xh] 33)).heap.size = w32.heap.size + 1 := World.size_alloc _ _
    generalize hgx : w32.heap.size = gx at *
    have HGx := hide hgx
    clear hgx
    generalize w32.alloc (.cells #[.int .i64 xx, .int .i64 xy, .int .i64 xw, .int .i64 xh] 33) = w38 at *
    have B39 := B33.ext hx
    have B40 := B34.ext hx
    have B41 := B35.ext hx
    have B42 := B36.ext hx
    have E43 := E37.trans hx
    clear Bac Bal Bbc Bbl Bcc Bcl Bdc Bdl
    clear B33 B34 B35 B36 E37 hx
    have Bac := B39.cell
    have Bal := B39.lt
    have Bbc := B40.cell
    have Bbl := B40.lt
    have Bcc := B41.cell
    have Bcl := B41.lt
    have Bdc := B42.cell
    have Bdl := B42.lt
    have Bxc := Bx.cell
    have Bxl := Bx.lt
    go_wp2_with fail
    refine (unhide (k2 _ 33 _ (by have h := Blk.new w38 33 #[.int .i64 cx', .int .i64 cy, .int .i64 cw, .int .i64 ch, .int .i64 dx', .int .i64 dY, .int .i64 dw, .int .i64 dh]; rw [hsx] at h; exact h))).mono ?_
    rintro e w44 ⟨rfl, hx⟩
    replace hx : Ext w38 w44 := ((Ext.refl _).alloc _).trans hx
    have B45 := B39.ext hx
    have B46 := B40.ext hx
    have B47 := B41.ext hx
    have B48 := B42.ext hx
    have B49 := Bx.ext hx
    have E50 := E43.trans hx
    clear Bac Bal Bbc Bbl Bcc Bcl Bdc Bdl Bxc Bxl
    clear B39 B40 B41 B42 Bx E43 hx
    have Bac := B45.cell
    have Bal := B45.lt
    have Bbc := B46.cell
    have Bbl := B46.lt
    have Bcc := B47.cell
    have Bcl := B47.lt
    have Bdc := B48.cell
    have Bdl := B48.lt
    have Bxc := B49.cell
    have Bxl := B49.lt
    go_wp2_with fail
    have By : Blk (w44.alloc (.cells #[.int .i64 yx, .int .i64 yy, .int .i64 yw, .int .i64 yh] 33)) w44.heap.size 33 #[.int .i64 yx, .int .i64 yy, .int .i64 yw, .int .i64 yh] := Blk.new _ _ _
    have hx : Ext w44 (w44.alloc (.cells #[.int .i64 yx, .int .i64 yy, .int .i64 yw, .int .i64 yh] 33)) := (Ext.refl _).alloc _
    have hsy : (w44.alloc (.cells #[.int .i64 yx, .int .i64 yy, .int .i64 yw, .int .i64 yh] 33)).heap.size = w44.heap.size + 1 := World.size_alloc _ _
    generalize hgy : w44.heap.size = gy at *
    have HGy := hide hgy
    clear hgy
    generalize w44.alloc (.cells #[.int .i64 yx, .int .i64 yy, .int .i64 yw, .int .i64 yh] 33) = w51 at *
    have B52 := B45.ext hx
    have B53 := B46.ext hx
    have B54 := B47.ext hx
    have B55 := B48.ext hx
    have B56 := B49.ext hx
    have E57 := E50.trans hx
    clear Bac Bal Bbc Bbl Bcc Bcl Bdc Bdl Bxc Bxl
    clear B45 B46 B47 B48 B49 E50 hx
    have Bac := B52.cell
    have Bal := B52.lt
    have Bbc := B53.cell
    have Bbl := B53.lt
    have Bcc := B54.cell
    have Bcl := B54.lt
    have Bdc := B55.cell
    have Bdl := B55.lt
    have Bxc := B56.cell
    have Bxl := B56.lt
    have Byc := By.cell
    have Byl := By.lt
    go_wp2_with fail
    clear Bac Bal Bbc Bbl Bcc Bcl Bdc Bdl Bxc Bxl Byc Byl
    refine wp_region_lin (by kernel_rfl) (fun w' => (ExtX w51 w' [])) (fun ii vv ww => match ii with | 0 => vv = (.agg #[.int .i64 yx, .int .i64 yy, .int .i64 yw, .int .i64 yh]) | 1 => vv = (.agg #[.int .i64 xx, .int .i64 xy, .int .i64 xw, .int .i64 xh]) | 2 => vv = .int .i32 dx | 3 => vv = .int .i32 dy | 4 => vv = (.agg #[.int .i64 yx, .int .i64 yy, .int .i64 yw, .int .i64 yh]) | 5 => vv = .bool true | 6 => vv = .bool true | 7 => vv = .bool true | 8 => vv = .bool true | 9 => vv = .bool true | _ => True) (fun ii => match ii with | 4 => [(1, 95), (2, 96), (3, 97)] | 5 => [(0, 94), (4, 98)] | 6 => [(5, 99)] | 7 => [(6, 100)] | 8 => [(6, 100), (7, 101)] | 9 => [(8, 102)] | _ => []) (fun ii => match ii with | 0 => [13] | 1 => [11] | 2 => [2] | 3 => [3] | _ => []) (fun ii => match ii with | 0 => [1, 2, 3, 4] | 1 => [2, 3, 0] | 2 => [1, 3, 0] | 3 => [1, 2, 0] | 4 => [0] | 7 => [6] | _ => []) [9] [0, 0, 0, 0, 14, 31, 63, 127, 255, 511] 103 rfl (by kernel_rfl) (ExtX.start _ _) ?_ ?_
    · rename_i hcont; clear hcont
      refine ⟨?_, ?_, ?_, ?_, ?_, ?_, ?_, ?_, ?_, ?_, trivial⟩
      · refine stepL_plain rfl ?_
        rintro F a w1 jE - ⟨t13, -⟩ K hK
        have t13 : a.tmps[13]? = some (.pointer (some ⟨gy, 0, none⟩)) := t13
        have c := (jE.blk By (by simp)).cell
        go_simp
        exact hK _ _ jE rfl (fun _ _ _ h => h)
      · refine stepL_plain rfl ?_
        rintro F a w1 jE - ⟨t11, -⟩ K hK
        have t11 : a.tmps[11]? = some (.pointer (some ⟨gx, 0, none⟩)) := t11
        have c := (jE.blk B56 (by simp)).cell
        go_simp
        exact hK _ _ jE rfl (fun _ _ _ h => h)
      · refine stepL_plain rfl ?_
        rintro F a w1 jE - ⟨t2, -⟩ K hK
        have t2 : a.tmps[2]? = some (.int .i32 dx) := t2
        go_simp
        exact hK _ _ jE rfl (fun _ _ _ h => h)
      · refine stepL_plain rfl ?_
        rintro F a w1 jE - ⟨t3, -⟩ K hK
        have t3 : a.tmps[3]? = some (.int .i32 dy) := t3
        go_simp
        exact hK _ _ jE rfl (fun _ _ _ h => h)
      · refine stepL_plain rfl ?_
        rintro F a w1 jE ⟨h1, t95, h2, t96, h3, t97, -⟩ - K hK
        have h1 : (F 1) = (.agg #[.int .i64 xx, .int .i64 xy, .int .i64 xw, .int .i64 xh]) := h1
        rw [h1] at t95
        clear h1
        have h2 : (F 2) = .int .i32 dx := h2
        rw [h2] at t96
        clear h2
        have h3 : (F 3) = .int .i32 dy := h3
        rw [h3] at t97
        clear h3
        go_simp
        with_reducible refine (unhide (cx _)).mono ?_
        rintro e w2 ⟨rfl, hx⟩
        exact hK _ _ (jE.trans hx) (rfl) (by intro jq hj uq h; have hj : jq ∈ [0] := hj; simp only [List.mem_singleton] at hj; subst hj; exact (have h : uq = (.agg #[.int .i64 yx, .int .i64 yy, .int .i64 yw, .int .i64 yh]) := h; h))
      · refine stepL_plain rfl ?_
        rintro F a w1 jE ⟨h0, t94, h4, t98, -⟩ - K hK
        have h0 : (F 0) = (.agg #[.int .i64 yx, .int .i64 yy, .int .i64 yw, .int .i64 yh]) := h0
        rw [h0] at t94
        clear h0
        have h4 : (F 4) = (.agg #[.int .i64 yx, .int .i64 yy, .int .i64 yw, .int .i64 yh]) := h4
        rw [h4] at t98
        clear h4
        have heq := heq ⟨yx, yy, yw, yh⟩
        go_simp
        exact hK _ _ jE rfl (fun _ _ _ h => h)
      · refine stepL_plain rfl ?_
        rintro F a w1 jE ⟨h5, t99, -⟩ - K hK
        have h5 : (F 5) = .bool true := h5
        rw [h5] at t99
        clear h5
        go_simp
        exact hK _ _ jE rfl (fun _ _ _ h => h)
      · refine stepL_of ?_
        rintro F a w1 jE ⟨h6, t100, -⟩ - K hK
        have h6 : (F 6) = .bool true := h6
        rw [h6] at t100
        clear h6
        refine stepY ((wanted_of 6 true 100 _ rfl rfl t100).trans rfl) ?_
        go_simp
        with_reducible refine (works_any _).mono ?_
        rintro e w2 ⟨rfl, hx⟩
        exact hK _ _ (jE.trans hx) (rfl) (by intro jq hj uq h; have hj : jq ∈ [6] := hj; simp only [List.mem_singleton] at hj; subst hj; exact (have h : uq = .bool true := h; h))
      · refine stepL_plain rfl ?_
        rintro F a w1 jE ⟨h6, t100, h7, t101, -⟩ - K hK
        have h6 : (F 6) = .bool true := h6
        rw [h6] at t100
        clear h6
        have h7 : (F 7) = .bool true := h7
        rw [h7] at t101
        clear h7
        go_simp
        exact hK _ _ jE rfl (fun _ _ _ h => h)
      · refine stepL_plain rfl ?_
        rintro F a w1 jE ⟨h8, t102, -⟩ - K hK
        have h8 : (F 8) = .bool true := h8
        rw [h8] at t102
        clear h8
        go_simp
        exact hK _ _ jE rfl (fun _ _ _ h => h)
    · rintro F w91 jE ⟨h9, -⟩
      have h9 : (F 9) = .bool true := h9
      simp only [putL, Act.put, Nat.reduceAdd, Nat.zero_add, List.setIfInBounds_toArray, List.set_cons_succ, List.set_cons_zero]
      rw [h9]
      go_wp2_with fail
      go_ret
      exact ⟨rfl, jE.ext E57 (by simp)⟩

set_option maxRecDepth 100000 in
set_option maxHeartbeats 8000000 in
theorem moved_none (a b : Rc) (dx dy : Int) (h1 : -2147483648 ≤ dx ∧ dx ≤ 2147483647) (h2 : -2147483648 ≤ dy ∧ dy ≤ 2147483647) (na : nearB a = true) (nb : nearB b = true) (hs : (a.some || b.some) = false) (w : World) :
    Calls Try.prog 8 #[.agg a.cs, .agg b.cs, .int .i32 dx, .int .i32 dy] w fun e w' => e = .returned (.bool true) ∧ Ext w w' := by
  have Na := near_of na
  have Nb := near_of nb
  have c1 := fun w => hide (by have := near_any a w; rwa [na] at this)
  have c2 := fun w => hide (by have := near_any b w; rwa [nb] at this)
  have ca := fun w => hide (moved_any a dx dy (Na.mono (by omega)) h1 h2 w)
  have cb := fun w => hide (moved_any b dx dy (Nb.mono (by omega)) h1 h2 w)
  have Nc : (movedR a dx dy).Near 4294967296 := by obtain ⟨q1, q2, q3, q4, q5, q6, q7, q8⟩ := Na; constructor <;> simp only [movedR] <;> omega
  have Nd : (movedR b dx dy).Near 4294967296 := by obtain ⟨q1, q2, q3, q4, q5, q6, q7, q8⟩ := Nb; constructor <;> simp only [movedR] <;> omega
  have m1 := fun w => hide (meet_any a b (Na.ok (by omega)) (Nb.ok (by omega)) w)
  have m2 := fun w => hide (by have := meet_any (movedR a dx dy) (movedR b dx dy) (Nc.ok (by omega)) (Nd.ok (by omega)) w; rwa [moved_meet] at this)
  have i1 := fun w => hide (inside_any a b (Na.ok (by omega)) (Nb.ok (by omega)) w)
  have i2 := fun w => hide (by have := inside_any (movedR a dx dy) (movedR b dx dy) (Nc.ok (by omega)) (Nd.ok (by omega)) w; rwa [moved_inside] at this)
  have j1 := fun w => hide (inside_any b a (Nb.ok (by omega)) (Na.ok (by omega)) w)
  have j2 := fun w => hide (by have := inside_any (movedR b dx dy) (movedR a dx dy) (Nd.ok (by omega)) (Nc.ok (by omega)) w; rwa [moved_inside] at this)
  have k1 := fun g t w (h : Blk w g t #[.int .i64 a.x, .int .i64 a.y, .int .i64 a.w, .int .i64 a.h, .int .i64 b.x, .int .i64 b.y, .int .i64 b.w, .int .i64 b.h]) => hide (by
    have := cover_any (some ⟨g, 0, none⟩) 2 2 [a, b] w (h.rd4 rfl) (by intro r hr; simp at hr; rcases hr with rfl | rfl; exact Na.ok (by omega); exact Nb.ok (by omega)) (by omega)
    rwa [(cover2 a b (Na.mono (by omega)) (Nb.mono (by omega))).1, (cover2 a b (Na.mono (by omega)) (Nb.mono (by omega))).2] at this)
  have k2 := fun g t w (h : Blk w g t #[.int .i64 (movedR a dx dy).x, .int .i64 (movedR a dx dy).y, .int .i64 (movedR a dx dy).w, .int .i64 (movedR a dx dy).h, .int .i64 (movedR b dx dy).x, .int .i64 (movedR b dx dy).y, .int .i64 (movedR b dx dy).w, .int .i64 (movedR b dx dy).h]) => hide (by
    have := cover_any (some ⟨g, 0, none⟩) 2 2 [movedR a dx dy, movedR b dx dy] w (h.rd4 rfl) (by intro r hr; simp at hr; rcases hr with rfl | rfl; exact Nc.ok (by omega); exact Nd.ok (by omega)) (by omega)
    rwa [(cover2 _ _ (Nc.mono (by omega)) (Nd.mono (by omega))).1, (cover2 _ _ (Nc.mono (by omega)) (Nd.mono (by omega))).2] at this)
  have hor : a.some = false ∧ b.some = false := by simpa using hs
  rw [cov2_none hor.1 hor.2] at k1
  rw [cov2_none (a := movedR a dx dy) (b := movedR b dx dy) hor.1 hor.2] at k2
  clear hor
  have heq := eq_self
  clear na nb hs h1 h2 Na Nb Nc Nd
  generalize meetB a b = m at *
  generalize insideB a b = i at *
  generalize insideB b a = j at *
  generalize movedR a dx dy = c at *
  generalize movedR b dx dy = d at *
  obtain ⟨ax, ay, aw, ah⟩ := a
  obtain ⟨bx, bY, bw, bh⟩ := b
  obtain ⟨cx', cy, cw, ch⟩ := c
  obtain ⟨dx', dY, dw, dh⟩ := d
  go_enter Try.func8, Try.ntmps8
  go_wp2_with fail
  have Ba : Blk ((w.alloc (.cells #[.int .i64 ax, .int .i64 ay, .int .i64 aw, .int .i64 ah] 33)).alloc (.cells #[.int .i64 bx, .int .i64 bY, .int .i64 bw, .int .i64 bh] 33)) w.heap.size 33 #[.int .i64 ax, .int .i64 ay, .int .i64 aw, .int .i64 ah] := (Blk.new _ _ _).alloc _
  have Bb : Blk ((w.alloc (.cells #[.int .i64 ax, .int .i64 ay, .int .i64 aw, .int .i64 ah] 33)).alloc (.cells #[.int .i64 bx, .int .i64 bY, .int .i64 bw, .int .i64 bh] 33)) (w.heap.size + 1) 33 #[.int .i64 bx, .int .i64 bY, .int .i64 bw, .int .i64 bh] := Blk.new1 _ _ _ _
  have E0 : Ext w ((w.alloc (.cells #[.int .i64 ax, .int .i64 ay, .int .i64 aw, .int .i64 ah] 33)).alloc (.cells #[.int .i64 bx, .int .i64 bY, .int .i64 bw, .int .i64 bh] 33)) := ((Ext.refl _).alloc _).alloc _
  generalize (w.alloc (.cells #[.int .i64 ax, .int .i64 ay, .int .i64 aw, .int .i64 ah] 33)).alloc (.cells #[.int .i64 bx, .int .i64 bY, .int .i64 bw, .int .i64 bh] 33) = wa at *
  generalize hga : w.heap.size = ga at *
  have HGA := hide hga
  clear hga
  have Bac := Ba.cell
  have Bal := Ba.lt
  have Bbc := Bb.cell
  have Bbl := Bb.lt
  go_wp2_with fail
  with_reducible refine (unhide (c1 _)).mono ?_
  rintro e w1 ⟨rfl, hx⟩
  have B2 := Ba.ext hx
  have B3 := Bb.ext hx
  have E4 := E0.trans hx
  clear Bac Bal Bbc Bbl
  clear Ba Bb E0 hx
  have Bac := B2.cell
  have Bal := B2.lt
  have Bbc := B3.cell
  have Bbl := B3.lt
  go_wp2_with fail
  with_reducible refine (unhide (c2 _)).mono ?_
  rintro e w5 ⟨rfl, hx⟩
  have B6 := B2.ext hx
  have B7 := B3.ext hx
  have E8 := E4.trans hx
  clear Bac Bal Bbc Bbl
  clear B2 B3 E4 hx
  have Bac := B6.cell
  have Bal := B6.lt
  have Bbc := B7.cell
  have Bbl := B7.lt
  go_wp2_with fail
  with_reducible refine (unhide (ca _)).mono ?_
  rintro e w9 ⟨rfl, hx⟩
  have B10 := B6.ext hx
  have B11 := B7.ext hx
  have E12 := E8.trans hx
  clear Bac Bal Bbc Bbl
  clear B6 B7 E8 hx
  have Bac := B10.cell
  have Bal := B10.lt
  have Bbc := B11.cell
  have Bbl := B11.lt
  go_wp2_with fail
  have Bc : Blk (w9.alloc (.cells #[.int .i64 cx', .int .i64 cy, .int .i64 cw, .int .i64 ch] 33)) w9.heap.size 33 #[.int .i64 cx', .int .i64 cy, .int .i64 cw, .int .i64 ch] := Blk.new _ _ _
  have hx : Ext w9 (w9.alloc (.cells #[.int .i64 cx', .int .i64 cy, .int .i64 cw, .int .i64 ch] 33)) := (Ext.refl _).alloc _
  have hsc : (w9.alloc (.cells #[.int .i64 cx', .int .i64 cy, .int .i64 cw, .int .i64 ch] 33)).heap.size = w9.heap.size + 1 := World.size_alloc _ _
  generalize hgc : w9.heap.size = gc at *
  have HGc := hide hgc
  clear hgc
  generalize w9.alloc (.cells #[.int .i64 cx', .int .i64 cy, .int .i64 cw, .int .i64 ch] 33) = w13 at *
  have B14 := B10.ext hx
  have B15 := B11.ext hx
  have E16 := E12.trans hx
  clear Bac Bal Bbc Bbl
  clear B10 B11 E12 hx
  have Bac := B14.cell
  have Bal := B14.lt
  have Bbc := B15.cell
  have Bbl := B15.lt
  have Bcc := Bc.cell
  have Bcl := Bc.lt
  go_wp2_with fail
  with_reducible refine (unhide (cb _)).mono ?_
  rintro e w17 ⟨rfl, hx⟩
  have B18 := B14.ext hx
  have B19 := B15.ext hx
  have B20 := Bc.ext hx
  have E21 := E16.trans hx
  clear Bac Bal Bbc Bbl Bcc Bcl
  clear B14 B15 Bc E16 hx
  have Bac := B18.cell
  have Bal := B18.lt
  have Bbc := B19.cell
  have Bbl := B19.lt
  have Bcc := B20.cell
  have Bcl := B20.lt
  go_wp2_with fail
  have Bd : Blk (w17.alloc (.cells #[.int .i64 dx', .int .i64 dY, .int .i64 dw, .int .i64 dh] 33)) w17.heap.size 33 #[.int .i64 dx', .int .i64 dY, .int .i64 dw, .int .i64 dh] := Blk.new _ _ _
  have hx : Ext w17 (w17.alloc (.cells #[.int .i64 dx', .int .i64 dY, .int .i64 dw, .int .i64 dh] 33)) := (Ext.refl _).alloc _
  have hsd : (w17.alloc (.cells #[.int .i64 dx', .int .i64 dY, .int .i64 dw, .int .i64 dh] 33)).heap.size = w17.heap.size + 1 := World.size_alloc _ _
  generalize hgd : w17.heap.size = gd at *
  have HGd := hide hgd
  clear hgd
  generalize w17.alloc (.cells #[.int .i64 dx', .int .i64 dY, .int .i64 dw, .int .i64 dh] 33) = w22 at *
  have B23 := B18.ext hx
  have B24 := B19.ext hx
  have B25 := B20.ext hx
  have E26 := E21.trans hx
  clear Bac Bal Bbc Bbl Bcc Bcl
  clear B18 B19 B20 E21 hx
  have Bac := B23.cell
  have Bal := B23.lt
  have Bbc := B24.cell
  have Bbl := B24.lt
  have Bcc := B25.cell
  have Bcl := B25.lt
  have Bdc := Bd.cell
  have Bdl := Bd.lt
  clear Bac Bal Bbc Bbl Bcc Bcl Bdc Bdl
  refine wp_region_lin (by kernel_rfl) (fun w' => (ExtX w22 w' [])) (fun ii vv ww => match ii with | 0 => vv = (.agg #[.int .i64 ax, .int .i64 ay, .int .i64 aw, .int .i64 ah]) | 1 => vv = (.agg #[.int .i64 bx, .int .i64 bY, .int .i64 bw, .int .i64 bh]) | 2 => vv = .bool m | 3 => vv = (.agg #[.int .i64 cx', .int .i64 cy, .int .i64 cw, .int .i64 ch]) | 4 => vv = (.agg #[.int .i64 dx', .int .i64 dY, .int .i64 dw, .int .i64 dh]) | 5 => vv = .bool m | 6 => vv = .bool false | 7 => vv = .bool false | 8 => vv = (.agg #[.int .i64 ax, .int .i64 ay, .int .i64 aw, .int .i64 ah]) | 9 => vv = (.agg #[.int .i64 bx, .int .i64 bY, .int .i64 bw, .int .i64 bh]) | 10 => vv = .bool i | 11 => vv = (.agg #[.int .i64 cx', .int .i64 cy, .int .i64 cw, .int .i64 ch]) | 12 => vv = (.agg #[.int .i64 dx', .int .i64 dY, .int .i64 dw, .int .i64 dh]) | 13 => vv = .bool i | 14 => vv = .bool false | 15 => vv = .bool false | 16 => vv = .bool false | 17 => vv = (.agg #[.int .i64 bx, .int .i64 bY, .int .i64 bw, .int .i64 bh]) | 18 => vv = (.agg #[.int .i64 ax, .int .i64 ay, .int .i64 aw, .int .i64 ah]) | 19 => vv = .bool j | 20 => vv = (.agg #[.int .i64 dx', .int .i64 dY, .int .i64 dw, .int .i64 dh]) | 21 => vv = (.agg #[.int .i64 cx', .int .i64 cy, .int .i64 cw, .int .i64 ch]) | 22 => vv = .bool j | 23 => vv = .bool false | 24 => vv = .bool false | _ => True) (fun ii => match ii with | 2 => [(0, 32), (1, 33)] | 5 => [(3, 35), (4, 36)] | 6 => [(2, 34), (5, 37)] | 7 => [(6, 38)] | 8 => [(7, 39)] | 9 => [(7, 39)] | 10 => [(8, 40), (9, 41), (7, 39)] | 11 => [(7, 39)] | 12 => [(7, 39)] | 13 => [(11, 43), (12, 44), (7, 39)] | 14 => [(10, 42), (13, 45), (7, 39)] | 15 => [(7, 39), (14, 46)] | 16 => [(15, 47)] | 17 => [(16, 48)] | 18 => [(16, 48)] | 19 => [(17, 49), (18, 50), (16, 48)] | 20 => [(16, 48)] | 21 => [(16, 48)] | 22 => [(20, 52), (21, 53), (16, 48)] | 23 => [(19, 51), (22, 54), (16, 48)] | 24 => [(16, 48), (23, 55)] | _ => []) (fun ii => match ii with | 0 => [4] | 1 => [5] | 3 => [9] | 4 => [10] | 8 => [4] | 9 => [5] | 11 => [9] | 12 => [10] | 17 => [5] | 18 => [4] | 20 => [10] | 21 => [9] | _ => []) (fun ii => match ii with | 0 => [1, 3, 4] | 1 => [0, 3, 4] | 2 => [3, 4] | 3 => [0, 1, 4, 2] | 4 => [0, 1, 3, 2] | 5 => [2] | 8 => [7, 9, 11, 12] | 9 => [7, 8, 11, 12] | 10 => [7, 11, 12] | 11 => [7, 8, 9, 12, 10] | 12 => [7, 8, 9, 11, 10] | 13 => [10, 7] | 14 => [7] | 17 => [16, 18, 20, 21] | 18 => [16, 17, 20, 21] | 19 => [16, 20, 21] | 20 => [16, 17, 18, 21, 19] | 21 => [16, 17, 18, 20, 19] | 22 => [19, 16] | 23 => [16] | _ => []) [24] [0, 0, 3, 0, 0, 31, 63, 127, 255, 255, 1023, 255, 255, 8191, 16383, 32767, 65535, 131071, 131071, 524287, 131071, 131071, 4194303, 8388607, 16777215] 103 rfl (by kernel_rfl) (ExtX.start _ _) ?_ ?_
  · rename_i hcont; clear hcont
    refine ⟨?_, ?_, ?_, ?_, ?_, ?_, ?_, ?_, ?_, ?_, ?_, ?_, ?_, ?_, ?_, ?_, ?_, ?_, ?_, ?_, ?_, ?_, ?_, ?_, ?_, trivial⟩
    · refine stepL_plain rfl ?_
      rintro F a w1 jE - ⟨t4, -⟩ K hK
      have t4 : a.tmps[4]? = some (.pointer (some ⟨ga, 0, none⟩)) := t4
      have c := (jE.blk B23 (by simp)).cell
      go_simp
      exact hK _ _ jE rfl (fun _ _ _ h => h)
    · refine stepL_plain rfl ?_
      rintro F a w1 jE - ⟨t5, -⟩ K hK
      have t5 : a.tmps[5]? = some (.pointer (some ⟨(ga + 1), 0, none⟩)) := t5
      have c := (jE.blk B24 (by simp)).cell
      go_simp
      exact hK _ _ jE rfl (fun _ _ _ h => h)
    · refine stepL_plain rfl ?_
      rintro F a w1 jE ⟨h0, t32, h1, t33, -⟩ - K hK
      have h0 : (F 0) = (.agg #[.int .i64 ax, .int .i64 ay, .int .i64 aw, .int .i64 ah]) := h0
      rw [h0] at t32
      clear h0
      have h1 : (F 1) = (.agg #[.int .i64 bx, .int .i64 bY, .int .i64 bw, .int .i64 bh]) := h1
      rw [h1] at t33
      clear h1
      go_simp
      with_reducible refine (unhide (m1 _)).mono ?_
      rintro e w2 ⟨rfl, hx⟩
      exact hK _ _ (jE.trans hx) (rfl) (by intro jq hj uq h; have hj : jq ∈ [3, 4] := hj; simp only [List.mem_cons, List.not_mem_nil, or_false] at hj; rcases hj with rfl | rfl; exact (have h : uq = (.agg #[.int .i64 cx', .int .i64 cy, .int .i64 cw, .int .i64 ch]) := h; h); exact (have h : uq = (.agg #[.int .i64 dx', .int .i64 dY, .int .i64 dw, .int .i64 dh]) := h; h))
    · refine stepL_plain rfl ?_
      rintro F a w1 jE - ⟨t9, -⟩ K hK
      have t9 : a.tmps[9]? = some (.pointer (some ⟨gc, 0, none⟩)) := t9
      have c := (jE.blk B25 (by simp)).cell
      go_simp
      exact hK _ _ jE rfl (fun _ _ _ h => h)
    · refine stepL_plain rfl ?_
      rintro F a w1 jE - ⟨t10, -⟩ K hK
      have t10 : a.tmps[10]? = some (.pointer (some ⟨gd, 0, none⟩)) := t10
      have c := (jE.blk Bd (by simp)).cell
      go_simp
      exact hK _ _ jE rfl (fun _ _ _ h => h)
    · refine stepL_plain rfl ?_
      rintro F a w1 jE ⟨h3, t35, h4, t36, -⟩ - K hK
      have h3 : (F 3) = (.agg #[.int .i64 cx', .int .i64 cy, .int .i64 cw, .int .i64 ch]) := h3
      rw [h3] at t35
      clear h3
      have h4 : (F 4) = (.agg #[.int .i64 dx', .int .i64 dY, .int .i64 dw, .int .i64 dh]) := h4
      rw [h4] at t36
      clear h4
      go_simp
      with_reducible refine (unhide (m2 _)).mono ?_
      rintro e w2 ⟨rfl, hx⟩
      exact hK _ _ (jE.trans hx) (rfl) (by intro jq hj uq h; have hj : jq ∈ [2] := hj; simp only [List.mem_singleton] at hj; subst hj; exact (have h : uq = .bool m := h; h))
    · refine stepL_plain rfl ?_
      rintro F a w1 jE ⟨h2, t34, h5, t37, -⟩ - K hK
      have h2 : (F 2) = .bool m := h2
      rw [h2] at t34
      clear h2
      have h5 : (F 5) = .bool m := h5
      rw [h5] at t37
      clear h5
      go_simp
      exact hK _ _ jE rfl (fun _ _ _ h => h)
    · refine stepL_plain rfl ?_
      rintro F a w1 jE ⟨h6, t38, -⟩ - K hK
      have h6 : (F 6) = .bool false := h6
      rw [h6] at t38
      clear h6
      go_simp
      exact hK _ _ jE rfl (fun _ _ _ h => h)
    · refine stepL_of ?_
      rintro F a w1 jE ⟨h7, t39, -⟩ ⟨t4, -⟩ K hK
      have h7 : (F 7) = .bool false := h7
      rw [h7] at t39
      clear h7
      have t4 : a.tmps[4]? = some (.pointer (some ⟨ga, 0, none⟩)) := t4
      refine stepY ((wanted_of 7 false 39 _ rfl rfl t39).trans rfl) ?_
      have c := (jE.blk B23 (by simp)).cell
      go_simp
      exact hK _ _ jE rfl (fun _ _ _ h => h)
    · refine stepL_of ?_
      rintro F a w1 jE ⟨h7, t39, -⟩ ⟨t5, -⟩ K hK
      have h7 : (F 7) = .bool false := h7
      rw [h7] at t39
      clear h7
      have t5 : a.tmps[5]? = some (.pointer (some ⟨(ga + 1), 0, none⟩)) := t5
      refine stepY ((wanted_of 7 false 39 _ rfl rfl t39).trans rfl) ?_
      have c := (jE.blk B24 (by simp)).cell
      go_simp
      exact hK _ _ jE rfl (fun _ _ _ h => h)
    · refine stepL_of ?_
      rintro F a w1 jE ⟨h8, t40, h9, t41, h7, t39, -⟩ - K hK
      have h8 : (F 8) = (.agg #[.int .i64 ax, .int .i64 ay, .int .i64 aw, .int .i64 ah]) := h8
      rw [h8] at t40
      clear h8
      have h9 : (F 9) = (.agg #[.int .i64 bx, .int .i64 bY, .int .i64 bw, .int .i64 bh]) := h9
      rw [h9] at t41
      clear h9
      have h7 : (F 7) = .bool false := h7
      rw [h7] at t39
      clear h7
      refine stepY ((wanted_of 7 false 39 _ rfl rfl t39).trans rfl) ?_
      go_simp
      with_reducible refine (unhide (i1 _)).mono ?_
      rintro e w2 ⟨rfl, hx⟩
      exact hK _ _ (jE.trans hx) (rfl) (by intro jq hj uq h; have hj : jq ∈ [7, 11, 12] := hj; simp only [List.mem_cons, List.not_mem_nil, or_false] at hj; rcases hj with rfl | rfl | rfl; exact (have h : uq = .bool false := h; h); exact (have h : uq = (.agg #[.int .i64 cx', .int .i64 cy, .int .i64 cw, .int .i64 ch]) := h; h); exact (have h : uq = (.agg #[.int .i64 dx', .int .i64 dY, .int .i64 dw, .int .i64 dh]) := h; h))
    · refine stepL_of ?_
      rintro F a w1 jE ⟨h7, t39, -⟩ ⟨t9, -⟩ K hK
      have h7 : (F 7) = .bool false := h7
      rw [h7] at t39
      clear h7
      have t9 : a.tmps[9]? = some (.pointer (some ⟨gc, 0, none⟩)) := t9
      refine stepY ((wanted_of 7 false 39 _ rfl rfl t39).trans rfl) ?_
      have c := (jE.blk B25 (by simp)).cell
      go_simp
      exact hK _ _ jE rfl (fun _ _ _ h => h)
    · refine stepL_of ?_
      rintro F a w1 jE ⟨h7, t39, -⟩ ⟨t10, -⟩ K hK
      have h7 : (F 7) = .bool false := h7
      rw [h7] at t39
      clear h7
      have t10 : a.tmps[10]? = some (.pointer (some ⟨gd, 0, none⟩)) := t10
      refine stepY ((wanted_of 7 false 39 _ rfl rfl t39).trans rfl) ?_
      have c := (jE.blk Bd (by simp)).cell
      go_simp
      exact hK _ _ jE rfl (fun _ _ _ h => h)
    · refine stepL_of ?_
      rintro F a w1 jE ⟨h11, t43, h12, t44, h7, t39, -⟩ - K hK
      have h11 : (F 11) = (.agg #[.int .i64 cx', .int .i64 cy, .int .i64 cw, .int .i64 ch]) := h11
      rw [h11] at t43
      clear h11
      have h12 : (F 12) = (.agg #[.int .i64 dx', .int .i64 dY, .int .i64 dw, .int .i64 dh]) := h12
      rw [h12] at t44
      clear h12
      have h7 : (F 7) = .bool false := h7
      rw [h7] at t39
      clear h7
      refine stepY ((wanted_of 7 false 39 _ rfl rfl t39).trans rfl) ?_
      go_simp
      with_reducible refine (unhide (i2 _)).mono ?_
      rintro e w2 ⟨rfl, hx⟩
      exact hK _ _ (jE.trans hx) (rfl) (by intro jq hj uq h; have hj : jq ∈ [10, 7] := hj; simp only [List.mem_cons, List.not_mem_nil, or_false] at hj; rcases hj with rfl | rfl; exact (have h : uq = .bool i := h; h); exact (have h : uq = .bool false := h; h))
    · refine stepL_of ?_
      rintro F a w1 jE ⟨h10, t42, h13, t45, h7, t39, -⟩ - K hK
      have h10 : (F 10) = .bool i := h10
      rw [h10] at t42
      clear h10
      have h13 : (F 13) = .bool i := h13
      rw [h13] at t45
      clear h13
      have h7 : (F 7) = .bool false := h7
      rw [h7] at t39
      clear h7
      refine stepY ((wanted_of 7 false 39 _ rfl rfl t39).trans rfl) ?_
      go_simp
      exact hK _ _ jE rfl (fun _ _ _ h => h)
    · refine stepL_plain rfl ?_
      rintro F a w1 jE ⟨h7, t39, h14, t46, -⟩ - K hK
      have h7 : (F 7) = .bool false := h7
      rw [h7] at t39
      clear h7
      have h14 : (F 14) = .bool false := h14
      rw [h14] at t46
      clear h14
      go_simp
      exact hK _ _ jE rfl (fun _ _ _ h => h)
    · refine stepL_plain rfl ?_
      rintro F a w1 jE ⟨h15, t47, -⟩ - K hK
      have h15 : (F 15) = .bool false := h15
      rw [h15] at t47
      clear h15
      go_simp
      exact hK _ _ jE rfl (fun _ _ _ h => h)
    · refine stepL_of ?_
      rintro F a w1 jE ⟨h16, t48, -⟩ ⟨t5, -⟩ K hK
      have h16 : (F 16) = .bool false := h16
      rw [h16] at t48
      clear h16
      have t5 : a.tmps[5]? = some (.pointer (some ⟨(ga + 1), 0, none⟩)) := t5
      refine stepY ((wanted_of 16 false 48 _ rfl rfl t48).trans rfl) ?_
      have c := (jE.blk B24 (by simp)).cell
      go_simp
      exact hK _ _ jE rfl (fun _ _ _ h => h)
    · refine stepL_of ?_
      rintro F a w1 jE ⟨h16, t48, -⟩ ⟨t4, -⟩ K hK
      have h16 : (F 16) = .bool false := h16
      rw [h16] at t48
      clear h16
      have t4 : a.tmps[4]? = some (.pointer (some ⟨ga, 0, none⟩)) := t4
      refine stepY ((wanted_of 16 false 48 _ rfl rfl t48).trans rfl) ?_
      have c := (jE.blk B23 (by simp)).cell
      go_simp
      exact hK _ _ jE rfl (fun _ _ _ h => h)
    · refine stepL_of ?_
      rintro F a w1 jE ⟨h17, t49, h18, t50, h16, t48, -⟩ - K hK
      have h17 : (F 17) = (.agg #[.int .i64 bx, .int .i64 bY, .int .i64 bw, .int .i64 bh]) := h17
      rw [h17] at t49
      clear h17
      have h18 : (F 18) = (.agg #[.int .i64 ax, .int .i64 ay, .int .i64 aw, .int .i64 ah]) := h18
      rw [h18] at t50
      clear h18
      have h16 : (F 16) = .bool false := h16
      rw [h16] at t48
      clear h16
      refine stepY ((wanted_of 16 false 48 _ rfl rfl t48).trans rfl) ?_
      go_simp
      with_reducible refine (unhide (j1 _)).mono ?_
      rintro e w2 ⟨rfl, hx⟩
      exact hK _ _ (jE.trans hx) (rfl) (by intro jq hj uq h; have hj : jq ∈ [16, 20, 21] := hj; simp only [List.mem_cons, List.not_mem_nil, or_false] at hj; rcases hj with rfl | rfl | rfl; exact (have h : uq = .bool false := h; h); exact (have h : uq = (.agg #[.int .i64 dx', .int .i64 dY, .int .i64 dw, .int .i64 dh]) := h; h); exact (have h : uq = (.agg #[.int .i64 cx', .int .i64 cy, .int .i64 cw, .int .i64 ch]) := h; h))
    · refine stepL_of ?_
      rintro F a w1 jE ⟨h16, t48, -⟩ ⟨t10, -⟩ K hK
      have h16 : (F 16) = .bool false := h16
      rw [h16] at t48
      clear h16
      have t10 : a.tmps[10]? = some (.pointer (some ⟨gd, 0, none⟩)) := t10
      refine stepY ((wanted_of 16 false 48 _ rfl rfl t48).trans rfl) ?_
      have c := (jE.blk Bd (by simp)).cell
      go_simp
      exact hK _ _ jE rfl (fun _ _ _ h => h)
    · refine stepL_of ?_
      rintro F a w1 jE ⟨h16, t48, -⟩ ⟨t9, -⟩ K hK
      have h16 : (F 16) = .bool false := h16
      rw [h16] at t48
      clear h16
      have t9 : a.tmps[9]? = some (.pointer (some ⟨gc, 0, none⟩)) := t9
      refine stepY ((wanted_of 16 false 48 _ rfl rfl t48).trans rfl) ?_
      have c := (jE.blk B25 (by simp)).cell
      go_simp
      exact hK _ _ jE rfl (fun _ _ _ h => h)
    · refine stepL_of ?_
      rintro F a w1 jE ⟨h20, t52, h21, t53, h16, t48, -⟩ - K hK
      have h20 : (F 20) = (.agg #[.int .i64 dx', .int .i64 dY, .int .i64 dw, .int .i64 dh]) := h20
      rw [h20] at t52
      clear h20
      have h21 : (F 21) = (.agg #[.int .i64 cx', .int .i64 cy, .int .i64 cw, .int .i64 ch]) := h21
      rw [h21] at t53
      clear h21
      have h16 : (F 16) = .bool false := h16
      rw [h16] at t48
      clear h16
      refine stepY ((wanted_of 16 false 48 _ rfl rfl t48).trans rfl) ?_
      go_simp
      with_reducible refine (unhide (j2 _)).mono ?_
      rintro e w2 ⟨rfl, hx⟩
      exact hK _ _ (jE.trans hx) (rfl) (by intro jq hj uq h; have hj : jq ∈ [19, 16] := hj; simp only [List.mem_cons, List.not_mem_nil, or_false] at hj; rcases hj with rfl | rfl; exact (have h : uq = .bool j := h; h); exact (have h : uq = .bool false := h; h))
    · refine stepL_of ?_
      rintro F a w1 jE ⟨h19, t51, h22, t54, h16, t48, -⟩ - K hK
      have h19 : (F 19) = .bool j := h19
      rw [h19] at t51
      clear h19
      have h22 : (F 22) = .bool j := h22
      rw [h22] at t54
      clear h22
      have h16 : (F 16) = .bool false := h16
      rw [h16] at t48
      clear h16
      refine stepY ((wanted_of 16 false 48 _ rfl rfl t48).trans rfl) ?_
      go_simp
      exact hK _ _ jE rfl (fun _ _ _ h => h)
    · refine stepL_plain rfl ?_
      rintro F a w1 jE ⟨h16, t48, h23, t55, -⟩ - K hK
      have h16 : (F 16) = .bool false := h16
      rw [h16] at t48
      clear h16
      have h23 : (F 23) = .bool false := h23
      rw [h23] at t55
      clear h23
      go_simp
      exact hK _ _ jE rfl (fun _ _ _ h => h)
  · rintro F w90 jE ⟨h24, -⟩
    have h24 : (F 24) = .bool false := h24
    have hx := jE.ext (Ext.refl _) (by simp)
    have Bac := B23.cell
    have Bal := B23.lt
    have Bbc := B24.cell
    have Bbl := B24.lt
    have Bcc := B25.cell
    have Bcl := B25.lt
    have Bdc := Bd.cell
    have Bdl := Bd.lt
    have B27 := B23.ext hx
    have B28 := B24.ext hx
    have B29 := B25.ext hx
    have B30 := Bd.ext hx
    have E31 := E26.trans hx
    clear Bac Bal Bbc Bbl Bcc Bcl Bdc Bdl
    clear B23 B24 B25 Bd E26 hx
    have Bac := B27.cell
    have Bal := B27.lt
    have Bbc := B28.cell
    have Bbl := B28.lt
    have Bcc := B29.cell
    have Bcl := B29.lt
    have Bdc := B30.cell
    have Bdl := B30.lt
    clear jE
    simp only [putL, Act.put, Nat.reduceAdd, Nat.zero_add, List.setIfInBounds_toArray, List.set_cons_succ, List.set_cons_zero]
    rw [h24]
    clear h24
    go_wp2_with fail
    refine (unhide (k1 _ 33 _ (Blk.new _ _ _))).mono ?_
    rintro e w32 ⟨rfl, hx⟩
    replace hx : Ext w90 w32 := ((Ext.refl _).alloc _).trans hx
    have B33 := B27.ext hx
    have B34 := B28.ext hx
    have B35 := B29.ext hx
    have B36 := B30.ext hx
    have E37 := E31.trans hx
    clear Bac Bal Bbc Bbl Bcc Bcl Bdc Bdl
    clear B27 B28 B29 B30 E31 hx
    have Bac := B33.cell
    have Bal := B33.lt
    have Bbc := B34.cell
    have Bbl := B34.lt
    have Bcc := B35.cell
    have Bcl := B35.lt
    have Bdc := B36.cell
    have Bdl := B36.lt
    go_wp2_with fail
    have Bx : Blk (w32.alloc (.cells #[.int .i64 0, .int .i64 0, .int .i64 0, .int .i64 0] 33)) w32.heap.size 33 #[.int .i64 0, .int .i64 0, .int .i64 0, .int .i64 0] := Blk.new _ _ _
    have hx : Ext w32 (w32.alloc (.cells #[.int .i64 0, .int .i64 0, .int .i64 0, .int .i64 0] 33)) := (Ext.refl _).alloc _
    have hsx : (w32.alloc (.cells #[.int .i64 0, .int .i64 0, .int .i64 0, .int .i64 0] 33)).heap.size = w32.heap.size + 1 := World.size_alloc _ _
    generalize hgx : w32.heap.size = gx at *
    have HGx := hide hgx
    clear hgx
    generalize w32.alloc (.cells #[.int .i64 0, .int .i64 0, .int .i64 0, .int .i64 0] 33) = w38 at *
    have B39 := B33.ext hx
    have B40 := B34.ext hx
    have B41 := B35.ext hx
    have B42 := B36.ext hx
    have E43 := E37.trans hx
    clear Bac Bal Bbc Bbl Bcc Bcl Bdc Bdl
    clear B33 B34 B35 B36 E37 hx
    have Bac := B39.cell
    have Bal := B39.lt
    have Bbc := B40.cell
    have Bbl := B40.lt
    have Bcc := B41.cell
    have Bcl := B41.lt
    have Bdc := B42.cell
    have Bdl := B42.lt
    have Bxc := Bx.cell
    have Bxl := Bx.lt
    go_wp2_with fail
    refine (unhide (k2 _ 33 _ (by have h := Blk.new w38 33 #[.int .i64 cx', .int .i64 cy, .int .i64 cw, .int .i64 ch, .int .i64 dx', .int .i64 dY, .int .i64 dw, .int .i64 dh]; rw [hsx] at h; exact h))).mono ?_
    rintro e w44 ⟨rfl, hx⟩
    replace hx : Ext w38 w44 := ((Ext.refl _).alloc _).trans hx
    have B45 := B39.ext hx
    have B46 := B40.ext hx
    have B47 := B41.ext hx
    have B48 := B42.ext hx
    have B49 := Bx.ext hx
    have E50 := E43.trans hx
    clear Bac Bal Bbc Bbl Bcc Bcl Bdc Bdl Bxc Bxl
    clear B39 B40 B41 B42 Bx E43 hx
    have Bac := B45.cell
    have Bal := B45.lt
    have Bbc := B46.cell
    have Bbl := B46.lt
    have Bcc := B47.cell
    have Bcl := B47.lt
    have Bdc := B48.cell
    have Bdl := B48.lt
    have Bxc := B49.cell
    have Bxl := B49.lt
    go_wp2_with fail
    have By : Blk (w44.alloc (.cells #[.int .i64 0, .int .i64 0, .int .i64 0, .int .i64 0] 33)) w44.heap.size 33 #[.int .i64 0, .int .i64 0, .int .i64 0, .int .i64 0] := Blk.new _ _ _
    have hx : Ext w44 (w44.alloc (.cells #[.int .i64 0, .int .i64 0, .int .i64 0, .int .i64 0] 33)) := (Ext.refl _).alloc _
    have hsy : (w44.alloc (.cells #[.int .i64 0, .int .i64 0, .int .i64 0, .int .i64 0] 33)).heap.size = w44.heap.size + 1 := World.size_alloc _ _
    generalize hgy : w44.heap.size = gy at *
    have HGy := hide hgy
    clear hgy
    generalize w44.alloc (.cells #[.int .i64 0, .int .i64 0, .int .i64 0, .int .i64 0] 33) = w51 at *
    have B52 := B45.ext hx
    have B53 := B46.ext hx
    have B54 := B47.ext hx
    have B55 := B48.ext hx
    have B56 := B49.ext hx
    have E57 := E50.trans hx
    clear Bac Bal Bbc Bbl Bcc Bcl Bdc Bdl Bxc Bxl
    clear B45 B46 B47 B48 B49 E50 hx
    have Bac := B52.cell
    have Bal := B52.lt
    have Bbc := B53.cell
    have Bbl := B53.lt
    have Bcc := B54.cell
    have Bcl := B54.lt
    have Bdc := B55.cell
    have Bdl := B55.lt
    have Bxc := B56.cell
    have Bxl := B56.lt
    have Byc := By.cell
    have Byl := By.lt
    have heq := heq ⟨0, 0, 0, 0⟩
    go_wp2_with fail
    with_reducible refine (works_any _).mono ?_
    rintro e w58 ⟨rfl, hx⟩
    have B59 := B52.ext hx
    have B60 := B53.ext hx
    have B61 := B54.ext hx
    have B62 := B55.ext hx
    have B63 := B56.ext hx
    have B64 := By.ext hx
    have E65 := E57.trans hx
    clear Bac Bal Bbc Bbl Bcc Bcl Bdc Bdl Bxc Bxl Byc Byl
    clear B52 B53 B54 B55 B56 By E57 hx
    have Bac := B59.cell
    have Bal := B59.lt
    have Bbc := B60.cell
    have Bbl := B60.lt
    have Bcc := B61.cell
    have Bcl := B61.lt
    have Bdc := B62.cell
    have Bdl := B62.lt
    have Bxc := B63.cell
    have Bxl := B63.lt
    have Byc := B64.cell
    have Byl := B64.lt
    go_wp2_with fail
    go_ret
    exact ⟨rfl, E65⟩

theorem law_moved (a b : Rc) (dx dy : Int) (h1 : -2147483648 ≤ dx ∧ dx ≤ 2147483647) (h2 : -2147483648 ≤ dy ∧ dy ≤ 2147483647) (w : World) :
    Calls Try.prog 8 #[.agg a.cs, .agg b.cs, .int .i32 dx, .int .i32 dy] w fun e w' => e = .returned (.bool true) ∧ Ext w w' := by
  cases na : nearB a
  · exact moved_far a b dx dy (.inl na) w
  · cases nb : nearB b
    · exact moved_far a b dx dy (.inr nb) w
    · cases hs : (a.some || b.some)
      · exact moved_none a b dx dy h1 h2 na nb hs w
      · exact moved_some_ a b dx dy h1 h2 na nb hs w
end Go.Proofs.Ytphckjnmbbjenaa
