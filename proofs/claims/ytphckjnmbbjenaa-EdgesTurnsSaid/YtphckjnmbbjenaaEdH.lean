/- Layer 2: the law on rectangles within rectangles (walk). -/
import Derived.Test.YtphckjnmbbjenaaEdN
import Derived.Test.YtphckjnmbbjenaaEdPb
import Derived.Deep.Cut
namespace Go.Proofs.Ytphckjnmbbjenaa
open Go.RowKit

theorem chain_far (a b c : Rc) (h : nearB a = false ∨ nearB b = false ∨ nearB c = false) (w : World) :
    Calls Try.prog 9 #[.agg a.cs, .agg b.cs, .agg c.cs] w fun e w' => e = .returned (.bool true) ∧ Ext w w' := by
  have c1 := fun w => hide (near_any a w)
  have c2 := fun w => hide (near_any b w)
  have c3 := fun w => hide (near_any c w)
  obtain ⟨ax, ay, aw, ah⟩ := a
  obtain ⟨bx, bY, bw, bh⟩ := b
  obtain ⟨cX, cy, cw, ch⟩ := c
  generalize nearB ⟨ax, ay, aw, ah⟩ = n1 at *
  generalize nearB ⟨bx, bY, bw, bh⟩ = n2 at *
  generalize nearB ⟨cX, cy, cw, ch⟩ = n3 at *
  cases n1
  · clear h
    go_enter Try.func9, Try.ntmps9
    go_wp2_with fail
    have Ba : Blk (((w.alloc (.cells #[.int .i64 ax, .int .i64 ay, .int .i64 aw, .int .i64 ah] 33)).alloc (.cells #[.int .i64 bx, .int .i64 bY, .int .i64 bw, .int .i64 bh] 33)).alloc (.cells #[.int .i64 cX, .int .i64 cy, .int .i64 cw, .int .i64 ch] 33)) w.heap.size 33 #[.int .i64 ax, .int .i64 ay, .int .i64 aw, .int .i64 ah] := ((Blk.new _ _ _).alloc _).alloc _
    have Bb : Blk (((w.alloc (.cells #[.int .i64 ax, .int .i64 ay, .int .i64 aw, .int .i64 ah] 33)).alloc (.cells #[.int .i64 bx, .int .i64 bY, .int .i64 bw, .int .i64 bh] 33)).alloc (.cells #[.int .i64 cX, .int .i64 cy, .int .i64 cw, .int .i64 ch] 33)) (w.heap.size + 1) 33 #[.int .i64 bx, .int .i64 bY, .int .i64 bw, .int .i64 bh] := (Blk.new1 _ _ _ _).alloc _
    have Bc : Blk (((w.alloc (.cells #[.int .i64 ax, .int .i64 ay, .int .i64 aw, .int .i64 ah] 33)).alloc (.cells #[.int .i64 bx, .int .i64 bY, .int .i64 bw, .int .i64 bh] 33)).alloc (.cells #[.int .i64 cX, .int .i64 cy, .int .i64 cw, .int .i64 ch] 33)) (w.heap.size + 2) 33 #[.int .i64 cX, .int .i64 cy, .int .i64 cw, .int .i64 ch] := Blk.new2 _ _ _ _ _
    have E0 : Ext w (((w.alloc (.cells #[.int .i64 ax, .int .i64 ay, .int .i64 aw, .int .i64 ah] 33)).alloc (.cells #[.int .i64 bx, .int .i64 bY, .int .i64 bw, .int .i64 bh] 33)).alloc (.cells #[.int .i64 cX, .int .i64 cy, .int .i64 cw, .int .i64 ch] 33)) := (((Ext.refl _).alloc _).alloc _).alloc _
    generalize (((w.alloc (.cells #[.int .i64 ax, .int .i64 ay, .int .i64 aw, .int .i64 ah] 33)).alloc (.cells #[.int .i64 bx, .int .i64 bY, .int .i64 bw, .int .i64 bh] 33)).alloc (.cells #[.int .i64 cX, .int .i64 cy, .int .i64 cw, .int .i64 ch] 33)) = wa at *
    generalize hga : w.heap.size = ga at *
    have HGA := hide hga
    clear hga
    have Bac := Ba.cell
    have Bal := Ba.lt
    have Bbc := Bb.cell
    have Bbl := Bb.lt
    have Bcc := Bc.cell
    have Bcl := Bc.lt
    go_wp2_with fail
    with_reducible refine (unhide (c1 _)).mono ?_
    rintro e w1 ⟨rfl, hx⟩
    have B2 := Ba.ext hx
    have B3 := Bb.ext hx
    have B4 := Bc.ext hx
    have E5 := E0.trans hx
    clear Bac Bal Bbc Bbl Bcc Bcl
    clear Ba Bb Bc E0 hx
    have Bac := B2.cell
    have Bal := B2.lt
    have Bbc := B3.cell
    have Bbl := B3.lt
    have Bcc := B4.cell
    have Bcl := B4.lt
    go_wp2_with fail
    with_reducible refine (works_any _).mono ?_
    rintro e w6 ⟨rfl, hx⟩
    have B7 := B2.ext hx
    have B8 := B3.ext hx
    have B9 := B4.ext hx
    have E10 := E5.trans hx
    clear Bac Bal Bbc Bbl Bcc Bcl
    clear B2 B3 B4 E5 hx
    have Bac := B7.cell
    have Bal := B7.lt
    have Bbc := B8.cell
    have Bbl := B8.lt
    have Bcc := B9.cell
    have Bcl := B9.lt
    go_wp2_with fail
    go_ret
    exact ⟨rfl, E10⟩
  cases n2
  · clear h
    go_enter Try.func9, Try.ntmps9
    go_wp2_with fail
    have Ba : Blk (((w.alloc (.cells #[.int .i64 ax, .int .i64 ay, .int .i64 aw, .int .i64 ah] 33)).alloc (.cells #[.int .i64 bx, .int .i64 bY, .int .i64 bw, .int .i64 bh] 33)).alloc (.cells #[.int .i64 cX, .int .i64 cy, .int .i64 cw, .int .i64 ch] 33)) w.heap.size 33 #[.int .i64 ax, .int .i64 ay, .int .i64 aw, .int .i64 ah] := ((Blk.new _ _ _).alloc _).alloc _
    have Bb : Blk (((w.alloc (.cells #[.int .i64 ax, .int .i64 ay, .int .i64 aw, .int .i64 ah] 33)).alloc (.cells #[.int .i64 bx, .int .i64 bY, .int .i64 bw, .int .i64 bh] 33)).alloc (.cells #[.int .i64 cX, .int .i64 cy, .int .i64 cw, .int .i64 ch] 33)) (w.heap.size + 1) 33 #[.int .i64 bx, .int .i64 bY, .int .i64 bw, .int .i64 bh] := (Blk.new1 _ _ _ _).alloc _
    have Bc : Blk (((w.alloc (.cells #[.int .i64 ax, .int .i64 ay, .int .i64 aw, .int .i64 ah] 33)).alloc (.cells #[.int .i64 bx, .int .i64 bY, .int .i64 bw, .int .i64 bh] 33)).alloc (.cells #[.int .i64 cX, .int .i64 cy, .int .i64 cw, .int .i64 ch] 33)) (w.heap.size + 2) 33 #[.int .i64 cX, .int .i64 cy, .int .i64 cw, .int .i64 ch] := Blk.new2 _ _ _ _ _
    have E0 : Ext w (((w.alloc (.cells #[.int .i64 ax, .int .i64 ay, .int .i64 aw, .int .i64 ah] 33)).alloc (.cells #[.int .i64 bx, .int .i64 bY, .int .i64 bw, .int .i64 bh] 33)).alloc (.cells #[.int .i64 cX, .int .i64 cy, .int .i64 cw, .int .i64 ch] 33)) := (((Ext.refl _).alloc _).alloc _).alloc _
    generalize (((w.alloc (.cells #[.int .i64 ax, .int .i64 ay, .int .i64 aw, .int .i64 ah] 33)).alloc (.cells #[.int .i64 bx, .int .i64 bY, .int .i64 bw, .int .i64 bh] 33)).alloc (.cells #[.int .i64 cX, .int .i64 cy, .int .i64 cw, .int .i64 ch] 33)) = wa at *
    generalize hga : w.heap.size = ga at *
    have HGA := hide hga
    clear hga
    have Bac := Ba.cell
    have Bal := Ba.lt
    have Bbc := Bb.cell
    have Bbl := Bb.lt
    have Bcc := Bc.cell
    have Bcl := Bc.lt
    go_wp2_with fail
    with_reducible refine (unhide (c1 _)).mono ?_
    rintro e w1 ⟨rfl, hx⟩
    have B2 := Ba.ext hx
    have B3 := Bb.ext hx
    have B4 := Bc.ext hx
    have E5 := E0.trans hx
    clear Bac Bal Bbc Bbl Bcc Bcl
    clear Ba Bb Bc E0 hx
    have Bac := B2.cell
    have Bal := B2.lt
    have Bbc := B3.cell
    have Bbl := B3.lt
    have Bcc := B4.cell
    have Bcl := B4.lt
    go_wp2_with fail
    with_reducible refine (unhide (c2 _)).mono ?_
    rintro e w6 ⟨rfl, hx⟩
    have B7 := B2.ext hx
    have B8 := B3.ext hx
    have B9 := B4.ext hx
    have E10 := E5.trans hx
    clear Bac Bal Bbc Bbl Bcc Bcl
    clear B2 B3 B4 E5 hx
    have Bac := B7.cell
    have Bal := B7.lt
    have Bbc := B8.cell
    have Bbl := B8.lt
    have Bcc := B9.cell
    have Bcl := B9.lt
    go_wp2_with fail
    with_reducible refine (works_any _).mono ?_
    rintro e w11 ⟨rfl, hx⟩
    have B12 := B7.ext hx
    have B13 := B8.ext hx
    have B14 := B9.ext hx
    have E15 := E10.trans hx
    clear Bac Bal Bbc Bbl Bcc Bcl
    clear B7 B8 B9 E10 hx
    have Bac := B12.cell
    have Bal := B12.lt
    have Bbc := B13.cell
    have Bbl := B13.lt
    have Bcc := B14.cell
    have Bcl := B14.lt
    go_wp2_with fail
    go_ret
    exact ⟨rfl, E15⟩
  cases n3
  · clear h
    go_enter Try.func9, Try.ntmps9
    go_wp2_with fail
    have Ba : Blk (((w.alloc (.cells #[.int .i64 ax, .int .i64 ay, .int .i64 aw, .int .i64 ah] 33)).alloc (.cells #[.int .i64 bx, .int .i64 bY, .int .i64 bw, .int .i64 bh] 33)).alloc (.cells #[.int .i64 cX, .int .i64 cy, .int .i64 cw, .int .i64 ch] 33)) w.heap.size 33 #[.int .i64 ax, .int .i64 ay, .int .i64 aw, .int .i64 ah] := ((Blk.new _ _ _).alloc _).alloc _
    have Bb : Blk (((w.alloc (.cells #[.int .i64 ax, .int .i64 ay, .int .i64 aw, .int .i64 ah] 33)).alloc (.cells #[.int .i64 bx, .int .i64 bY, .int .i64 bw, .int .i64 bh] 33)).alloc (.cells #[.int .i64 cX, .int .i64 cy, .int .i64 cw, .int .i64 ch] 33)) (w.heap.size + 1) 33 #[.int .i64 bx, .int .i64 bY, .int .i64 bw, .int .i64 bh] := (Blk.new1 _ _ _ _).alloc _
    have Bc : Blk (((w.alloc (.cells #[.int .i64 ax, .int .i64 ay, .int .i64 aw, .int .i64 ah] 33)).alloc (.cells #[.int .i64 bx, .int .i64 bY, .int .i64 bw, .int .i64 bh] 33)).alloc (.cells #[.int .i64 cX, .int .i64 cy, .int .i64 cw, .int .i64 ch] 33)) (w.heap.size + 2) 33 #[.int .i64 cX, .int .i64 cy, .int .i64 cw, .int .i64 ch] := Blk.new2 _ _ _ _ _
    have E0 : Ext w (((w.alloc (.cells #[.int .i64 ax, .int .i64 ay, .int .i64 aw, .int .i64 ah] 33)).alloc (.cells #[.int .i64 bx, .int .i64 bY, .int .i64 bw, .int .i64 bh] 33)).alloc (.cells #[.int .i64 cX, .int .i64 cy, .int .i64 cw, .int .i64 ch] 33)) := (((Ext.refl _).alloc _).alloc _).alloc _
    generalize (((w.alloc (.cells #[.int .i64 ax, .int .i64 ay, .int .i64 aw, .int .i64 ah] 33)).alloc (.cells #[.int .i64 bx, .int .i64 bY, .int .i64 bw, .int .i64 bh] 33)).alloc (.cells #[.int .i64 cX, .int .i64 cy, .int .i64 cw, .int .i64 ch] 33)) = wa at *
    generalize hga : w.heap.size = ga at *
    have HGA := hide hga
    clear hga
    have Bac := Ba.cell
    have Bal := Ba.lt
    have Bbc := Bb.cell
    have Bbl := Bb.lt
    have Bcc := Bc.cell
    have Bcl := Bc.lt
    go_wp2_with fail
    with_reducible refine (unhide (c1 _)).mono ?_
    rintro e w1 ⟨rfl, hx⟩
    have B2 := Ba.ext hx
    have B3 := Bb.ext hx
    have B4 := Bc.ext hx
    have E5 := E0.trans hx
    clear Bac Bal Bbc Bbl Bcc Bcl
    clear Ba Bb Bc E0 hx
    have Bac := B2.cell
    have Bal := B2.lt
    have Bbc := B3.cell
    have Bbl := B3.lt
    have Bcc := B4.cell
    have Bcl := B4.lt
    go_wp2_with fail
    with_reducible refine (unhide (c2 _)).mono ?_
    rintro e w6 ⟨rfl, hx⟩
    have B7 := B2.ext hx
    have B8 := B3.ext hx
    have B9 := B4.ext hx
    have E10 := E5.trans hx
    clear Bac Bal Bbc Bbl Bcc Bcl
    clear B2 B3 B4 E5 hx
    have Bac := B7.cell
    have Bal := B7.lt
    have Bbc := B8.cell
    have Bbl := B8.lt
    have Bcc := B9.cell
    have Bcl := B9.lt
    go_wp2_with fail
    with_reducible refine (unhide (c3 _)).mono ?_
    rintro e w11 ⟨rfl, hx⟩
    have B12 := B7.ext hx
    have B13 := B8.ext hx
    have B14 := B9.ext hx
    have E15 := E10.trans hx
    clear Bac Bal Bbc Bbl Bcc Bcl
    clear B7 B8 B9 E10 hx
    have Bac := B12.cell
    have Bal := B12.lt
    have Bbc := B13.cell
    have Bbl := B13.lt
    have Bcc := B14.cell
    have Bcl := B14.lt
    go_wp2_with fail
    with_reducible refine (works_any _).mono ?_
    rintro e w16 ⟨rfl, hx⟩
    have B17 := B12.ext hx
    have B18 := B13.ext hx
    have B19 := B14.ext hx
    have E20 := E15.trans hx
    clear Bac Bal Bbc Bbl Bcc Bcl
    clear B12 B13 B14 E15 hx
    have Bac := B17.cell
    have Bal := B17.lt
    have Bbc := B18.cell
    have Bbl := B18.lt
    have Bcc := B19.cell
    have Bcl := B19.lt
    go_wp2_with fail
    go_ret
    exact ⟨rfl, E20⟩
  · simp at h

set_option maxRecDepth 100000 in
set_option maxHeartbeats 8000000 in
theorem chain_near (a b c : Rc) (na : nearB a = true) (nb : nearB b = true) (nc : nearB c = true) (w : World) :
    Calls Try.prog 9 #[.agg a.cs, .agg b.cs, .agg c.cs] w fun e w' => e = .returned (.bool true) ∧ Ext w w' := by
  have Na := near_of na
  have Nb := near_of nb
  have Nc := near_of nc
  have c1 := fun w => hide (by have := near_any a w; rwa [na] at this)
  have c2 := fun w => hide (by have := near_any b w; rwa [nb] at this)
  have c3 := fun w => hide (by have := near_any c w; rwa [nc] at this)
  have oa := Na.ok (by omega)
  have ob := Nb.ok (by omega)
  have oc := Nc.ok (by omega)
  have Nx := cov2_near Na Nb
  have ox := Nx.ok (by omega)
  have oz : (cov2 (cov2 a b) c).Ok := by
    obtain ⟨q1, q2, q3, q4, q5, q6, q7, q8⟩ := Nx
    obtain ⟨r1, r2, r3, r4, r5, r6, r7, r8⟩ := Nc
    rw [cov2_eq (cov2 a b) c]
    split
    · split
      · constructor <;> simp only [joinR] <;> omega
      · exact ox
    · split
      · exact oc
      · constructor <;> simp
  have iab := fun w => hide (inside_any a b oa ob w)
  have ibc := fun w => hide (inside_any b c ob oc w)
  have iac := fun (h1 : insideB a b = true) (h2 : insideB b c = true) w => hide (by have := inside_any a c oa oc w; rwa [inside_trans h1 h2] at this)
  have mac := fun w => hide (meet_any a c oa oc w)
  have mbc := fun (h1 : insideB a b = true) (h2 : meetB a c = true) w => hide (by have := meet_any b c ob oc w; rwa [inside_meet h1 h2] at this)
  have k1 := fun g t w (h : Blk w g t #[.int .i64 a.x, .int .i64 a.y, .int .i64 a.w, .int .i64 a.h, .int .i64 b.x, .int .i64 b.y, .int .i64 b.w, .int .i64 b.h]) => hide (by
    have := cover_any (some ⟨g, 0, none⟩) 2 2 [a, b] w (h.rd4 rfl) (by intro r hr; simp at hr; rcases hr with rfl | rfl; exact oa; exact ob) (by omega)
    rwa [(cover2 a b (Na.mono (by omega)) (Nb.mono (by omega))).1, (cover2 a b (Na.mono (by omega)) (Nb.mono (by omega))).2] at this)
  have k2 := fun g t w (h : Blk w g t #[.int .i64 (cov2 a b).x, .int .i64 (cov2 a b).y, .int .i64 (cov2 a b).w, .int .i64 (cov2 a b).h, .int .i64 c.x, .int .i64 c.y, .int .i64 c.w, .int .i64 c.h]) => hide (by
    have := cover_any (some ⟨g, 0, none⟩) 2 2 [cov2 a b, c] w (h.rd4 rfl) (by intro r hr; simp at hr; rcases hr with rfl | rfl; exact ox; exact oc) (by omega)
    rwa [(cover2 (cov2 a b) c Nx (Nc.mono (by omega))).1, (cover2 (cov2 a b) c Nx (Nc.mono (by omega))).2] at this)
  have k3 := fun g t w (h : Blk w g t #[.int .i64 c.x, .int .i64 c.y, .int .i64 c.w, .int .i64 c.h, .int .i64 a.x, .int .i64 a.y, .int .i64 a.w, .int .i64 a.h, .int .i64 b.x, .int .i64 b.y, .int .i64 b.w, .int .i64 b.h]) => hide (by
    have := cover_any (some ⟨g, 0, none⟩) 3 3 [c, a, b] w (h.rd4 rfl) (by intro r hr; simp at hr; rcases hr with rfl | rfl | rfl; exact oc; exact oa; exact ob) (by omega)
    rwa [(cover3 c a b Nc Na Nb).1, (cover3 c a b Nc Na Nb).2] at this)
  have ixz := cov_left (cov2 a b) c
  have j1 := fun w => hide (by have := inside_any a (cov2 (cov2 a b) c) oa oz w; rwa [inside_trans (cov_left a b) ixz] at this)
  have j2 := fun w => hide (by have := inside_any b (cov2 (cov2 a b) c) ob oz w; rwa [inside_trans (cov_right a b) ixz] at this)
  have j3 := fun w => hide (by have := inside_any c (cov2 (cov2 a b) c) oc oz w; rwa [cov_right (cov2 a b) c] at this)
  have j4 := fun w => hide (by have := inside_any (cov2 a b) (cov2 (cov2 a b) c) ox oz w; rwa [ixz] at this)
  have em : meetB (cov2 (cov2 a b) c) c = c.some := by
    cases hs : c.some
    · exact meet_none hs
    · exact inside_meets (cov_right (cov2 a b) c) hs
  have mz := fun w => hide (by have := meet_any (cov2 (cov2 a b) c) c oz oc w; rwa [em] at this)
  have hsc : c.some = false → c.w ≤ 0 ∨ c.h ≤ 0 := some_f
  have heq := eq_self (cov2 (cov2 a b) c)
  clear na nb nc Na Nb Nc Nx oa ob oc ox oz ixz em
  generalize cov2 (cov2 a b) c = z at *
  generalize cov2 a b = x at *
  generalize insideB a b = ib at *
  generalize insideB b c = jb at *
  generalize meetB a c = mb at *
  generalize c.some = sc at *
  obtain ⟨ax, ay, aw, ah⟩ := a
  obtain ⟨bx, bY, bw, bh⟩ := b
  obtain ⟨cX, cy, cw, ch⟩ := c
  obtain ⟨xx, xy, xw, xh⟩ := x
  obtain ⟨zx, zy, zw, zh⟩ := z
  simp only at hsc
  have HSC := hide hsc
  have HEQ := hide heq
  clear hsc heq
  go_enter Try.func9, Try.ntmps9
  go_wp2_with fail
  have Ba : Blk (((w.alloc (.cells #[.int .i64 ax, .int .i64 ay, .int .i64 aw, .int .i64 ah] 33)).alloc (.cells #[.int .i64 bx, .int .i64 bY, .int .i64 bw, .int .i64 bh] 33)).alloc (.cells #[.int .i64 cX, .int .i64 cy, .int .i64 cw, .int .i64 ch] 33)) w.heap.size 33 #[.int .i64 ax, .int .i64 ay, .int .i64 aw, .int .i64 ah] := ((Blk.new _ _ _).alloc _).alloc _
  have Bb : Blk (((w.alloc (.cells #[.int .i64 ax, .int .i64 ay, .int .i64 aw, .int .i64 ah] 33)).alloc (.cells #[.int .i64 bx, .int .i64 bY, .int .i64 bw, .int .i64 bh] 33)).alloc (.cells #[.int .i64 cX, .int .i64 cy, .int .i64 cw, .int .i64 ch] 33)) (w.heap.size + 1) 33 #[.int .i64 bx, .int .i64 bY, .int .i64 bw, .int .i64 bh] := (Blk.new1 _ _ _ _).alloc _
  have Bc : Blk (((w.alloc (.cells #[.int .i64 ax, .int .i64 ay, .int .i64 aw, .int .i64 ah] 33)).alloc (.cells #[.int .i64 bx, .int .i64 bY, .int .i64 bw, .int .i64 bh] 33)).alloc (.cells #[.int .i64 cX, .int .i64 cy, .int .i64 cw, .int .i64 ch] 33)) (w.heap.size + 2) 33 #[.int .i64 cX, .int .i64 cy, .int .i64 cw, .int .i64 ch] := Blk.new2 _ _ _ _ _
  have E0 : Ext w (((w.alloc (.cells #[.int .i64 ax, .int .i64 ay, .int .i64 aw, .int .i64 ah] 33)).alloc (.cells #[.int .i64 bx, .int .i64 bY, .int .i64 bw, .int .i64 bh] 33)).alloc (.cells #[.int .i64 cX, .int .i64 cy, .int .i64 cw, .int .i64 ch] 33)) := (((Ext.refl _).alloc _).alloc _).alloc _
  generalize (((w.alloc (.cells #[.int .i64 ax, .int .i64 ay, .int .i64 aw, .int .i64 ah] 33)).alloc (.cells #[.int .i64 bx, .int .i64 bY, .int .i64 bw, .int .i64 bh] 33)).alloc (.cells #[.int .i64 cX, .int .i64 cy, .int .i64 cw, .int .i64 ch] 33)) = wa at *
  generalize hga : w.heap.size = ga at *
  have HGA := hide hga
  clear hga
  have Bac := Ba.cell
  have Bal := Ba.lt
  have Bbc := Bb.cell
  have Bbl := Bb.lt
  have Bcc := Bc.cell
  have Bcl := Bc.lt
  go_wp2_with fail
  with_reducible refine (unhide (c1 _)).mono ?_
  rintro e w1 ⟨rfl, hx⟩
  have B2 := Ba.ext hx
  have B3 := Bb.ext hx
  have B4 := Bc.ext hx
  have E5 := E0.trans hx
  clear Bac Bal Bbc Bbl Bcc Bcl
  clear Ba Bb Bc E0 hx
  have Bac := B2.cell
  have Bal := B2.lt
  have Bbc := B3.cell
  have Bbl := B3.lt
  have Bcc := B4.cell
  have Bcl := B4.lt
  go_wp2_with fail
  with_reducible refine (unhide (c2 _)).mono ?_
  rintro e w6 ⟨rfl, hx⟩
  have B7 := B2.ext hx
  have B8 := B3.ext hx
  have B9 := B4.ext hx
  have E10 := E5.trans hx
  clear Bac Bal Bbc Bbl Bcc Bcl
  clear B2 B3 B4 E5 hx
  have Bac := B7.cell
  have Bal := B7.lt
  have Bbc := B8.cell
  have Bbl := B8.lt
  have Bcc := B9.cell
  have Bcl := B9.lt
  go_wp2_with fail
  with_reducible refine (unhide (c3 _)).mono ?_
  rintro e w11 ⟨rfl, hx⟩
  have B12 := B7.ext hx
  have B13 := B8.ext hx
  have B14 := B9.ext hx
  have E15 := E10.trans hx
  clear Bac Bal Bbc Bbl Bcc Bcl
  clear B7 B8 B9 E10 hx
  have Bac := B12.cell
  have Bal := B12.lt
  have Bbc := B13.cell
  have Bbl := B13.lt
  have Bcc := B14.cell
  have Bcl := B14.lt
  go_upto_region 3 with fail
  clear Bac Bal Bbc Bbl Bcc Bcl
  refine wp_region_lin0 (fun w' => (ExtX w11 w' [])) (fun ii vv ww => match ii with | 0 => vv = (.agg #[.int .i64 ax, .int .i64 ay, .int .i64 aw, .int .i64 ah]) | 1 => vv = (.agg #[.int .i64 bx, .int .i64 bY, .int .i64 bw, .int .i64 bh]) | 2 => vv = .bool ib | 3 => vv = .bool ib | 4 => vv = (if (ib) = true then (.agg #[.int .i64 bx, .int .i64 bY, .int .i64 bw, .int .i64 bh]) else undef) | 5 => vv = (if (ib) = true then (.agg #[.int .i64 cX, .int .i64 cy, .int .i64 cw, .int .i64 ch]) else undef) | 6 => vv = (if (ib) = true then .bool jb else undef) | 7 => vv = (if (ib) = true then .bool jb else undef) | 8 => vv = (if ((ib) && jb) = true then (.agg #[.int .i64 ax, .int .i64 ay, .int .i64 aw, .int .i64 ah]) else undef) | 9 => vv = (if ((ib) && jb) = true then (.agg #[.int .i64 cX, .int .i64 cy, .int .i64 cw, .int .i64 ch]) else undef) | 10 => vv = (if ((ib) && jb) = true then .bool true else undef) | 11 => vv = (if ((ib) && jb) = true then .bool false else undef) | 12 => vv = (if (ib) = true then .bool false else undef) | 13 => vv = (if (ib) = true then .bool false else undef) | 14 => vv = (if (ib) = true then (.agg #[.int .i64 ax, .int .i64 ay, .int .i64 aw, .int .i64 ah]) else undef) | 15 => vv = (if (ib) = true then (.agg #[.int .i64 cX, .int .i64 cy, .int .i64 cw, .int .i64 ch]) else undef) | 16 => vv = (if (ib) = true then .bool mb else undef) | 17 => vv = (if (ib) = true then .bool mb else undef) | 18 => vv = (if ((ib) && mb) = true then (.agg #[.int .i64 bx, .int .i64 bY, .int .i64 bw, .int .i64 bh]) else undef) | 19 => vv = (if ((ib) && mb) = true then (.agg #[.int .i64 cX, .int .i64 cy, .int .i64 cw, .int .i64 ch]) else undef) | 20 => vv = (if ((ib) && mb) = true then .bool true else undef) | 21 => vv = (if ((ib) && mb) = true then .bool false else undef) | 22 => vv = (if (ib) = true then .bool false else undef) | 23 => vv = (if (ib) = true then .bool false else undef) | 24 => vv = .bool false | _ => True) (fun ii => match ii with | 2 => [(0, 27), (1, 28)] | 3 => [(2, 29)] | 4 => [(3, 30)] | 5 => [(3, 30)] | 6 => [(4, 31), (5, 32), (3, 30)] | 7 => [(6, 33), (3, 30)] | 8 => [(7, 34)] | 9 => [(7, 34)] | 10 => [(8, 35), (9, 36), (7, 34)] | 11 => [(10, 37), (7, 34)] | 12 => [(7, 34), (11, 38), (3, 30)] | 13 => [(12, 39), (3, 30)] | 14 => [(13, 40)] | 15 => [(13, 40)] | 16 => [(14, 41), (15, 42), (13, 40)] | 17 => [(16, 43), (13, 40)] | 18 => [(17, 44)] | 19 => [(17, 44)] | 20 => [(18, 45), (19, 46), (17, 44)] | 21 => [(20, 47), (17, 44)] | 22 => [(17, 44), (21, 48), (13, 40)] | 23 => [(13, 40), (22, 49), (3, 30)] | 24 => [(3, 30), (23, 50)] | _ => []) (fun ii => match ii with | 0 => [3] | 1 => [4] | 4 => [4] | 5 => [5] | 8 => [3] | 9 => [5] | 14 => [3] | 15 => [5] | 18 => [4] | 19 => [5] | _ => []) (fun ii => match ii with | 0 => [1] | 1 => [0] | 4 => [3, 5] | 5 => [3, 4] | 6 => [3] | 7 => [3] | 8 => [7, 9, 3] | 9 => [7, 8, 3] | 10 => [7, 3] | 11 => [7, 3] | 12 => [3] | 13 => [3] | 14 => [13, 15, 3] | 15 => [13, 14, 3] | 16 => [13, 3] | 17 => [13, 3] | 18 => [17, 19, 13, 3] | 19 => [17, 18, 13, 3] | 20 => [17, 13, 3] | 21 => [17, 13, 3] | 22 => [13, 3] | 23 => [3] | _ => []) [24] [0, 0, 3, 7, 15, 15, 63, 127, 255, 255, 1023, 2047, 4095, 8191, 16383, 16383, 65535, 131071, 262143, 262143, 1048575, 2097151, 4194303, 8388607, 16777215] 126 rfl (by kernel_rfl) (ExtX.refl _ _) ?_ ?_
  · rename_i hcont; clear hcont
    refine ⟨?_, ?_, ?_, ?_, ?_, ?_, ?_, ?_, ?_, ?_, ?_, ?_, ?_, ?_, ?_, ?_, ?_, ?_, ?_, ?_, ?_, ?_, ?_, ?_, ?_, trivial⟩
    · refine stepL_plain rfl ?_
      rintro F a w1 jE - ⟨t3, -⟩ K hK
      have t3 : a.tmps[3]? = some (.pointer (some ⟨ga, 0, none⟩)) := t3
      have c := (jE.blk B12 (by simp)).cell
      go_simp
      exact hK _ _ jE rfl (fun _ _ _ h => h)
    · refine stepL_plain rfl ?_
      rintro F a w1 jE - ⟨t4, -⟩ K hK
      have t4 : a.tmps[4]? = some (.pointer (some ⟨(ga + 1), 0, none⟩)) := t4
      have c := (jE.blk B13 (by simp)).cell
      go_simp
      exact hK _ _ jE rfl (fun _ _ _ h => h)
    · refine stepL_plain rfl ?_
      rintro F a w1 jE ⟨h0, t27, h1, t28, -⟩ - K hK
      have h0 : (F 0) = (.agg #[.int .i64 ax, .int .i64 ay, .int .i64 aw, .int .i64 ah]) := h0
      rw [h0] at t27
      clear h0
      have h1 : (F 1) = (.agg #[.int .i64 bx, .int .i64 bY, .int .i64 bw, .int .i64 bh]) := h1
      rw [h1] at t28
      clear h1
      go_simp
      with_reducible refine (unhide (iab _)).mono ?_
      rintro e w2 ⟨rfl, hx⟩
      exact hK _ _ (jE.trans hx) (rfl) (fun _ hj _ _ => (List.not_mem_nil hj).elim)
    · refine stepL_plain rfl ?_
      rintro F a w1 jE ⟨h2, t29, -⟩ - K hK
      have h2 : (F 2) = .bool ib := h2
      rw [h2] at t29
      clear h2
      go_simp
      exact hK _ _ jE rfl (fun _ _ _ h => h)
    · refine stepL_of ?_
      rintro F a w1 jE ⟨h3, t30, -⟩ ⟨t4, -⟩ K hK
      have h3 : (F 3) = .bool ib := h3
      rw [h3] at t30
      clear h3
      have t4 : a.tmps[4]? = some (.pointer (some ⟨(ga + 1), 0, none⟩)) := t4
      cases ib
      all_goals first
        | (exact stepN ((wanted_of 3 true 30 _ rfl rfl t30).trans rfl) (hK undef _ jE rfl (fun _ _ _ h => h)))
        | (exact stepN (wanted_undef 3 true 30 rfl rfl t30) (hK undef _ jE rfl (fun _ _ _ h => h)))
        | (refine stepY ((wanted_of 3 true 30 _ rfl rfl t30).trans rfl) ?_
           have c := (jE.blk B13 (by simp)).cell
           go_simp
           exact hK _ _ jE rfl (fun _ _ _ h => h))
    · refine stepL_of ?_
      rintro F a w1 jE ⟨h3, t30, -⟩ ⟨t5, -⟩ K hK
      have h3 : (F 3) = .bool ib := h3
      rw [h3] at t30
      clear h3
      have t5 : a.tmps[5]? = some (.pointer (some ⟨(ga + 2), 0, none⟩)) := t5
      cases ib
      all_goals first
        | (exact stepN ((wanted_of 3 true 30 _ rfl rfl t30).trans rfl) (hK undef _ jE rfl (fun _ _ _ h => h)))
        | (exact stepN (wanted_undef 3 true 30 rfl rfl t30) (hK undef _ jE rfl (fun _ _ _ h => h)))
        | (refine stepY ((wanted_of 3 true 30 _ rfl rfl t30).trans rfl) ?_
           have c := (jE.blk B14 (by simp)).cell
           go_simp
           exact hK _ _ jE rfl (fun _ _ _ h => h))
    · refine stepL_of ?_
      rintro F a w1 jE ⟨h4, t31, h5, t32, h3, t30, -⟩ - K hK
      have h4 : (F 4) = (if (ib) = true then (.agg #[.int .i64 bx, .int .i64 bY, .int .i64 bw, .int .i64 bh]) else undef) := h4
      rw [h4] at t31
      clear h4
      have h5 : (F 5) = (if (ib) = true then (.agg #[.int .i64 cX, .int .i64 cy, .int .i64 cw, .int .i64 ch]) else undef) := h5
      rw [h5] at t32
      clear h5
      have h3 : (F 3) = .bool ib := h3
      rw [h3] at t30
      clear h3
      cases ib
      all_goals first
        | (exact stepN ((wanted_of 3 true 30 _ rfl rfl t30).trans rfl) (hK undef _ jE rfl (fun _ _ _ h => h)))
        | (exact stepN (wanted_undef 3 true 30 rfl rfl t30) (hK undef _ jE rfl (fun _ _ _ h => h)))
        | (refine stepY ((wanted_of 3 true 30 _ rfl rfl t30).trans rfl) ?_
           go_simp
           with_reducible refine (unhide (ibc _)).mono ?_
           rintro e w2 ⟨rfl, hx⟩
           exact hK _ _ (jE.trans hx) (rfl) (by intro jq hj uq h; have hj : jq ∈ [3] := hj; simp only [List.mem_singleton] at hj; subst hj; exact h))
    · refine stepL_of ?_
      rintro F a w1 jE ⟨h6, t33, h3, t30, -⟩ - K hK
      have h6 : (F 6) = (if (ib) = true then .bool jb else undef) := h6
      rw [h6] at t33
      clear h6
      have h3 : (F 3) = .bool ib := h3
      rw [h3] at t30
      clear h3
      cases ib
      all_goals first
        | (exact stepN ((wanted_of 3 true 30 _ rfl rfl t30).trans rfl) (hK undef _ jE rfl (fun _ _ _ h => h)))
        | (exact stepN (wanted_undef 3 true 30 rfl rfl t30) (hK undef _ jE rfl (fun _ _ _ h => h)))
        | (refine stepY ((wanted_of 3 true 30 _ rfl rfl t30).trans rfl) ?_
           go_simp
           exact hK _ _ jE rfl (fun _ _ _ h => h))
    · refine stepL_of ?_
      rintro F a w1 jE ⟨h7, t34, -⟩ ⟨t3, -⟩ K hK
      have h7 : (F 7) = (if (ib) = true then .bool jb else undef) := h7
      rw [h7] at t34
      clear h7
      have t3 : a.tmps[3]? = some (.pointer (some ⟨ga, 0, none⟩)) := t3
      cases ib <;> cases jb
      all_goals first
        | (exact stepN ((wanted_of 7 true 34 _ rfl rfl t34).trans rfl) (hK undef _ jE rfl (fun _ _ _ h => h)))
        | (exact stepN (wanted_undef 7 true 34 rfl rfl t34) (hK undef _ jE rfl (fun _ _ _ h => h)))
        | (refine stepY ((wanted_of 7 true 34 _ rfl rfl t34).trans rfl) ?_
           have c := (jE.blk B12 (by simp)).cell
           go_simp
           exact hK _ _ jE rfl (fun _ _ _ h => h))
    · refine stepL_of ?_
      rintro F a w1 jE ⟨h7, t34, -⟩ ⟨t5, -⟩ K hK
      have h7 : (F 7) = (if (ib) = true then .bool jb else undef) := h7
      rw [h7] at t34
      clear h7
      have t5 : a.tmps[5]? = some (.pointer (some ⟨(ga + 2), 0, none⟩)) := t5
      cases ib <;> cases jb
      all_goals first
        | (exact stepN ((wanted_of 7 true 34 _ rfl rfl t34).trans rfl) (hK undef _ jE rfl (fun _ _ _ h => h)))
        | (exact stepN (wanted_undef 7 true 34 rfl rfl t34) (hK undef _ jE rfl (fun _ _ _ h => h)))
        | (refine stepY ((wanted_of 7 true 34 _ rfl rfl t34).trans rfl) ?_
           have c := (jE.blk B14 (by simp)).cell
           go_simp
           exact hK _ _ jE rfl (fun _ _ _ h => h))
    · refine stepL_of ?_
      rintro F a w1 jE ⟨h8, t35, h9, t36, h7, t34, -⟩ - K hK
      have h8 : (F 8) = (if ((ib) && jb) = true then (.agg #[.int .i64 ax, .int .i64 ay, .int .i64 aw, .int .i64 ah]) else undef) := h8
      rw [h8] at t35
      clear h8
      have h9 : (F 9) = (if ((ib) && jb) = true then (.agg #[.int .i64 cX, .int .i64 cy, .int .i64 cw, .int .i64 ch]) else undef) := h9
      rw [h9] at t36
      clear h9
      have h7 : (F 7) = (if (ib) = true then .bool jb else undef) := h7
      rw [h7] at t34
      clear h7
      cases ib <;> cases jb
      all_goals first
        | (exact stepN ((wanted_of 7 true 34 _ rfl rfl t34).trans rfl) (hK undef _ jE rfl (fun _ _ _ h => h)))
        | (exact stepN (wanted_undef 7 true 34 rfl rfl t34) (hK undef _ jE rfl (fun _ _ _ h => h)))
        | (refine stepY ((wanted_of 7 true 34 _ rfl rfl t34).trans rfl) ?_
           go_simp
           with_reducible refine (unhide (iac rfl rfl _)).mono ?_
           rintro e w2 ⟨rfl, hx⟩
           exact hK _ _ (jE.trans hx) (rfl) (by intro jq hj uq h; have hj : jq ∈ [7, 3] := hj; simp only [List.mem_cons, List.not_mem_nil, or_false] at hj; rcases hj with rfl | rfl; exact h; exact h))
    · refine stepL_of ?_
      rintro F a w1 jE ⟨h10, t37, h7, t34, -⟩ - K hK
      have h10 : (F 10) = (if ((ib) && jb) = true then .bool true else undef) := h10
      rw [h10] at t37
      clear h10
      have h7 : (F 7) = (if (ib) = true then .bool jb else undef) := h7
      rw [h7] at t34
      clear h7
      cases ib <;> cases jb
      all_goals first
        | (exact stepN ((wanted_of 7 true 34 _ rfl rfl t34).trans rfl) (hK undef _ jE rfl (fun _ _ _ h => h)))
        | (exact stepN (wanted_undef 7 true 34 rfl rfl t34) (hK undef _ jE rfl (fun _ _ _ h => h)))
        | (refine stepY ((wanted_of 7 true 34 _ rfl rfl t34).trans rfl) ?_
           go_simp
           exact hK _ _ jE rfl (fun _ _ _ h => h))
    · refine stepL_of ?_
      rintro F a w1 jE ⟨h7, t34, h11, t38, h3, t30, -⟩ - K hK
      have h7 : (F 7) = (if (ib) = true then .bool jb else undef) := h7
      rw [h7] at t34
      clear h7
      have h11 : (F 11) = (if ((ib) && jb) = true then .bool false else undef) := h11
      rw [h11] at t38
      clear h11
      have h3 : (F 3) = .bool ib := h3
      rw [h3] at t30
      clear h3
      cases ib <;> cases jb
      all_goals first
        | (exact stepN ((wanted_of 3 true 30 _ rfl rfl t30).trans rfl) (hK undef _ jE rfl (fun _ _ _ h => h)))
        | (exact stepN (wanted_undef 3 true 30 rfl rfl t30) (hK undef _ jE rfl (fun _ _ _ h => h)))
        | (refine stepY ((wanted_of 3 true 30 _ rfl rfl t30).trans rfl) ?_
           go_simp
           exact hK _ _ jE rfl (fun _ _ _ h => h))
    · refine stepL_of ?_
      rintro F a w1 jE ⟨h12, t39, h3, t30, -⟩ - K hK
      have h12 : (F 12) = (if (ib) = true then .bool false else undef) := h12
      rw [h12] at t39
      clear h12
      have h3 : (F 3) = .bool ib := h3
      rw [h3] at t30
      clear h3
      cases ib
      all_goals first
        | (exact stepN ((wanted_of 3 true 30 _ rfl rfl t30).trans rfl) (hK undef _ jE rfl (fun _ _ _ h => h)))
        | (exact stepN (wanted_undef 3 true 30 rfl rfl t30) (hK undef _ jE rfl (fun _ _ _ h => h)))
        | (refine stepY ((wanted_of 3 true 30 _ rfl rfl t30).trans rfl) ?_
           go_simp
           exact hK _ _ jE rfl (fun _ _ _ h => h))
    · refine stepL_of ?_
      rintro F a w1 jE ⟨h13, t40, -⟩ ⟨t3, -⟩ K hK
      have h13 : (F 13) = (if (ib) = true then .bool false else undef) := h13
      rw [h13] at t40
      clear h13
      have t3 : a.tmps[3]? = some (.pointer (some ⟨ga, 0, none⟩)) := t3
      cases ib
      all_goals first
        | (exact stepN ((wanted_of 13 false 40 _ rfl rfl t40).trans rfl) (hK undef _ jE rfl (fun _ _ _ h => h)))
        | (exact stepN (wanted_undef 13 false 40 rfl rfl t40) (hK undef _ jE rfl (fun _ _ _ h => h)))
        | (refine stepY ((wanted_of 13 false 40 _ rfl rfl t40).trans rfl) ?_
           have c := (jE.blk B12 (by simp)).cell
           go_simp
           exact hK _ _ jE rfl (fun _ _ _ h => h))
    · refine stepL_of ?_
      rintro F a w1 jE ⟨h13, t40, -⟩ ⟨t5, -⟩ K hK
      have h13 : (F 13) = (if (ib) = true then .bool false else undef) := h13
      rw [h13] at t40
      clear h13
      have t5 : a.tmps[5]? = some (.pointer (some ⟨(ga + 2), 0, none⟩)) := t5
      cases ib
      all_goals first
        | (exact stepN ((wanted_of 13 false 40 _ rfl rfl t40).trans rfl) (hK undef _ jE rfl (fun _ _ _ h => h)))
        | (exact stepN (wanted_undef 13 false 40 rfl rfl t40) (hK undef _ jE rfl (fun _ _ _ h => h)))
        | (refine stepY ((wanted_of 13 false 40 _ rfl rfl t40).trans rfl) ?_
           have c := (jE.blk B14 (by simp)).cell
           go_simp
           exact hK _ _ jE rfl (fun _ _ _ h => h))
    · refine stepL_of ?_
      rintro F a w1 jE ⟨h14, t41, h15, t42, h13, t40, -⟩ - K hK
      have h14 : (F 14) = (if (ib) = true then (.agg #[.int .i64 ax, .int .i64 ay, .int .i64 aw, .int .i64 ah]) else undef) := h14
      rw [h14] at t41
      clear h14
      have h15 : (F 15) = (if (ib) = true then (.agg #[.int .i64 cX, .int .i64 cy, .int .i64 cw, .int .i64 ch]) else undef) := h15
      rw [h15] at t42
      clear h15
      have h13 : (F 13) = (if (ib) = true then .bool false else undef) := h13
      rw [h13] at t40
      clear h13
      cases ib
      all_goals first
        | (exact stepN ((wanted_of 13 false 40 _ rfl rfl t40).trans rfl) (hK undef _ jE rfl (fun _ _ _ h => h)))
        | (exact stepN (wanted_undef 13 false 40 rfl rfl t40) (hK undef _ jE rfl (fun _ _ _ h => h)))
        | (refine stepY ((wanted_of 13 false 40 _ rfl rfl t40).trans rfl) ?_
           go_simp
           with_reducible refine (unhide (mac _)).mono ?_
           rintro e w2 ⟨rfl, hx⟩
           exact hK _ _ (jE.trans hx) (rfl) (by intro jq hj uq h; have hj : jq ∈ [13, 3] := hj; simp only [List.mem_cons, List.not_mem_nil, or_false] at hj; rcases hj with rfl | rfl; exact h; exact h))
    · refine stepL_of ?_
      rintro F a w1 jE ⟨h16, t43, h13, t40, -⟩ - K hK
      have h16 : (F 16) = (if (ib) = true then .bool mb else undef) := h16
      rw [h16] at t43
      clear h16
      have h13 : (F 13) = (if (ib) = true then .bool false else undef) := h13
      rw [h13] at t40
      clear h13
      cases ib
      all_goals first
        | (exact stepN ((wanted_of 13 false 40 _ rfl rfl t40).trans rfl) (hK undef _ jE rfl (fun _ _ _ h => h)))
        | (exact stepN (wanted_undef 13 false 40 rfl rfl t40) (hK undef _ jE rfl (fun _ _ _ h => h)))
        | (refine stepY ((wanted_of 13 false 40 _ rfl rfl t40).trans rfl) ?_
           go_simp
           exact hK _ _ jE rfl (fun _ _ _ h => h))
    · refine stepL_of ?_
      rintro F a w1 jE ⟨h17, t44, -⟩ ⟨t4, -⟩ K hK
      have h17 : (F 17) = (if (ib) = true then .bool mb else undef) := h17
      rw [h17] at t44
      clear h17
      have t4 : a.tmps[4]? = some (.pointer (some ⟨(ga + 1), 0, none⟩)) := t4
      cases ib <;> cases mb
      all_goals first
        | (exact stepN ((wanted_of 17 true 44 _ rfl rfl t44).trans rfl) (hK undef _ jE rfl (fun _ _ _ h => h)))
        | (exact stepN (wanted_undef 17 true 44 rfl rfl t44) (hK undef _ jE rfl (fun _ _ _ h => h)))
        | (refine stepY ((wanted_of 17 true 44 _ rfl rfl t44).trans rfl) ?_
           have c := (jE.blk B13 (by simp)).cell
           go_simp
           exact hK _ _ jE rfl (fun _ _ _ h => h))
    · refine stepL_of ?_
      rintro F a w1 jE ⟨h17, t44, -⟩ ⟨t5, -⟩ K hK
      have h17 : (F 17) = (if (ib) = true then .bool mb else undef) := h17
      rw [h17] at t44
      clear h17
      have t5 : a.tmps[5]? = some (.pointer (some ⟨(ga + 2), 0, none⟩)) := t5
      cases ib <;> cases mb
      all_goals first
        | (exact stepN ((wanted_of 17 true 44 _ rfl rfl t44).trans rfl) (hK undef _ jE rfl (fun _ _ _ h => h)))
        | (exact stepN (wanted_undef 17 true 44 rfl rfl t44) (hK undef _ jE rfl (fun _ _ _ h => h)))
        | (refine stepY ((wanted_of 17 true 44 _ rfl rfl t44).trans rfl) ?_
           have c := (jE.blk B14 (by simp)).cell
           go_simp
           exact hK _ _ jE rfl (fun _ _ _ h => h))
    · refine stepL_of ?_
      rintro F a w1 jE ⟨h18, t45, h19, t46, h17, t44, -⟩ - K hK
      have h18 : (F 18) = (if ((ib) && mb) = true then (.agg #[.int .i64 bx, .int .i64 bY, .int .i64 bw, .int .i64 bh]) else undef) := h18
      rw [h18] at t45
      clear h18
      have h19 : (F 19) = (if ((ib) && mb) = true then (.agg #[.int .i64 cX, .int .i64 cy, .int .i64 cw, .int .i64 ch]) else undef) := h19
      rw [h19] at t46
      clear h19
      have h17 : (F 17) = (if (ib) = true then .bool mb else undef) := h17
      rw [h17] at t44
      clear h17
      cases ib <;> cases mb
      all_goals first
        | (exact stepN ((wanted_of 17 true 44 _ rfl rfl t44).trans rfl) (hK undef _ jE rfl (fun _ _ _ h => h)))
        | (exact stepN (wanted_undef 17 true 44 rfl rfl t44) (hK undef _ jE rfl (fun _ _ _ h => h)))
        | (refine stepY ((wanted_of 17 true 44 _ rfl rfl t44).trans rfl) ?_
           go_simp
           with_reducible refine (unhide (mbc rfl rfl _)).mono ?_
           rintro e w2 ⟨rfl, hx⟩
           exact hK _ _ (jE.trans hx) (rfl) (by intro jq hj uq h; have hj : jq ∈ [17, 13, 3] := hj; simp only [List.mem_cons, List.not_mem_nil, or_false] at hj; rcases hj with rfl | rfl | rfl; exact h; exact h; exact h))
    · refine stepL_of ?_
      rintro F a w1 jE ⟨h20, t47, h17, t44, -⟩ - K hK
      have h20 : (F 20) = (if ((ib) && mb) = true then .bool true else undef) := h20
      rw [h20] at t47
      clear h20
      have h17 : (F 17) = (if (ib) = true then .bool mb else undef) := h17
      rw [h17] at t44
      clear h17
      cases ib <;> cases mb
      all_goals first
        | (exact stepN ((wanted_of 17 true 44 _ rfl rfl t44).trans rfl) (hK undef _ jE rfl (fun _ _ _ h => h)))
        | (exact stepN (wanted_undef 17 true 44 rfl rfl t44) (hK undef _ jE rfl (fun _ _ _ h => h)))
        | (refine stepY ((wanted_of 17 true 44 _ rfl rfl t44).trans rfl) ?_
           go_simp
           exact hK _ _ jE rfl (fun _ _ _ h => h))
    · refine stepL_of ?_
      rintro F a w1 jE ⟨h17, t44, h21, t48, h13, t40, -⟩ - K hK
      have h17 : (F 17) = (if (ib) = true then .bool mb else undef) := h17
      rw [h17] at t44
      clear h17
      have h21 : (F 21) = (if ((ib) && mb) = true then .bool false else undef) := h21
      rw [h21] at t48
      clear h21
      have h13 : (F 13) = (if (ib) = true then .bool false else undef) := h13
      rw [h13] at t40
      clear h13
      cases ib <;> cases mb
      all_goals first
        | (exact stepN ((wanted_of 13 false 40 _ rfl rfl t40).trans rfl) (hK undef _ jE rfl (fun _ _ _ h => h)))
        | (exact stepN (wanted_undef 13 false 40 rfl rfl t40) (hK undef _ jE rfl (fun _ _ _ h => h)))
        | (refine stepY ((wanted_of 13 false 40 _ rfl rfl t40).trans rfl) ?_
           go_simp
           exact hK _ _ jE rfl (fun _ _ _ h => h))
    · refine stepL_of ?_
      rintro F a w1 jE ⟨h13, t40, h22, t49, h3, t30, -⟩ - K hK
      have h13 : (F 13) = (if (ib) = true then .bool false else undef) := h13
      rw [h13] at t40
      clear h13
      have h22 : (F 22) = (if (ib) = true then .bool false else undef) := h22
      rw [h22] at t49
      clear h22
      have h3 : (F 3) = .bool ib := h3
      rw [h3] at t30
      clear h3
      cases ib
      all_goals first
        | (exact stepN ((wanted_of 3 true 30 _ rfl rfl t30).trans rfl) (hK undef _ jE rfl (fun _ _ _ h => h)))
        | (exact stepN (wanted_undef 3 true 30 rfl rfl t30) (hK undef _ jE rfl (fun _ _ _ h => h)))
        | (refine stepY ((wanted_of 3 true 30 _ rfl rfl t30).trans rfl) ?_
           go_simp
           exact hK _ _ jE rfl (fun _ _ _ h => h))
    · refine stepL_plain rfl ?_
      rintro F a w1 jE ⟨h3, t30, h23, t50, -⟩ - K hK
      have h3 : (F 3) = .bool ib := h3
      rw [h3] at t30
      clear h3
      have h23 : (F 23) = (if (ib) = true then .bool false else undef) := h23
      rw [h23] at t50
      clear h23
      cases ib
      all_goals
        go_simp
        exact hK _ _ jE rfl (fun _ _ _ h => h)
  · rintro F w90 jE ⟨h24, -⟩
    have h24 : (F 24) = .bool false := h24
    have hx := jE.ext (Ext.refl _) (by simp)
    have Bac := B12.cell
    have Bal := B12.lt
    have Bbc := B13.cell
    have Bbl := B13.lt
    have Bcc := B14.cell
    have Bcl := B14.lt
    have B16 := B12.ext hx
    have B17 := B13.ext hx
    have B18 := B14.ext hx
    have E19 := E15.trans hx
    clear Bac Bal Bbc Bbl Bcc Bcl
    clear B12 B13 B14 E15 hx
    have Bac := B16.cell
    have Bal := B16.lt
    have Bbc := B17.cell
    have Bbl := B17.lt
    have Bcc := B18.cell
    have Bcl := B18.lt
    clear jE iab ibc iac mac mbc
    simp only [putL, Act.put, Nat.reduceAdd, Nat.zero_add, List.setIfInBounds_toArray, List.set_cons_succ, List.set_cons_zero]
    rw [h24]
    clear h24
    go_wp2_with fail
    refine (unhide (k1 _ 33 _ (Blk.new _ _ _))).mono ?_
    rintro e w20 ⟨rfl, hx⟩
    replace hx : Ext w90 w20 := ((Ext.refl _).alloc _).trans hx
    have B21 := B16.ext hx
    have B22 := B17.ext hx
    have B23 := B18.ext hx
    have E24 := E19.trans hx
    clear Bac Bal Bbc Bbl Bcc Bcl
    clear B16 B17 B18 E19 hx
    have Bac := B21.cell
    have Bal := B21.lt
    have Bbc := B22.cell
    have Bbl := B22.lt
    have Bcc := B23.cell
    have Bcl := B23.lt
    go_wp2_with fail
    have Bx : Blk (w20.alloc (.cells #[.int .i64 xx, .int .i64 xy, .int .i64 xw, .int .i64 xh] 33)) w20.heap.size 33 #[.int .i64 xx, .int .i64 xy, .int .i64 xw, .int .i64 xh] := Blk.new _ _ _
    have hx : Ext w20 (w20.alloc (.cells #[.int .i64 xx, .int .i64 xy, .int .i64 xw, .int .i64 xh] 33)) := (Ext.refl _).alloc _
    have hsBx : (w20.alloc (.cells #[.int .i64 xx, .int .i64 xy, .int .i64 xw, .int .i64 xh] 33)).heap.size = w20.heap.size + 1 := World.size_alloc _ _
    generalize hgBx : w20.heap.size = gx at *
    have HGBx := hide hgBx
    clear hgBx
    generalize w20.alloc (.cells #[.int .i64 xx, .int .i64 xy, .int .i64 xw, .int .i64 xh] 33) = w25 at *
    have B26 := B21.ext hx
    have B27 := B22.ext hx
    have B28 := B23.ext hx
    have E29 := E24.trans hx
    clear Bac Bal Bbc Bbl Bcc Bcl
    clear B21 B22 B23 E24 hx
    have Bac := B26.cell
    have Bal := B26.lt
    have Bbc := B27.cell
    have Bbl := B27.lt
    have Bcc := B28.cell
    have Bcl := B28.lt
    have Bxc := Bx.cell
    have Bxl := Bx.lt
    go_wp2_with fail
    refine (unhide (k2 _ 33 _ (by have h := Blk.new w25 33 #[.int .i64 xx, .int .i64 xy, .int .i64 xw, .int .i64 xh, .int .i64 cX, .int .i64 cy, .int .i64 cw, .int .i64 ch]; rw [hsBx] at h; exact h))).mono ?_
    rintro e w30 ⟨rfl, hx⟩
    replace hx : Ext w25 w30 := ((Ext.refl _).alloc _).trans hx
    have B31 := B26.ext hx
    have B32 := B27.ext hx
    have B33 := B28.ext hx
    have B34 := Bx.ext hx
    have E35 := E29.trans hx
    clear Bac Bal Bbc Bbl Bcc Bcl Bxc Bxl
    clear B26 B27 B28 Bx E29 hx
    have Bac := B31.cell
    have Bal := B31.lt
    have Bbc := B32.cell
    have Bbl := B32.lt
    have Bcc := B33.cell
    have Bcl := B33.lt
    have Bxc := B34.cell
    have Bxl := B34.lt
    go_wp2_with fail
    have By : Blk (w30.alloc (.cells #[.int .i64 zx, .int .i64 zy, .int .i64 zw, .int .i64 zh] 33)) w30.heap.size 33 #[.int .i64 zx, .int .i64 zy, .int .i64 zw, .int .i64 zh] := Blk.new _ _ _
    have hx : Ext w30 (w30.alloc (.cells #[.int .i64 zx, .int .i64 zy, .int .i64 zw, .int .i64 zh] 33)) := (Ext.refl _).alloc _
    have hsBy : (w30.alloc (.cells #[.int .i64 zx, .int .i64 zy, .int .i64 zw, .int .i64 zh] 33)).heap.size = w30.heap.size + 1 := World.size_alloc _ _
    generalize hgBy : w30.heap.size = gy at *
    have HGBy := hide hgBy
    clear hgBy
    generalize w30.alloc (.cells #[.int .i64 zx, .int .i64 zy, .int .i64 zw, .int .i64 zh] 33) = w36 at *
    have B37 := B31.ext hx
    have B38 := B32.ext hx
    have B39 := B33.ext hx
    have B40 := B34.ext hx
    have E41 := E35.trans hx
    clear Bac Bal Bbc Bbl Bcc Bcl Bxc Bxl
    clear B31 B32 B33 B34 E35 hx
    have Bac := B37.cell
    have Bal := B37.lt
    have Bbc := B38.cell
    have Bbl := B38.lt
    have Bcc := B39.cell
    have Bcl := B39.lt
    have Bxc := B40.cell
    have Bxl := B40.lt
    have Byc := By.cell
    have Byl := By.lt
    go_wp2_with fail
    refine (unhide (k3 _ 33 _ (by have h := Blk.new w36 33 #[.int .i64 cX, .int .i64 cy, .int .i64 cw, .int .i64 ch, .int .i64 ax, .int .i64 ay, .int .i64 aw, .int .i64 ah, .int .i64 bx, .int .i64 bY, .int .i64 bw, .int .i64 bh]; rw [hsBy] at h; exact h))).mono ?_
    rintro e w42 ⟨rfl, hx⟩
    replace hx : Ext w36 w42 := ((Ext.refl _).alloc _).trans hx
    have B43 := B37.ext hx
    have B44 := B38.ext hx
    have B45 := B39.ext hx
    have B46 := B40.ext hx
    have B47 := By.ext hx
    have E48 := E41.trans hx
    clear Bac Bal Bbc Bbl Bcc Bcl Bxc Bxl Byc Byl
    clear B37 B38 B39 B40 By E41 hx
    have Bac := B43.cell
    have Bal := B43.lt
    have Bbc := B44.cell
    have Bbl := B44.lt
    have Bcc := B45.cell
    have Bcl := B45.lt
    have Bxc := B46.cell
    have Bxl := B46.lt
    have Byc := B47.cell
    have Byl := B47.lt
    go_wp2_with fail
    have Bz : Blk (w42.alloc (.cells #[.int .i64 zx, .int .i64 zy, .int .i64 zw, .int .i64 zh] 33)) w42.heap.size 33 #[.int .i64 zx, .int .i64 zy, .int .i64 zw, .int .i64 zh] := Blk.new _ _ _
    have hx : Ext w42 (w42.alloc (.cells #[.int .i64 zx, .int .i64 zy, .int .i64 zw, .int .i64 zh] 33)) := (Ext.refl _).alloc _
    have hsBz : (w42.alloc (.cells #[.int .i64 zx, .int .i64 zy, .int .i64 zw, .int .i64 zh] 33)).heap.size = w42.heap.size + 1 := World.size_alloc _ _
    generalize hgBz : w42.heap.size = gz at *
    have HGBz := hide hgBz
    clear hgBz
    generalize w42.alloc (.cells #[.int .i64 zx, .int .i64 zy, .int .i64 zw, .int .i64 zh] 33) = w49 at *
    have B50 := B43.ext hx
    have B51 := B44.ext hx
    have B52 := B45.ext hx
    have B53 := B46.ext hx
    have B54 := B47.ext hx
    have E55 := E48.trans hx
    clear Bac Bal Bbc Bbl Bcc Bcl Bxc Bxl Byc Byl
    clear B43 B44 B45 B46 B47 E48 hx
    have Bac := B50.cell
    have Bal := B50.lt
    have Bbc := B51.cell
    have Bbl := B51.lt
    have Bcc := B52.cell
    have Bcl := B52.lt
    have Bxc := B53.cell
    have Bxl := B53.lt
    have Byc := B54.cell
    have Byl := B54.lt
    have Bzc := Bz.cell
    have Bzl := Bz.lt
    have heq := unhide HEQ
    go_wp2_with fail
    with_reducible refine (unhide (j1 _)).mono ?_
    rintro e w56 ⟨rfl, hx⟩
    have B57 := B50.ext hx
    have B58 := B51.ext hx
    have B59 := B52.ext hx
    have B60 := B53.ext hx
    have B61 := B54.ext hx
    have B62 := Bz.ext hx
    have E63 := E55.trans hx
    clear Bac Bal Bbc Bbl Bcc Bcl Bxc Bxl Byc Byl Bzc Bzl
    clear B50 B51 B52 B53 B54 Bz E55 hx
    have Bac := B57.cell
    have Bal := B57.lt
    have Bbc := B58.cell
    have Bbl := B58.lt
    have Bcc := B59.cell
    have Bcl := B59.lt
    have Bxc := B60.cell
    have Bxl := B60.lt
    have Byc := B61.cell
    have Byl := B61.lt
    have Bzc := B62.cell
    have Bzl := B62.lt
    go_wp2_with fail
    with_reducible refine (unhide (j2 _)).mono ?_
    rintro e w64 ⟨rfl, hx⟩
    have B65 := B57.ext hx
    have B66 := B58.ext hx
    have B67 := B59.ext hx
    have B68 := B60.ext hx
    have B69 := B61.ext hx
    have B70 := B62.ext hx
    have E71 := E63.trans hx
    clear Bac Bal Bbc Bbl Bcc Bcl Bxc Bxl Byc Byl Bzc Bzl
    clear B57 B58 B59 B60 B61 B62 E63 hx
    have Bac := B65.cell
    have Bal := B65.lt
    have Bbc := B66.cell
    have Bbl := B66.lt
    have Bcc := B67.cell
    have Bcl := B67.lt
    have Bxc := B68.cell
    have Bxl := B68.lt
    have Byc := B69.cell
    have Byl := B69.lt
    have Bzc := B70.cell
    have Bzl := B70.lt
    go_wp2_with fail
    with_reducible refine (unhide (j3 _)).mono ?_
    rintro e w72 ⟨rfl, hx⟩
    have B73 := B65.ext hx
    have B74 := B66.ext hx
    have B75 := B67.ext hx
    have B76 := B68.ext hx
    have B77 := B69.ext hx
    have B78 := B70.ext hx
    have E79 := E71.trans hx
    clear Bac Bal Bbc Bbl Bcc Bcl Bxc Bxl Byc Byl Bzc Bzl
    clear B65 B66 B67 B68 B69 B70 E71 hx
    have Bac := B73.cell
    have Bal := B73.lt
    have Bbc := B74.cell
    have Bbl := B74.lt
    have Bcc := B75.cell
    have Bcl := B75.lt
    have Bxc := B76.cell
    have Bxl := B76.lt
    have Byc := B77.cell
    have Byl := B77.lt
    have Bzc := B78.cell
    have Bzl := B78.lt
    go_wp2_with fail
    with_reducible refine (unhide (j4 _)).mono ?_
    rintro e w80 ⟨rfl, hx⟩
    have B81 := B73.ext hx
    have B82 := B74.ext hx
    have B83 := B75.ext hx
    have B84 := B76.ext hx
    have B85 := B77.ext hx
    have B86 := B78.ext hx
    have E87 := E79.trans hx
    clear Bac Bal Bbc Bbl Bcc Bcl Bxc Bxl Byc Byl Bzc Bzl
    clear B73 B74 B75 B76 B77 B78 E79 hx
    have Bac := B81.cell
    have Bal := B81.lt
    have Bbc := B82.cell
    have Bbl := B82.lt
    have Bcc := B83.cell
    have Bcl := B83.lt
    have Bxc := B84.cell
    have Bxl := B84.lt
    have Byc := B85.cell
    have Byl := B85.lt
    have Bzc := B86.cell
    have Bzl := B86.lt
    go_wp2_with fail
    with_reducible refine (unhide (mz _)).mono ?_
    rintro e w88 ⟨rfl, hx⟩
    have B89 := B81.ext hx
    have B90 := B82.ext hx
    have B91 := B83.ext hx
    have B92 := B84.ext hx
    have B93 := B85.ext hx
    have B94 := B86.ext hx
    have E95 := E87.trans hx
    clear Bac Bal Bbc Bbl Bcc Bcl Bxc Bxl Byc Byl Bzc Bzl
    clear B81 B82 B83 B84 B85 B86 E87 hx
    have Bac := B89.cell
    have Bal := B89.lt
    have Bbc := B90.cell
    have Bbl := B90.lt
    have Bcc := B91.cell
    have Bcl := B91.lt
    have Bxc := B92.cell
    have Bxl := B92.lt
    have Byc := B93.cell
    have Byl := B93.lt
    have Bzc := B94.cell
    have Bzl := B94.lt
    clear heq
    cases sc
    · by_cases hw : cw ≤ 0
      · skip
        go_wp2_with fail
        with_reducible refine (works_any _).mono ?_
        rintro e w96 ⟨rfl, hx⟩
        have B97 := B89.ext hx
        have B98 := B90.ext hx
        have B99 := B91.ext hx
        have B100 := B92.ext hx
        have B101 := B93.ext hx
        have B102 := B94.ext hx
        have E103 := E95.trans hx
        clear Bac Bal Bbc Bbl Bcc Bcl Bxc Bxl Byc Byl Bzc Bzl
        clear B89 B90 B91 B92 B93 B94 E95 hx
        have Bac := B97.cell
        have Bal := B97.lt
        have Bbc := B98.cell
        have Bbl := B98.lt
        have Bcc := B99.cell
        have Bcl := B99.lt
        have Bxc := B100.cell
        have Bxl := B100.lt
        have Byc := B101.cell
        have Byl := B101.lt
        have Bzc := B102.cell
        have Bzl := B102.lt
        go_wp2_with fail
        go_ret
        exact ⟨rfl, E103⟩
      · have hh : ch ≤ 0 := by have := unhide HSC rfl; omega
        go_wp2_with fail
        with_reducible refine (works_any _).mono ?_
        rintro e w96 ⟨rfl, hx⟩
        have B97 := B89.ext hx
        have B98 := B90.ext hx
        have B99 := B91.ext hx
        have B100 := B92.ext hx
        have B101 := B93.ext hx
        have B102 := B94.ext hx
        have E103 := E95.trans hx
        clear Bac Bal Bbc Bbl Bcc Bcl Bxc Bxl Byc Byl Bzc Bzl
        clear B89 B90 B91 B92 B93 B94 E95 hx
        have Bac := B97.cell
        have Bal := B97.lt
        have Bbc := B98.cell
        have Bbl := B98.lt
        have Bcc := B99.cell
        have Bcl := B99.lt
        have Bxc := B100.cell
        have Bxl := B100.lt
        have Byc := B101.cell
        have Byl := B101.lt
        have Bzc := B102.cell
        have Bzl := B102.lt
        go_wp2_with fail
        go_ret
        exact ⟨rfl, E103⟩
    · skip
      go_wp2_with fail
      with_reducible refine (works_any _).mono ?_
      rintro e w96 ⟨rfl, hx⟩
      have B97 := B89.ext hx
      have B98 := B90.ext hx
      have B99 := B91.ext hx
      have B100 := B92.ext hx
      have B101 := B93.ext hx
      have B102 := B94.ext hx
      have E103 := E95.trans hx
      clear Bac Bal Bbc Bbl Bcc Bcl Bxc Bxl Byc Byl Bzc Bzl
      clear B89 B90 B91 B92 B93 B94 E95 hx
      have Bac := B97.cell
      have Bal := B97.lt
      have Bbc := B98.cell
      have Bbl := B98.lt
      have Bcc := B99.cell
      have Bcl := B99.lt
      have Bxc := B100.cell
      have Bxl := B100.lt
      have Byc := B101.cell
      have Byl := B101.lt
      have Bzc := B102.cell
      have Bzl := B102.lt
      go_wp2_with fail
      go_ret
      exact ⟨rfl, E103⟩

theorem law_chain (a b c : Rc) (w : World) : Calls Try.prog 9 #[.agg a.cs, .agg b.cs, .agg c.cs] w fun e w' => e = .returned (.bool true) ∧ Ext w w' := by
  cases na : nearB a
  · exact chain_far a b c (.inl na) w
  · cases nb : nearB b
    · exact chain_far a b c (.inr (.inl nb)) w
    · cases nc : nearB c
      · exact chain_far a b c (.inr (.inr nc)) w
      · exact chain_near a b c na nb nc w
end Go.Proofs.Ytphckjnmbbjenaa
