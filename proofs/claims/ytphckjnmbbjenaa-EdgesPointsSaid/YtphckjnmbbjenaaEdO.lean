/- Layer 2: the law on points (walk). -/
import Derived.Test.YtphckjnmbbjenaaEdV
import Derived.Test.YtphckjnmbbjenaaEdW
import Derived.Test.YtphckjnmbbjenaaLinG
import Derived.Test.YtphckjnmbbjenaaLaw
import Derived.Test.YtphckjnmbbjenaaAl
import Derived.Outline
import Derived.Deep.Cut
namespace Go.Proofs.Ytphckjnmbbjenaa
open Go.RowKit
def boolL (l : List Bool) : List Value := l.map Value.bool
theorem boolL_get {l : List Bool} {i : Nat} {x : Bool} (h : l[i]? = some x) : (boolL l)[i]? = some (.bool x) := by rw [boolL, List.getElem?_map, h]; rfl
theorem boolL_set (l : List Bool) (i : Nat) (x : Bool) : (boolL l).toArray.setIfInBounds i (.bool x) = (boolL (l.set i x)).toArray := by
  rw [List.setIfInBounds_toArray, boolL, boolL, List.map_set]
def no40 : List Bool := List.replicate 40 false
theorem mk40 (w : World) : (Instr.makeSlice 43 (.int .i64 40) (.int .i64 40)).run Try.prog w = .ok (.slice (some ⟨w.heap.size, 0, none⟩) 40 40) (w.alloc (.cells (boolL no40).toArray 4)) := by kernel_rfl
theorem Blk.bool {w : World} {g : Nat} {l : List Bool} (h : Blk w g 4 (boolL l).toArray) {i : Nat} {x : Bool} (hx : l[i]? = some x) : w.cell? ⟨g, i, none⟩ = some (.bool x) := by
  rw [h.cell, List.getElem?_toArray]; exact boolL_get hx
/-- the state of the law -/
structure PtSt (w0 w : World) (ga gc : Nat) (A B C : Array Value) (Rr Cc : List Bool) : Prop where
  ext : Ext w0 w
  ba : Blk w ga 33 A
  bb : Blk w (ga + 1) 33 B
  bc : Blk w gc 33 C
  br : Blk w (gc + 1) 4 (boolL Rr).toArray
  bl : Blk w (gc + 1 + 1) 4 (boolL Cc).toArray
  far : w0.heap.size ≤ gc ∧ ga + 1 < gc
section
variable {w0 w w' : World} {ga gc : Nat} {A B C : Array Value} {Rr Cc : List Bool}
theorem PtSt.step (h : PtSt w0 w ga gc A B C Rr Cc) (hx : Ext w w') : PtSt w0 w' ga gc A B C Rr Cc :=
  ⟨h.ext.trans hx, h.ba.ext hx, h.bb.ext hx, h.bc.ext hx, h.br.ext hx, h.bl.ext hx, h.far⟩
theorem PtSt.putR (h : PtSt w0 w ga gc A B C Rr Cc) (k : Nat) : PtSt w0 (w.setCell ⟨gc + 1, k, none⟩ (.bool true)) ga gc A B C (Rr.set k true) Cc := by
  obtain ⟨f1, f2⟩ := h.far
  refine ⟨h.ext.set (p := ⟨gc + 1, k, none⟩) (show w0.heap.size ≤ gc + 1 by omega) _, h.ba.far (p := ⟨gc + 1, k, none⟩) (show ga ≠ gc + 1 by omega) _, h.bb.far (p := ⟨gc + 1, k, none⟩) (show ga + 1 ≠ gc + 1 by omega) _, h.bc.far (p := ⟨gc + 1, k, none⟩) (show gc ≠ gc + 1 by omega) _, ?_, h.bl.far (p := ⟨gc + 1, k, none⟩) (show gc + 1 + 1 ≠ gc + 1 by omega) _, h.far⟩
  rw [← boolL_set]
  exact h.br.set_ k _
theorem PtSt.putL (h : PtSt w0 w ga gc A B C Rr Cc) (k : Nat) : PtSt w0 (w.setCell ⟨gc + 1 + 1, k, none⟩ (.bool true)) ga gc A B C Rr (Cc.set k true) := by
  obtain ⟨f1, f2⟩ := h.far
  refine ⟨h.ext.set (p := ⟨gc + 1 + 1, k, none⟩) (show w0.heap.size ≤ gc + 1 + 1 by omega) _, h.ba.far (p := ⟨gc + 1 + 1, k, none⟩) (show ga ≠ gc + 1 + 1 by omega) _, h.bb.far (p := ⟨gc + 1 + 1, k, none⟩) (show ga + 1 ≠ gc + 1 + 1 by omega) _, h.bc.far (p := ⟨gc + 1 + 1, k, none⟩) (show gc ≠ gc + 1 + 1 by omega) _, h.br.far (p := ⟨gc + 1 + 1, k, none⟩) (show gc + 1 ≠ gc + 1 + 1 by omega) _, ?_, h.far⟩
  rw [← boolL_set]
  exact h.bl.set_ k _
end
theorem get_some {l : List Bool} {i : Nat} (h : i < l.length) : ∃ x, l[i]? = some x := ⟨_, List.getElem?_eq_getElem h⟩
set_option maxRecDepth 100000 in
set_option maxHeartbeats 16000000 in
theorem law_points (a0 b0 : Rc) (w : World) :
    Calls Try.prog 6 #[.agg a0.cs, .agg b0.cs] w fun e w' => e = .returned (.bool true) ∧ Ext w w' := by
  have s1 := fun w => hide (small_any a0 w)
  have s2 := fun w => hide (small_any b0 w)
  have Sa := small_sm a0
  have Sb := small_sm b0
  generalize smallR a0 = a at *
  generalize smallR b0 = b at *
  have k1 := fun g t w (h : Blk w g t #[.int .i64 a.x, .int .i64 a.y, .int .i64 a.w, .int .i64 a.h, .int .i64 b.x, .int .i64 b.y, .int .i64 b.w, .int .i64 b.h]) => hide (by
    have := cover_any (some ⟨g, 0, none⟩) 2 2 [a, b] w (h.rd4 rfl) (by intro r hr; simp at hr; rcases hr with rfl | rfl; exact Sa.ok; exact Sb.ok) (by omega)
    rwa [(cover2 a b Sa.near Sb.near).1, (cover2 a b Sa.near Sb.near).2] at this)
  have h1 := fun x y w (hx : -1000 ≤ x ∧ x ≤ 1000) (hy : -1000 ≤ y ∧ y ≤ 1000) => hide (has_any a x y Sa.near hx hy w)
  have h2 := fun x y w (hx : -1000 ≤ x ∧ x ≤ 1000) (hy : -1000 ≤ y ∧ y ≤ 1000) => hide (has_any b x y Sb.near hx hy w)
  have cb := cov_bd Sa Sb
  have h3 := fun x y w (hx : -1000 ≤ x ∧ x ≤ 1000) (hy : -1000 ≤ y ∧ y ≤ 1000) => hide (has_any (cov2 a b) x y ⟨by omega, by omega, by omega, by omega, by omega, by omega, by omega, by omega⟩ hx hy w)
  have hcv := fun x y => cov_has (a := a) (b := b) x y
  have hed := cov_edge (a := a) (b := b)
  have m1 := fun w => hide (meet_any a b Sa.ok Sb.ok w)
  have i1 := fun w => hide (inside_any a b Sa.ok Sb.ok w)
  have HW := fun w => hide (works_any w)
  have st := ScP.start a b
  generalize cov2 a b = c at *
  obtain ⟨ax0, ay0, aw0, ah0⟩ := a0
  obtain ⟨bx0, by0, bw0, bh0⟩ := b0
  have HSa := hide Sa
  have HSb := hide Sb
  have HCV := hide hcv
  have HED := hide hed
  have ST := hide (show ScP a b (scan (-9) (-9)) false true no40 no40 from st)
  clear Sa Sb hcv hed st
  have HA := hide (show a.cs = #[.int .i64 a.x, .int .i64 a.y, .int .i64 a.w, .int .i64 a.h] from rfl)
  obtain ⟨cx, cy, cw, ch⟩ := c
  simp only at cb
  obtain ⟨⟨b1, b2⟩, ⟨b3, b4⟩, ⟨b5, b6⟩, ⟨b7, b8⟩, b9, b10, b11⟩ := cb
  have HB11 := hide b11
  clear b11
  go_enter Try.func6, Try.ntmps6
  go_wp2_with fail
  have Ba : Blk ((w.alloc (.cells #[.int .i64 ax0, .int .i64 ay0, .int .i64 aw0, .int .i64 ah0] 33)).alloc (.cells #[.int .i64 bx0, .int .i64 by0, .int .i64 bw0, .int .i64 bh0] 33)) w.heap.size 33 #[.int .i64 ax0, .int .i64 ay0, .int .i64 aw0, .int .i64 ah0] := (Blk.new _ _ _).alloc _
  have Bb : Blk ((w.alloc (.cells #[.int .i64 ax0, .int .i64 ay0, .int .i64 aw0, .int .i64 ah0] 33)).alloc (.cells #[.int .i64 bx0, .int .i64 by0, .int .i64 bw0, .int .i64 bh0] 33)) (w.heap.size + 1) 33 #[.int .i64 bx0, .int .i64 by0, .int .i64 bw0, .int .i64 bh0] := Blk.new1 _ _ _ _
  have E0 : Ext w ((w.alloc (.cells #[.int .i64 ax0, .int .i64 ay0, .int .i64 aw0, .int .i64 ah0] 33)).alloc (.cells #[.int .i64 bx0, .int .i64 by0, .int .i64 bw0, .int .i64 bh0] 33)) := ((Ext.refl _).alloc _).alloc _
  generalize (w.alloc (.cells #[.int .i64 ax0, .int .i64 ay0, .int .i64 aw0, .int .i64 ah0] 33)).alloc (.cells #[.int .i64 bx0, .int .i64 by0, .int .i64 bw0, .int .i64 bh0] 33) = wa at *
  generalize hga : w.heap.size = ga at *
  have HGA := hide hga
  clear hga
  have Bac := Ba.cell
  have Bal := Ba.lt
  have Bbc := Bb.cell
  have Bbl := Bb.lt
  go_wp2_with fail
  with_reducible refine (unhide (s1 _)).mono ?_
  rintro e w1 ⟨rfl, hx⟩
  have B2 := Ba.ext hx
  have B3 := Bb.ext hx
  have E4 := E0.trans hx
  clear Bac Bal Bbc Bbl
  clear Ba Bb E0 hx
  have Bac := B2.cell
  have Bal := B2.lt
  have Bbc := B3.cell
  have Bbl := B3.lt
  have Baf := B2.frozen
  go_upto_region 2 with fail
  clear Baf Bac Bal Bbc Bbl
  have B2n : Blk ((((w1.setCell ⟨ga, 0, none⟩ (.int .i64 a.x)).setCell ⟨ga, 1, none⟩ (.int .i64 a.y)).setCell ⟨ga, 2, none⟩ (.int .i64 a.w)).setCell ⟨ga, 3, none⟩ (.int .i64 a.h)) (ga) 33 #[.int .i64 a.x, .int .i64 a.y, .int .i64 a.w, .int .i64 a.h] := (((B2.set_ 0 _).set_ 1 _).set_ 2 _).set_ 3 _
  have B3n : Blk ((((w1.setCell ⟨ga, 0, none⟩ (.int .i64 a.x)).setCell ⟨ga, 1, none⟩ (.int .i64 a.y)).setCell ⟨ga, 2, none⟩ (.int .i64 a.w)).setCell ⟨ga, 3, none⟩ (.int .i64 a.h)) _ 33 _ := (((B3.far (p := ⟨ga, 0, none⟩) (show ga + 1 ≠ ga by omega) _).far (p := ⟨ga, 1, none⟩) (show ga + 1 ≠ ga by omega) _).far (p := ⟨ga, 2, none⟩) (show ga + 1 ≠ ga by omega) _).far (p := ⟨ga, 3, none⟩) (show ga + 1 ≠ ga by omega) _
  have En : Ext w ((((w1.setCell ⟨ga, 0, none⟩ (.int .i64 a.x)).setCell ⟨ga, 1, none⟩ (.int .i64 a.y)).setCell ⟨ga, 2, none⟩ (.int .i64 a.w)).setCell ⟨ga, 3, none⟩ (.int .i64 a.h)) := (((E4.set (p := ⟨ga, 0, none⟩) (show w.heap.size ≤ ga by have := unhide HGA; omega) _).set (p := ⟨ga, 1, none⟩) (show w.heap.size ≤ ga by have := unhide HGA; omega) _).set (p := ⟨ga, 2, none⟩) (show w.heap.size ≤ ga by have := unhide HGA; omega) _).set (p := ⟨ga, 3, none⟩) (show w.heap.size ≤ ga by have := unhide HGA; omega) _
  clear B2 B3 E4
  generalize (((w1.setCell ⟨ga, 0, none⟩ (.int .i64 a.x)).setCell ⟨ga, 1, none⟩ (.int .i64 a.y)).setCell ⟨ga, 2, none⟩ (.int .i64 a.w)).setCell ⟨ga, 3, none⟩ (.int .i64 a.h) = wb at *
  have Bac := B2n.cell
  have Bal := B2n.lt
  have Bbc := B3n.cell
  have Bbl := B3n.lt
  go_wp2_with fail
  with_reducible refine (unhide (s2 _)).mono ?_
  rintro e w2 ⟨rfl, hx⟩
  have B5 := B2n.ext hx
  have B6 := B3n.ext hx
  have E7 := En.trans hx
  clear Bac Bal Bbc Bbl
  clear B2n B3n En hx
  have Bac := B5.cell
  have Bal := B5.lt
  have Bbc := B6.cell
  have Bbl := B6.lt
  clear s1 s2
  have Baf := B6.frozen
  go_upto_region 3 with fail
  clear Baf Bac Bal Bbc Bbl
  have B6n : Blk ((((w2.setCell ⟨ga + 1, 0, none⟩ (.int .i64 b.x)).setCell ⟨ga + 1, 1, none⟩ (.int .i64 b.y)).setCell ⟨ga + 1, 2, none⟩ (.int .i64 b.w)).setCell ⟨ga + 1, 3, none⟩ (.int .i64 b.h)) (ga + 1) 33 #[.int .i64 b.x, .int .i64 b.y, .int .i64 b.w, .int .i64 b.h] := (((B6.set_ 0 _).set_ 1 _).set_ 2 _).set_ 3 _
  have B5n : Blk ((((w2.setCell ⟨ga + 1, 0, none⟩ (.int .i64 b.x)).setCell ⟨ga + 1, 1, none⟩ (.int .i64 b.y)).setCell ⟨ga + 1, 2, none⟩ (.int .i64 b.w)).setCell ⟨ga + 1, 3, none⟩ (.int .i64 b.h)) _ 33 _ := (((B5.far (p := ⟨ga + 1, 0, none⟩) (show ga ≠ ga + 1 by omega) _).far (p := ⟨ga + 1, 1, none⟩) (show ga ≠ ga + 1 by omega) _).far (p := ⟨ga + 1, 2, none⟩) (show ga ≠ ga + 1 by omega) _).far (p := ⟨ga + 1, 3, none⟩) (show ga ≠ ga + 1 by omega) _
  have En : Ext w ((((w2.setCell ⟨ga + 1, 0, none⟩ (.int .i64 b.x)).setCell ⟨ga + 1, 1, none⟩ (.int .i64 b.y)).setCell ⟨ga + 1, 2, none⟩ (.int .i64 b.w)).setCell ⟨ga + 1, 3, none⟩ (.int .i64 b.h)) := (((E7.set (p := ⟨ga + 1, 0, none⟩) (show w.heap.size ≤ ga + 1 by have := unhide HGA; omega) _).set (p := ⟨ga + 1, 1, none⟩) (show w.heap.size ≤ ga + 1 by have := unhide HGA; omega) _).set (p := ⟨ga + 1, 2, none⟩) (show w.heap.size ≤ ga + 1 by have := unhide HGA; omega) _).set (p := ⟨ga + 1, 3, none⟩) (show w.heap.size ≤ ga + 1 by have := unhide HGA; omega) _
  clear B6 B5 E7
  generalize (((w2.setCell ⟨ga + 1, 0, none⟩ (.int .i64 b.x)).setCell ⟨ga + 1, 1, none⟩ (.int .i64 b.y)).setCell ⟨ga + 1, 2, none⟩ (.int .i64 b.w)).setCell ⟨ga + 1, 3, none⟩ (.int .i64 b.h) = wc at *
  have Ba := B5n
  have Bb := B6n
  clear B5n B6n
  have E0 := En
  clear En
  have Bac := Ba.cell
  have Bal := Ba.lt
  have Bbc := Bb.cell
  have Bbl := Bb.lt
  go_wp2_with fail
  with_reducible refine (unhide (k1 _ _ _ (Blk.new _ _ _))).mono ?_
  rintro e w3 ⟨rfl, hx'⟩
  have hx := ((Ext.refl wc).alloc (.cells #[.int .i64 a.x, .int .i64 a.y, .int .i64 a.w, .int .i64 a.h, .int .i64 b.x, .int .i64 b.y, .int .i64 b.w, .int .i64 b.h] 33)).trans hx'
  clear hx' k1
  have B8 := Ba.ext hx
  have B9 := Bb.ext hx
  have E10 := E0.trans hx
  clear Bac Bal Bbc Bbl
  clear Ba Bb E0 hx
  have Bac := B8.cell
  have Bal := B8.lt
  have Bbc := B9.cell
  have Bbl := B9.lt
  have hmk := mk40
  go_upto_region 10 with fail
  clear hmk Bac Bal Bbc Bbl
  have P : PtSt w (((w3.alloc (.cells #[.int .i64 cx, .int .i64 cy, .int .i64 cw, .int .i64 ch] 33)).alloc (.cells (boolL no40).toArray 4)).alloc (.cells (boolL no40).toArray 4)) ga w3.heap.size #[.int .i64 a.x, .int .i64 a.y, .int .i64 a.w, .int .i64 a.h] #[.int .i64 b.x, .int .i64 b.y, .int .i64 b.w, .int .i64 b.h] #[.int .i64 cx, .int .i64 cy, .int .i64 cw, .int .i64 ch] no40 no40 := by
    refine ⟨(((E10).alloc _).alloc _).alloc _, ((B8.alloc _).alloc _).alloc _, ((B9.alloc _).alloc _).alloc _, ((Blk.new _ _ _).alloc _).alloc _, ?_, ?_, ?_⟩
    · have h := Blk.new (w3.alloc (.cells #[.int .i64 cx, .int .i64 cy, .int .i64 cw, .int .i64 ch] 33)) 4 (boolL no40).toArray
      rw [World.size_alloc] at h
      exact h.alloc _
    · have h := Blk.new ((w3.alloc (.cells #[.int .i64 cx, .int .i64 cy, .int .i64 cw, .int .i64 ch] 33)).alloc (.cells (boolL no40).toArray 4)) 4 (boolL no40).toArray
      rw [World.size_alloc, World.size_alloc] at h
      exact h
    · have := B9.lt
      have := unhide HGA
      exact ⟨by omega, by omega⟩
  clear B8 B9 E10
  generalize ((w3.alloc (.cells #[.int .i64 cx, .int .i64 cy, .int .i64 cw, .int .i64 ch] 33)).alloc (.cells (boolL no40).toArray 4)).alloc (.cells (boolL no40).toArray 4) = wd at *
  generalize w3.heap.size = gc at *
  have FR := hide P.far
  go_wp2_with fail
  go_loopw [7, 8, 11] (fun v7 v8 v11 wr => ∃ (x : Int) (cm al : Bool) (Rr Cc : List Bool), v7 = .bool cm ∧ v8 = .bool al ∧ v11 = .int .i64 x ∧ -9 ≤ x ∧ x ≤ 30 ∧ Hid (ScP a b (scan x (-9)) cm al Rr Cc) ∧ PtSt w wr ga gc #[.int .i64 a.x, .int .i64 a.y, .int .i64 a.w, .int .i64 a.h] #[.int .i64 b.x, .int .i64 b.y, .int .i64 b.w, .int .i64 b.h] #[.int .i64 cx, .int .i64 cy, .int .i64 cw, .int .i64 ch] Rr Cc) (fun _ _ v11 _ => (30 - intOf v11).toNat)
  case atStart => exact ⟨-9, false, true, no40, no40, rfl, rfl, rfl, by omega, by omega, ST, P⟩
  case round =>
    clear P ST
    obtain ⟨x, cm, al, Rr, Cc, rfl, rfl, rfl, x1, x2, SC, P⟩ := hrel
    by_cases hx : x < 30
    · go_upto_region 14 with fail
      go_wp2_with fail
      go_loopw [7, 8, 12] (fun v7 v8 v12 wr => ∃ (y : Int) (cm al : Bool) (Rr Cc : List Bool), v7 = .bool cm ∧ v8 = .bool al ∧ v12 = .int .i64 y ∧ -9 ≤ y ∧ y ≤ 30 ∧ Hid (ScP a b (scan x y) cm al Rr Cc) ∧ PtSt w wr ga gc #[.int .i64 a.x, .int .i64 a.y, .int .i64 a.w, .int .i64 a.h] #[.int .i64 b.x, .int .i64 b.y, .int .i64 b.w, .int .i64 b.h] #[.int .i64 cx, .int .i64 cy, .int .i64 cw, .int .i64 ch] Rr Cc) (fun _ _ v12 _ => (30 - intOf v12).toNat)
      case atStart => exact ⟨-9, cm, al, Rr, Cc, rfl, rfl, rfl, by omega, by omega, SC, P⟩
      case round =>
        clear P SC
        obtain ⟨y, cm, al, Rr, Cc, rfl, rfl, rfl, y1, y2, SC, P⟩ := hrel
        by_cases hy : y < 30
        · obtain ⟨p, hp⟩ : ∃ p : Nat, y + 9 = p := ⟨(y + 9).toNat, by omega⟩
          obtain ⟨q, hq⟩ : ∃ q : Nat, x + 9 = q := ⟨(x + 9).toNat, by omega⟩
          have HP := hide hp
          have HQ := hide hq
          have hpq : (p : Int) < 40 ∧ (q : Int) < 40 := by omega
          clear hp hq
          have c1 := P.ba.cell
          have l1 := P.ba.lt
          go_wp2_with fail
          with_reducible refine (unhide (h1 x y _ (by omega) (by omega))).mono ?_
          rintro e w4 ⟨rfl, hx4⟩
          clear c1 l1
          replace P := P.step hx4
          have c1 := P.bb.cell
          have l1 := P.bb.lt
          clear hx4
          go_wp2_with fail
          with_reducible refine (unhide (h2 x y _ (by omega) (by omega))).mono ?_
          rintro e w5 ⟨rfl, hx4⟩
          clear c1 l1
          replace P := P.step hx4
          clear hx4
          obtain ⟨one, h4⟩ : ∃ one, hasB a x y = one := ⟨_, rfl⟩
          obtain ⟨two, h5⟩ : ∃ two, hasB b x y = two := ⟨_, rfl⟩
          rw [h4, h5]
          have S2 := (unhide SC).step ⟨x1, hx⟩ ⟨y1, hy⟩ h4 h5 (unhide HP) (unhide HQ)
          have hcv := unhide HCV x y
          rw [h4, h5] at hcv
          have hRl := (unhide SC).rl
          have hCl := (unhide SC).cl
          clear h4 h5 SC
          have fin : ∀ cm' al' Rr' Cc', ScP a b (scan x (y + 1)) cm' al' Rr' Cc' → Hid (ScP a b (scan x (y + 1)) cm' al' Rr' Cc') := fun _ _ _ _ h => h
          by_cases hn : one = false ∧ two = false
          · obtain ⟨rfl, rfl⟩ := hn
            cases cm <;> cases al
            all_goals
              have S3 := fin _ _ _ _ (by simpa using S2)
              clear S2 hcv fin
              go_wp2_with fail
              go_roundw
              case rel => exact ⟨y + 1, _, _, _, _, rfl, rfl, rfl, by omega, by omega, S3, P⟩
              case measure => simp [intOf]; omega
          · have hor : (one || two) = true := by cases one <;> cases two <;> simp at hn ⊢
            have hc3 : hasB ⟨cx, cy, cw, ch⟩ x y = true := hcv (by simpa using hor)
            rw [hor, if_pos rfl, if_pos rfl] at S2
            have h6 := fun w' => hide (show Calls Try.prog 24 #[.agg #[.int .i64 cx, .int .i64 cy, .int .i64 cw, .int .i64 ch], .int .i64 x, .int .i64 y] w' (fun e w'' => e = .returned (.bool true) ∧ Ext w' w'') from by have := unhide (h3 x y w' (by omega) (by omega)); rwa [hc3] at this)
            clear hor hcv hc3
            obtain ⟨rv, hrv⟩ := get_some (l := Rr) (i := p) (by omega)
            obtain ⟨cv, hcv⟩ := get_some (l := Cc) (i := q) (by omega)
            have e1 := P.br.bool hrv
            have e2 := P.br.frozen p
            have e3 := P.br.lt
            have HV := hide hcv
            clear hrv hcv hRl hCl
            cases one <;> cases two
            · exact absurd ⟨rfl, rfl⟩ hn
            all_goals
              clear hn
              cases cm <;> cases al
            all_goals
              have S3 := fin _ _ _ _ (by simpa using S2)
              clear S2 fin
              have hp := unhide HP
              go_upto_region 22 with fail
              clear hp e1 e2 e3
              replace P := P.putR p
              generalize w5.setCell ⟨gc + 1, p, none⟩ (.bool true) = w6 at *
              have e1 := P.bl.bool (unhide HV)
              have e2 := P.bl.frozen q
              have e3 := P.bl.lt
              have hq := unhide HQ
              go_upto_region 23 with fail
              clear hq e1 e2 e3
              replace P := P.putL q
              generalize w6.setCell ⟨gc + 1 + 1, q, none⟩ (.bool true) = w7 at *
              have e1 := P.bc.cell
              have e3 := P.bc.lt
              go_wp2_with fail
              with_reducible refine (unhide (h6 _)).mono ?_
              rintro e w8 ⟨rfl, hx4⟩
              replace P := P.step hx4
              clear hx4 e1 e3
              go_wp2_with fail
              go_roundw
              case rel => exact ⟨y + 1, _, _, _, _, rfl, rfl, rfl, by omega, by omega, S3, P⟩
              case measure => simp [intOf]; omega
        · have hye : y = 30 := by omega
          have S3 := hide (show ScP a b (scan (x + 1) (-9)) cm al Rr Cc from by have := unhide SC; rw [hye] at this; exact this.row)
          clear hye SC
          go_wp2_with fail
          go_roundw
          case rel => exact ⟨x + 1, _, _, _, _, rfl, rfl, rfl, by omega, by omega, S3, P⟩
          case measure => simp [intOf]; omega
    · have hxe : x = 30 := by omega
      have SZ := unhide SC
      rw [hxe] at SZ
      have HM := hide (SZ.meet (unhide HSa))
      have HI := hide (SZ.inside (unhide HSa))
      have SY := hide SZ
      clear hxe SZ SC
      have c1 := P.bc.cell
      have l1 := P.bc.lt
      have ends : True := trivial
      by_cases hcw : 0 < cw
      · have hch : 0 < ch := (unhide HB11).1 hcw
        obtain ⟨d1, d2, d3, d4⟩ := unhide HED hcw
        obtain ⟨p1, r1⟩ : ∃ p : Nat, cx + 9 = p := ⟨(cx + 9).toNat, by omega⟩
        obtain ⟨p2, r2⟩ : ∃ p : Nat, cx + cw - 1 + 9 = p := ⟨(cx + cw - 1 + 9).toNat, by omega⟩
        obtain ⟨p3, r3⟩ : ∃ p : Nat, cy + 9 = p := ⟨(cy + 9).toNat, by omega⟩
        obtain ⟨p4, r4⟩ : ∃ p : Nat, cy + ch - 1 + 9 = p := ⟨(cy + ch - 1 + 9).toNat, by omega⟩
        have t1 := P.bl.bool ((unhide SY).colAt (unhide HSa) (unhide HSb) d1 r1)
        have t2 := P.bl.bool ((unhide SY).colAt (unhide HSa) (unhide HSb) d2 r2)
        have t3 := P.br.bool ((unhide SY).rowAt (unhide HSa) (unhide HSb) d3 r3)
        have t4 := P.br.bool ((unhide SY).rowAt (unhide HSa) (unhide HSb) d4 r4)
        have l2 := P.br.lt
        have l3 := P.bl.lt
        have i1' : (p1 : Int) < 40 ∧ (p2 : Int) < 40 ∧ (p3 : Int) < 40 ∧ (p4 : Int) < 40 := by omega
        have R1 := hide r1
        have R2 := hide r2
        have R3 := hide r3
        have R4 := hide r4
        clear d1 d2 d3 d4 r1 r2 r3 r4
        go_upto_region 27 with fail
        have r1 := unhide R1
        have r2 := unhide R2
        have r3 := unhide R3
        have r4 := unhide R4
        go_upto_region 29 with fail
        clear r1 r2 r3 r4 t1 t2 t3 t4 l2 l3 i1' c1 l1 ends
        have c1 := P.ba.cell
        have l1 := P.ba.lt
        have c2 := P.bb.cell
        have l2 := P.bb.lt
        go_wp2_with fail
        with_reducible refine (unhide (m1 _)).mono ?_
        rintro e w4 ⟨rfl, hx4⟩
        rw [unhide HM]
        clear c1 l1 c2 l2
        replace P := P.step hx4
        clear hx4
        have c1 := P.ba.cell
        have l1 := P.ba.lt
        have c2 := P.bb.cell
        have l2 := P.bb.lt
        cases cm <;> cases al
        all_goals
          go_wp2_with fail
          with_reducible refine (unhide (i1 _)).mono ?_
          rintro e w5 ⟨rfl, hx4⟩
          rw [unhide HI]
          go_wp2_with fail
          with_reducible refine (unhide (HW _)).mono ?_
          rintro e w6 ⟨rfl, hx5⟩
          go_wp2_with fail
          go_ret
          exact ⟨rfl, (P.ext.trans hx4).trans hx5⟩
      · have hch : ¬ 0 < ch := fun h => hcw ((unhide HB11).2 h)
        go_upto_region 29 with fail
        clear c1 l1 ends
        have c1 := P.ba.cell
        have l1 := P.ba.lt
        have c2 := P.bb.cell
        have l2 := P.bb.lt
        go_wp2_with fail
        with_reducible refine (unhide (m1 _)).mono ?_
        rintro e w4 ⟨rfl, hx4⟩
        rw [unhide HM]
        clear c1 l1 c2 l2
        replace P := P.step hx4
        clear hx4
        have c1 := P.ba.cell
        have l1 := P.ba.lt
        have c2 := P.bb.cell
        have l2 := P.bb.lt
        cases cm <;> cases al
        all_goals
          go_wp2_with fail
          with_reducible refine (unhide (i1 _)).mono ?_
          rintro e w5 ⟨rfl, hx4⟩
          rw [unhide HI]
          go_wp2_with fail
          with_reducible refine (unhide (HW _)).mono ?_
          rintro e w6 ⟨rfl, hx5⟩
          go_wp2_with fail
          go_ret
          exact ⟨rfl, (P.ext.trans hx4).trans hx5⟩
end Go.Proofs.Ytphckjnmbbjenaa
