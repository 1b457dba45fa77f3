/- Layer 20: the anchor (walk). -/
import Derived.Test.YtkkkdjkjggofkaaCrL
namespace Go.Proofs.Ytkkkdjkjggofkaa
open Go.RowKit
theorem Blk.rdk {w : World} {g n k : Nat} {t : TypeId} {cs : Array Value} (h : Blk w g t cs) (hn : cs.size = n * k) : Rd w k (some ⟨g, 0, none⟩) n cs.toList :=
  ⟨by simp [hn], fun _ => ⟨g, 0, rfl, h.lt, fun j u hu => by rw [Nat.zero_add, h.cell]; simpa using hu⟩⟩
theorem rdr_one {w : World} {gr gq n : Nat} {t u : TypeId} {l : List Nat} (h1 : Blk w gr t #[.slice (some ⟨gq, 0, none⟩) n n]) (h2 : Blk w gq u (ints (castL l)).toArray) (hn : l.length = n) : RdR w 0 (some ⟨gr, 0, none⟩) 1 (fun r => castL ([l].getD r [])) :=
  ⟨fun i hi => by
    obtain rfl : i = 0 := by omega
    have hl : (castL l).length = n := by rw [castL_len]; exact hn
    refine ⟨gr, 0, some ⟨gq, 0, none⟩, n, rfl, Nat.zero_le _, h1.lt, ?_, ?_, fun _ _ _ => Nat.zero_le _⟩
    · show w.cell? ⟨gr, 0 + 0, none⟩ = some (.slice (some ⟨gq, 0, none⟩) (castL l).length n)
      rw [h1.cell, hl]; rfl
    · show Rd w 1 (some ⟨gq, 0, none⟩) (castL l).length (ints (castL l))
      have := h2.rdk (n := (castL l).length) (k := 1) (by simp [ints])
      simpa using this⟩
theorem all_st {s : Sty} {c : Int} {nr : Nat} {rs : List (List Nat)} {I : Nat → It} (h : rs.flatten.Nodup) {n : Nat} (ha : ∀ i, i < n → i ∈ rs.flatten) (i : Nat) (hi : i < n) : ((topN s c nr rs I rs.length).2 i).st = true := by
  obtain ⟨row, h1, h2⟩ := List.mem_flatten.1 (ha i hi)
  obtain ⟨r, hr, rfl⟩ := List.getElem_of_mem h1
  obtain ⟨p, hp, he⟩ := List.getElem_of_mem h2
  have hk : (rs.getD r [])[p]? = some i := by
    rw [List.getD_eq_getElem?_getD, List.getElem?_eq_getElem hr]
    show rs[r][p]? = some i
    rw [List.getElem?_eq_getElem hp, he]
  rw [topN_fin h hk rs.length hr (Nat.le_refl _)]
  rfl
@[reducible] def stK (k j i : Int) : Sty := ⟨k, false, 0, 0, ⟨0, 0⟩, ⟨0, 0⟩, ⟨0, 0⟩, ⟨0, 0⟩, ⟨0, 0⟩, ⟨0, 0⟩, ⟨0, 0⟩, ⟨0, 0⟩, ⟨0, 0⟩, ⟨0, 0⟩, 0, 0, 0, 0, 0, 0, 0, 0, 0, 0, false, j, i, 0, 0, 0, ⟨0, 0⟩, none, 0, 0⟩
def wkS : List Sty := [stK 1 0 0, stK 1 0 0]
def wkU : List Us := [⟨20, 0, 0⟩, ⟨30, 0, 0⟩]
def wkH : List Int := [10, 40]
def wkR : List Nat := [0, 1]
theorem stK_ok (k j i : Int) : StyOk (stK k j i) := ⟨⟨by simp, by simp, by simp, by simp, by simp, by simp, by simp, by simp⟩, fun h => by simp at h, fun h => by simp at h⟩
theorem stK_h (k j i : Int) : StyH (stK k j i) := ⟨fun h => by simp at h, fun h => by simp at h, fun h => by simp at h⟩
/-- what the anchor asks of a call -/
def WkOut (t x0 y0 h0 x1 y1 : Int) (w : World) (e : Ending) (w' : World) : Prop := ∃ gF gB, e = .returned (.tuple #[.slice (some ⟨gF, 0, none⟩) 2 2, .int .i64 t, .slice (some ⟨gB, 0, none⟩) 2 2]) ∧ gF < w'.heap.size ∧
  w'.cell? ⟨gF, 0, none⟩ = some (.int .i64 x0) ∧ w'.cell? ⟨gF, 1, none⟩ = some (.int .i64 y0) ∧ w'.cell? ⟨gF, 3, none⟩ = some (.int .i64 h0) ∧ w'.cell? ⟨gF, 5, none⟩ = some (.int .i64 x1) ∧ w'.cell? ⟨gF, 6, none⟩ = some (.int .i64 y1) ∧ Ext w w'
theorem wk_place (s : Sty) (t x0 y0 h0 x1 y1 : Int) (hj : 0 ≤ s.justify ∧ s.justify ≤ 255) (hs : StyH s)
    (e0 : cutV (topN s 100 1 [wkR] (mIt 100 wkS wkU wkH zsty) 1).1 = t)
    (e1 : frV ((topN s 100 1 [wkR] (mIt 100 wkS wkU wkH zsty) 1).2 0) = ⟨x0, y0, 20, h0⟩) (w1q : Int) (h1q : Int) (e2 : frV ((topN s 100 1 [wkR] (mIt 100 wkS wkU wkH zsty) 1).2 1) = ⟨x1, y1, w1q, h1q⟩)
    (gk gu gh gr gq : Nat) (w : World) (b1 : Blk w gk 28 (recs styC wkS).toArray) (b2 : Blk w gu 48 (recs usC wkU).toArray) (b3 : Blk w gh 2 (ints wkH).toArray) (b4 : Blk w gr 50 #[.slice (some ⟨gq, 0, none⟩) 2 2]) (b5 : Blk w gq 3 (ints (castL wkR)).toArray) :
    Calls Try.prog 10 #[.agg s.cells, .int .i64 100, .slice (some ⟨gk, 0, none⟩) 2 2, .slice (some ⟨gu, 0, none⟩) 2 2, .slice (some ⟨gh, 0, none⟩) 2 2, .slice (some ⟨gr, 0, none⟩) 1 1] w (WkOut t x0 y0 h0 x1 y1 w) := by
  have hb : ∀ i, i < 2 → ItBd (mIt 100 wkS wkU wkH zsty i) := fun i hi => by
    rcases (by omega : i = 0 ∨ i = 1) with rfl | rfl
    · exact ⟨stK_h 1 0 0, by decide, by decide, by decide, by decide, by decide, by decide, by decide⟩
    · exact ⟨stK_h 1 0 0, by decide, by decide, by decide, by decide, by decide, by decide, by decide⟩
  have ho : RowsOk [wkR] 2 := ⟨by decide, fun ks hks k hk => by
    rw [List.mem_singleton.1 hks] at hk
    simp only [wkR, List.mem_cons, List.not_mem_nil, or_false] at hk
    omega⟩
  have h := place_any s 100 (some ⟨gk, 0, none⟩) (some ⟨gu, 0, none⟩) (some ⟨gh, 0, none⟩) (some ⟨gr, 0, none⟩) 2 2 2 2 2 2 1 1 wkS wkU wkH zsty [wkR] w (by simpa using b1.rdk (n := 2) (k := 43) rfl) (by simpa using b2.rdk (n := 2) (k := 3) rfl) (by simpa using b3.rdk (n := 2) (k := 1) rfl)
    (rdr_one b4 b5 rfl) rfl (by omega) (by omega) (by omega) (fun s hs => by
      simp only [wkS, List.mem_cons, List.not_mem_nil, or_false, or_self] at hs
      rw [hs]; exact stK_ok 1 0 0) (fun u hu => by
      simp only [wkU, List.mem_cons, List.not_mem_nil, or_false] at hu
      rcases hu with rfl | rfl <;> simp) hb hj hs ho (fun i hi => all_st (rs := [wkR]) (by decide) (n := 2) (fun i hi => by
        rcases (by omega : i = 0 ∨ i = 1) with rfl | rfl <;> simp [wkR]) i hi)
  refine h.mono ?_
  rintro e w' ⟨gF, gB, rfl, hF, hB, hx⟩
  have f0 := hF.cell 0 (by omega)
  have f1 := hF.cell 1 (by omega)
  simp only [e1, e2] at f0 f1
  refine ⟨gF, gB, by rw [e0], hF.lt, f0 0 _ rfl, f0 1 _ rfl, f0 3 _ rfl, f1 0 _ rfl, f1 1 _ rfl, hx⟩
set_option maxRecDepth 100000 in
theorem wk_a (gk gu gh gr gq : Nat) (w : World) (b1 : Blk w gk 28 (recs styC wkS).toArray) (b2 : Blk w gu 48 (recs usC wkU).toArray) (b3 : Blk w gh 2 (ints wkH).toArray) (b4 : Blk w gr 50 #[.slice (some ⟨gq, 0, none⟩) 2 2]) (b5 : Blk w gq 3 (ints (castL wkR)).toArray) :
    Calls Try.prog 10 #[.agg (stK 2 1 0).cells, .int .i64 100, .slice (some ⟨gk, 0, none⟩) 2 2, .slice (some ⟨gu, 0, none⟩) 2 2, .slice (some ⟨gh, 0, none⟩) 2 2, .slice (some ⟨gr, 0, none⟩) 1 1] w (WkOut 40 50 0 10 70 0 w) := wk_place (stK 2 1 0) 40 50 0 10 70 0 (by decide) (stK_h 2 1 0) (by kernel_rfl) (by kernel_rfl) 30 40 (by kernel_rfl) gk gu gh gr gq w b1 b2 b3 b4 b5
set_option maxRecDepth 100000 in
theorem wk_b (gk gu gh gr gq : Nat) (w : World) (b1 : Blk w gk 28 (recs styC wkS).toArray) (b2 : Blk w gu 48 (recs usC wkU).toArray) (b3 : Blk w gh 2 (ints wkH).toArray) (b4 : Blk w gr 50 #[.slice (some ⟨gq, 0, none⟩) 2 2]) (b5 : Blk w gq 3 (ints (castL wkR)).toArray) :
    Calls Try.prog 10 #[.agg (stK 2 3 3).cells, .int .i64 100, .slice (some ⟨gk, 0, none⟩) 2 2, .slice (some ⟨gu, 0, none⟩) 2 2, .slice (some ⟨gh, 0, none⟩) 2 2, .slice (some ⟨gr, 0, none⟩) 1 1] w (WkOut 40 0 0 40 70 0 w) := wk_place (stK 2 3 3) 40 0 0 40 70 0 (by decide) (stK_h 2 3 3) (by kernel_rfl) (by kernel_rfl) 30 40 (by kernel_rfl) gk gu gh gr gq w b1 b2 b3 b4 b5
set_option maxRecDepth 100000 in
theorem wk_c (gk gu gh gr gq : Nat) (w : World) (b1 : Blk w gk 28 (recs styC wkS).toArray) (b2 : Blk w gu 48 (recs usC wkU).toArray) (b3 : Blk w gh 2 (ints wkH).toArray) (b4 : Blk w gr 50 #[.slice (some ⟨gq, 0, none⟩) 2 2]) (b5 : Blk w gq 3 (ints (castL wkR)).toArray) :
    Calls Try.prog 10 #[.agg (stK 2 0 2).cells, .int .i64 100, .slice (some ⟨gk, 0, none⟩) 2 2, .slice (some ⟨gu, 0, none⟩) 2 2, .slice (some ⟨gh, 0, none⟩) 2 2, .slice (some ⟨gr, 0, none⟩) 1 1] w (WkOut 40 0 15 10 20 0 w) := wk_place (stK 2 0 2) 40 0 15 10 20 0 (by decide) (stK_h 2 0 2) (by kernel_rfl) (by kernel_rfl) 30 40 (by kernel_rfl) gk gu gh gr gq w b1 b2 b3 b4 b5
set_option maxRecDepth 100000 in
set_option maxHeartbeats 16000000 in
theorem works20_any (w : World) : Calls Try.prog 8 #[] w fun e w' => e = .returned (.bool true) ∧ Ext w w' := by
  go_enter Try.func8, Try.ntmps8
  go_upto_region 1 with fail
  go_step
  refine wpList_buildTo rfl 28 _ rfl _ rfl (stK 1 0 0).cells (by kernel_rfl) ?_
  simp only [Act.put, List.setIfInBounds_toArray, List.set_cons_succ, List.set_cons_zero]
  refine wpList_buildTo rfl 28 _ rfl _ rfl (stK 1 0 0).cells (by kernel_rfl) ?_
  simp only [Act.put, List.setIfInBounds_toArray, List.set_cons_succ, List.set_cons_zero]
  refine Go.Great.wpList_buildSliceTo rfl 29 28 2 _ rfl _ rfl _ rfl Try.underlying29 (recs styC wkS).toArray (by kernel_rfl) ?_
  simp only [Act.put, List.setIfInBounds_toArray, List.set_cons_succ, List.set_cons_zero]
  have B1 : Blk (w.alloc (.cells (recs styC wkS).toArray 28)) w.heap.size 28 (recs styC wkS).toArray := Blk.new _ _ _
  have hx : Ext w (w.alloc (.cells (recs styC wkS).toArray 28)) := (Ext.refl _).alloc _
  generalize w.alloc (.cells (recs styC wkS).toArray 28) = w1 at *
  generalize w.heap.size = gk at *
  have E := hx
  clear hx
  go_upto_region 2 with fail
  go_step
  refine wpList_buildTo rfl 48 _ rfl _ rfl #[.int .i64 20, .int .i64 0, .int .i64 0] (by kernel_rfl) ?_
  simp only [Act.put, List.setIfInBounds_toArray, List.set_cons_succ, List.set_cons_zero]
  refine wpList_buildTo rfl 48 _ rfl _ rfl #[.int .i64 30, .int .i64 0, .int .i64 0] (by kernel_rfl) ?_
  simp only [Act.put, List.setIfInBounds_toArray, List.set_cons_succ, List.set_cons_zero]
  refine Go.Great.wpList_buildSliceTo rfl 30 48 2 _ rfl _ rfl _ rfl Try.underlying30 (recs usC wkU).toArray (by kernel_rfl) ?_
  simp only [Act.put, List.setIfInBounds_toArray, List.set_cons_succ, List.set_cons_zero]
  have B2 : Blk (w1.alloc (.cells (recs usC wkU).toArray 48)) w1.heap.size 48 (recs usC wkU).toArray := Blk.new _ _ _
  have hx : Ext w1 (w1.alloc (.cells (recs usC wkU).toArray 48)) := (Ext.refl _).alloc _
  generalize w1.alloc (.cells (recs usC wkU).toArray 48) = w2 at *
  generalize w1.heap.size = gu at *
  replace B1 := B1.ext hx
  replace E := E.trans hx
  clear hx
  go_upto_region 3 with fail
  go_step
  refine Go.Great.wpList_buildSliceTo rfl 31 2 2 _ rfl _ rfl _ rfl Try.underlying31 (ints wkH).toArray (by kernel_rfl) ?_
  simp only [Act.put, List.setIfInBounds_toArray, List.set_cons_succ, List.set_cons_zero]
  have B3 : Blk (w2.alloc (.cells (ints wkH).toArray 2)) w2.heap.size 2 (ints wkH).toArray := Blk.new _ _ _
  have hx : Ext w2 (w2.alloc (.cells (ints wkH).toArray 2)) := (Ext.refl _).alloc _
  generalize w2.alloc (.cells (ints wkH).toArray 2) = w3 at *
  generalize w2.heap.size = gh at *
  replace B1 := B1.ext hx
  replace B2 := B2.ext hx
  replace E := E.trans hx
  clear hx
  go_upto_region 4 with fail
  go_step
  refine Go.Great.wpList_buildSliceTo rfl 50 3 2 _ rfl _ rfl _ rfl Try.underlying50 (ints (castL wkR)).toArray (by kernel_rfl) ?_
  simp only [Act.put, List.setIfInBounds_toArray, List.set_cons_succ, List.set_cons_zero]
  have B5 : Blk (w3.alloc (.cells (ints (castL wkR)).toArray 3)) w3.heap.size 3 (ints (castL wkR)).toArray := Blk.new _ _ _
  have hx : Ext w3 (w3.alloc (.cells (ints (castL wkR)).toArray 3)) := (Ext.refl _).alloc _
  generalize w3.alloc (.cells (ints (castL wkR)).toArray 3) = w4 at *
  generalize w3.heap.size = gq at *
  replace B1 := B1.ext hx
  replace B2 := B2.ext hx
  replace B3 := B3.ext hx
  replace E := E.trans hx
  clear hx
  refine Go.Great.wpList_buildSliceTo rfl 36 50 1 _ rfl _ rfl _ rfl Try.underlying36 #[.slice (some ⟨gq, 0, none⟩) 2 2] (by kernel_rfl) ?_
  simp only [Act.put, List.setIfInBounds_toArray, List.set_cons_succ, List.set_cons_zero]
  have B4 : Blk (w4.alloc (.cells #[.slice (some ⟨gq, 0, none⟩) 2 2] 50)) w4.heap.size 50 #[.slice (some ⟨gq, 0, none⟩) 2 2] := Blk.new _ _ _
  have hx : Ext w4 (w4.alloc (.cells #[.slice (some ⟨gq, 0, none⟩) 2 2] 50)) := (Ext.refl _).alloc _
  generalize w4.alloc (.cells #[.slice (some ⟨gq, 0, none⟩) 2 2] 50) = w5 at *
  generalize w4.heap.size = gr at *
  replace B1 := B1.ext hx
  replace B2 := B2.ext hx
  replace B3 := B3.ext hx
  replace B5 := B5.ext hx
  replace E := E.trans hx
  clear hx
  go_upto_region 5 with fail
  go_step
  refine wpList_buildTo rfl 28 _ rfl _ rfl (stK 2 1 0).cells (by kernel_rfl) ?_
  simp only [Act.put, List.setIfInBounds_toArray, List.set_cons_succ, List.set_cons_zero]
  go_wp2_with fail
  with_reducible refine (wk_a gk gu gh gr gq _ B1 B2 B3 B4 B5).mono ?_
  rintro e w6 ⟨f1, g1, rfl, l1, x1, y1, z1, u1, v1, hx⟩
  replace B1 := B1.ext hx
  replace B2 := B2.ext hx
  replace B3 := B3.ext hx
  replace B4 := B4.ext hx
  replace B5 := B5.ext hx
  replace E := E.trans hx
  clear hx
  go_upto_region 6 with fail
  go_step
  refine wpList_buildTo rfl 28 _ rfl _ rfl (stK 2 3 3).cells (by kernel_rfl) ?_
  simp only [Act.put, List.setIfInBounds_toArray, List.set_cons_succ, List.set_cons_zero]
  go_wp2_with fail
  with_reducible refine (wk_b gk gu gh gr gq _ B1 B2 B3 B4 B5).mono ?_
  rintro e w7 ⟨f2, g2, rfl, l2, x2, y2, z2, u2, v2, hx⟩
  replace B1 := B1.ext hx
  replace B2 := B2.ext hx
  replace B3 := B3.ext hx
  replace B4 := B4.ext hx
  replace B5 := B5.ext hx
  replace E := E.trans hx
  replace x1 := (hx.cells.1 f1 _ l1).trans x1
  replace y1 := (hx.cells.1 f1 _ l1).trans y1
  replace z1 := (hx.cells.1 f1 _ l1).trans z1
  replace u1 := (hx.cells.1 f1 _ l1).trans u1
  replace v1 := (hx.cells.1 f1 _ l1).trans v1
  replace l1 := Nat.lt_of_lt_of_le l1 hx.size
  clear hx
  go_upto_region 7 with fail
  go_step
  refine wpList_buildTo rfl 28 _ rfl _ rfl (stK 2 0 2).cells (by kernel_rfl) ?_
  simp only [Act.put, List.setIfInBounds_toArray, List.set_cons_succ, List.set_cons_zero]
  go_wp2_with fail
  with_reducible refine (wk_c gk gu gh gr gq _ B1 B2 B3 B4 B5).mono ?_
  rintro e w8 ⟨f3, g3, rfl, l3, x3, y3, z3, u3, v3, hx⟩
  replace B1 := B1.ext hx
  replace B2 := B2.ext hx
  replace B3 := B3.ext hx
  replace B4 := B4.ext hx
  replace B5 := B5.ext hx
  replace E := E.trans hx
  replace x1 := (hx.cells.1 f1 _ l1).trans x1
  replace y1 := (hx.cells.1 f1 _ l1).trans y1
  replace z1 := (hx.cells.1 f1 _ l1).trans z1
  replace u1 := (hx.cells.1 f1 _ l1).trans u1
  replace v1 := (hx.cells.1 f1 _ l1).trans v1
  replace l1 := Nat.lt_of_lt_of_le l1 hx.size
  replace x2 := (hx.cells.1 f2 _ l2).trans x2
  replace y2 := (hx.cells.1 f2 _ l2).trans y2
  replace z2 := (hx.cells.1 f2 _ l2).trans z2
  replace u2 := (hx.cells.1 f2 _ l2).trans u2
  replace v2 := (hx.cells.1 f2 _ l2).trans v2
  replace l2 := Nat.lt_of_lt_of_le l2 hx.size
  clear hx
  clear B1 B2 B3 B4 B5
  go_wp2_with fail
  go_ret
  exact ⟨rfl, E⟩
end Go.Proofs.Ytkkkdjkjggofkaa
