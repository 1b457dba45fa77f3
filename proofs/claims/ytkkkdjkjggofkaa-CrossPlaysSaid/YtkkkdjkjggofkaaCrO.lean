/- Layer 20: the law CrossOne (walk). -/
import Derived.Test.YtkkkdjkjggofkaaCrM
import Derived.Test.YtkkkdjkjggofkaaLaw
namespace Go.Proofs.Ytkkkdjkjggofkaa
open Go.RowKit
@[reducible] def stO (room q : Int) : Sty := ⟨2, false, 0, 0, ⟨0, 0⟩, ⟨1, room⟩, ⟨0, 0⟩, ⟨0, 0⟩, ⟨0, 0⟩, ⟨0, 0⟩, ⟨0, 0⟩, ⟨0, 0⟩, ⟨0, 0⟩, ⟨0, 0⟩, 0, 0, 0, 0, 0, 0, 0, 0, 0, 0, false, 0, q, 0, 0, 0, ⟨0, 0⟩, none, 0, 0⟩
@[reducible] def kiO (a b : Ln) : Sty := ⟨1, false, 0, 0, ⟨0, 0⟩, ⟨0, 0⟩, ⟨0, 0⟩, ⟨0, 0⟩, ⟨0, 0⟩, ⟨0, 0⟩, a, ⟨0, 0⟩, b, ⟨0, 0⟩, 0, 0, 0, 0, 0, 0, 0, 0, 0, 0, false, 0, 0, 0, 0, 0, ⟨0, 0⟩, none, 0, 0⟩
theorem cut_in {x : Int} (h : -1000000000000 ≤ x ∧ x ≤ 1000000000000) : cutV x = x ∧ cutB x = false := by
  constructor
  · unfold cutV; rw [if_neg (by omega), if_neg (by omega)]
  · unfold cutB; rw [decide_eq_false (by omega), decide_eq_false (by omega)]; rfl
/-- where the one item stands, and how high it is -/
def oneH (room item a b q : Int) : Int := if q = 3 then room - a - b else item
def oneY (room item a b q : Int) : Int := a + if q = 1 then room - item - a - b else if q = 2 then (room - item - a - b) / 2 else 0
def OneOut (room y h : Int) (w : World) (e : Ending) (w' : World) : Prop := ∃ gF gB, e = .returned (.tuple #[.slice (some ⟨gF, 0, none⟩) 1 1, .int .i64 room, .slice (some ⟨gB, 0, none⟩) 1 1]) ∧ gF < w'.heap.size ∧
  w'.cell? ⟨gF, 1, none⟩ = some (.int .i64 y) ∧ w'.cell? ⟨gF, 3, none⟩ = some (.int .i64 h) ∧ gB < w'.heap.size ∧ w'.cell? ⟨gB, 0, none⟩ = some (.bool false) ∧ Ext w w'
theorem one_place (room item a b q : Int) (hi : 0 ≤ item ∧ item ≤ 65535) (ha : 0 ≤ a ∧ a ≤ 65535) (hb : 0 ≤ b ∧ b ≤ 65535) (hr : item + a + b ≤ room ∧ room ≤ 2000000) (gk gu gh gr gq : Nat) (w : World)
    (b1 : Blk w gk 28 (recs styC [kiO ⟨1, a⟩ ⟨1, b⟩]).toArray) (b2 : Blk w gu 48 (recs usC [⟨10, 0, 0⟩]).toArray) (b3 : Blk w gh 2 (ints [item]).toArray) (b4 : Blk w gr 50 #[.slice (some ⟨gq, 0, none⟩) 1 1]) (b5 : Blk w gq 3 (ints (castL [0])).toArray) :
    Calls Try.prog 10 #[.agg (stO room q).cells, .int .i64 100, .slice (some ⟨gk, 0, none⟩) 1 1, .slice (some ⟨gu, 0, none⟩) 1 1, .slice (some ⟨gh, 0, none⟩) 1 1, .slice (some ⟨gr, 0, none⟩) 1 1] w (OneOut room (oneY room item a b q) (oneH room item a b q) w) := by
  have hI : mIt 100 [kiO ⟨1, a⟩ ⟨1, b⟩] [⟨10, 0, 0⟩] [item] zsty 0 = ⟨kiO ⟨1, a⟩ ⟨1, b⟩, 0, 0, 10, item, 0, a, b, 0, 0, false⟩ := by
    simp [mIt, resV, frameA, frameD]
  have ho : RowsOk [[0]] 1 := ⟨by decide, fun ks hks k hk => by
    rw [List.mem_singleton.1 hks] at hk
    simp only [List.mem_cons, List.not_mem_nil, or_false] at hk
    omega⟩
  have hs : StyH (stO room q) := ⟨fun _ => by simp only; omega, fun h => by simp at h, fun h => by simp at h⟩
  have h := place_any (stO room q) 100 (some ⟨gk, 0, none⟩) (some ⟨gu, 0, none⟩) (some ⟨gh, 0, none⟩) (some ⟨gr, 0, none⟩) 1 1 1 1 1 1 1 1 [kiO ⟨1, a⟩ ⟨1, b⟩] [⟨10, 0, 0⟩] [item] zsty [[0]] w (by simpa using b1.rdk (n := 1) (k := 43) rfl) (by simpa using b2.rdk (n := 1) (k := 3) rfl) (by simpa using b3.rdk (n := 1) (k := 1) rfl)
    (rdr_one b4 b5 rfl) rfl (by omega) (by omega) (by omega) (fun s hs => by
      rw [List.mem_singleton.1 hs]
      exact ⟨⟨by simp, by simp, by simp, by simp, by simp, by simp, by simp, by simp⟩, fun h => by simp at h, fun h => by simp at h⟩) (fun u hu => by
      rw [List.mem_singleton.1 hu]; simp) (fun i hi' => by
      obtain rfl : i = 0 := by omega
      rw [hI]
      exact ⟨⟨fun h => by simp at h, fun h => by simp at h, fun h => by simp at h⟩, by simp, by simp, by simp, by simp only; omega, by simp, by simp only; omega, by simp only; omega⟩) (by simp) hs ho (fun i hi' => all_st (rs := [[0]]) (by decide) (n := 1) (fun i hi => by
        obtain rfl : i = 0 := by omega
        simp) i hi')
  have hJ : (topN (stO room q) 100 1 [[0]] (mIt 100 [kiO ⟨1, a⟩ ⟨1, b⟩] [⟨10, 0, 0⟩] [item] zsty) 1).2 0 = finI (stO room q) 100 1 (topS (stO room q) 1 (mIt 100 [kiO ⟨1, a⟩ ⟨1, b⟩] [⟨10, 0, 0⟩] [item] zsty) [[0]] 0) (mIt 100 [kiO ⟨1, a⟩ ⟨1, b⟩] [⟨10, 0, 0⟩] [item] zsty) [0] 0 (mIt 100 [kiO ⟨1, a⟩ ⟨1, b⟩] [⟨10, 0, 0⟩] [item] zsty 0) :=
    topN_fin (rs := [[0]]) (by decide) (r := 0) (p := 0) (k := 0) rfl 1 (by omega) (Nat.le_refl _)
  have hT : (topN (stO room q) 100 1 [[0]] (mIt 100 [kiO ⟨1, a⟩ ⟨1, b⟩] [⟨10, 0, 0⟩] [item] zsty) 1).1 = topS (stO room q) 1 (mIt 100 [kiO ⟨1, a⟩ ⟨1, b⟩] [⟨10, 0, 0⟩] [item] zsty) [[0]] 1 :=
    topN_top (rs := [[0]]) (by decide) 1 (Nat.le_refl _)
  obtain ⟨I, hIv⟩ : ∃ I, mIt 100 [kiO ⟨1, a⟩ ⟨1, b⟩] [⟨10, 0, 0⟩] [item] zsty = I := ⟨_, rfl⟩
  rw [hIv] at hI hJ hT h
  have hrow : rowH (stO room q) 1 I [0] = room := by
    rw [rowH, if_pos ⟨rfl, rfl⟩, high_4 rfl (by simp) (by simp)]
    simp only; omega
  have hnew : newH (stO room q) room (I 0) = oneH room item a b q := by
    rw [hI, newH, oneH]
    by_cases h3 : q = 3
    · rw [if_pos ⟨h3, rfl⟩, if_pos h3, high_8 (by simp) (by simp) (by simp)]
      simp only; omega
    · rw [if_neg (fun h => h3 h.1), if_neg h3]
  have hy : yV (stO room q) 0 room (I 0) = oneY room item a b q := by
    rw [yV, leftV, hnew, hI, oneY, oneH]
    simp only
    by_cases h1 : q = 1
    · rw [if_pos h1, if_pos h1, if_neg (by omega)]; omega
    · by_cases h2 : q = 2
      · rw [if_neg h1, if_neg h1, if_pos h2, if_pos h2, if_neg (by omega)]; omega
      · rw [if_neg h1, if_neg h1, if_neg h2, if_neg h2]; omega
  have hyb : 0 ≤ oneY room item a b q ∧ oneY room item a b q ≤ 3000000 := by
    unfold oneY
    split
    · omega
    · split <;> omega
  have hhb : 0 ≤ oneH room item a b q ∧ oneH room item a b q ≤ 3000000 := by
    unfold oneH
    split <;> omega
  have hF : frV ((topN (stO room q) 100 1 [[0]] I 1).2 0) = ⟨0, oneY room item a b q, 10, oneH room item a b q⟩ ∧ byB ((topN (stO room q) 100 1 [[0]] I 1).2 0) = false := by
    rw [hJ]
    have e1 : (finI (stO room q) 100 1 (topS (stO room q) 1 I [[0]] 0) I [0] 0 (I 0)).x = 0 := by
      show sumV I [] + (I 0).left + moveV 0 _ 0 1 = 0
      rw [hI]
      simp [sumV, moveV]
    have e2 : (finI (stO room q) 100 1 (topS (stO room q) 1 I [[0]] 0) I [0] 0 (I 0)).y = oneY room item a b q := by
      show yV (stO room q) 0 (rowH (stO room q) 1 I [0]) (I 0) = _
      rw [hrow, hy]
    have e3 : (finI (stO room q) 100 1 (topS (stO room q) 1 I [[0]] 0) I [0] 0 (I 0)).wide = 10 := by
      show (I 0).wide = 10
      rw [hI]
    have e4 : (finI (stO room q) 100 1 (topS (stO room q) 1 I [[0]] 0) I [0] 0 (I 0)).high = oneH room item a b q := by
      show newH (stO room q) (rowH (stO room q) 1 I [0]) (I 0) = _
      rw [hrow, hnew]
    rw [frV, byB, e1, e2, e3, e4, (cut_in (x := 0) (by omega)).1, (cut_in (x := 10) (by omega)).1, (cut_in (x := oneY room item a b q) (by omega)).1, (cut_in (x := oneH room item a b q) (by omega)).1,
      (cut_in (x := 0) (by omega)).2, (cut_in (x := 10) (by omega)).2, (cut_in (x := oneY room item a b q) (by omega)).2, (cut_in (x := oneH room item a b q) (by omega)).2]
    exact ⟨rfl, rfl⟩
  have hT2 : cutV (topN (stO room q) 100 1 [[0]] I 1).1 = room := by
    rw [hT]
    show cutV (0 + rowH (stO room q) 1 I [0]) = room
    rw [hrow, Int.zero_add, (cut_in (by omega)).1]
  refine h.mono ?_
  rintro e w' ⟨gF, gB, rfl, hFA, hB, hx⟩
  have f0 := hFA.cell 0 (by omega)
  simp only [hF.1] at f0
  have g0 := hB.bool (i := 0) (x := false) (by rw [byN_get _ (by omega), hF.2]; rfl)
  exact ⟨gF, gB, by rw [hT2], hFA.lt, f0 1 _ rfl, f0 3 _ rfl, hB.lt, g0, hx⟩
set_option maxRecDepth 100000 in
set_option maxHeartbeats 16000000 in
theorem law_crossOne (high item above below items : Int) (h0 : 0 ≤ high ∧ high ≤ 4294967295) (h1 : 0 ≤ item ∧ item ≤ 65535) (h2 : 0 ≤ above ∧ above ≤ 65535) (h3 : 0 ≤ below ∧ below ≤ 65535) (h4 : 0 ≤ items ∧ items ≤ 255) (w : World) :
    Calls Try.prog 6 #[.int .u32 high, .int .u16 item, .int .u16 above, .int .u16 below, .int .u8 items] w fun e w' => e = .returned (.bool true) ∧ Ext w w' := by
  obtain ⟨q, hq⟩ : ∃ q, items % 4 = q := ⟨_, rfl⟩
  obtain ⟨room, hroom⟩ : ∃ room, high % 1048576 + item + above + below = room := ⟨_, rfl⟩
  have hqb : 0 ≤ q ∧ q ≤ 3 := by omega
  have hrb : item + above + below ≤ room ∧ room ≤ 2000000 := by omega
  have cP := fun gk gu gh gr gq w b1 b2 b3 b4 b5 => hide (one_place room item above below q h1 h2 h3 hrb gk gu gh gr gq w b1 b2 b3 b4 b5)
  have cW := fun w => hide (works20_any w)
  have HROOM := hide hroom
  have HQ := hide hq
  obtain ⟨y, hy⟩ : ∃ y, oneY room item above below q = y := ⟨_, rfl⟩
  obtain ⟨h, hh⟩ : ∃ h, oneH room item above below q = h := ⟨_, rfl⟩
  rw [hy, hh] at cP
  have HY := hide hy
  have HH := hide hh
  have hhi : 0 ≤ high % 1048576 ∧ high % 1048576 ≤ 1048575 := by omega
  clear hq hy hh
  go_enter Try.func6, Try.ntmps6
  go_upto_region 2 with fail
  clear hroom
  have hq := unhide HQ
  clear hhi hrb
  iterate 4 go_step
  refine wpList_buildTo rfl 23 _ rfl _ rfl #[.int .u8 1, .int .i64 room] (by kernel_rfl) ?_
  simp only [Act.put, List.setIfInBounds_toArray, List.set_cons_succ, List.set_cons_zero]
  iterate 6 go_step
  rw [unhide HQ]
  refine wpList_buildTo rfl 28 _ rfl _ rfl (stO room q).cells (by kernel_rfl) ?_
  simp only [Act.put, List.setIfInBounds_toArray, List.set_cons_succ, List.set_cons_zero]
  refine wpList_alloc_var rfl 28 rfl zsty.cells zero_sty ?_
  intro wa Ba Ea za
  simp only [Act.put, List.setIfInBounds_toArray, List.set_cons_succ, List.set_cons_zero]
  refine wpList_store_blk rfl 28 _ _ rfl w.heap.size rfl (stO room q).cells rfl 28 zsty.cells Ba (by kernel_rfl) rfl (by kernel_rfl) ?_
  intro w1 B1 hg3 zs
  simp only [Act.put]
  have hx : Ext w w1 := Ext.grown Ea hg3 (fun q e => by injection e with e; omega)
  have B1s : w1.heap.size = w.heap.size + 1 := by omega
  generalize hg1 : w.heap.size = g1 at *
  have Hg1 := hide hg1
  clear hg1
  clear Ba Ea za hg3 zs wa
  clear hq
  have E := hx
  clear hx
  have HB1s := hide B1s
  clear B1s
  go_upto_region 3 with fail
  go_step
  refine wpList_buildTo rfl 28 _ rfl _ rfl (stK 1 0 0).cells (by kernel_rfl) ?_
  simp only [Act.put, List.setIfInBounds_toArray, List.set_cons_succ, List.set_cons_zero]
  refine wpList_alloc_var rfl 28 rfl zsty.cells zero_sty ?_
  intro wa Ba Ea za
  simp only [Act.put, List.setIfInBounds_toArray, List.set_cons_succ, List.set_cons_zero]
  refine wpList_store_blk rfl 28 _ _ rfl w1.heap.size rfl (stK 1 0 0).cells rfl 28 zsty.cells Ba (by kernel_rfl) rfl (by kernel_rfl) ?_
  intro w2 B2 hg3 zs
  simp only [Act.put]
  have hx : Ext w1 w2 := Ext.grown Ea hg3 (fun q e => by injection e with e; omega)
  have B2s : w2.heap.size = w1.heap.size + 1 := by omega
  generalize hg2 : w1.heap.size = g2 at *
  have Hg2 := hide hg2
  clear hg2
  clear Ba Ea za hg3 zs wa
  replace B1 := B1.ext hx
  replace E := E.trans hx
  clear hx B2s
  have HG12 := hide (show g1 < g2 ∧ w.heap.size ≤ g2 from ⟨by have := unhide HB1s; omega, by have := unhide HB1s; have := unhide Hg1; omega⟩)
  have c2 := B2.cell
  have f2 := B2.frozen
  have l2 := B2.lt
  go_upto_region 5 with fail
  clear c2 f2 l2
  replace B2 : Blk ((w2.setCell ⟨g2, 16, none⟩ (.int .u8 1)).setCell ⟨g2, 17, none⟩ (.int .i64 above)) g2 28 (kiO ⟨1, above⟩ ⟨0, 0⟩).cells := (B2.set_ 16 (.int .u8 1)).set_ 17 (.int .i64 above)
  replace B1 := (B1.far (p := ⟨g2, 16, none⟩) (show g1 ≠ g2 by have := unhide HG12; omega) (.int .u8 1)).far (p := ⟨g2, 17, none⟩) (show g1 ≠ g2 by have := unhide HG12; omega) (.int .i64 above)
  replace E := (E.set (p := ⟨g2, 16, none⟩) (show w.heap.size ≤ g2 by have := unhide HG12; omega) (.int .u8 1)).set (p := ⟨g2, 17, none⟩) (show w.heap.size ≤ g2 by have := unhide HG12; omega) (.int .i64 above)
  generalize (w2.setCell ⟨g2, 16, none⟩ (.int .u8 1)).setCell ⟨g2, 17, none⟩ (.int .i64 above) = w3 at *
  have c2 := B2.cell
  have f2 := B2.frozen
  have l2 := B2.lt
  go_upto_region 6 with fail
  clear c2 f2 l2
  replace B2 : Blk ((w3.setCell ⟨g2, 20, none⟩ (.int .u8 1)).setCell ⟨g2, 21, none⟩ (.int .i64 below)) g2 28 (kiO ⟨1, above⟩ ⟨1, below⟩).cells := (B2.set_ 20 (.int .u8 1)).set_ 21 (.int .i64 below)
  replace B1 := (B1.far (p := ⟨g2, 20, none⟩) (show g1 ≠ g2 by have := unhide HG12; omega) (.int .u8 1)).far (p := ⟨g2, 21, none⟩) (show g1 ≠ g2 by have := unhide HG12; omega) (.int .i64 below)
  replace E := (E.set (p := ⟨g2, 20, none⟩) (show w.heap.size ≤ g2 by have := unhide HG12; omega) (.int .u8 1)).set (p := ⟨g2, 21, none⟩) (show w.heap.size ≤ g2 by have := unhide HG12; omega) (.int .i64 below)
  generalize (w3.setCell ⟨g2, 20, none⟩ (.int .u8 1)).setCell ⟨g2, 21, none⟩ (.int .i64 below) = w4 at *
  go_step
  refine wpList_load_blk rfl 28 _ rfl g1 rfl 28 (stO room q).cells _ B1 Try.underlying28 rfl (by kernel_rfl) ?_
  simp only [Act.put, List.setIfInBounds_toArray, List.set_cons_succ, List.set_cons_zero]
  refine wpList_load_blk rfl 28 _ rfl g2 rfl 28 (kiO ⟨1, above⟩ ⟨1, below⟩).cells _ B2 Try.underlying28 rfl (by kernel_rfl) ?_
  simp only [Act.put, List.setIfInBounds_toArray, List.set_cons_succ, List.set_cons_zero]
  clear B1 B2
  refine Go.Great.wpList_buildSliceTo rfl 29 28 1 _ rfl _ rfl _ rfl Try.underlying29 (recs styC [kiO ⟨1, above⟩ ⟨1, below⟩]).toArray (by kernel_rfl) ?_
  simp only [Act.put, List.setIfInBounds_toArray, List.set_cons_succ, List.set_cons_zero]
  have C1 : Blk (w4.alloc (.cells (recs styC [kiO ⟨1, above⟩ ⟨1, below⟩]).toArray 28)) w4.heap.size 28 (recs styC [kiO ⟨1, above⟩ ⟨1, below⟩]).toArray := Blk.new _ _ _
  have hx : Ext w4 (w4.alloc (.cells (recs styC [kiO ⟨1, above⟩ ⟨1, below⟩]).toArray 28)) := (Ext.refl _).alloc _
  generalize w4.alloc (.cells (recs styC [kiO ⟨1, above⟩ ⟨1, below⟩]).toArray 28) = w5 at *
  generalize w4.heap.size = gk at *
  replace E := E.trans hx
  clear hx
  refine wpList_buildTo rfl 48 _ rfl _ rfl #[.int .i64 10, .int .i64 0, .int .i64 0] (by kernel_rfl) ?_
  simp only [Act.put, List.setIfInBounds_toArray, List.set_cons_succ, List.set_cons_zero]
  refine Go.Great.wpList_buildSliceTo rfl 30 48 1 _ rfl _ rfl _ rfl Try.underlying30 (recs usC [⟨10, 0, 0⟩]).toArray (by kernel_rfl) ?_
  simp only [Act.put, List.setIfInBounds_toArray, List.set_cons_succ, List.set_cons_zero]
  have C2 : Blk (w5.alloc (.cells (recs usC [⟨10, 0, 0⟩]).toArray 48)) w5.heap.size 48 (recs usC [⟨10, 0, 0⟩]).toArray := Blk.new _ _ _
  have hx : Ext w5 (w5.alloc (.cells (recs usC [⟨10, 0, 0⟩]).toArray 48)) := (Ext.refl _).alloc _
  generalize w5.alloc (.cells (recs usC [⟨10, 0, 0⟩]).toArray 48) = w6 at *
  generalize w5.heap.size = gu at *
  replace C1 := C1.ext hx
  replace E := E.trans hx
  clear hx
  iterate 6 go_step
  refine Go.Great.wpList_buildSliceTo rfl 31 2 1 _ rfl _ rfl _ rfl Try.underlying31 (ints [item]).toArray (by kernel_rfl) ?_
  simp only [Act.put, List.setIfInBounds_toArray, List.set_cons_succ, List.set_cons_zero]
  have C3 : Blk (w6.alloc (.cells (ints [item]).toArray 2)) w6.heap.size 2 (ints [item]).toArray := Blk.new _ _ _
  have hx : Ext w6 (w6.alloc (.cells (ints [item]).toArray 2)) := (Ext.refl _).alloc _
  generalize w6.alloc (.cells (ints [item]).toArray 2) = w7 at *
  generalize w6.heap.size = gh at *
  replace C1 := C1.ext hx
  replace C2 := C2.ext hx
  replace E := E.trans hx
  clear hx
  refine Go.Great.wpList_buildSliceTo rfl 50 3 1 _ rfl _ rfl _ rfl Try.underlying50 (ints (castL [0])).toArray (by kernel_rfl) ?_
  simp only [Act.put, List.setIfInBounds_toArray, List.set_cons_succ, List.set_cons_zero]
  have C5 : Blk (w7.alloc (.cells (ints (castL [0])).toArray 3)) w7.heap.size 3 (ints (castL [0])).toArray := Blk.new _ _ _
  have hx : Ext w7 (w7.alloc (.cells (ints (castL [0])).toArray 3)) := (Ext.refl _).alloc _
  generalize w7.alloc (.cells (ints (castL [0])).toArray 3) = w8 at *
  generalize w7.heap.size = gq at *
  replace C1 := C1.ext hx
  replace C2 := C2.ext hx
  replace C3 := C3.ext hx
  replace E := E.trans hx
  clear hx
  refine Go.Great.wpList_buildSliceTo rfl 36 50 1 _ rfl _ rfl _ rfl Try.underlying36 #[.slice (some ⟨gq, 0, none⟩) 1 1] (by kernel_rfl) ?_
  simp only [Act.put, List.setIfInBounds_toArray, List.set_cons_succ, List.set_cons_zero]
  have C4 : Blk (w8.alloc (.cells #[.slice (some ⟨gq, 0, none⟩) 1 1] 50)) w8.heap.size 50 #[.slice (some ⟨gq, 0, none⟩) 1 1] := Blk.new _ _ _
  have hx : Ext w8 (w8.alloc (.cells #[.slice (some ⟨gq, 0, none⟩) 1 1] 50)) := (Ext.refl _).alloc _
  generalize w8.alloc (.cells #[.slice (some ⟨gq, 0, none⟩) 1 1] 50) = w9 at *
  generalize w8.heap.size = gr at *
  replace C1 := C1.ext hx
  replace C2 := C2.ext hx
  replace C3 := C3.ext hx
  replace C5 := C5.ext hx
  replace E := E.trans hx
  clear hx
  go_wp2_with fail
  with_reducible refine (unhide (cP gk gu gh gr gq _ C1 C2 C3 C4 C5)).mono ?_
  rintro e wa ⟨gF, gB, rfl, lF, fy, fh, lB, fb, hx⟩
  replace E := E.trans hx
  clear hx C1 C2 C3 C4 C5 cP
  have hrr : (room == room) = true := by simp
  have hyb : y = above + if q = 1 then room - item - above - below else if q = 2 then (room - item - above - below) / 2 else 0 := by rw [← unhide HY, oneY]
  have hhb : h = if q = 3 then room - above - below else item := by rw [← unhide HH, oneH]
  have hrb : item + above + below ≤ room ∧ room ≤ 2000000 := by have := unhide HROOM; omega
  have hyB : 0 ≤ y ∧ y ≤ 3000000 := by rw [hyb]; split; omega; split <;> omega
  have hhB : 0 ≤ h ∧ h ≤ 3000000 := by rw [hhb]; split <;> omega
  go_upto_region 9 with fail
  clear fb lB hrr
  obtain ⟨t, ht⟩ : ∃ t, y - above = t := ⟨_, rfl⟩
  have HT := hide ht
  have htB : -3000000 ≤ t ∧ t ≤ 3000000 := by omega
  have HYB := hide hyb
  have HHB := hide hhb
  clear hyb hhb
  go_upto_region 10 with fail
  clear ht
  obtain ⟨bo, hbo⟩ : ∃ bo, room - below - y - h = bo := ⟨_, rfl⟩
  have HBO := hide hbo
  go_quiet (fail)
  clear hbo
  rcases (by omega : q = 3 ∨ q = 0 ∨ q = 1 ∨ q = 2) with h3 | h3 | h3 | h3
  · have eY := unhide HYB
    have eH := unhide HHB
    rw [h3] at eY eH
    rw [if_neg (by decide), if_neg (by decide)] at eY
    rw [if_pos rfl] at eH
    have hq2 := (unhide HQ).trans h3
    have t0 : t = 0 := by have := unhide HT; omega
    have b0 : bo = 0 := by have := unhide HBO; omega
    clear eY eH hyB hhB htB hrb hqb h3
    go_wp2_with fail
    with_reducible refine (unhide (cW _)).mono ?_
    rintro e wb ⟨rfl, hx⟩
    go_wp2_with fail
    go_ret
    exact ⟨rfl, (E.drewN _).trans hx⟩
  · have eY := unhide HYB
    have eH := unhide HHB
    rw [h3] at eY eH
    rw [if_neg (by decide), if_neg (by decide)] at eY
    rw [if_neg (by decide)] at eH
    have hq2 := (unhide HQ).trans h3
    have hh0 : h = item := eH
    have t0 : t = 0 := by have := unhide HT; omega
    clear eY eH hyB hhB htB hrb hqb h3
    go_wp2_with fail
    with_reducible refine (unhide (cW _)).mono ?_
    rintro e wb ⟨rfl, hx⟩
    go_wp2_with fail
    go_ret
    exact ⟨rfl, (E.drewN _).trans hx⟩
  · have eY := unhide HYB
    have eH := unhide HHB
    rw [h3] at eY eH
    rw [if_pos rfl] at eY
    rw [if_neg (by decide)] at eH
    have hq2 := (unhide HQ).trans h3
    have hh0 : h = item := eH
    have b0 : bo = 0 := by have := unhide HBO; omega
    clear eY eH hyB hhB htB hrb hqb h3
    go_wp2_with fail
    with_reducible refine (unhide (cW _)).mono ?_
    rintro e wb ⟨rfl, hx⟩
    go_wp2_with fail
    go_ret
    exact ⟨rfl, (E.drewN _).trans hx⟩
  · have eY := unhide HYB
    have eH := unhide HHB
    rw [h3] at eY eH
    rw [if_neg (by decide), if_pos rfl] at eY
    rw [if_neg (by decide)] at eH
    have hq2 := (unhide HQ).trans h3
    have hh0 : h = item := eH
    have hor : t = bo ∨ t + 1 = bo := by have := unhide HT; have := unhide HBO; omega
    clear eY eH hyB hhB hrb hqb h3
    rcases hor with hor | hor
    all_goals
      go_wp2_with fail
      with_reducible refine (unhide (cW _)).mono ?_
      rintro e wb ⟨rfl, hx⟩
      go_wp2_with fail
      go_ret
      exact ⟨rfl, (E.drewN _).trans hx⟩
end Go.Proofs.Ytkkkdjkjggofkaa
