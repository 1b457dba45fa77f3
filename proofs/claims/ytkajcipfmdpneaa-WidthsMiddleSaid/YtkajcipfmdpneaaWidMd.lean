/- The law on boxes in the middle: its walk. -/
import Derived.Test.YtkajcipfmdpneaaWidLS
import Derived.Test.YtkajcipfmdpneaaLinB
import Derived.Deep.Cut
namespace Go.Proofs.Ytkajcipfmdpneaa
open Go.RowKit

set_option maxRecDepth 100000 in
theorem built_w (x : Int) : Try.prog.built 28 [(4, Ln.v ⟨1, x⟩)] = some (sty0 ⟨1, x⟩ zl zl 0 0).cells := by kernel_rfl
theorem setb27 (x b : Int) : (sty0 ⟨1, x⟩ zl zl 0 0).cells.setIfInBounds 27 (.int .i64 b) = (sty0 ⟨1, x⟩ zl zl b 0).cells := rfl
theorem setp29 (x b p : Int) : (sty0 ⟨1, x⟩ zl zl b 0).cells.setIfInBounds 29 (.int .i64 p) = (sty0 ⟨1, x⟩ zl zl b p).cells := rfl
theorem fl_sty (c x b p : Int) (hc : 0 ≤ c ∧ c ≤ 1073741824) (hx : 0 ≤ x ∧ x ≤ 1073741824) (hb : 0 ≤ b ∧ b ≤ 1073741824) (hp : 0 ≤ p ∧ p ≤ 1073741824) (l : Int) (hl : max (c - x - b - p) 0 / 2 = l) (w : World) :
    Calls Try.prog 10 #[.agg (sty0 ⟨1, x⟩ zl zl b p).cells, .int .i64 c] w fun e w' => e = .returned (.tuple #[usedV x l (c - x - b - p - l), .bool false]) ∧ Ext w w' := by
  have h := flow_any (sty0 ⟨1, x⟩ zl zl b p) c (may_sty0 _ _ _ _ _ (by simp [lenMayB]; omega) (by decide) (by decide) (by omega) (by omega)) (by omega) w
  have z : resB zl = false := by decide
  have z0 : ∀ n, resB ⟨1, n⟩ = true := fun n => by simp [resB]
  have z1 : ∀ n c, resV ⟨1, n⟩ c = n := fun n c => by simp [resV]
  have ec : max c 0 = c := by omega
  have eW : flowW (sty0 ⟨1, x⟩ zl zl b p) c = x := by
    simp only [flowW, clampV, flow0, z, z0, z1]
    simp; omega
  have eL : flowL (sty0 ⟨1, x⟩ zl zl b p) c = l := by
    rw [flowL, eW, ← hl]
    simp only [sty0, z, z0]
    simp only [if_true, true_or, and_self]
    congr 1
    omega
  have eR : flowR (sty0 ⟨1, x⟩ zl zl b p) c = c - x - b - p - l := by
    rw [flowR, eW, eL]
    simp only
    omega
  rw [ec, eW, eL, eR] at h
  have l1 : 0 ≤ l ∧ l ≤ 1073741824 := by omega
  have c1 : ∀ y : Int, -5000000000 ≤ y → y ≤ 5000000000 → cutV y = y ∧ cutB y = false := fun y h1 h2 => ⟨by unfold cutV; rw [if_neg (by omega), if_neg (by omega)], by simp [cutB]; omega⟩
  rw [(c1 x (by omega) (by omega)).1, (c1 x (by omega) (by omega)).2, (c1 l (by omega) (by omega)).1, (c1 l (by omega) (by omega)).2, (c1 (c - x - b - p - l) (by omega) (by omega)).1, (c1 (c - x - b - p - l) (by omega) (by omega)).2] at h
  exact h

set_option maxRecDepth 100000 in
set_option maxHeartbeats 4000000 in
theorem middle_1 (c x b p C4 X4 B4 P4 : Int) (EC : c / 4 = C4) (EX : x / 4 = X4) (EB : b / 4 = B4) (EP : p / 4 = P4) (hc1 : 0 ≤ c) (hc2 : c ≤ 4294967295) (hx1 : 0 ≤ x) (hx2 : x ≤ 4294967295) (hb1 : 0 ≤ b) (hb2 : b ≤ 4294967295) (hp1 : 0 ≤ p) (hp2 : p ≤ 4294967295)
    (c1 : 0 ≤ C4) (c2 : C4 ≤ 1073741824) (x1 : 0 ≤ X4) (x2 : X4 ≤ 1073741824) (b1 : 0 ≤ B4) (b2 : B4 ≤ 1073741824) (p1 : 0 ≤ P4) (p2 : P4 ≤ 1073741824) (hf : C4 - X4 - B4 - P4 < 0) (w : World) :
    Calls Try.prog 4 #[.int .u32 c, .int .u32 x, .int .u32 b, .int .u32 p] w fun e w' => e = .returned (.bool true) ∧ Ext w w' := by
  obtain ⟨FR, hFR⟩ : ∃ FR, C4 - X4 - B4 - P4 = FR := ⟨_, rfl⟩
  have fl := fun w => hide (fl_sty C4 X4 B4 P4 ⟨c1, c2⟩ ⟨x1, x2⟩ ⟨b1, b2⟩ ⟨p1, p2⟩ 0 (by omega) w)
  simp only [Int.sub_zero, hFR] at fl
  have hneg : FR < 0 := by omega
  have hlo : -4294967296 ≤ FR := by omega
  go_enter Try.func4, Try.ntmps4
  go_upto_region 1 with fail
  have HC := hide EC
  have HB := hide EB
  have HP := hide EP
  have HX := hide EX
  have HF := hide hFR
  skip
  skip
  clear EC EB EP hFR
  go_wp2_with fail
  with_reducible refine (px_any _ _).mono ?_
  rintro e wp ⟨rfl, hb⟩
  simp only []
  go_step
  refine wpList_buildTo rfl 28 _ rfl _ rfl (sty0 ⟨1, X4⟩ zl zl 0 0).cells (by kernel_rfl) ?_
  simp only [Act.put, List.setIfInBounds_toArray, List.set_cons_succ, List.set_cons_zero]
  refine wpList_alloc_var rfl 28 rfl (sty0 zl zl zl 0 0).cells zero_style ?_
  intro wa Ba Ea za
  simp only [Act.put, List.setIfInBounds_toArray, List.set_cons_succ, List.set_cons_zero]
  refine wpList_store_blk rfl 28 _ _ rfl wp.heap.size rfl (sty0 ⟨1, X4⟩ zl zl 0 0).cells rfl 28 (sty0 zl zl zl 0 0).cells Ba (info_style (sty0 ⟨1, X4⟩ zl zl 0 0)) (by kernel_rfl) (by kernel_rfl) ?_
  intro ws0 Bs0 hg zs
  simp only [Act.put]
  have Es0 : Ext w ws0 := Ext.grown (Ext.trans hb Ea) hg (fun g e => by injection e with e; have := hb.size; omega)
  have hsz := hb.size
  clear Ba Ea za hg zs hb EX
  generalize hgs : wp.heap.size = gs at *
  clear hgs wp
  have EB := unhide HB
  go_upto_region 2 with fail
  iterate 16 go_step
  refine wpList_store_cell rfl 2 _ _ rfl gs 27 rfl (.int .i64 B4) rfl rfl 28 (sty0 ⟨1, X4⟩ zl zl 0 0).cells Bs0 (show 27 < 43 by decide) (by kernel_rfl) ?_
  intro ws1 Bs1 hg zs
  simp only [Act.put]
  rw [setb27] at Bs1
  have Es1 : Ext w ws1 := Ext.grown Es0 hg (fun g e => by injection e with e; omega)
  clear Bs0 hg zs EB Es0
  have EP := unhide HP
  go_upto_region 3 with fail
  iterate 16 go_step
  refine wpList_store_cell rfl 2 _ _ rfl gs 29 rfl (.int .i64 P4) rfl rfl 28 (sty0 ⟨1, X4⟩ zl zl B4 0).cells Bs1 (show 29 < 43 by decide) (by kernel_rfl) ?_
  intro ws2 Bs2 hg zs
  simp only [Act.put]
  rw [setp29] at Bs2
  have Es2 : Ext w ws2 := Ext.grown Es1 hg (fun g e => by injection e with e; omega)
  clear Bs1 hg zs EP Es1
  have EC := unhide HC
  go_upto_region 4 with fail
  go_step
  refine wpList_load_blk rfl 28 _ rfl gs rfl 28 (sty0 ⟨1, X4⟩ zl zl B4 P4).cells _ Bs2 Try.underlying28 rfl (info_style (sty0 ⟨1, X4⟩ zl zl B4 P4)) ?_
  simp only [Act.put, List.setIfInBounds_toArray, List.set_cons_succ, List.set_cons_zero]
  go_wp2_with fail
  with_reducible refine (unhide (fl _)).mono ?_
  rintro e w3 ⟨rfl, hx⟩
  have E3 := Es2.trans hx
  clear Es2 hx Bs2 hsz fl EC
  go_upto_region 5 with fail
  have Bu : Blk (w3.alloc (.cells #[.int .i64 X4, .int .i64 0, .int .i64 FR] 32)) w3.heap.size 32 #[.int .i64 X4, .int .i64 0, .int .i64 FR] := Blk.new _ _ _
  have E4 : Ext w (w3.alloc (.cells #[.int .i64 X4, .int .i64 0, .int .i64 FR] 32)) := E3.alloc _
  generalize hgu : w3.heap.size = gu at *
  generalize w3.alloc (.cells #[.int .i64 X4, .int .i64 0, .int .i64 FR] 32) = w4 at *
  have dU := Bu.cell
  have lU := Bu.lt
  have EC := unhide HC
  have EB := unhide HB
  have EP := unhide HP
  have EX := unhide HX
  have hFR := unhide HF
  clear E3 hgu
  go_upto_region 6 with fail
  clear EC EB EP hFR
  skip
  go_wp2_with fail
  with_reducible refine (works_any _).mono ?_
  rintro e w5 ⟨rfl, hx⟩
  go_wp2_with fail
  go_ret
  exact ⟨rfl, E4.trans hx⟩

set_option maxRecDepth 100000 in
set_option maxHeartbeats 4000000 in
theorem middle_2 (c x b p C4 X4 B4 P4 l : Int) (EC : c / 4 = C4) (EX : x / 4 = X4) (EB : b / 4 = B4) (EP : p / 4 = P4) (hc1 : 0 ≤ c) (hc2 : c ≤ 4294967295) (hx1 : 0 ≤ x) (hx2 : x ≤ 4294967295) (hb1 : 0 ≤ b) (hb2 : b ≤ 4294967295) (hp1 : 0 ≤ p) (hp2 : p ≤ 4294967295)
    (c1 : 0 ≤ C4) (c2 : C4 ≤ 1073741824) (x1 : 0 ≤ X4) (x2 : X4 ≤ 1073741824) (b1 : 0 ≤ B4) (b2 : B4 ≤ 1073741824) (p1 : 0 ≤ P4) (p2 : P4 ≤ 1073741824) (hf : 0 ≤ C4 - X4 - B4 - P4) (q1 : l + l ≤ C4 - X4 - B4 - P4) (q2 : C4 - X4 - B4 - P4 ≤ l + l) (w : World) :
    Calls Try.prog 4 #[.int .u32 c, .int .u32 x, .int .u32 b, .int .u32 p] w fun e w' => e = .returned (.bool true) ∧ Ext w w' := by
  obtain ⟨FR, hFR⟩ : ∃ FR, C4 - X4 - B4 - P4 = FR := ⟨_, rfl⟩
  have eR : C4 - X4 - B4 - P4 - l = l := by omega
  have fl := fun w => hide (by have := fl_sty C4 X4 B4 P4 ⟨c1, c2⟩ ⟨x1, x2⟩ ⟨b1, b2⟩ ⟨p1, p2⟩ l (by omega) w; rwa [eR] at this)
  have hpos : 0 ≤ FR := by omega
  have hhi : FR ≤ 1073741824 := by omega
  have l1 : 0 ≤ l := by omega
  have l2 : l ≤ 1073741824 := by omega
  have q3 : l + l = FR := by omega
  clear eR q1 q2 hf
  go_enter Try.func4, Try.ntmps4
  go_upto_region 1 with fail
  have HC := hide EC
  have HB := hide EB
  have HP := hide EP
  have HX := hide EX
  have HF := hide hFR
  have HQ := hide q3
  clear q3
  clear EC EB EP hFR
  go_wp2_with fail
  with_reducible refine (px_any _ _).mono ?_
  rintro e wp ⟨rfl, hb⟩
  simp only []
  go_step
  refine wpList_buildTo rfl 28 _ rfl _ rfl (sty0 ⟨1, X4⟩ zl zl 0 0).cells (by kernel_rfl) ?_
  simp only [Act.put, List.setIfInBounds_toArray, List.set_cons_succ, List.set_cons_zero]
  refine wpList_alloc_var rfl 28 rfl (sty0 zl zl zl 0 0).cells zero_style ?_
  intro wa Ba Ea za
  simp only [Act.put, List.setIfInBounds_toArray, List.set_cons_succ, List.set_cons_zero]
  refine wpList_store_blk rfl 28 _ _ rfl wp.heap.size rfl (sty0 ⟨1, X4⟩ zl zl 0 0).cells rfl 28 (sty0 zl zl zl 0 0).cells Ba (info_style (sty0 ⟨1, X4⟩ zl zl 0 0)) (by kernel_rfl) (by kernel_rfl) ?_
  intro ws0 Bs0 hg zs
  simp only [Act.put]
  have Es0 : Ext w ws0 := Ext.grown (Ext.trans hb Ea) hg (fun g e => by injection e with e; have := hb.size; omega)
  have hsz := hb.size
  clear Ba Ea za hg zs hb EX
  generalize hgs : wp.heap.size = gs at *
  clear hgs wp
  have EB := unhide HB
  go_upto_region 2 with fail
  iterate 16 go_step
  refine wpList_store_cell rfl 2 _ _ rfl gs 27 rfl (.int .i64 B4) rfl rfl 28 (sty0 ⟨1, X4⟩ zl zl 0 0).cells Bs0 (show 27 < 43 by decide) (by kernel_rfl) ?_
  intro ws1 Bs1 hg zs
  simp only [Act.put]
  rw [setb27] at Bs1
  have Es1 : Ext w ws1 := Ext.grown Es0 hg (fun g e => by injection e with e; omega)
  clear Bs0 hg zs EB Es0
  have EP := unhide HP
  go_upto_region 3 with fail
  iterate 16 go_step
  refine wpList_store_cell rfl 2 _ _ rfl gs 29 rfl (.int .i64 P4) rfl rfl 28 (sty0 ⟨1, X4⟩ zl zl B4 0).cells Bs1 (show 29 < 43 by decide) (by kernel_rfl) ?_
  intro ws2 Bs2 hg zs
  simp only [Act.put]
  rw [setp29] at Bs2
  have Es2 : Ext w ws2 := Ext.grown Es1 hg (fun g e => by injection e with e; omega)
  clear Bs1 hg zs EP Es1
  have EC := unhide HC
  go_upto_region 4 with fail
  go_step
  refine wpList_load_blk rfl 28 _ rfl gs rfl 28 (sty0 ⟨1, X4⟩ zl zl B4 P4).cells _ Bs2 Try.underlying28 rfl (info_style (sty0 ⟨1, X4⟩ zl zl B4 P4)) ?_
  simp only [Act.put, List.setIfInBounds_toArray, List.set_cons_succ, List.set_cons_zero]
  go_wp2_with fail
  with_reducible refine (unhide (fl _)).mono ?_
  rintro e w3 ⟨rfl, hx⟩
  have E3 := Es2.trans hx
  clear Es2 hx Bs2 hsz fl EC
  go_upto_region 5 with fail
  have Bu : Blk (w3.alloc (.cells #[.int .i64 X4, .int .i64 l, .int .i64 l] 32)) w3.heap.size 32 #[.int .i64 X4, .int .i64 l, .int .i64 l] := Blk.new _ _ _
  have E4 : Ext w (w3.alloc (.cells #[.int .i64 X4, .int .i64 l, .int .i64 l] 32)) := E3.alloc _
  generalize hgu : w3.heap.size = gu at *
  generalize w3.alloc (.cells #[.int .i64 X4, .int .i64 l, .int .i64 l] 32) = w4 at *
  have dU := Bu.cell
  have lU := Bu.lt
  have EC := unhide HC
  have EB := unhide HB
  have EP := unhide HP
  have EX := unhide HX
  have hFR := unhide HF
  clear E3 hgu
  go_upto_region 6 with fail
  clear EC EB EP hFR
  have q3 := unhide HQ
  go_wp2_with fail
  with_reducible refine (works_any _).mono ?_
  rintro e w5 ⟨rfl, hx⟩
  go_wp2_with fail
  go_ret
  exact ⟨rfl, E4.trans hx⟩

set_option maxRecDepth 100000 in
set_option maxHeartbeats 4000000 in
theorem middle_3 (c x b p C4 X4 B4 P4 l : Int) (EC : c / 4 = C4) (EX : x / 4 = X4) (EB : b / 4 = B4) (EP : p / 4 = P4) (hc1 : 0 ≤ c) (hc2 : c ≤ 4294967295) (hx1 : 0 ≤ x) (hx2 : x ≤ 4294967295) (hb1 : 0 ≤ b) (hb2 : b ≤ 4294967295) (hp1 : 0 ≤ p) (hp2 : p ≤ 4294967295)
    (c1 : 0 ≤ C4) (c2 : C4 ≤ 1073741824) (x1 : 0 ≤ X4) (x2 : X4 ≤ 1073741824) (b1 : 0 ≤ B4) (b2 : B4 ≤ 1073741824) (p1 : 0 ≤ P4) (p2 : P4 ≤ 1073741824) (hf : 0 ≤ C4 - X4 - B4 - P4) (q1 : l + l + 1 ≤ C4 - X4 - B4 - P4) (q2 : C4 - X4 - B4 - P4 ≤ l + l + 1) (w : World) :
    Calls Try.prog 4 #[.int .u32 c, .int .u32 x, .int .u32 b, .int .u32 p] w fun e w' => e = .returned (.bool true) ∧ Ext w w' := by
  obtain ⟨FR, hFR⟩ : ∃ FR, C4 - X4 - B4 - P4 = FR := ⟨_, rfl⟩
  have eR : C4 - X4 - B4 - P4 - l = (l + 1) := by omega
  have fl := fun w => hide (by have := fl_sty C4 X4 B4 P4 ⟨c1, c2⟩ ⟨x1, x2⟩ ⟨b1, b2⟩ ⟨p1, p2⟩ l (by omega) w; rwa [eR] at this)
  have hpos : 0 ≤ FR := by omega
  have hhi : FR ≤ 1073741824 := by omega
  have l1 : 0 ≤ l := by omega
  have l2 : l ≤ 1073741824 := by omega
  have q3 : l + (l + 1) = FR := by omega
  clear eR q1 q2 hf
  go_enter Try.func4, Try.ntmps4
  go_upto_region 1 with fail
  have HC := hide EC
  have HB := hide EB
  have HP := hide EP
  have HX := hide EX
  have HF := hide hFR
  have HQ := hide q3
  clear q3
  clear EC EB EP hFR
  go_wp2_with fail
  with_reducible refine (px_any _ _).mono ?_
  rintro e wp ⟨rfl, hb⟩
  simp only []
  go_step
  refine wpList_buildTo rfl 28 _ rfl _ rfl (sty0 ⟨1, X4⟩ zl zl 0 0).cells (by kernel_rfl) ?_
  simp only [Act.put, List.setIfInBounds_toArray, List.set_cons_succ, List.set_cons_zero]
  refine wpList_alloc_var rfl 28 rfl (sty0 zl zl zl 0 0).cells zero_style ?_
  intro wa Ba Ea za
  simp only [Act.put, List.setIfInBounds_toArray, List.set_cons_succ, List.set_cons_zero]
  refine wpList_store_blk rfl 28 _ _ rfl wp.heap.size rfl (sty0 ⟨1, X4⟩ zl zl 0 0).cells rfl 28 (sty0 zl zl zl 0 0).cells Ba (info_style (sty0 ⟨1, X4⟩ zl zl 0 0)) (by kernel_rfl) (by kernel_rfl) ?_
  intro ws0 Bs0 hg zs
  simp only [Act.put]
  have Es0 : Ext w ws0 := Ext.grown (Ext.trans hb Ea) hg (fun g e => by injection e with e; have := hb.size; omega)
  have hsz := hb.size
  clear Ba Ea za hg zs hb EX
  generalize hgs : wp.heap.size = gs at *
  clear hgs wp
  have EB := unhide HB
  go_upto_region 2 with fail
  iterate 16 go_step
  refine wpList_store_cell rfl 2 _ _ rfl gs 27 rfl (.int .i64 B4) rfl rfl 28 (sty0 ⟨1, X4⟩ zl zl 0 0).cells Bs0 (show 27 < 43 by decide) (by kernel_rfl) ?_
  intro ws1 Bs1 hg zs
  simp only [Act.put]
  rw [setb27] at Bs1
  have Es1 : Ext w ws1 := Ext.grown Es0 hg (fun g e => by injection e with e; omega)
  clear Bs0 hg zs EB Es0
  have EP := unhide HP
  go_upto_region 3 with fail
  iterate 16 go_step
  refine wpList_store_cell rfl 2 _ _ rfl gs 29 rfl (.int .i64 P4) rfl rfl 28 (sty0 ⟨1, X4⟩ zl zl B4 0).cells Bs1 (show 29 < 43 by decide) (by kernel_rfl) ?_
  intro ws2 Bs2 hg zs
  simp only [Act.put]
  rw [setp29] at Bs2
  have Es2 : Ext w ws2 := Ext.grown Es1 hg (fun g e => by injection e with e; omega)
  clear Bs1 hg zs EP Es1
  have EC := unhide HC
  go_upto_region 4 with fail
  go_step
  refine wpList_load_blk rfl 28 _ rfl gs rfl 28 (sty0 ⟨1, X4⟩ zl zl B4 P4).cells _ Bs2 Try.underlying28 rfl (info_style (sty0 ⟨1, X4⟩ zl zl B4 P4)) ?_
  simp only [Act.put, List.setIfInBounds_toArray, List.set_cons_succ, List.set_cons_zero]
  go_wp2_with fail
  with_reducible refine (unhide (fl _)).mono ?_
  rintro e w3 ⟨rfl, hx⟩
  have E3 := Es2.trans hx
  clear Es2 hx Bs2 hsz fl EC
  go_upto_region 5 with fail
  have Bu : Blk (w3.alloc (.cells #[.int .i64 X4, .int .i64 l, .int .i64 (l + 1)] 32)) w3.heap.size 32 #[.int .i64 X4, .int .i64 l, .int .i64 (l + 1)] := Blk.new _ _ _
  have E4 : Ext w (w3.alloc (.cells #[.int .i64 X4, .int .i64 l, .int .i64 (l + 1)] 32)) := E3.alloc _
  generalize hgu : w3.heap.size = gu at *
  generalize w3.alloc (.cells #[.int .i64 X4, .int .i64 l, .int .i64 (l + 1)] 32) = w4 at *
  have dU := Bu.cell
  have lU := Bu.lt
  have EC := unhide HC
  have EB := unhide HB
  have EP := unhide HP
  have EX := unhide HX
  have hFR := unhide HF
  clear E3 hgu
  go_upto_region 6 with fail
  clear EC EB EP hFR
  have q3 := unhide HQ
  go_wp2_with fail
  with_reducible refine (works_any _).mono ?_
  rintro e w5 ⟨rfl, hx⟩
  go_wp2_with fail
  go_ret
  exact ⟨rfl, E4.trans hx⟩

theorem law_middle (c x b p : Int) (hc : 0 ≤ c ∧ c ≤ 4294967295) (hx : 0 ≤ x ∧ x ≤ 4294967295) (hb : 0 ≤ b ∧ b ≤ 4294967295) (hp : 0 ≤ p ∧ p ≤ 4294967295) (w : World) :
    Calls Try.prog 4 #[.int .u32 c, .int .u32 x, .int .u32 b, .int .u32 p] w fun e w' => e = .returned (.bool true) ∧ Ext w w' := by
  obtain ⟨C4, EC⟩ : ∃ y : Int, c / 4 = y := ⟨_, rfl⟩
  obtain ⟨X4, EX⟩ : ∃ y : Int, x / 4 = y := ⟨_, rfl⟩
  obtain ⟨B4, EB⟩ : ∃ y : Int, b / 4 = y := ⟨_, rfl⟩
  obtain ⟨P4, EP⟩ : ∃ y : Int, p / 4 = y := ⟨_, rfl⟩
  have c1 : 0 ≤ C4 ∧ C4 ≤ 1073741824 := by omega
  have x1 : 0 ≤ X4 ∧ X4 ≤ 1073741824 := by omega
  have b1 : 0 ≤ B4 ∧ B4 ≤ 1073741824 := by omega
  have p1 : 0 ≤ P4 ∧ P4 ≤ 1073741824 := by omega
  by_cases hf : C4 - X4 - B4 - P4 < 0
  · exact middle_1 c x b p C4 X4 B4 P4 EC EX EB EP hc.1 hc.2 hx.1 hx.2 hb.1 hb.2 hp.1 hp.2 c1.1 c1.2 x1.1 x1.2 b1.1 b1.2 p1.1 p1.2 hf w
  · by_cases h2 : (C4 - X4 - B4 - P4) % 2 = 0
    · exact middle_2 c x b p C4 X4 B4 P4 ((C4 - X4 - B4 - P4) / 2) EC EX EB EP hc.1 hc.2 hx.1 hx.2 hb.1 hb.2 hp.1 hp.2 c1.1 c1.2 x1.1 x1.2 b1.1 b1.2 p1.1 p1.2 (by omega) (by omega) (by omega) w
    · exact middle_3 c x b p C4 X4 B4 P4 ((C4 - X4 - B4 - P4) / 2) EC EX EB EP hc.1 hc.2 hx.1 hx.2 hb.1 hb.2 hp.1 hp.2 c1.1 c1.2 x1.1 x1.2 b1.1 b1.2 p1.1 p1.2 (by omega) (by omega) (by omega) w
end Go.Proofs.Ytkajcipfmdpneaa

