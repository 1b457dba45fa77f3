/- The law on boxes that float: its walk. -/
import Derived.Test.YtkajcipfmdpneaaWidW
import Derived.Test.YtkajcipfmdpneaaAl
namespace Go.Proofs.Ytkajcipfmdpneaa
open Go.RowKit

theorem zero_style : (Try.prog.info? 28).bind (·.zero) = some (.agg (sty0 zl zl zl 0 0).cells) := by kernel_rfl
theorem set27 (fr : Int) : (sty0 zl zl zl 0 0).cells.setIfInBounds 27 (.int .i64 fr) = (sty0 zl zl zl fr 0).cells := rfl
theorem may_sty0 (w maxw m3 : Ln) (b3 p1 : Int) (h1 : lenMayB w 0 0 = true) (h2 : lenMayB maxw 0 0 = true) (h3 : lenMayB m3 (-1099511627776) (-100000) = true) (hb : 0 ≤ b3 ∧ b3 ≤ 1099511627776) (hp : 0 ≤ p1 ∧ p1 ≤ 1099511627776) : mayB (sty0 w maxw m3 b3 p1) = true := by
  have hz : lenMayB zl (-1099511627776) (-100000) = true := by decide
  have hz0 : lenMayB zl 0 0 = true := by decide
  simp only [mayB, edgesB, edgeB, sty0, hz, hz0, h1, h2, h3]
  simp
  omega
theorem shr_sty0 (fr c l g : Int) (hc : 0 ≤ c) : shrW (sty0 zl zl zl fr 0) (max c 0) l g = max (min g (max l (c - fr))) 0 := by
  have e1 : max c 0 = c := by omega
  rw [e1]
  have z : resB zl = false := by decide
  have z0 : resV zl c = 0 := by simp [resV]
  simp only [shrW, clampV, shr0, sty0, z, z0]
  simp

theorem shr_sty (fr c l g : Int) (hc : 0 ≤ c) (hc' : c ≤ 1099511627776) (hl : 0 ≤ l) (hlg : l ≤ g) (hg : g ≤ 4294967295) (hf : 0 ≤ fr) (hf' : fr ≤ 4294967295) (w : World) :
    Calls Try.prog 17 #[.agg (sty0 zl zl zl fr 0).cells, .int .i64 c, .int .i64 l, .int .i64 g] w fun e w' => e = .returned (.tuple #[usedV (min g (max l (c - fr))) 0 0, .bool false]) ∧ Ext w w' := by
  have h := shr_any (sty0 zl zl zl fr 0) c l g (may_sty0 _ _ _ _ _ (by decide) (by decide) (by decide) (by omega) (by omega)) hc' (by omega) (by omega) (by omega) (by omega) w
  rw [shr_sty0 fr c l g hc] at h
  have z : resV zl (max c 0) = 0 := by simp [resV]
  simp only [sty0, z] at h
  have e : max (min g (max l (c - fr))) 0 = min g (max l (c - fr)) := by omega
  rw [e] at h
  have e1 : cutV (min g (max l (c - fr))) = min g (max l (c - fr)) := by unfold cutV; rw [if_neg (by omega), if_neg (by omega)]
  have e2 : cutB (min g (max l (c - fr))) = false := by simp [cutB]; omega
  rw [e1, e2] at h
  exact h


set_option maxRecDepth 100000 in
set_option maxHeartbeats 8000000 in
theorem shrink_1 (c more l g fr : Int) (c1 : 0 ≤ c) (c2 : c ≤ 4294967295) (m1 : 0 ≤ more) (m2 : more ≤ 4294967295) (l1 : 0 ≤ l) (l2 : l ≤ 4294967295) (g1 : 0 ≤ g) (g2 : g ≤ 4294967295) (f1 : 0 ≤ fr) (f2 : fr ≤ 4294967295) (hlg' : l ≤ g) (B : Int) (hB : min g (max l (c + more - fr)) = B) (hA : min g (max l (c - fr)) = g) (hAB : g ≤ B) (q1 : g ≤ c - fr) (w : World) :
    Calls Try.prog 7 #[.int .u32 c, .int .u32 more, .int .u32 l, .int .u32 g, .int .u32 fr] w fun e w' => e = .returned (.bool true) ∧ Ext w w' := by
  have E0 := Ext.refl w
  have sa := fun w => shr_sty fr c l g c1 (by omega) l1 hlg' g2 f1 f2 w
  have sb := fun w => shr_sty fr (c + more) l g (by omega) (by omega) l1 hlg' g2 f1 f2 w
  rw [hA] at sa
  rw [hB] at sb
  clear hA hB
  go_enter Try.func7, Try.ntmps7
  go_wp2_with (first
    | (refine wpList_buildTo rfl 28 _ rfl _ rfl (sty0 zl zl zl 0 0).cells (by kernel_rfl) ?_)
    | (refine wpList_alloc_var rfl 28 rfl (sty0 zl zl zl 0 0).cells zero_style ?_; intro w1 B1 E1 _; have E1 : Ext w w1 := Ext.trans (by with_reducible assumption) E1; have L1 := B1.lt)
    | (refine wpList_store_blk rfl 28 _ _ rfl w.heap.size rfl (sty0 zl zl zl 0 0).cells rfl 28 (sty0 zl zl zl 0 0).cells (by with_reducible assumption) (info_style _) (by kernel_rfl) (by kernel_rfl) ?_; intro w1 B1 hg _; have E1 : Ext w w1 := Ext.grown (by with_reducible assumption) hg (fun g e => by injection e; omega); have L1 := B1.lt)
    | (refine wpList_store_cell rfl 2 _ _ rfl w.heap.size 27 rfl (.int .i64 fr) rfl rfl 28 (sty0 zl zl zl 0 0).cells (by with_reducible assumption) (by decide) (by kernel_rfl) ?_; intro w1 B1 hg _; have E1 : Ext w w1 := Ext.grown (by with_reducible assumption) hg (fun g e => by injection e; omega); have L1 := B1.lt; rw [set27] at B1; have C1 := B1.cell)
    | (refine wpList_load_blkq 28 _ rfl w.heap.size rfl rfl 28 (sty0 zl zl zl fr 0).cells _ (by repeat (first | (with_reducible assumption) | (with_reducible apply Blk.alloc))) Try.underlying28 rfl (info_style _) ?_)
    | (go_at_call 17; (((with_reducible refine (sa _).mono ?_)); rintro e w' ⟨rfl, hb⟩; have B0 : Blk w' w.heap.size 28 (sty0 zl zl zl fr 0).cells := Blk.ext (by repeat (first | (with_reducible assumption) | (with_reducible apply Blk.alloc))) hb; have L0 := B0.lt; have E0 : Ext w w' := Ext.trans (by repeat (first | (with_reducible assumption) | (with_reducible apply Ext.alloc))) hb; (try (have A1 : Blk w' _ 32 #[.int .i64 g, .int .i64 0, .int .i64 0] := Blk.ext (by repeat (first | (with_reducible assumption) | (with_reducible exact Blk.new _ _ _) | (with_reducible apply Blk.alloc))) hb; have A1c := A1.cell; have A1l := A1.lt)))))
  with_reducible refine (sb _).mono ?_
  rintro e w' ⟨rfl, hb⟩
  have B0 : Blk w' w.heap.size 28 (sty0 zl zl zl fr 0).cells := Blk.ext (by repeat (first | (with_reducible assumption) | (with_reducible apply Blk.alloc))) hb; have L0 := B0.lt; have E0 : Ext w w' := Ext.trans (by repeat (first | (with_reducible assumption) | (with_reducible apply Ext.alloc))) hb; (try (have A1 : Blk w' _ 32 #[.int .i64 g, .int .i64 0, .int .i64 0] := Blk.ext (by repeat (first | (with_reducible assumption) | (with_reducible exact Blk.new _ _ _) | (with_reducible apply Blk.alloc))) hb; have A1c := A1.cell; have A1l := A1.lt)); (try (have A2 : Blk w' _ 32 #[.int .i64 B, .int .i64 0, .int .i64 0] := Blk.ext (by repeat (first | (with_reducible assumption) | (with_reducible exact Blk.new _ _ _) | (with_reducible apply Blk.alloc))) hb; have A2c := A2.cell; have A2l := A2.lt))
  simp only []
  iterate 270 (first | (with_reducible refine (works_any _).mono ?_; rintro e w' ⟨rfl, hb⟩; simp only []) | go_values | go_skip | go_guarded | go_step | go_upon | skip)
  go_ret
  refine ⟨rfl, ?_⟩
  ((repeat (first | (with_reducible exact Ext.refl _) | (with_reducible assumption) | (with_reducible refine Ext.trans ?_ (by with_reducible assumption)) | (with_reducible refine Ext.alloc ?_ _) | (with_reducible refine Ext.drew ?_) | (with_reducible refine Ext.drewN ?_ _))); done)

set_option maxRecDepth 100000 in
set_option maxHeartbeats 8000000 in
theorem shrink_2 (c more g fr : Int) (c1 : 0 ≤ c) (c2 : c ≤ 4294967295) (m1 : 0 ≤ more) (m2 : more ≤ 4294967295) (g1 : 0 ≤ g) (g2 : g ≤ 4294967295) (f1 : 0 ≤ fr) (f2 : fr ≤ 4294967295) (B : Int) (hB : min g (max g (c + more - fr)) = B) (hA : min g (max g (c - fr)) = g) (hAB : g ≤ B) (q1 : c - fr < g) (w : World) :
    Calls Try.prog 7 #[.int .u32 c, .int .u32 more, .int .u32 g, .int .u32 g, .int .u32 fr] w fun e w' => e = .returned (.bool true) ∧ Ext w w' := by
  have E0 := Ext.refl w
  have sa := fun w => shr_sty fr c g g c1 (by omega) g1 (by omega) g2 f1 f2 w
  have sb := fun w => shr_sty fr (c + more) g g (by omega) (by omega) g1 (by omega) g2 f1 f2 w
  rw [hA] at sa
  rw [hB] at sb
  clear hA hB
  go_enter Try.func7, Try.ntmps7
  go_wp2_with (first
    | (refine wpList_buildTo rfl 28 _ rfl _ rfl (sty0 zl zl zl 0 0).cells (by kernel_rfl) ?_)
    | (refine wpList_alloc_var rfl 28 rfl (sty0 zl zl zl 0 0).cells zero_style ?_; intro w1 B1 E1 _; have E1 : Ext w w1 := Ext.trans (by with_reducible assumption) E1; have L1 := B1.lt)
    | (refine wpList_store_blk rfl 28 _ _ rfl w.heap.size rfl (sty0 zl zl zl 0 0).cells rfl 28 (sty0 zl zl zl 0 0).cells (by with_reducible assumption) (info_style _) (by kernel_rfl) (by kernel_rfl) ?_; intro w1 B1 hg _; have E1 : Ext w w1 := Ext.grown (by with_reducible assumption) hg (fun g e => by injection e; omega); have L1 := B1.lt)
    | (refine wpList_store_cell rfl 2 _ _ rfl w.heap.size 27 rfl (.int .i64 fr) rfl rfl 28 (sty0 zl zl zl 0 0).cells (by with_reducible assumption) (by decide) (by kernel_rfl) ?_; intro w1 B1 hg _; have E1 : Ext w w1 := Ext.grown (by with_reducible assumption) hg (fun g e => by injection e; omega); have L1 := B1.lt; rw [set27] at B1; have C1 := B1.cell)
    | (refine wpList_load_blkq 28 _ rfl w.heap.size rfl rfl 28 (sty0 zl zl zl fr 0).cells _ (by repeat (first | (with_reducible assumption) | (with_reducible apply Blk.alloc))) Try.underlying28 rfl (info_style _) ?_)
    | (go_at_call 17; (((with_reducible refine (sa _).mono ?_)); rintro e w' ⟨rfl, hb⟩; have B0 : Blk w' w.heap.size 28 (sty0 zl zl zl fr 0).cells := Blk.ext (by repeat (first | (with_reducible assumption) | (with_reducible apply Blk.alloc))) hb; have L0 := B0.lt; have E0 : Ext w w' := Ext.trans (by repeat (first | (with_reducible assumption) | (with_reducible apply Ext.alloc))) hb; (try (have A1 : Blk w' _ 32 #[.int .i64 g, .int .i64 0, .int .i64 0] := Blk.ext (by repeat (first | (with_reducible assumption) | (with_reducible exact Blk.new _ _ _) | (with_reducible apply Blk.alloc))) hb; have A1c := A1.cell; have A1l := A1.lt)))))
  with_reducible refine (sb _).mono ?_
  rintro e w' ⟨rfl, hb⟩
  have B0 : Blk w' w.heap.size 28 (sty0 zl zl zl fr 0).cells := Blk.ext (by repeat (first | (with_reducible assumption) | (with_reducible apply Blk.alloc))) hb; have L0 := B0.lt; have E0 : Ext w w' := Ext.trans (by repeat (first | (with_reducible assumption) | (with_reducible apply Ext.alloc))) hb; (try (have A1 : Blk w' _ 32 #[.int .i64 g, .int .i64 0, .int .i64 0] := Blk.ext (by repeat (first | (with_reducible assumption) | (with_reducible exact Blk.new _ _ _) | (with_reducible apply Blk.alloc))) hb; have A1c := A1.cell; have A1l := A1.lt)); (try (have A2 : Blk w' _ 32 #[.int .i64 B, .int .i64 0, .int .i64 0] := Blk.ext (by repeat (first | (with_reducible assumption) | (with_reducible exact Blk.new _ _ _) | (with_reducible apply Blk.alloc))) hb; have A2c := A2.cell; have A2l := A2.lt))
  simp only []
  iterate 270 (first | (with_reducible refine (works_any _).mono ?_; rintro e w' ⟨rfl, hb⟩; simp only []) | go_values | go_skip | go_guarded | go_step | go_upon | skip)
  go_ret
  refine ⟨rfl, ?_⟩
  ((repeat (first | (with_reducible exact Ext.refl _) | (with_reducible assumption) | (with_reducible refine Ext.trans ?_ (by with_reducible assumption)) | (with_reducible refine Ext.alloc ?_ _) | (with_reducible refine Ext.drew ?_) | (with_reducible refine Ext.drewN ?_ _))); done)

set_option maxRecDepth 100000 in
set_option maxHeartbeats 8000000 in
theorem shrink_3 (c more l g fr R : Int) (hR : c - fr = R) (c1 : 0 ≤ c) (c2 : c ≤ 4294967295) (m1 : 0 ≤ more) (m2 : more ≤ 4294967295) (l1 : 0 ≤ l) (l2 : l ≤ 4294967295) (g1 : 0 ≤ g) (g2 : g ≤ 4294967295) (f1 : 0 ≤ fr) (f2 : fr ≤ 4294967295) (hlg' : l ≤ g) (B : Int) (hB : min g (max l (c + more - fr)) = B) (hA : min g (max l (c - fr)) = R) (hAB : R ≤ B) (q1 : R < g) (q2 : l < g) (q3 : l ≤ R) (w : World) :
    Calls Try.prog 7 #[.int .u32 c, .int .u32 more, .int .u32 l, .int .u32 g, .int .u32 fr] w fun e w' => e = .returned (.bool true) ∧ Ext w w' := by
  have E0 := Ext.refl w
  have sa := fun w => shr_sty fr c l g c1 (by omega) l1 hlg' g2 f1 f2 w
  have sb := fun w => shr_sty fr (c + more) l g (by omega) (by omega) l1 hlg' g2 f1 f2 w
  rw [hA] at sa
  rw [hB] at sb
  clear hA hB
  have e1 : (R == g) = false := by simp; omega
  have e2 : max R l = R := by omega
  go_enter Try.func7, Try.ntmps7
  go_wp2_with (first
    | (refine wpList_buildTo rfl 28 _ rfl _ rfl (sty0 zl zl zl 0 0).cells (by kernel_rfl) ?_)
    | (refine wpList_alloc_var rfl 28 rfl (sty0 zl zl zl 0 0).cells zero_style ?_; intro w1 B1 E1 _; have E1 : Ext w w1 := Ext.trans (by with_reducible assumption) E1; have L1 := B1.lt)
    | (refine wpList_store_blk rfl 28 _ _ rfl w.heap.size rfl (sty0 zl zl zl 0 0).cells rfl 28 (sty0 zl zl zl 0 0).cells (by with_reducible assumption) (info_style _) (by kernel_rfl) (by kernel_rfl) ?_; intro w1 B1 hg _; have E1 : Ext w w1 := Ext.grown (by with_reducible assumption) hg (fun g e => by injection e; omega); have L1 := B1.lt)
    | (refine wpList_store_cell rfl 2 _ _ rfl w.heap.size 27 rfl (.int .i64 fr) rfl rfl 28 (sty0 zl zl zl 0 0).cells (by with_reducible assumption) (by decide) (by kernel_rfl) ?_; intro w1 B1 hg _; have E1 : Ext w w1 := Ext.grown (by with_reducible assumption) hg (fun g e => by injection e; omega); have L1 := B1.lt; rw [set27] at B1; have C1 := B1.cell)
    | (refine wpList_load_blkq 28 _ rfl w.heap.size rfl rfl 28 (sty0 zl zl zl fr 0).cells _ (by repeat (first | (with_reducible assumption) | (with_reducible apply Blk.alloc))) Try.underlying28 rfl (info_style _) ?_)
    | (go_at_call 17; (((with_reducible refine (sa _).mono ?_)); rintro e w' ⟨rfl, hb⟩; have B0 : Blk w' w.heap.size 28 (sty0 zl zl zl fr 0).cells := Blk.ext (by repeat (first | (with_reducible assumption) | (with_reducible apply Blk.alloc))) hb; have L0 := B0.lt; have E0 : Ext w w' := Ext.trans (by repeat (first | (with_reducible assumption) | (with_reducible apply Ext.alloc))) hb; (try (have A1 : Blk w' _ 32 #[.int .i64 R, .int .i64 0, .int .i64 0] := Blk.ext (by repeat (first | (with_reducible assumption) | (with_reducible exact Blk.new _ _ _) | (with_reducible apply Blk.alloc))) hb; have A1c := A1.cell; have A1l := A1.lt)))))
  with_reducible refine (sb _).mono ?_
  rintro e w' ⟨rfl, hb⟩
  have B0 : Blk w' w.heap.size 28 (sty0 zl zl zl fr 0).cells := Blk.ext (by repeat (first | (with_reducible assumption) | (with_reducible apply Blk.alloc))) hb; have L0 := B0.lt; have E0 : Ext w w' := Ext.trans (by repeat (first | (with_reducible assumption) | (with_reducible apply Ext.alloc))) hb; (try (have A1 : Blk w' _ 32 #[.int .i64 R, .int .i64 0, .int .i64 0] := Blk.ext (by repeat (first | (with_reducible assumption) | (with_reducible exact Blk.new _ _ _) | (with_reducible apply Blk.alloc))) hb; have A1c := A1.cell; have A1l := A1.lt)); (try (have A2 : Blk w' _ 32 #[.int .i64 B, .int .i64 0, .int .i64 0] := Blk.ext (by repeat (first | (with_reducible assumption) | (with_reducible exact Blk.new _ _ _) | (with_reducible apply Blk.alloc))) hb; have A2c := A2.cell; have A2l := A2.lt))
  simp only []
  iterate 270 (first | (with_reducible refine (works_any _).mono ?_; rintro e w' ⟨rfl, hb⟩; simp only []) | go_values | go_skip | go_guarded | go_step | go_upon | skip)
  go_ret
  refine ⟨rfl, ?_⟩
  ((repeat (first | (with_reducible exact Ext.refl _) | (with_reducible assumption) | (with_reducible refine Ext.trans ?_ (by with_reducible assumption)) | (with_reducible refine Ext.alloc ?_ _) | (with_reducible refine Ext.drew ?_) | (with_reducible refine Ext.drewN ?_ _))); done)

set_option maxRecDepth 100000 in
set_option maxHeartbeats 8000000 in
theorem shrink_4 (c more l g fr R : Int) (hR : c - fr = R) (c1 : 0 ≤ c) (c2 : c ≤ 4294967295) (m1 : 0 ≤ more) (m2 : more ≤ 4294967295) (l1 : 0 ≤ l) (l2 : l ≤ 4294967295) (g1 : 0 ≤ g) (g2 : g ≤ 4294967295) (f1 : 0 ≤ fr) (f2 : fr ≤ 4294967295) (hlg' : l ≤ g) (B : Int) (hB : min g (max l (c + more - fr)) = B) (hA : min g (max l (c - fr)) = l) (hAB : l ≤ B) (q1 : R < l) (q2 : l < g) (w : World) :
    Calls Try.prog 7 #[.int .u32 c, .int .u32 more, .int .u32 l, .int .u32 g, .int .u32 fr] w fun e w' => e = .returned (.bool true) ∧ Ext w w' := by
  have E0 := Ext.refl w
  have sa := fun w => shr_sty fr c l g c1 (by omega) l1 hlg' g2 f1 f2 w
  have sb := fun w => shr_sty fr (c + more) l g (by omega) (by omega) l1 hlg' g2 f1 f2 w
  rw [hA] at sa
  rw [hB] at sb
  clear hA hB
  have e1 : (l == g) = false := by simp; omega
  have e2 : max R l = l := by omega
  go_enter Try.func7, Try.ntmps7
  go_wp2_with (first
    | (refine wpList_buildTo rfl 28 _ rfl _ rfl (sty0 zl zl zl 0 0).cells (by kernel_rfl) ?_)
    | (refine wpList_alloc_var rfl 28 rfl (sty0 zl zl zl 0 0).cells zero_style ?_; intro w1 B1 E1 _; have E1 : Ext w w1 := Ext.trans (by with_reducible assumption) E1; have L1 := B1.lt)
    | (refine wpList_store_blk rfl 28 _ _ rfl w.heap.size rfl (sty0 zl zl zl 0 0).cells rfl 28 (sty0 zl zl zl 0 0).cells (by with_reducible assumption) (info_style _) (by kernel_rfl) (by kernel_rfl) ?_; intro w1 B1 hg _; have E1 : Ext w w1 := Ext.grown (by with_reducible assumption) hg (fun g e => by injection e; omega); have L1 := B1.lt)
    | (refine wpList_store_cell rfl 2 _ _ rfl w.heap.size 27 rfl (.int .i64 fr) rfl rfl 28 (sty0 zl zl zl 0 0).cells (by with_reducible assumption) (by decide) (by kernel_rfl) ?_; intro w1 B1 hg _; have E1 : Ext w w1 := Ext.grown (by with_reducible assumption) hg (fun g e => by injection e; omega); have L1 := B1.lt; rw [set27] at B1; have C1 := B1.cell)
    | (refine wpList_load_blkq 28 _ rfl w.heap.size rfl rfl 28 (sty0 zl zl zl fr 0).cells _ (by repeat (first | (with_reducible assumption) | (with_reducible apply Blk.alloc))) Try.underlying28 rfl (info_style _) ?_)
    | (go_at_call 17; (((with_reducible refine (sa _).mono ?_)); rintro e w' ⟨rfl, hb⟩; have B0 : Blk w' w.heap.size 28 (sty0 zl zl zl fr 0).cells := Blk.ext (by repeat (first | (with_reducible assumption) | (with_reducible apply Blk.alloc))) hb; have L0 := B0.lt; have E0 : Ext w w' := Ext.trans (by repeat (first | (with_reducible assumption) | (with_reducible apply Ext.alloc))) hb; (try (have A1 : Blk w' _ 32 #[.int .i64 l, .int .i64 0, .int .i64 0] := Blk.ext (by repeat (first | (with_reducible assumption) | (with_reducible exact Blk.new _ _ _) | (with_reducible apply Blk.alloc))) hb; have A1c := A1.cell; have A1l := A1.lt)))))
  with_reducible refine (sb _).mono ?_
  rintro e w' ⟨rfl, hb⟩
  have B0 : Blk w' w.heap.size 28 (sty0 zl zl zl fr 0).cells := Blk.ext (by repeat (first | (with_reducible assumption) | (with_reducible apply Blk.alloc))) hb; have L0 := B0.lt; have E0 : Ext w w' := Ext.trans (by repeat (first | (with_reducible assumption) | (with_reducible apply Ext.alloc))) hb; (try (have A1 : Blk w' _ 32 #[.int .i64 l, .int .i64 0, .int .i64 0] := Blk.ext (by repeat (first | (with_reducible assumption) | (with_reducible exact Blk.new _ _ _) | (with_reducible apply Blk.alloc))) hb; have A1c := A1.cell; have A1l := A1.lt)); (try (have A2 : Blk w' _ 32 #[.int .i64 B, .int .i64 0, .int .i64 0] := Blk.ext (by repeat (first | (with_reducible assumption) | (with_reducible exact Blk.new _ _ _) | (with_reducible apply Blk.alloc))) hb; have A2c := A2.cell; have A2l := A2.lt))
  simp only []
  iterate 270 (first | (with_reducible refine (works_any _).mono ?_; rintro e w' ⟨rfl, hb⟩; simp only []) | go_values | go_skip | go_guarded | go_step | go_upon | skip)
  go_ret
  refine ⟨rfl, ?_⟩
  ((repeat (first | (with_reducible exact Ext.refl _) | (with_reducible assumption) | (with_reducible refine Ext.trans ?_ (by with_reducible assumption)) | (with_reducible refine Ext.alloc ?_ _) | (with_reducible refine Ext.drew ?_) | (with_reducible refine Ext.drewN ?_ _))); done)

set_option maxRecDepth 100000 in
set_option maxHeartbeats 8000000 in
theorem law_shrink (c more l g fr : Int) (hc : 0 ≤ c ∧ c ≤ 4294967295) (hm : 0 ≤ more ∧ more ≤ 4294967295) (hl : 0 ≤ l ∧ l ≤ 4294967295) (hg : 0 ≤ g ∧ g ≤ 4294967295) (hf : 0 ≤ fr ∧ fr ≤ 4294967295) (w : World) :
    Calls Try.prog 7 #[.int .u32 c, .int .u32 more, .int .u32 l, .int .u32 g, .int .u32 fr] w fun e w' => e = .returned (.bool true) ∧ Ext w w' := by
  obtain ⟨c1, c2⟩ := hc
  obtain ⟨m1, m2⟩ := hm
  obtain ⟨l1, l2⟩ := hl
  obtain ⟨g1, g2⟩ := hg
  obtain ⟨f1, f2⟩ := hf
  by_cases hlg : g < l
  · skip
    go_enter Try.func7, Try.ntmps7
    go_wp2_with (first
      | (go_at_call 9; (((with_reducible refine (works_any _).mono ?_)); rintro e w' ⟨rfl, hb⟩)))
    all_goals go_ret
    all_goals refine ⟨rfl, ?_⟩
    all_goals ((repeat (first | exact Ext.refl _ | (with_reducible refine Ext.trans ?_ (by assumption)) | (with_reducible refine Ext.alloc ?_ _) | (with_reducible refine Ext.drew ?_) | (with_reducible refine Ext.drewN ?_ _) | (with_reducible refine Ext.set ?_ (by simp) _))); done)
  have hlg' : l ≤ g := by omega
  have a3 : min g (max l (c - fr)) ≤ min g (max l (c + more - fr)) := by omega
  by_cases q1 : g ≤ c - fr
  · exact shrink_1 c more l g fr c1 c2 m1 m2 l1 l2 g1 g2 f1 f2 hlg' _ rfl (by rw [Int.max_eq_right (by omega), Int.min_eq_left q1]) (by omega) q1 w
  · by_cases q2 : g = l
    · subst q2
      exact shrink_2 c more g fr c1 c2 m1 m2 g1 g2 f1 f2 _ rfl (by rw [Int.max_eq_left (by omega), Int.min_eq_right (by omega)]) (by omega) (by omega) w
    · by_cases q3 : l ≤ c - fr
      · exact shrink_3 c more l g fr _ rfl c1 c2 m1 m2 l1 l2 g1 g2 f1 f2 hlg' _ rfl (by rw [Int.max_eq_right q3, Int.min_eq_right (by omega)]) (by omega) (by omega) (by omega) q3 w
      · exact shrink_4 c more l g fr _ rfl c1 c2 m1 m2 l1 l2 g1 g2 f1 f2 hlg' _ rfl (by rw [Int.max_eq_left (by omega), Int.min_eq_right (by omega)]) (by omega) (by omega) (by omega) w
end Go.Proofs.Ytkajcipfmdpneaa

