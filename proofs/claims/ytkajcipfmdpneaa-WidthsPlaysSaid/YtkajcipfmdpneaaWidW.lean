/- Widths: the chapter's examples; the walks of the five laws. -/
import Derived.Test.YtkajcipfmdpneaaWidG
import Derived.Test.YtkajcipfmdpneaaWidR
namespace Go.Proofs.Ytkajcipfmdpneaa
open Go.RowKit

@[reducible] def zl : Ln := ⟨0, 0⟩
/-- the zero style, but for what is told -/
@[reducible] def sty0 (w maxw m3 : Ln) (b3 p1 : Int) : Sty :=
  ⟨0, false, 0, 0, w, zl, zl, maxw, zl, zl, zl, zl, zl, m3, 0, 0, 0, b3, 0, p1, 0, 0, 0, 0, false, 0, 0, 0, 0, 0, zl, none, 0, 0⟩

theorem wk_a (w : World) : Calls Try.prog 10 #[.agg (sty0 zl zl ⟨1, 10⟩ 0 0).cells, .int .i64 1000] w fun e w' => e = .returned (.tuple #[usedV 990 10 0, .bool false]) ∧ Ext w w' := by
  have h := flow_any (sty0 zl zl ⟨1, 10⟩ 0 0) 1000 (by decide) (by decide) w
  exact h
theorem wk_b (w : World) : Calls Try.prog 10 #[.agg (sty0 ⟨1, 400⟩ zl zl 0 0).cells, .int .i64 301] w fun e w' => e = .returned (.tuple #[usedV 400 0 (-99), .bool false]) ∧ Ext w w' := by
  have h := flow_any (sty0 ⟨1, 400⟩ zl zl 0 0) 301 (by decide) (by decide) w
  exact h
theorem wk_c (w : World) : Calls Try.prog 10 #[.agg (sty0 zl ⟨1, 500⟩ zl 0 0).cells, .int .i64 1001] w fun e w' => e = .returned (.tuple #[usedV 500 250 251, .bool false]) ∧ Ext w w' := by
  have h := flow_any (sty0 zl ⟨1, 500⟩ zl 0 0) 1001 (by decide) (by decide) w
  exact h
theorem wk_d (w : World) : Calls Try.prog 11 #[Ln.v ⟨2, 3333⟩, .int .i64 1000] w fun e w' => e = .returned (.tuple #[.int .i64 333, .bool true]) ∧ Ext w w' := by
  have h := resolve_any ⟨2, 3333⟩ 1000 (fun _ => ⟨by decide, by decide⟩) (by decide) w
  exact h

set_option maxRecDepth 100000 in
set_option maxHeartbeats 4000000 in
theorem works_any (w : World) : Calls Try.prog 9 #[] w fun e w' => e = .returned (.bool true) ∧ Ext w w' := by
  go_enter Try.func9, Try.ntmps9
  go_wp2_with (first
    | (go_at_call 10; ((first | (with_reducible refine (wk_a _).mono ?_) | (with_reducible refine (wk_b _).mono ?_) | (with_reducible refine (wk_c _).mono ?_)); rintro e w' ⟨rfl, hb⟩; (try (have A1 : Blk w' _ 32 #[.int .i64 990, .int .i64 10, .int .i64 0] := Blk.ext (by repeat (first | assumption | exact Blk.new _ _ _ | (with_reducible apply Blk.alloc))) hb; have A1c := A1.cell)); (try (have A2 : Blk w' _ 32 #[.int .i64 400, .int .i64 0, .int .i64 (-99)] := Blk.ext (by repeat (first | assumption | exact Blk.new _ _ _ | (with_reducible apply Blk.alloc))) hb; have A2c := A2.cell)); (try (have A3 : Blk w' _ 32 #[.int .i64 500, .int .i64 250, .int .i64 251] := Blk.ext (by repeat (first | assumption | exact Blk.new _ _ _ | (with_reducible apply Blk.alloc))) hb; have A3c := A3.cell))))
    | (go_at_call 11; ((with_reducible refine (wk_d _).mono ?_); rintro e w' ⟨rfl, hb⟩; (try (have A1 : Blk w' _ 32 #[.int .i64 990, .int .i64 10, .int .i64 0] := Blk.ext (by repeat (first | assumption | exact Blk.new _ _ _ | (with_reducible apply Blk.alloc))) hb; have A1c := A1.cell)); (try (have A2 : Blk w' _ 32 #[.int .i64 400, .int .i64 0, .int .i64 (-99)] := Blk.ext (by repeat (first | assumption | exact Blk.new _ _ _ | (with_reducible apply Blk.alloc))) hb; have A2c := A2.cell)); (try (have A3 : Blk w' _ 32 #[.int .i64 500, .int .i64 250, .int .i64 251] := Blk.ext (by repeat (first | assumption | exact Blk.new _ _ _ | (with_reducible apply Blk.alloc))) hb; have A3c := A3.cell))))
    | (go_at_call 12; ((with_reducible refine (px_any _ _).mono ?_); rintro e w' ⟨rfl, hb⟩; (try (have A1 : Blk w' _ 32 #[.int .i64 990, .int .i64 10, .int .i64 0] := Blk.ext (by repeat (first | assumption | exact Blk.new _ _ _ | (with_reducible apply Blk.alloc))) hb; have A1c := A1.cell)); (try (have A2 : Blk w' _ 32 #[.int .i64 400, .int .i64 0, .int .i64 (-99)] := Blk.ext (by repeat (first | assumption | exact Blk.new _ _ _ | (with_reducible apply Blk.alloc))) hb; have A2c := A2.cell)); (try (have A3 : Blk w' _ 32 #[.int .i64 500, .int .i64 250, .int .i64 251] := Blk.ext (by repeat (first | assumption | exact Blk.new _ _ _ | (with_reducible apply Blk.alloc))) hb; have A3c := A3.cell))))
    | (go_at_call 15; ((with_reducible refine (part_any _ _).mono ?_); rintro e w' ⟨rfl, hb⟩; (try (have A1 : Blk w' _ 32 #[.int .i64 990, .int .i64 10, .int .i64 0] := Blk.ext (by repeat (first | assumption | exact Blk.new _ _ _ | (with_reducible apply Blk.alloc))) hb; have A1c := A1.cell)); (try (have A2 : Blk w' _ 32 #[.int .i64 400, .int .i64 0, .int .i64 (-99)] := Blk.ext (by repeat (first | assumption | exact Blk.new _ _ _ | (with_reducible apply Blk.alloc))) hb; have A2c := A2.cell)); (try (have A3 : Blk w' _ 32 #[.int .i64 500, .int .i64 250, .int .i64 251] := Blk.ext (by repeat (first | assumption | exact Blk.new _ _ _ | (with_reducible apply Blk.alloc))) hb; have A3c := A3.cell)))))
  all_goals go_ret
  all_goals refine ⟨rfl, ?_⟩
  all_goals ((repeat (first | exact Ext.refl _ | (with_reducible refine Ext.trans ?_ (by assumption)) | (with_reducible refine Ext.alloc ?_ _) | (with_reducible refine Ext.drew ?_) | (with_reducible refine Ext.drewN ?_ _) | (with_reducible refine Ext.set ?_ (by simp) _))); done)

/-! ### plain laws -/
theorem clamp_idem (s : Sty) (c x : Int) : clampV s c (clampV s c x) = clampV s c x := by
  simp only [clampV]
  split <;> split <;> omega
theorem clamp_mono (s : Sty) (c x y : Int) (h : x ≤ y) : clampV s c x ≤ clampV s c y := by
  simp only [clampV]
  split <;> split <;> omega
theorem clamp_nn (s : Sty) (c x : Int) : 0 ≤ clampV s c x := by
  simp only [clampV]
  split <;> split <;> omega

/-! ### 'within', decided -/
theorem within_t (c : Int) (h1 : -1099511627776 ≤ c) (h2 : c ≤ 1099511627776) (w : World) : Calls Try.prog 13 #[.int .i64 c] w fun e w' => e = .returned (.bool true) ∧ w = w' := by
  have h := within_any c w
  rwa [show (decide (-1099511627776 ≤ c) && decide (c ≤ 1099511627776)) = true by simp [h1, h2]] at h
theorem within_f (c : Int) (h1 : ¬ (-1099511627776 ≤ c ∧ c ≤ 1099511627776)) (w : World) : Calls Try.prog 13 #[.int .i64 c] w fun e w' => e = .returned (.bool false) ∧ w = w' := by
  have h := within_any c w
  rwa [show (decide (-1099511627776 ≤ c) && decide (c ≤ 1099511627776)) = false by simp; omega] at h
theorem may_t (s : Sty) (hs : mayB s = true) (w : World) : Calls Try.prog 8 #[.agg s.cells] w fun e w' => e = .returned (.bool true) ∧ Ext w w' := by
  have h := may_any s w
  rwa [hs] at h
theorem may_f (s : Sty) (hs : mayB s = false) (w : World) : Calls Try.prog 8 #[.agg s.cells] w fun e w' => e = .returned (.bool false) ∧ Ext w w' := by
  have h := may_any s w
  rwa [hs] at h
end Go.Proofs.Ytkajcipfmdpneaa
