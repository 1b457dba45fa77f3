/- Layer 2: the chapter's examples (walk). -/
import Derived.Test.YtphckjnmbbjenaaEdS
namespace Go.Proofs.Ytphckjnmbbjenaa
open Go.RowKit
theorem Blk.rd4 {w : World} {g n : Nat} {t : TypeId} {cs : Array Value} (h : Blk w g t cs) (hn : cs.size = n * 4) : Rd w 4 (some ⟨g, 0, none⟩) n cs.toList :=
  ⟨by simp [hn], fun _ => ⟨g, 0, rfl, h.lt, fun j u hu => by rw [h.cell]; simpa using hu⟩⟩
theorem wk_sides (g : Nat) (t : TypeId) (w : World) (h : Blk w g t #[.int .i64 1, .int .i64 2, .int .i64 3, .int .i64 4, .int .i64 10, .int .i64 20, .int .i64 30, .int .i64 40]) :
    Calls Try.prog 11 #[.slice (some ⟨g, 0, none⟩) 2 2] w fun e w' => e = .returned (.tuple #[.agg #[.int .i64 11, .int .i64 22, .int .i64 33, .int .i64 44], .bool false]) ∧ Ext w w' := by
  have h := sides_any (some ⟨g, 0, none⟩) 2 2 [⟨1, 2, 3, 4⟩, ⟨10, 20, 30, 40⟩] w (h.rd4 rfl) (by intro r hr; simp at hr; rcases hr with rfl | rfl <;> constructor <;> simp) (by omega)
  have e1 : sidesR [⟨1, 2, 3, 4⟩, ⟨10, 20, 30, 40⟩] = ⟨11, 22, 33, 44⟩ := by kernel_rfl
  have e2 : sidesBB [⟨1, 2, 3, 4⟩, ⟨10, 20, 30, 40⟩] = false := by kernel_rfl
  rw [e1, e2] at h
  exact h
theorem wk_across (g : Nat) (t : TypeId) (w : World) (h : Blk w g t #[.int .i64 1, .int .i64 2, .int .i64 3, .int .i64 4, .int .i64 10, .int .i64 20, .int .i64 30, .int .i64 40]) :
    Calls Try.prog 13 #[.slice (some ⟨g, 0, none⟩) 2 2] w fun e w' => e = .returned (.tuple #[.int .i64 66, .int .i64 44, .bool false]) ∧ Ext w w' := by
  have h := across_any (some ⟨g, 0, none⟩) 2 2 [⟨1, 2, 3, 4⟩, ⟨10, 20, 30, 40⟩] w (h.rd4 rfl) (by intro r hr; simp at hr; rcases hr with rfl | rfl <;> constructor <;> simp) (by omega)
  have e1 : lsum (wideL [⟨1, 2, 3, 4⟩, ⟨10, 20, 30, 40⟩]) = 66 := by kernel_rfl
  have e2 : lsum (highL [⟨1, 2, 3, 4⟩, ⟨10, 20, 30, 40⟩]) = 44 := by kernel_rfl
  rw [e1, e2] at h
  exact h
theorem wk_grow (w : World) : Calls Try.prog 15 #[.agg #[.int .i64 5, .int .i64 5, .int .i64 10, .int .i64 10], .agg #[.int .i64 1, .int .i64 2, .int .i64 3, .int .i64 4]] w fun e w' => e = .returned (.tuple #[.agg #[.int .i64 1, .int .i64 4, .int .i64 16, .int .i64 14], .bool false]) ∧ Ext w w' := by
  have h := grow_any ⟨5, 5, 10, 10⟩ (by constructor <;> simp) 1 2 3 4 (by omega) (by omega) (by omega) (by omega) w
  have e1 : growR ⟨5, 5, 10, 10⟩ 1 2 3 4 = ⟨1, 4, 16, 14⟩ := by kernel_rfl
  have e2 : growB ⟨5, 5, 10, 10⟩ 1 2 3 4 = false := by kernel_rfl
  rw [e1, e2] at h
  exact h
theorem wk_cover (g : Nat) (t : TypeId) (w : World) (h : Blk w g t #[.int .i64 0, .int .i64 0, .int .i64 1, .int .i64 1, .int .i64 5, .int .i64 5, .int .i64 1, .int .i64 1, .int .i64 99, .int .i64 99, .int .i64 0, .int .i64 9]) :
    Calls Try.prog 21 #[.slice (some ⟨g, 0, none⟩) 3 3] w fun e w' => e = .returned (.tuple #[.agg #[.int .i64 0, .int .i64 0, .int .i64 6, .int .i64 6], .bool false]) ∧ Ext w w' := by
  have h := cover_any (some ⟨g, 0, none⟩) 3 3 [⟨0, 0, 1, 1⟩, ⟨5, 5, 1, 1⟩, ⟨99, 99, 0, 9⟩] w (h.rd4 rfl) (by intro r hr; simp at hr; rcases hr with rfl | rfl | rfl <;> constructor <;> simp) (by omega)
  have e1 : coverR [⟨0, 0, 1, 1⟩, ⟨5, 5, 1, 1⟩, ⟨99, 99, 0, 9⟩] = ⟨0, 0, 6, 6⟩ := by kernel_rfl
  have e2 : coverB [⟨0, 0, 1, 1⟩, ⟨5, 5, 1, 1⟩, ⟨99, 99, 0, 9⟩] = false := by kernel_rfl
  rw [e1, e2] at h
  exact h
theorem wk_meet (w : World) : Calls Try.prog 17 #[.agg #[.int .i64 0, .int .i64 0, .int .i64 2, .int .i64 2], .agg #[.int .i64 1, .int .i64 1, .int .i64 2, .int .i64 2]] w fun e w' => e = .returned (.bool true) ∧ Ext w w' :=
  meet_any ⟨0, 0, 2, 2⟩ ⟨1, 1, 2, 2⟩ (by constructor <;> simp) (by constructor <;> simp) w
theorem wk_inside (w : World) : Calls Try.prog 19 #[.agg #[.int .i64 1, .int .i64 1, .int .i64 2, .int .i64 2], .agg #[.int .i64 0, .int .i64 0, .int .i64 2, .int .i64 2]] w fun e w' => e = .returned (.bool false) ∧ Ext w w' :=
  inside_any ⟨1, 1, 2, 2⟩ ⟨0, 0, 2, 2⟩ (by constructor <;> simp) (by constructor <;> simp) w

theorem eq_r1 (w : World) : (Op.equalIn 10000 24 (.agg #[.int .i64 11, .int .i64 22, .int .i64 33, .int .i64 44]) (.agg #[.int .i64 11, .int .i64 22, .int .i64 33, .int .i64 44])).run Try.prog w = .ok true w := by kernel_rfl
theorem eq_r2 (w : World) : (Op.equalIn 10000 33 (.agg #[.int .i64 1, .int .i64 4, .int .i64 16, .int .i64 14]) (.agg #[.int .i64 1, .int .i64 4, .int .i64 16, .int .i64 14])).run Try.prog w = .ok true w := by kernel_rfl
theorem eq_r3 (w : World) : (Op.equalIn 10000 33 (.agg #[.int .i64 0, .int .i64 0, .int .i64 6, .int .i64 6]) (.agg #[.int .i64 0, .int .i64 0, .int .i64 6, .int .i64 6])).run Try.prog w = .ok true w := by kernel_rfl

set_option maxRecDepth 100000 in
set_option maxHeartbeats 4000000 in
theorem works_any (w : World) : Calls Try.prog 10 #[] w fun e w' => e = .returned (.bool true) ∧ Ext w w' := by
  have h1 := eq_r1
  have h2 := eq_r2
  have h3 := eq_r3
  go_enter Try.func10, Try.ntmps10
  go_wp2_with fail
  refine (wk_sides _ _ _ (Blk.new _ _ _)).mono ?_
  rintro e w1 ⟨rfl, hx⟩
  have E1 : Ext w w1 := ((Ext.refl _).alloc _).trans hx
  clear hx
  go_wp2_with fail
  have Bs : Blk (w1.alloc (.cells #[.int .i64 11, .int .i64 22, .int .i64 33, .int .i64 44] 24)) w1.heap.size 24 #[.int .i64 11, .int .i64 22, .int .i64 33, .int .i64 44] := Blk.new _ _ _
  refine (wk_across _ _ _ (Blk.new1 _ _ _ _)).mono ?_
  rintro e w2 ⟨rfl, hx⟩
  replace Bs := (Bs.alloc _).ext hx
  have E2 : Ext w w2 := ((E1.alloc _).alloc _).trans hx
  clear hx E1
  generalize w1.heap.size = g1 at *
  go_wp2_with fail
  refine (wk_grow _).mono ?_
  rintro e w3 ⟨rfl, hx⟩
  replace Bs := Bs.ext hx
  have E3 : Ext w w3 := E2.trans hx
  clear hx E2
  go_wp2_with fail
  have Br : Blk (w3.alloc (.cells #[.int .i64 1, .int .i64 4, .int .i64 16, .int .i64 14] 33)) w3.heap.size 33 #[.int .i64 1, .int .i64 4, .int .i64 16, .int .i64 14] := Blk.new _ _ _
  refine (wk_cover _ _ _ (Blk.new1 _ _ _ _)).mono ?_
  rintro e w4 ⟨rfl, hx⟩
  replace Bs := ((Bs.alloc _).alloc _).ext hx
  replace Br := (Br.alloc _).ext hx
  have E4 : Ext w w4 := ((E3.alloc _).alloc _).trans hx
  clear hx E3
  generalize w3.heap.size = g3 at *
  have Bc : Blk (w4.alloc (.cells #[.int .i64 0, .int .i64 0, .int .i64 6, .int .i64 6] 33)) w4.heap.size 33 #[.int .i64 0, .int .i64 0, .int .i64 6, .int .i64 6] := Blk.new _ _ _
  have ds := (Bs.alloc (.cells #[.int .i64 0, .int .i64 0, .int .i64 6, .int .i64 6] 33)).cell
  have dr := (Br.alloc (.cells #[.int .i64 0, .int .i64 0, .int .i64 6, .int .i64 6] 33)).cell
  have dc := Bc.cell
  have ls := Bs.lt
  have lr := Br.lt
  clear Bs Br Bc
  go_wp2_with fail
  refine (wk_meet _).mono ?_
  rintro e w5 ⟨rfl, hx⟩
  have E5 : Ext w w5 := (E4.alloc _).trans hx
  clear hx E4 ds dr dc ls lr
  go_wp2_with fail
  refine (wk_inside _).mono ?_
  rintro e w6 ⟨rfl, hx⟩
  go_wp2_with fail
  go_ret
  exact ⟨rfl, E5.trans hx⟩
end Go.Proofs.Ytphckjnmbbjenaa
