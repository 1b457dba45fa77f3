/- Styles: what lengths come to (walks). -/
import Derived.Test.YtahneblnbafpoaaAuQ
import Derived.Test.YtahneblnbafpoaaStyO
namespace Go.Proofs.Ytahneblnbafpoaa
open Go.RowKit
theorem ret3i {a b : Int} {p q r s : Bool} (h : a = b) (h1 : p = q) (h2 : r = s) : Ending.returned (.tuple #[.int .i64 a, .bool p, .bool r]) = .returned (.tuple #[.int .i64 b, .bool q, .bool s]) := by rw [h, h1, h2]
def ofN (l : Ln) (h : Int) : Int := if l.k = 1 then cutV l.n else if l.k = 2 then cutV (h * l.n / 10000) else 0
def ofA (l : Ln) : Bool := !(l.k == 1) && !(l.k == 2)
def ofB (l : Ln) (h : Int) : Bool := if l.k = 1 then cutB l.n else if l.k = 2 then cutB (h * l.n / 10000) else false
def bd64 (x : Int) : Prop := -9223372036854775808 ≤ x ∧ x ≤ 9223372036854775807
set_option maxHeartbeats 1000000 in
theorem pof_any (l : Ln) (h : Int) (hl : bd64 l.n) (hh : bd64 h) (w : World) : Calls Try.prog 13 #[l.v, .int .i64 h] w fun e w' => e = .returned (.tuple #[.int .i64 (ofN l h), .bool (ofA l), .bool (ofB l h)]) ∧ Ext w w' := by
  have c1 := fun w => hide (au_cut l.n w)
  have c2 := fun w => hide (part_any h l.n hh.1 hh.2 hl.1 hl.2 w)
  clear hl hh
  obtain ⟨k, n⟩ := l
  by_cases k1 : k = 1
  · subst k1
    have HV := hide (show ofN ⟨1, n⟩ h = cutV n ∧ ofA ⟨1, n⟩ = false ∧ ofB ⟨1, n⟩ h = cutB n by simp [ofN, ofA, ofB])
    generalize cutV n = X at *
    generalize cutB n = Y at *
    go_enter Try.func13, Try.ntmps13
    go_wp2_with fail
    refine (unhide (c1 _)).mono ?_
    rintro e w1 ⟨rfl, rfl⟩
    go_wp2_with fail
    go_ret3
    exact ⟨ret3i (unhide HV).1.symm (unhide HV).2.1.symm (unhide HV).2.2.symm, (Ext.refl _).alloc _⟩
  have k1b : (k == 1) = false := by simpa using k1
  by_cases k2 : k = 2
  · subst k2
    have HV := hide (show ofN ⟨2, n⟩ h = cutV (h * n / 10000) ∧ ofA ⟨2, n⟩ = false ∧ ofB ⟨2, n⟩ h = cutB (h * n / 10000) by simp [ofN, ofA, ofB])
    simp only at c2
    generalize cutV (h * n / 10000) = X at *
    generalize cutB (h * n / 10000) = Y at *
    go_enter Try.func13, Try.ntmps13
    go_wp2_with fail
    refine (unhide (c2 _)).mono ?_
    rintro e w1 ⟨rfl, hx⟩
    go_wp2_with fail
    go_ret3
    exact ⟨ret3i (unhide HV).1.symm (unhide HV).2.1.symm (unhide HV).2.2.symm, ((Ext.refl _).alloc _).trans hx⟩
  have k2b : (k == 2) = false := by simpa using k2
  have HV := hide (show ofN ⟨k, n⟩ h = 0 ∧ ofA ⟨k, n⟩ = true ∧ ofB ⟨k, n⟩ h = false by simp [ofN, ofA, ofB, k1, k2])
  clear c1 c2
  go_enter Try.func13, Try.ntmps13
  go_wp2_with fail
  go_ret3
  exact ⟨ret3i (unhide HV).1.symm (unhide HV).2.1.symm (unhide HV).2.2.symm, (Ext.refl _).alloc _⟩
set_option maxHeartbeats 1000000 in
theorem rof_any (l : Ln) (h : Int) (hl : bd64 l.n) (hh : bd64 h) (w : World) : Calls Try.prog 14 #[l.v, .int .i64 h] w fun e w' => e = .returned (.tuple #[.int .i64 (ofN l h), .bool (ofA l), .bool (ofB l h)]) ∧ Ext w w' := by
  have c1 := fun w => hide (of_any l.n hl.1 hl.2 w)
  have c2 := fun w => hide (by have := refmuldiv_any h l.n 10000 hh.1 hh.2 hl.1 hl.2 (by omega) (by omega) (by omega) w; rwa [show flo (h * l.n) 10000 = h * l.n / 10000 by unfold flo; rw [if_pos (by omega)]] at this)
  clear hl hh
  obtain ⟨k, n⟩ := l
  by_cases k1 : k = 1
  · subst k1
    have HV := hide (show ofN ⟨1, n⟩ h = cutV n ∧ ofA ⟨1, n⟩ = false ∧ ofB ⟨1, n⟩ h = cutB n by simp [ofN, ofA, ofB])
    have HC : Hid (∀ x, x = n → cutV x = cutV n ∧ cutB x = cutB n) := hide (fun x hx => by rw [hx]; exact ⟨rfl, rfl⟩)
    go_enter Try.func14, Try.ntmps14
    go_wp2_with fail
    refine (unhide (c1 _)).mono ?_
    rintro e w1 ⟨m1, A1, d1, l1, rfl, R1, -, -, P1, hx⟩
    have cc := refcut_any m1 A1 l1.length d1 l1 w1 R1 (by have := P1.2.2; omega)
    rw [of_zs P1] at cc
    have cc := hide cc
    generalize cutV n = X at *
    generalize cutB n = Y at *
    clear P1 R1 HC
    go_wp2_with fail
    refine (unhide cc).mono ?_
    rintro e w2 ⟨rfl, hx2⟩
    go_wp2_with fail
    go_ret3
    exact ⟨ret3i (unhide HV).1.symm (unhide HV).2.1.symm (unhide HV).2.2.symm, (((Ext.refl _).alloc _).trans hx).trans hx2⟩
  have k1b : (k == 1) = false := by simpa using k1
  by_cases k2 : k = 2
  · subst k2
    have HV := hide (show ofN ⟨2, n⟩ h = cutV (h * n / 10000) ∧ ofA ⟨2, n⟩ = false ∧ ofB ⟨2, n⟩ h = cutB (h * n / 10000) by simp [ofN, ofA, ofB])
    simp only at c2
    generalize cutV (h * n / 10000) = X at *
    generalize cutB (h * n / 10000) = Y at *
    go_enter Try.func14, Try.ntmps14
    go_wp2_with fail
    refine (unhide (c2 _)).mono ?_
    rintro e w1 ⟨rfl, hx⟩
    go_wp2_with fail
    go_ret3
    exact ⟨ret3i (unhide HV).1.symm (unhide HV).2.1.symm (unhide HV).2.2.symm, ((Ext.refl _).alloc _).trans hx⟩
  have k2b : (k == 2) = false := by simpa using k2
  have HV := hide (show ofN ⟨k, n⟩ h = 0 ∧ ofA ⟨k, n⟩ = true ∧ ofB ⟨k, n⟩ h = false by simp [ofN, ofA, ofB, k1, k2])
  clear c1 c2
  go_enter Try.func14, Try.ntmps14
  go_wp2_with fail
  go_ret3
  exact ⟨ret3i (unhide HV).1.symm (unhide HV).2.1.symm (unhide HV).2.2.symm, (Ext.refl _).alloc _⟩
def sizeN (l le mo : Ln) (h : Int) : Int := if ofA l = true then 0 else withinV (ofN l h) (ofN le h) (if ofA mo = true then 1099511627776 else ofN mo h)
def sizeB (l le mo : Ln) (h : Int) : Bool := if ofA l = true then false else ofB l h || ofB le h || ofB mo h
theorem of_auto {l : Ln} (h : Int) (ha : ofA l = true) : ofN l h = 0 ∧ ofB l h = false := by
  obtain ⟨k, n⟩ := l
  simp only [ofA, Bool.and_eq_true, Bool.not_eq_true', beq_eq_false_iff_ne, ne_eq] at ha
  exact ⟨by rw [ofN, if_neg ha.1, if_neg ha.2], by rw [ofB, if_neg ha.1, if_neg ha.2]⟩
set_option maxHeartbeats 2000000 in
theorem psize_any (l le mo : Ln) (h : Int) (hl : bd64 l.n) (hle : bd64 le.n) (hmo : bd64 mo.n) (hh : bd64 h) (w : World) : Calls Try.prog 15 #[l.v, le.v, mo.v, .int .i64 h] w fun e w' => e = .returned (.tuple #[.int .i64 (sizeN l le mo h), .bool (ofA l), .bool (sizeB l le mo h)]) ∧ Ext w w' := by
  have c1 := fun w => hide (pof_any l h hl hh w)
  have c2 := fun w => hide (pof_any le h hle hh w)
  have c3 := fun w => hide (pof_any mo h hmo hh w)
  have HA := hide (of_auto (l := l) h)
  have HN := hide (show sizeN l le mo h = if ofA l = true then 0 else withinV (ofN l h) (ofN le h) (if ofA mo = true then 1099511627776 else ofN mo h) from rfl)
  have HB := hide (show sizeB l le mo h = if ofA l = true then false else ofB l h || ofB le h || ofB mo h from rfl)
  clear hl hle hmo hh
  generalize sizeN l le mo h = SN at *
  generalize sizeB l le mo h = SB at *
  generalize ofN l h = n1 at *
  generalize ofN le h = n2 at *
  generalize ofN mo h = n3 at *
  generalize ofB l h = b1 at *
  generalize ofB le h = b2 at *
  generalize ofB mo h = b3 at *
  generalize ofA le = a2 at *
  generalize ofA mo = a3 at *
  generalize ofA l = a1 at *
  go_enter Try.func15, Try.ntmps15
  obtain ⟨k1, m1⟩ := l
  obtain ⟨k2, m2⟩ := le
  obtain ⟨k3, m3⟩ := mo
  go_wp2_with fail
  have B2 : Blk (((w.alloc (.cells #[.int .u8 k1, .int .i64 m1] 23)).alloc (.cells #[.int .u8 k2, .int .i64 m2] 23)).alloc (.cells #[.int .u8 k3, .int .i64 m3] 23)) (w.heap.size + 1) 23 #[.int .u8 k2, .int .i64 m2] := (Blk.new1 _ _ _ _).alloc _
  have B3 : Blk (((w.alloc (.cells #[.int .u8 k1, .int .i64 m1] 23)).alloc (.cells #[.int .u8 k2, .int .i64 m2] 23)).alloc (.cells #[.int .u8 k3, .int .i64 m3] 23)) (w.heap.size + 2) 23 #[.int .u8 k3, .int .i64 m3] := Blk.new2 _ _ _ _ _
  have E1 : Ext w (((w.alloc (.cells #[.int .u8 k1, .int .i64 m1] 23)).alloc (.cells #[.int .u8 k2, .int .i64 m2] 23)).alloc (.cells #[.int .u8 k3, .int .i64 m3] 23)) := (((Ext.refl _).alloc _).alloc _).alloc _
  generalize (((w.alloc (.cells #[.int .u8 k1, .int .i64 m1] 23)).alloc (.cells #[.int .u8 k2, .int .i64 m2] 23)).alloc (.cells #[.int .u8 k3, .int .i64 m3] 23)) = wa at *
  refine (unhide (c1 _)).mono ?_
  rintro e w1 ⟨rfl, hx⟩
  replace B2 := B2.ext hx
  replace B3 := B3.ext hx
  replace E1 := E1.trans hx
  have d2 := B2.cell
  have l2 := B2.lt
  clear hx
  cases a1
  rotate_left
  · have HV := unhide HA rfl
    rw [HV.1, HV.2]
    go_wp2_with fail
    go_ret3
    exact ⟨ret3i (by rw [unhide HN]; rfl) rfl (by rw [unhide HB]; rfl), E1⟩
  go_wp2_with fail
  refine (unhide (c2 _)).mono ?_
  rintro e w2 ⟨rfl, hx⟩
  replace B3 := B3.ext hx
  replace E1 := E1.trans hx
  have d3 := B3.cell
  have l3 := B3.lt
  clear hx d2 l2 B2
  go_wp2_with fail
  refine (unhide (c3 _)).mono ?_
  rintro e w3 ⟨rfl, hx⟩
  replace E1 := E1.trans hx
  clear hx d3 l3 B3
  have cw := fun m w => hide (au_within n1 n2 m w)
  have HN2 : Hid (SN = withinV n1 n2 (if a3 = true then 1099511627776 else n3)) := hide (by rw [unhide HN]; rfl)
  have HB2 : Hid (SB = (b1 || b2 || b3)) := hide (by rw [unhide HB]; rfl)
  clear HN HB HA c1 c2 c3
  cases a3
  all_goals
    go_wp2_with fail
    refine (unhide (cw _ _)).mono ?_
    rintro e w4 ⟨rfl, rfl⟩
    cases b1 <;> cases b2 <;> cases b3
    all_goals
      go_wp2_with fail
      go_ret3
      exact ⟨ret3i (by rw [unhide HN2]; rfl) rfl (by rw [unhide HB2]; rfl), E1⟩
set_option maxHeartbeats 2000000 in
theorem rsize_any (l le mo : Ln) (h : Int) (hl : bd64 l.n) (hle : bd64 le.n) (hmo : bd64 mo.n) (hh : bd64 h) (w : World) : Calls Try.prog 16 #[l.v, le.v, mo.v, .int .i64 h] w fun e w' => e = .returned (.tuple #[.int .i64 (sizeN l le mo h), .bool (ofA l), .bool (sizeB l le mo h)]) ∧ Ext w w' := by
  have c1 := fun w => hide (rof_any l h hl hh w)
  have c2 := fun w => hide (rof_any le h hle hh w)
  have c3 := fun w => hide (rof_any mo h hmo hh w)
  have HA := hide (of_auto (l := l) h)
  have HN := hide (show sizeN l le mo h = if ofA l = true then 0 else withinV (ofN l h) (ofN le h) (if ofA mo = true then 1099511627776 else ofN mo h) from rfl)
  have HB := hide (show sizeB l le mo h = if ofA l = true then false else ofB l h || ofB le h || ofB mo h from rfl)
  clear hl hle hmo hh
  generalize sizeN l le mo h = SN at *
  generalize sizeB l le mo h = SB at *
  generalize ofN l h = n1 at *
  generalize ofN le h = n2 at *
  generalize ofN mo h = n3 at *
  generalize ofB l h = b1 at *
  generalize ofB le h = b2 at *
  generalize ofB mo h = b3 at *
  generalize ofA le = a2 at *
  generalize ofA mo = a3 at *
  generalize ofA l = a1 at *
  go_enter Try.func16, Try.ntmps16
  obtain ⟨k1, m1⟩ := l
  obtain ⟨k2, m2⟩ := le
  obtain ⟨k3, m3⟩ := mo
  go_wp2_with fail
  have B2 : Blk (((w.alloc (.cells #[.int .u8 k1, .int .i64 m1] 23)).alloc (.cells #[.int .u8 k2, .int .i64 m2] 23)).alloc (.cells #[.int .u8 k3, .int .i64 m3] 23)) (w.heap.size + 1) 23 #[.int .u8 k2, .int .i64 m2] := (Blk.new1 _ _ _ _).alloc _
  have B3 : Blk (((w.alloc (.cells #[.int .u8 k1, .int .i64 m1] 23)).alloc (.cells #[.int .u8 k2, .int .i64 m2] 23)).alloc (.cells #[.int .u8 k3, .int .i64 m3] 23)) (w.heap.size + 2) 23 #[.int .u8 k3, .int .i64 m3] := Blk.new2 _ _ _ _ _
  have E1 : Ext w (((w.alloc (.cells #[.int .u8 k1, .int .i64 m1] 23)).alloc (.cells #[.int .u8 k2, .int .i64 m2] 23)).alloc (.cells #[.int .u8 k3, .int .i64 m3] 23)) := (((Ext.refl _).alloc _).alloc _).alloc _
  generalize (((w.alloc (.cells #[.int .u8 k1, .int .i64 m1] 23)).alloc (.cells #[.int .u8 k2, .int .i64 m2] 23)).alloc (.cells #[.int .u8 k3, .int .i64 m3] 23)) = wa at *
  refine (unhide (c1 _)).mono ?_
  rintro e w1 ⟨rfl, hx⟩
  replace B2 := B2.ext hx
  replace B3 := B3.ext hx
  replace E1 := E1.trans hx
  have d2 := B2.cell
  have l2 := B2.lt
  clear hx
  cases a1
  rotate_left
  · have HV := unhide HA rfl
    rw [HV.1, HV.2]
    go_wp2_with fail
    go_ret3
    exact ⟨ret3i (by rw [unhide HN]; rfl) rfl (by rw [unhide HB]; rfl), E1⟩
  go_wp2_with fail
  refine (unhide (c2 _)).mono ?_
  rintro e w2 ⟨rfl, hx⟩
  replace B3 := B3.ext hx
  replace E1 := E1.trans hx
  have d3 := B3.cell
  have l3 := B3.lt
  clear hx d2 l2 B2
  go_wp2_with fail
  refine (unhide (c3 _)).mono ?_
  rintro e w3 ⟨rfl, hx⟩
  replace E1 := E1.trans hx
  clear hx d3 l3 B3
  have cw := fun m w => hide (ref_within n1 n2 m w)
  have HN2 : Hid (SN = withinV n1 n2 (if a3 = true then 1099511627776 else n3)) := hide (by rw [unhide HN]; rfl)
  have HB2 : Hid (SB = (b1 || b2 || b3)) := hide (by rw [unhide HB]; rfl)
  clear HN HB HA c1 c2 c3
  cases a3
  all_goals
    go_wp2_with fail
    refine (unhide (cw _ _)).mono ?_
    rintro e w4 ⟨rfl, rfl⟩
    cases b1 <;> cases b2 <;> cases b3
    all_goals
      go_wp2_with fail
      go_ret3
      exact ⟨ret3i (by rw [unhide HN2]; rfl) rfl (by rw [unhide HB2]; rfl), E1⟩
end Go.Proofs.Ytahneblnbafpoaa
