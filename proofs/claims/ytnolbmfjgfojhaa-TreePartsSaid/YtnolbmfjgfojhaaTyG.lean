/- Trees: the program's check of any tree; the anchor (walks). -/
import Derived.Test.YtnolbmfjgfojhaaTyE
import Derived.Test.YtnolbmfjgfojhaaTyF
import Derived.Test.YtnolbmfjgfojhaaTyB
namespace Go.Proofs.Ytnolbmfjgfojhaa
open Go.RowKit
section
variable (t : Tr) (ns : List Nd) (av : List Int)
set_option maxHeartbeats 1000000 in
theorem check_any (w : World) (h : TrIn w t ns av) (hm : t.nl ≤ 1000000) (ha : t.al ≤ maxLen) :
    Calls Try.prog 18 #[.agg t.cs] w fun e w' => e = .returned (.tuple #[.int .i64 (checkV ns av t.view).1, .int .i64 (checkV ns av t.view).2]) ∧ Ext w w' := by
  by_cases h0 : 0 < t.nl
  · obtain ⟨b, off, hna, _, _⟩ := h.nodes.at_ h0
    obtain ⟨na, nl, nc, aa, al, ac, view⟩ := t
    simp only at hna
    subst hna
    exact check_in ns b off nl nc al ac aa view av w h hm ha
  · have cw := fun w h => hide (whole_any t ns av w h hm ha)
    have hl := h.nodes.nlen
    have hw : wholeV ns av t.view ≠ 0 := by
      unfold wholeV
      split
      · decide
      · rw [if_pos (.inl (by omega))]; decide
    have HC := hide (show checkV ns av t.view = (0, wholeV ns av t.view) by rw [check_whole, if_neg hw])
    generalize checkV ns av t.view = CV at *
    generalize wholeV ns av t.view = wv at *
    have hwb : (wv != 0) = true := by simpa using hw
    clear hl h0 hw
    go_enter Try.func18, Try.ntmps18
    go_wp2_with fail
    refine (unhide (cw _ (h.ext ((Ext.refl _).alloc _)))).mono ?_
    rintro e w1 ⟨rfl, hx⟩
    go_wp2_with fail
    go_ret2
    exact ⟨ret2i (by rw [unhide HC]) (by rw [unhide HC]), ((Ext.refl _).alloc _).trans hx⟩
end
def psA : List Int := [-1, 0, 1, 0, 3]
def ksA : List Int := [1, 1, 3, 2, 1]
def psB : List Int := [-1, 0, 1, 0, 2]
def ksB : List Int := [1, 1, 1, 1, 1]
theorem wk_checkA : checkV (rowN psA ksA) [] 0 = (0, 0) := by kernel_rfl
theorem wk_checkB : checkV (rowN psB ksB) [] 0 = (4, 6) := by kernel_rfl
theorem wk_check0 : checkV [] [] 0 = (0, 6) := by kernel_rfl
theorem wk_kids : kidsN (rowN psA ksA) 5 0 = [1, 3] := by kernel_rfl
theorem wk_last : lastsN (rowN psA ksA) = [4, 2, 2, 4, 4] := by kernel_rfl
theorem wk_deps : depsN (rowN psA ksA) = [1, 2, 3, 2, 3] := by kernel_rfl
theorem wk_root0 : rootI (rowN psA ksA) 0 = true := by kernel_rfl
theorem wk_root1 : rootI (rowN psA ksA) 1 = false := by kernel_rfl
theorem wk_root4 : rootI (rowN psA ksA) 4 = true := by kernel_rfl
set_option maxRecDepth 100000 in
set_option maxHeartbeats 16000000 in
theorem works05_any (w : World) : Calls Try.prog 16 #[] w fun e w' => e = .returned (.bool true) ∧ Ext w w' := by
  have cr := fun Ap Ak n cp ck ps ks w hP hK hn => hide (row_any Ap Ak n cp ck ps ks w hP hK hn)
  have cc := fun t ns av w h hm ha => hide (check_any t ns av w h hm ha)
  go_enter Try.func16, Try.ntmps16
  go_wp2_with fail
  have P1 : Rd ((w.alloc (.cells #[.int .i64 (-1), .int .i64 0, .int .i64 1, .int .i64 0, .int .i64 3] 3)).alloc (.cells #[.int .u8 1, .int .u8 1, .int .u8 3, .int .u8 2, .int .u8 1] 5)) 1 (some ⟨w.heap.size, 0, none⟩) 5 (ints psA) := by
    have := (Blk.new w 3 #[.int .i64 (-1), .int .i64 0, .int .i64 1, .int .i64 0, .int .i64 3]).rd (n := 5) rfl
    exact this.alloc _
  have K1 : Rd ((w.alloc (.cells #[.int .i64 (-1), .int .i64 0, .int .i64 1, .int .i64 0, .int .i64 3] 3)).alloc (.cells #[.int .u8 1, .int .u8 1, .int .u8 3, .int .u8 2, .int .u8 1] 5)) 1 (some ⟨w.heap.size + 1, 0, none⟩) 5 (u8v ksA) := (Blk.new1 w _ 5 #[.int .u8 1, .int .u8 1, .int .u8 3, .int .u8 2, .int .u8 1]).rd (n := 5) rfl
  refine (unhide (cr _ _ _ _ _ psA ksA _ P1 K1 (by omega))).mono ?_
  rintro e w1 ⟨A, c, rfl, RA, hx⟩
  have E1 : Ext w w1 := (((Ext.refl _).alloc _).alloc _).trans hx
  have HA : ∃ b off, A = some ⟨b, off, none⟩ := by
    obtain ⟨b, off, h, _⟩ := RA.at_ (by omega)
    exact ⟨b, off, h⟩
  clear hx P1 K1
  go_upto_region 2 with fail
  have BT : Blk (w1.alloc (.cells (Tr.cs ⟨A, 5, c, none, 0, 0, 0⟩) 25)) w1.heap.size 25 (Tr.cs ⟨A, 5, c, none, 0, 0, 0⟩) := Blk.new _ _ _
  replace E1 := E1.alloc (.cells (Tr.cs ⟨A, 5, c, none, 0, 0, 0⟩) 25)
  replace RA := RA.alloc (.cells (Tr.cs ⟨A, 5, c, none, 0, 0, 0⟩) 25)
  generalize w1.heap.size = g at *
  generalize w1.alloc (.cells (Tr.cs ⟨A, 5, c, none, 0, 0, 0⟩) 25) = w2 at *
  clear w1
  have c1 := BT.cell
  have l1 := BT.lt
  go_wp2_with fail
  have T1 : TrIn w2 ⟨A, 5, c, none, 0, 0, 0⟩ (rowN psA ksA) [] := ⟨RA, Rd.nil _ _ _⟩
  refine (unhide (cc ⟨A, 5, c, none, 0, 0, 0⟩ _ [] _ T1 (by simp) (by simp [maxLen]))).mono ?_
  rintro e w3 ⟨rfl, hx⟩
  rw [wk_checkA]
  replace E1 := E1.trans hx
  replace RA := RA.ext hx
  replace BT := BT.ext hx
  clear hx c1 l1 T1
  simp only []
  go_wp2_with fail
  have P1 : Rd ((w3.alloc (.cells #[.int .i64 (-1), .int .i64 0, .int .i64 1, .int .i64 0, .int .i64 2] 3)).alloc (.cells #[.int .u8 1, .int .u8 1, .int .u8 1, .int .u8 1, .int .u8 1] 5)) 1 (some ⟨w3.heap.size, 0, none⟩) 5 (ints psB) := by
    have := (Blk.new w3 3 #[.int .i64 (-1), .int .i64 0, .int .i64 1, .int .i64 0, .int .i64 2]).rd (n := 5) rfl
    exact this.alloc _
  have K1 : Rd ((w3.alloc (.cells #[.int .i64 (-1), .int .i64 0, .int .i64 1, .int .i64 0, .int .i64 2] 3)).alloc (.cells #[.int .u8 1, .int .u8 1, .int .u8 1, .int .u8 1, .int .u8 1] 5)) 1 (some ⟨w3.heap.size + 1, 0, none⟩) 5 (u8v ksB) := (Blk.new1 w3 _ 5 #[.int .u8 1, .int .u8 1, .int .u8 1, .int .u8 1, .int .u8 1]).rd (n := 5) rfl
  refine (unhide (cr _ _ _ _ _ psB ksB _ P1 K1 (by omega))).mono ?_
  rintro e w4 ⟨A2, c2, rfl, RB, hx⟩
  replace hx := (((Ext.refl _).alloc _).alloc _).trans hx
  replace E1 := E1.trans hx
  replace RA := RA.ext hx
  replace BT := BT.ext hx
  clear hx P1 K1
  go_wp2_with fail
  have T1 : TrIn w4 ⟨A2, 5, c2, none, 0, 0, 0⟩ (rowN psB ksB) [] := ⟨RB, Rd.nil _ _ _⟩
  refine (unhide (cc ⟨A2, 5, c2, none, 0, 0, 0⟩ _ [] _ T1 (by simp) (by simp [maxLen]))).mono ?_
  rintro e w5 ⟨rfl, hx⟩
  rw [wk_checkB]
  replace E1 := E1.trans hx
  replace RA := RA.ext hx
  replace BT := BT.ext hx
  clear hx T1 RB
  simp only []
  go_wp2_with fail
  have T1 : TrIn w5 ⟨none, 0, 0, none, 0, 0, 0⟩ [] [] := ⟨Rd.nil _ _ _, Rd.nil _ _ _⟩
  refine (unhide (cc ⟨none, 0, 0, none, 0, 0, 0⟩ _ [] _ T1 (by simp) (by simp [maxLen]))).mono ?_
  rintro e w6 ⟨rfl, hx⟩
  rw [wk_check0]
  replace E1 := E1.trans hx
  replace RA := RA.ext hx
  replace BT := BT.ext hx
  clear hx T1 cc cr
  simp only []
  have c1 := BT.cell
  have l1 := BT.lt
  go_wp2_with fail
  refine (kids_any ⟨A, 5, c, none, 0, 0, 0⟩ _ _ RA (by simp)).mono ?_
  rintro e w7 ⟨Ak, rfl, RK, hx⟩
  replace E1 := E1.trans hx
  replace RA := RA.ext hx
  replace BT := BT.ext hx
  clear hx c1 l1
  have c1 := BT.cell
  have l1 := BT.lt
  go_wp2_with fail
  refine (last_any ⟨A, 5, c, none, 0, 0, 0⟩ _ _ RA (by simp)).mono ?_
  rintro e w8 ⟨Al, cl, rfl, RL, hx⟩
  rw [wk_last] at RL ⊢
  replace E1 := E1.trans hx
  replace RA := RA.ext hx
  replace BT := BT.ext hx
  replace RK := RK.ext hx
  clear hx c1 l1
  have c1 := BT.cell
  have l1 := BT.lt
  go_wp2_with fail
  refine (depths_any ⟨A, 5, c, none, 0, 0, 0⟩ _ _ RA (by simp)).mono ?_
  rintro e w9 ⟨Ad, cd, rfl, RD, hx⟩
  rw [wk_deps] at RD ⊢
  replace E1 := E1.trans hx
  replace RA := RA.ext hx
  replace BT := BT.ext hx
  replace RK := RK.ext hx
  replace RL := RL.ext hx
  clear hx c1 l1
  obtain ⟨bk, ok, A0, c0, rfl, -, lbk, ck, R0, -⟩ := RK.at_ 0 (by simp)
  have e5 : kidsN (rowN psA ksA) (Tr.nl ⟨A, 5, c, none, 0, 0, 0⟩) 0 = [1, 3] := wk_kids
  rw [e5] at ck R0
  obtain ⟨b0, o0, u0, rfl, lb0, hu0, ck1⟩ := R0.get (i := 1) (by simp)
  obtain rfl : Value.int .i64 3 = u0 := Option.some.inj hu0
  obtain ⟨bl, ol, ul, rfl, lbl, hul, cl0⟩ := RL.get (i := 0) (by simp)
  obtain rfl : Value.int .i64 4 = ul := Option.some.inj hul
  obtain ⟨bl', ol', ul', hAl, -, hul', cl1⟩ := RL.get (i := 1) (by simp)
  obtain rfl : Value.int .i64 2 = ul' := Option.some.inj hul'
  injection hAl with hAl; injection hAl with h1 h2
  subst h1 h2
  obtain ⟨bd, od, ud, rfl, lbd, hud, cd4⟩ := RD.get (i := 4) (by simp)
  obtain rfl : Value.int .i64 3 = ud := Option.some.inj hud
  have c1 := BT.cell
  have l1 := BT.lt
  simp only [Nat.add_zero] at ck cl0
  clear hu0 hul hul' hud RK RL RD R0 e5
  go_upto_region 10 with fail
  go_wp2_with fail
  have cT := fun z w h => hide (root_all ⟨A, 5, c, none, 0, 0, 0⟩ (rowN psA ksA) z w h (by simp [maxLen]))
  refine (unhide (cT 0 _ RA)).mono ?_
  rintro e w10 ⟨rfl, hx⟩
  rw [wk_root0]
  replace E1 := E1.trans hx
  replace RA := RA.ext hx
  replace BT := BT.ext hx
  clear hx c1 l1
  have c1 := BT.cell
  have l1 := BT.lt
  go_wp2_with fail
  refine (unhide (cT 1 _ RA)).mono ?_
  rintro e w11 ⟨rfl, hx⟩
  rw [wk_root1]
  replace E1 := E1.trans hx
  replace RA := RA.ext hx
  replace BT := BT.ext hx
  clear hx c1 l1
  have c1 := BT.cell
  have l1 := BT.lt
  go_wp2_with fail
  refine (unhide (cT 4 _ RA)).mono ?_
  rintro e w12 ⟨rfl, hx⟩
  rw [wk_root4]
  go_wp2_with fail
  go_ret
  exact ⟨rfl, E1.trans hx⟩
end Go.Proofs.Ytnolbmfjgfojhaa
