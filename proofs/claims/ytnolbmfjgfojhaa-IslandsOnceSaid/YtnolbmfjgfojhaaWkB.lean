/- Islands: the anchor (walk). -/
import Derived.Test.YtnolbmfjgfojhaaWkA
import Derived.Test.YtnolbmfjgfojhaaIsF
namespace Go.Proofs.Ytnolbmfjgfojhaa
open Go.RowKit
theorem ints_of_len {zs : List Int} {n : Nat} (h : zs.length = n) {w : World} {A : Option Addr} (hr : Rd w 1 A zs.length (ints zs)) : Rd w 1 A n (ints zs) := h ▸ hr
theorem same_yes (A B : Option Addr) (n c m d : Nat) (xs : List Int) (w : World) (ha : Rd w 1 A n (ints xs)) (hb : Rd w 1 B m (ints xs)) (hn : n ≤ maxLen) (hm : m ≤ maxLen) :
    Calls Try.prog 33 #[.slice A n c, .slice B m d] w fun e w' => e = .returned (.bool true) ∧ Ext w w' := by
  have := same_any A B n c m d xs xs w ha hb hn hm
  rwa [decide_eq_true rfl] at this
set_option maxRecDepth 100000 in
set_option maxHeartbeats 8000000 in
theorem works18_any (w : World) : Calls Try.prog 32 #[] w fun e w' => e = .returned (.bool true) ∧ Ext w w' := by
  have cS := fun A B n c m d xs w ha hb hn hm => hide (same_yes A B n c m d xs w ha hb hn hm)
  go_enter Try.func32, Try.ntmps32
  go_wp2_with fail
  refine (plain_any _).mono ?_
  rintro e w1 ⟨g, rfl, R1, hx⟩
  have E1 : Ext w w1 := hx
  have cR := fun w h => hide (roots_any ⟨some ⟨g, 0, none⟩, 6, 6, none, 0, 0, 0⟩ tr6 w h (show 6 ≤ 1000000 by decide))
  have cO := fun w h => hide (of_any ⟨some ⟨g, 0, none⟩, 6, 6, none, 0, 0, 0⟩ tr6 tr6_ok w h (show 6 ≤ 1000000 by decide))
  have cI := fun z w h => hide (inside_any ⟨some ⟨g, 0, none⟩, 6, 6, none, 0, 0, 0⟩ tr6 tr6_ok z w h (show 6 ≤ 1000000 by decide))
  have cV := fun z w h => hide (over_any ⟨some ⟨g, 0, none⟩, 6, 6, none, 0, 0, 0⟩ tr6 tr6_ok z w h (by simp only [maxLen]; omega))
  clear hx
  go_upto_region 2 with fail
  have BT : Blk (w1.alloc (.cells (Tr.cs ⟨some ⟨g, 0, none⟩, 6, 6, none, 0, 0, 0⟩) 25)) w1.heap.size 25 (Tr.cs ⟨some ⟨g, 0, none⟩, 6, 6, none, 0, 0, 0⟩) := Blk.new _ _ _
  have E2 := E1.alloc (.cells (Tr.cs ⟨some ⟨g, 0, none⟩, 6, 6, none, 0, 0, 0⟩) 25)
  have R2 := R1.alloc (.cells (Tr.cs ⟨some ⟨g, 0, none⟩, 6, 6, none, 0, 0, 0⟩) 25)
  generalize hgt : w1.heap.size = gt at *
  generalize w1.alloc (.cells (Tr.cs ⟨some ⟨g, 0, none⟩, 6, 6, none, 0, 0, 0⟩) 25) = w2 at *
  clear E1 R1 hgt
  clear w1
  have c1 := BT.cell
  have l1 := BT.lt
  go_wp2_with fail
  refine (unhide (cR _ R2)).mono ?_
  rintro e w3 ⟨A1, c1a, rfl, Q1, hx⟩
  rw [tr6_roots] at Q1
  have E3 := E2.trans hx
  have R3 := R2.ext hx
  replace BT := BT.ext hx
  clear hx c1 l1
  have c1 := BT.cell
  have l1 := BT.lt
  rw [tr6_roots]
  go_wp2_with fail
  have Y1 : Rd (w3.alloc (.cells #[.int .i64 0, .int .i64 2, .int .i64 3] 3)) 1 (some ⟨w3.heap.size, 0, none⟩) 3 (ints [0, 2, 3]) := (Blk.new w3 3 #[.int .i64 0, .int .i64 2, .int .i64 3]).rd rfl
  refine (unhide (cS _ _ _ _ _ _ [0, 2, 3] _ (Q1.alloc _) Y1 (by simp [maxLen]) (by simp [maxLen]))).mono ?_
  rintro e w4 ⟨rfl, hx⟩
  replace hx := ((Ext.refl _).alloc _).trans hx
  have E4 := E3.trans hx
  have R4 := R3.ext hx
  replace BT := BT.ext hx
  clear hx c1 l1 Y1 Q1
  have c1 := BT.cell
  have l1 := BT.lt
  go_wp2_with fail
  refine (unhide (cO _ R4)).mono ?_
  rintro e w5 ⟨A2, c2a, rfl, Q2, hx⟩
  rw [tr6_of] at Q2
  have E5 := E4.trans hx
  have R5 := R4.ext hx
  replace BT := BT.ext hx
  clear hx c1 l1
  have c1 := BT.cell
  have l1 := BT.lt
  rw [tr6_of]
  go_wp2_with fail
  have Y2 : Rd (w5.alloc (.cells #[.int .i64 0, .int .i64 0, .int .i64 2, .int .i64 3, .int .i64 3, .int .i64 0] 3)) 1 (some ⟨w5.heap.size, 0, none⟩) 6 (ints [0, 0, 2, 3, 3, 0]) := (Blk.new w5 3 #[.int .i64 0, .int .i64 0, .int .i64 2, .int .i64 3, .int .i64 3, .int .i64 0]).rd rfl
  refine (unhide (cS _ _ _ _ _ _ [0, 0, 2, 3, 3, 0] _ (Q2.alloc _) Y2 (by simp [maxLen]) (by simp [maxLen]))).mono ?_
  rintro e w6 ⟨rfl, hx⟩
  replace hx := ((Ext.refl _).alloc _).trans hx
  have E6 := E5.trans hx
  have R6 := R5.ext hx
  replace BT := BT.ext hx
  clear hx c1 l1 Y2 Q2
  have c1 := BT.cell
  have l1 := BT.lt
  go_wp2_with fail
  refine (unhide (cI 0 _ R6)).mono ?_
  rintro e w7 ⟨A3, c3a, rfl, Q3, hx⟩
  rw [tr6_in0] at Q3
  have E7 := E6.trans hx
  have R7 := R6.ext hx
  replace BT := BT.ext hx
  clear hx c1 l1
  have c1 := BT.cell
  have l1 := BT.lt
  rw [tr6_in0]
  go_wp2_with fail
  have Y3 : Rd (w7.alloc (.cells #[.int .i64 1, .int .i64 2, .int .i64 5] 3)) 1 (some ⟨w7.heap.size, 0, none⟩) 3 (ints [1, 2, 5]) := (Blk.new w7 3 #[.int .i64 1, .int .i64 2, .int .i64 5]).rd rfl
  refine (unhide (cS _ _ _ _ _ _ [1, 2, 5] _ (Q3.alloc _) Y3 (by simp [maxLen]) (by simp [maxLen]))).mono ?_
  rintro e w8 ⟨rfl, hx⟩
  replace hx := ((Ext.refl _).alloc _).trans hx
  have E8 := E7.trans hx
  have R8 := R7.ext hx
  replace BT := BT.ext hx
  clear hx c1 l1 Y3 Q3
  have c1 := BT.cell
  have l1 := BT.lt
  go_wp2_with fail
  refine (unhide (cI 2 _ R8)).mono ?_
  rintro e w9 ⟨A4, c4a, rfl, Q4, hx⟩
  rw [tr6_in2] at Q4
  have E9 := E8.trans hx
  have R9 := R8.ext hx
  replace BT := BT.ext hx
  clear hx c1 l1
  have c1 := BT.cell
  have l1 := BT.lt
  rw [tr6_in2]
  go_wp2_with fail
  have Y4 : Rd (w9.alloc (.cells #[.int .i64 3] 3)) 1 (some ⟨w9.heap.size, 0, none⟩) 1 (ints [3]) := (Blk.new w9 3 #[.int .i64 3]).rd rfl
  refine (unhide (cS _ _ _ _ _ _ [3] _ (Q4.alloc _) Y4 (by simp [maxLen]) (by simp [maxLen]))).mono ?_
  rintro e w10 ⟨rfl, hx⟩
  replace hx := ((Ext.refl _).alloc _).trans hx
  have E10 := E9.trans hx
  have R10 := R9.ext hx
  replace BT := BT.ext hx
  clear hx c1 l1 Y4 Q4
  have c1 := BT.cell
  have l1 := BT.lt
  go_wp2_with fail
  refine (unhide (cV 3 _ R10)).mono ?_
  rintro e w11 ⟨rfl, hx⟩
  rw [tr6_over3]
  have E11 := E10.trans hx
  have R11 := R10.ext hx
  replace BT := BT.ext hx
  clear hx c1 l1
  have c1 := BT.cell
  have l1 := BT.lt
  go_wp2_with fail
  refine (unhide (cV 0 _ R11)).mono ?_
  rintro e w12 ⟨rfl, hx⟩
  rw [tr6_over0]
  have E12 := E11.trans hx
  have R12 := R11.ext hx
  replace BT := BT.ext hx
  clear hx c1 l1
  have c1 := BT.cell
  have l1 := BT.lt
  go_wp2_with fail
  go_ret
  exact ⟨rfl, E12⟩
end Go.Proofs.Ytnolbmfjgfojhaa
