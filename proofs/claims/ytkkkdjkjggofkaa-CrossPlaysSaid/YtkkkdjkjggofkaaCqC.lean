/- Layer 20: the document's frag, cut (walk). -/
import Derived.Test.YtkkkdjkjggofkaaCqB
namespace Go.Proofs.Ytkkkdjkjggofkaa
open Go.RowKit
/-- a frag, its lines any slice -/
@[reducible] def frG (f : Fr) (lv : Value) : Array Value := #[.int .i64 f.x, .int .i64 f.y, .int .i64 f.w, .int .i64 f.h, lv]
theorem size_frG (f : Fr) (lv : Value) : (Try.prog.info? 46).map (·.size) = some (frG f lv).size := by kernel_rfl
/-- the first k of its numbers cut -/
def cutK (f : Fr) (k : Nat) : Fr := ⟨if 0 < k then cutV f.x else f.x, if 1 < k then cutV f.y else f.y, if 2 < k then cutV f.w else f.w, if 3 < k then cutV f.h else f.h⟩
def byK (f : Fr) (k : Nat) : Bool := (decide (0 < k) && cutB f.x) || (decide (1 < k) && cutB f.y) || (decide (2 < k) && cutB f.w) || (decide (3 < k) && cutB f.h)
theorem cutK_all (f : Fr) : cutK f 4 = cutF f := rfl
theorem byK_all (f : Fr) : byK f 4 = cutFB f := by simp [byK, cutFB]
theorem byK_1 (f : Fr) : (byK f 0 || cutB f.x) = byK f 1 := by simp [byK]
theorem byK_2 (f : Fr) : (byK f 1 || cutB f.y) = byK f 2 := by simp [byK]
theorem byK_3 (f : Fr) : (byK f 2 || cutB f.w) = byK f 3 := by simp [byK]
theorem byK_4 (f : Fr) : (byK f 3 || cutB f.h) = byK f 4 := by simp [byK]
theorem cutK_0 (f : Fr) : cutK f 0 = f := rfl
def CutIs (w : World) (f : Fr) (lv : Value) (e : Ending) (w' : World) : Prop := e = .returned (.tuple #[.agg (frG (cutF f) lv), .bool (cutFB f)]) ∧ Ext w w'
set_option maxRecDepth 100000 in
set_option maxHeartbeats 4000000 in
theorem cutFrag_any (f : Fr) (A : Option Addr) (n c : Nat) (w : World) : Calls Try.prog 29 #[.agg (frG f (.slice A n c))] w (CutIs w f (.slice A n c)) := by
  obtain ⟨lv, hlv⟩ : ∃ v, Value.slice A n c = v := ⟨_, rfl⟩
  have cC := fun x w => hide (ref_cut x w)
  go_enter Try.func29, Try.ntmps29
  go_upto_region 3 with fail
  rw [hlv]
  have HLV := hide hlv
  clear hlv
  have E : Ext w (((w.alloc (.cells (frG f lv) 46)).alloc (.cells (frG ⟨0, 0, 0, 0⟩ (.slice none 0 0)) 46)).alloc (.cells #[.pointer (some ⟨w.heap.size, 0, none⟩), .pointer (some ⟨w.heap.size, 1, none⟩), .pointer (some ⟨w.heap.size, 2, none⟩), .pointer (some ⟨w.heap.size, 3, none⟩)] 95)) := (((Ext.refl _).alloc _).alloc _).alloc _
  have BF : Blk (((w.alloc (.cells (frG f lv) 46)).alloc (.cells (frG ⟨0, 0, 0, 0⟩ (.slice none 0 0)) 46)).alloc (.cells #[.pointer (some ⟨w.heap.size, 0, none⟩), .pointer (some ⟨w.heap.size, 1, none⟩), .pointer (some ⟨w.heap.size, 2, none⟩), .pointer (some ⟨w.heap.size, 3, none⟩)] 95)) w.heap.size 46 (frG f lv) := ((Blk.new _ _ _).alloc _).alloc _
  have BO : Blk (((w.alloc (.cells (frG f lv) 46)).alloc (.cells (frG ⟨0, 0, 0, 0⟩ (.slice none 0 0)) 46)).alloc (.cells #[.pointer (some ⟨w.heap.size, 0, none⟩), .pointer (some ⟨w.heap.size, 1, none⟩), .pointer (some ⟨w.heap.size, 2, none⟩), .pointer (some ⟨w.heap.size, 3, none⟩)] 95)) (w.heap.size + 1) 46 (frG ⟨0, 0, 0, 0⟩ (.slice none 0 0)) := (Blk.new1 _ _ _ _).alloc _
  have BL : Blk (((w.alloc (.cells (frG f lv) 46)).alloc (.cells (frG ⟨0, 0, 0, 0⟩ (.slice none 0 0)) 46)).alloc (.cells #[.pointer (some ⟨w.heap.size, 0, none⟩), .pointer (some ⟨w.heap.size, 1, none⟩), .pointer (some ⟨w.heap.size, 2, none⟩), .pointer (some ⟨w.heap.size, 3, none⟩)] 95)) (w.heap.size + 1 + 1) 95 #[.pointer (some ⟨w.heap.size, 0, none⟩), .pointer (some ⟨w.heap.size, 1, none⟩), .pointer (some ⟨w.heap.size, 2, none⟩), .pointer (some ⟨w.heap.size, 3, none⟩)] := Blk.new2 _ _ _ _ _
  generalize ((w.alloc (.cells (frG f lv) 46)).alloc (.cells (frG ⟨0, 0, 0, 0⟩ (.slice none 0 0)) 46)).alloc (.cells #[.pointer (some ⟨w.heap.size, 0, none⟩), .pointer (some ⟨w.heap.size, 1, none⟩), .pointer (some ⟨w.heap.size, 2, none⟩), .pointer (some ⟨w.heap.size, 3, none⟩)] 95) = w0 at *
  obtain ⟨gF, hgF⟩ : ∃ g, w.heap.size = g := ⟨_, rfl⟩
  rw [hgF] at BF BO BL ⊢
  have hsz : w.heap.size ≤ gF := by omega
  have HG := hide hgF
  clear hgF
  go_wp2_with fail
  go_loopw [4, 6] (fun v4 v6 wr => ∃ k : Nat, v6 = .int .i64 k ∧ k ≤ 4 ∧ v4 = .bool (byK f k) ∧ Ext w wr ∧ Blk wr gF 46 (frG (cutK f k) lv) ∧ Blk wr (gF + 1) 46 (frG ⟨0, 0, 0, 0⟩ (.slice none 0 0)) ∧ Blk wr (gF + 1 + 1) 95 #[.pointer (some ⟨gF, 0, none⟩), .pointer (some ⟨gF, 1, none⟩), .pointer (some ⟨gF, 2, none⟩), .pointer (some ⟨gF, 3, none⟩)]) (fun _ v6 _ => 4 - (intOf v6).toNat)
  case atStart => exact ⟨0, rfl, by omega, rfl, E, BF, BO, BL⟩
  case round =>
    clear E BF BO BL
    obtain ⟨k, rfl, hk, rfl, E, BF, BO, BL⟩ := hrel
    rcases (by omega : k = 0 ∨ k = 1 ∨ k = 2 ∨ k = 3 ∨ k = 4) with rfl | rfl | rfl | rfl | rfl
    · skip
      obtain ⟨bb, hbb⟩ : ∃ b, byK f 0 = b := ⟨_, rfl⟩
      have hb2 := byK_1 f
      rw [hbb] at hb2 ⊢
      obtain ⟨ov, hov⟩ : ∃ b, cutB f.x = b := ⟨_, rfl⟩
      rw [hov] at hb2
      have HB2 := hide hb2
      have HOV := hide hov
      clear hbb hb2 hov
      replace BF : Blk wr gF 46 [.int .i64 f.x, .int .i64 f.y, .int .i64 f.w, .int .i64 f.h, lv].toArray := BF
      have cBL0 := (BL.cell 0).trans (show _ = some (.pointer (some ⟨gF, 0, none⟩)) from rfl)
      have cBLl := BL.lt
      have cBF0 := (BF.cell 0).trans (show _ = some (.int .i64 f.x) from rfl)
      have cBFl := BF.lt
      go_wp2_with fail
      refine (unhide (cC _ _)).mono ?_
      rintro e wz ⟨rfl, rfl⟩
      rw [unhide HOV]
      clear cBF0 cBFl
      have cBF0 := (BF.cell 0).trans (show _ = some (.int .i64 f.x) from rfl)
      have cBFl := BF.lt
      have cfBF0 := BF.frozen 0
      go_upto_region 8 with fail
      clear cBF0 cBFl cfBF0
      have B_ : Blk (wr.setCell ⟨gF, 0, none⟩ (.int .i64 (cutV f.x))) gF 46 [.int .i64 (cutV f.x), .int .i64 f.y, .int .i64 f.w, .int .i64 f.h, lv].toArray := BF.set_ 0 (.int .i64 (cutV f.x))
      have gr : wr.grownBy (wr.setCell ⟨gF, 0, none⟩ (.int .i64 (cutV f.x))) (some gF) := gsCell _ _
      generalize wr.setCell ⟨gF, 0, none⟩ (.int .i64 (cutV f.x)) = w1x at *
      replace E := E.grownBlk gr (by omega)
      replace BO := BO.grownNe gr (by omega)
      replace BL := BL.grownNe gr (by omega)
      replace BF := B_
      clear B_ gr
      clear cBL0 cBLl
      cases bb
      · go_wp2_with fail
        go_roundw
        case rel => exact ⟨1, by go_num, by omega, by rw [← unhide HB2]; rfl, E, BF, BO, BL⟩
        case measure => simp [intOf]
      · go_wp2_with fail
        go_roundw
        case rel => exact ⟨1, by go_num, by omega, by rw [← unhide HB2]; rfl, E, BF, BO, BL⟩
        case measure => simp [intOf]
    · skip
      obtain ⟨bb, hbb⟩ : ∃ b, byK f 1 = b := ⟨_, rfl⟩
      have hb2 := byK_2 f
      rw [hbb] at hb2 ⊢
      obtain ⟨ov, hov⟩ : ∃ b, cutB f.y = b := ⟨_, rfl⟩
      rw [hov] at hb2
      have HB2 := hide hb2
      have HOV := hide hov
      clear hbb hb2 hov
      replace BF : Blk wr gF 46 [.int .i64 (cutV f.x), .int .i64 f.y, .int .i64 f.w, .int .i64 f.h, lv].toArray := BF
      have cBL1 := (BL.cell 1).trans (show _ = some (.pointer (some ⟨gF, 1, none⟩)) from rfl)
      have cBLl := BL.lt
      have cBF1 := (BF.cell 1).trans (show _ = some (.int .i64 f.y) from rfl)
      have cBFl := BF.lt
      go_wp2_with fail
      refine (unhide (cC _ _)).mono ?_
      rintro e wz ⟨rfl, rfl⟩
      rw [unhide HOV]
      clear cBF1 cBFl
      have cBF1 := (BF.cell 1).trans (show _ = some (.int .i64 f.y) from rfl)
      have cBFl := BF.lt
      have cfBF1 := BF.frozen 1
      go_upto_region 8 with fail
      clear cBF1 cBFl cfBF1
      have B_ : Blk (wr.setCell ⟨gF, 1, none⟩ (.int .i64 (cutV f.y))) gF 46 [.int .i64 (cutV f.x), .int .i64 (cutV f.y), .int .i64 f.w, .int .i64 f.h, lv].toArray := BF.set_ 1 (.int .i64 (cutV f.y))
      have gr : wr.grownBy (wr.setCell ⟨gF, 1, none⟩ (.int .i64 (cutV f.y))) (some gF) := gsCell _ _
      generalize wr.setCell ⟨gF, 1, none⟩ (.int .i64 (cutV f.y)) = w1x at *
      replace E := E.grownBlk gr (by omega)
      replace BO := BO.grownNe gr (by omega)
      replace BL := BL.grownNe gr (by omega)
      replace BF := B_
      clear B_ gr
      clear cBL1 cBLl
      cases bb
      · go_wp2_with fail
        go_roundw
        case rel => exact ⟨2, by go_num, by omega, by rw [← unhide HB2]; rfl, E, BF, BO, BL⟩
        case measure => simp [intOf]
      · go_wp2_with fail
        go_roundw
        case rel => exact ⟨2, by go_num, by omega, by rw [← unhide HB2]; rfl, E, BF, BO, BL⟩
        case measure => simp [intOf]
    · skip
      obtain ⟨bb, hbb⟩ : ∃ b, byK f 2 = b := ⟨_, rfl⟩
      have hb2 := byK_3 f
      rw [hbb] at hb2 ⊢
      obtain ⟨ov, hov⟩ : ∃ b, cutB f.w = b := ⟨_, rfl⟩
      rw [hov] at hb2
      have HB2 := hide hb2
      have HOV := hide hov
      clear hbb hb2 hov
      replace BF : Blk wr gF 46 [.int .i64 (cutV f.x), .int .i64 (cutV f.y), .int .i64 f.w, .int .i64 f.h, lv].toArray := BF
      have cBL2 := (BL.cell 2).trans (show _ = some (.pointer (some ⟨gF, 2, none⟩)) from rfl)
      have cBLl := BL.lt
      have cBF2 := (BF.cell 2).trans (show _ = some (.int .i64 f.w) from rfl)
      have cBFl := BF.lt
      go_wp2_with fail
      refine (unhide (cC _ _)).mono ?_
      rintro e wz ⟨rfl, rfl⟩
      rw [unhide HOV]
      clear cBF2 cBFl
      have cBF2 := (BF.cell 2).trans (show _ = some (.int .i64 f.w) from rfl)
      have cBFl := BF.lt
      have cfBF2 := BF.frozen 2
      go_upto_region 8 with fail
      clear cBF2 cBFl cfBF2
      have B_ : Blk (wr.setCell ⟨gF, 2, none⟩ (.int .i64 (cutV f.w))) gF 46 [.int .i64 (cutV f.x), .int .i64 (cutV f.y), .int .i64 (cutV f.w), .int .i64 f.h, lv].toArray := BF.set_ 2 (.int .i64 (cutV f.w))
      have gr : wr.grownBy (wr.setCell ⟨gF, 2, none⟩ (.int .i64 (cutV f.w))) (some gF) := gsCell _ _
      generalize wr.setCell ⟨gF, 2, none⟩ (.int .i64 (cutV f.w)) = w1x at *
      replace E := E.grownBlk gr (by omega)
      replace BO := BO.grownNe gr (by omega)
      replace BL := BL.grownNe gr (by omega)
      replace BF := B_
      clear B_ gr
      clear cBL2 cBLl
      cases bb
      · go_wp2_with fail
        go_roundw
        case rel => exact ⟨3, by go_num, by omega, by rw [← unhide HB2]; rfl, E, BF, BO, BL⟩
        case measure => simp [intOf]
      · go_wp2_with fail
        go_roundw
        case rel => exact ⟨3, by go_num, by omega, by rw [← unhide HB2]; rfl, E, BF, BO, BL⟩
        case measure => simp [intOf]
    · skip
      obtain ⟨bb, hbb⟩ : ∃ b, byK f 3 = b := ⟨_, rfl⟩
      have hb2 := byK_4 f
      rw [hbb] at hb2 ⊢
      obtain ⟨ov, hov⟩ : ∃ b, cutB f.h = b := ⟨_, rfl⟩
      rw [hov] at hb2
      have HB2 := hide hb2
      have HOV := hide hov
      clear hbb hb2 hov
      replace BF : Blk wr gF 46 [.int .i64 (cutV f.x), .int .i64 (cutV f.y), .int .i64 (cutV f.w), .int .i64 f.h, lv].toArray := BF
      have cBL3 := (BL.cell 3).trans (show _ = some (.pointer (some ⟨gF, 3, none⟩)) from rfl)
      have cBLl := BL.lt
      have cBF3 := (BF.cell 3).trans (show _ = some (.int .i64 f.h) from rfl)
      have cBFl := BF.lt
      go_wp2_with fail
      refine (unhide (cC _ _)).mono ?_
      rintro e wz ⟨rfl, rfl⟩
      rw [unhide HOV]
      clear cBF3 cBFl
      have cBF3 := (BF.cell 3).trans (show _ = some (.int .i64 f.h) from rfl)
      have cBFl := BF.lt
      have cfBF3 := BF.frozen 3
      go_upto_region 8 with fail
      clear cBF3 cBFl cfBF3
      have B_ : Blk (wr.setCell ⟨gF, 3, none⟩ (.int .i64 (cutV f.h))) gF 46 [.int .i64 (cutV f.x), .int .i64 (cutV f.y), .int .i64 (cutV f.w), .int .i64 (cutV f.h), lv].toArray := BF.set_ 3 (.int .i64 (cutV f.h))
      have gr : wr.grownBy (wr.setCell ⟨gF, 3, none⟩ (.int .i64 (cutV f.h))) (some gF) := gsCell _ _
      generalize wr.setCell ⟨gF, 3, none⟩ (.int .i64 (cutV f.h)) = w1x at *
      replace E := E.grownBlk gr (by omega)
      replace BO := BO.grownNe gr (by omega)
      replace BL := BL.grownNe gr (by omega)
      replace BF := B_
      clear B_ gr
      clear cBL3 cBLl
      cases bb
      · go_wp2_with fail
        go_roundw
        case rel => exact ⟨4, by go_num, by omega, by rw [← unhide HB2]; rfl, E, BF, BO, BL⟩
        case measure => simp [intOf]
      · go_wp2_with fail
        go_roundw
        case rel => exact ⟨4, by go_num, by omega, by rw [← unhide HB2]; rfl, E, BF, BO, BL⟩
        case measure => simp [intOf]
    · skip
      rw [byK_all]
      replace BF : Blk wr gF 46 (frG (cutF f) lv) := BF
      go_upto_region 9 with fail
      go_step
      refine wpList_load_blk rfl 46 (.tmp 1) rfl gF rfl 46 (frG (cutF f) lv) _ BF Try.underlying46 rfl (size_frG _ _) ?_
      simp only [Act.put, List.setIfInBounds_toArray, List.set_cons_succ, List.set_cons_zero]
      iterate 3 go_step
      refine wpList_store_blk rfl 46 (.tmp 2) (.tmp 40) rfl (gF + 1) rfl (frG (cutF f) lv) rfl 46 (frG ⟨0, 0, 0, 0⟩ (.slice none 0 0)) BO (size_frG _ _) rfl (by rw [← unhide HLV]; kernel_rfl) ?_
      intro w1 B1 gr zs
      simp only [Act.put]
      replace E := E.grownBlk gr (by omega)
      go_wp2_with fail
      refine bodyPost_ret (results_cell_tmp rfl _ _ (gF + 1) 46 _ _ rfl B1 Try.underlying46 rfl (by kernel_rfl)) rfl ⟨?_, E⟩
      rw [unhide HLV]
      rfl
end Go.Proofs.Ytkkkdjkjggofkaa
