/- Layer 20: the parts of the document's answer (walk). -/
import Derived.Test.YtkkkdjkjggofkaaCqA
import Derived.Test.YtkkkdjkjggofkaaGs
import Derived.Test.YtkkkdjkjggofkaaCsI
namespace Go.Proofs.Ytkkkdjkjggofkaa
open Go.RowKit
theorem size_us (u : Us) : (Try.prog.info? 48).map (·.size) = some (usC u).length := by kernel_rfl
theorem size_us3 (u : Us) : (Try.prog.info? 48).map (·.size) = some #[Value.int .i64 u.w, .int .i64 u.l, .int .i64 u.r].size := by kernel_rfl
theorem size_i1 : (Try.prog.info? 2).map (·.size) = some 1 := by kernel_rfl
theorem small_ok {k b N : Nat} (hk : k < N) (hN : N ≤ 1000) (hb : b ≤ 100000) : (k + 1) * b ≤ 140737488355328 := by
  have := Nat.mul_le_mul (show k + 1 ≤ 1000 by omega) hb
  omega
set_option maxRecDepth 100000 in
set_option maxHeartbeats 16000000 in
theorem parts_any (c : Int) (ak au ah : Option Addr) (n ck nu cu nh ch : Nat) (ks : List Sty) (us : List Us) (hs : List Int) (w : World) (rk : Rd w 43 ak n (recs styC ks)) (ru : Rd w 3 au nu (recs usC us)) (rh : Rd w 1 ah nh (ints hs))
    (hn : n ≤ 300) (hc : c ≤ 1099511627776) (hok : ∀ s ∈ ks, StyOk s) (hub : ∀ u ∈ us, 0 ≤ u.w ∧ u.w ≤ 1099511627776) :
    Calls Try.prog 26 #[.int .i64 c, .slice ak n ck, .slice au nu cu, .slice ah nh ch] w (PartsIs w n (partL c ks us hs n)) := by
  have hkl : ks.length = n := by have := rk.len; rw [recs_len styC_len] at this; omega
  have hul : us.length = nu := by have := ru.len; rw [recs_len usC_len] at this; omega
  have hhl : hs.length = nh := by have := rh.len; rw [ints_len] at this; omega
  obtain ⟨i5, hi5, hz5, hs5, hb5⟩ := info_bnd pr_info
  have H5 := hide (And.intro hi5 (And.intro hz5 (And.intro hs5 hb5)))
  clear hi5 hz5 hs5 hb5
  have HOK := hide hok
  have HUB := hide hub
  have HKL := hide hkl
  have HUL := hide hul
  have HHL := hide hhl
  have HN := hide hn
  clear hkl hul hhl hok hub
  go_enter Try.func26, Try.ntmps26
  go_wp2_with fail
  go_loopw [9, 10] (fun v9 v10 wr => ∃ (k : Nat) (B : Option Addr) (d : Nat), v10 = .int .i64 k ∧ k ≤ n ∧ v9 = .slice B k d ∧ wr.ownsRow w.heap.size 77 7 (.slice B k d) k (recs prC (partL c ks us hs k)) ∧ Ext w wr) (fun _ v10 _ => n - (intOf v10).toNat)
  case atStart => exact ⟨0, none, 0, rfl, by omega, rfl, ⟨rfl, .inl ⟨rfl, rfl⟩⟩, Ext.refl _⟩
  case round =>
    obtain ⟨k, B, d, rfl, hk, rfl, O, E⟩ := hrel
    by_cases hkn : k < n
    · obtain ⟨t, ht⟩ : ∃ t, ks[k]? = some t := ⟨_, List.getElem?_eq_getElem (by rw [unhide HKL]; exact hkn)⟩
      have hok := (unhide HOK) t (List.mem_of_getElem? ht)
      obtain ⟨b, off, rfl, hbk, hmid⟩ := rk.rec_ styC_len ht (by omega)
      have fr := fun w => hide (ref_frame t hok.thin w)
      have r0 := fun w => hide (ref_resolve t.m0 c hok.p0 hc w)
      have r2 := fun w => hide (ref_resolve t.m2 c hok.p2 hc w)
      simp only [Ln.v] at r0 r2
      have hfb : 0 ≤ t.b3 + t.b1 + t.p3 + t.p1 ∧ t.b3 + t.b1 + t.p3 + t.p1 ≤ 4398046511104 := by
        obtain ⟨a1, a2, a3, a4, a5, a6, a7, a8⟩ := hok.thin
        omega
      have HMID := hide hmid
      have hD : ks.getD k zsty = t := by rw [List.getD_eq_getElem?_getD, ht]; rfl
      have hkI : (0 : Int) ≤ (k : Int) ∧ (k : Int) < (n : Int) ∧ (n : Int) ≤ 300 := by omega
      obtain ⟨fa, hfa⟩ : ∃ x, t.b3 + t.b1 + t.p3 + t.p1 = x := ⟨_, rfl⟩
      rw [hfa] at fr hfb
      obtain ⟨x0, hx0⟩ : ∃ x, resV t.m0 c = x := ⟨_, rfl⟩
      obtain ⟨x2, hx2⟩ : ∃ x, resV t.m2 c = x := ⟨_, rfl⟩
      rw [hx0] at r0
      rw [hx2] at r2
      have HD := hide (And.intro hD (And.intro hfa (And.intro hx0 hx2)))
      clear hD hfa hx0 hx2 ht hmid hok
      go_upto_region 5 with fail
      go_step
      refine wpList_alloc_var rfl 77 rfl zpr.cells zero_pr ?_
      intro w1x P hx zx
      simp only [Act.put, List.setIfInBounds_toArray, List.set_cons_succ, List.set_cons_zero]
      have pPO := own_under O (Nat.le_refl _)
      have zPE := E.size
      generalize wr.heap.size = gP at *
      clear zx
      replace E := E.trans hx
      replace O := own_ext O hx
      clear hx
      by_cases hku : k < nu
      · skip
        obtain ⟨⟨uw, ul, ur⟩, hu⟩ : ∃ t, us[k]? = some t := ⟨_, List.getElem?_eq_getElem (by rw [unhide HUL]; exact hku)⟩
        have hub := (unhide HUB) _ (List.mem_of_getElem? hu)
        simp only at hub
        obtain ⟨bu, ou, rfl, hbu, hmu⟩ := ru.rec_ usC_len hu (by omega)
        have HMU := hide hmu
        have HU := hide (show us.getD k ⟨0, 0, 0⟩ = ⟨uw, ul, ur⟩ by rw [List.getD_eq_getElem?_getD, hu]; rfl)
        clear hmu hu
        have hkuI : (k : Int) < (nu : Int) := by omega
        go_upto_region 7 with fail
        iterate 10 go_step
        have hm : w1x.rangeAt bu (ou + k * 3) (usC ⟨uw, ul, ur⟩) := fun j v hv => (E.cells.1 bu _ hbu).trans ((unhide HMU) j v hv)
        refine wpList_load_midg 48 (.tmp 26) rfl bu (ou + k * 3) rfl rfl (usC ⟨uw, ul, ur⟩) _ hm Try.underlying48 rfl (size_us _) ?_
        simp only [Act.put, List.setIfInBounds_toArray, List.set_cons_succ, List.set_cons_zero]
        clear hm
        iterate 3 go_step
        refine wpList_store_in rfl 48 (.tmp 28) (.tmp 27) rfl gP 3 rfl #[.int .i64 uw, .int .i64 ul, .int .i64 ur] rfl 77 [.int .i64 0, .int .i64 0, .int .i64 0, .int .i64 0, .int .i64 0, .int .i64 0, .int .i64 0] P (by simp) (size_us3 ⟨uw, ul, ur⟩) (by kernel_rfl) [.int .i64 0, .int .i64 0, .int .i64 0, .int .i64 uw, .int .i64 ul, .int .i64 ur, .int .i64 0] rfl ?_
        intro w2x B_ gr zx
        simp only [Act.put]
        replace E := E.grownBlk gr (by omega)
        replace O := own_grown O gr (by first | assumption | exact own_apart O (by omega))
        replace P := B_
        clear B_ gr zx
        by_cases hkh : k < nh
        · skip
          obtain ⟨z, hz⟩ : ∃ t, hs[k]? = some t := ⟨_, List.getElem?_eq_getElem (by rw [unhide HHL]; exact hkh)⟩
          obtain ⟨bz, oz, rfl, hbz, hmz⟩ := rh.intIn hz
          have hkhI : (k : Int) < (nh : Int) := by omega
          have HZ := hide (show hs.getD k 0 = z by rw [List.getD_eq_getElem?_getD, hz]; rfl)
          clear hz
          have d0 : w2x.cell? ⟨bz, oz + k, none⟩ = _ := (E.cells.1 bz _ hbz).trans hmz
          have lz : bz < w2x.heap.size := Nat.lt_of_lt_of_le hbz E.size
          have cP6 := (P.cell 6).trans (show _ = some (.int .i64 0) from rfl)
          have cPl := P.lt
          have cfP6 := P.frozen 6
          go_upto_region 10 with fail
          clear cP6 cPl cfP6
          have B_ : Blk (w2x.setCell ⟨gP, 6, none⟩ (.int .i64 z)) gP 77 [.int .i64 0, .int .i64 0, .int .i64 0, .int .i64 uw, .int .i64 ul, .int .i64 ur, .int .i64 z].toArray := P.set_ 6 (.int .i64 z)
          have gr : w2x.grownBy (w2x.setCell ⟨gP, 6, none⟩ (.int .i64 z)) (some gP) := gsCell _ _
          generalize w2x.setCell ⟨gP, 6, none⟩ (.int .i64 z) = w3x at *
          replace E := E.grownBlk gr (by omega)
          replace O := own_grown O gr (by first | assumption | exact own_apart O (by omega))
          replace P := B_
          clear B_ gr
          clear d0 lz
          go_upto_region 10 with fail
          iterate 10 go_step
          have hm : w3x.rangeAt b (off + k * 43) (styC t) := fun j v hv => (E.cells.1 b _ hbk).trans ((unhide HMID) j v hv)
          refine wpList_load_sty (.tmp 41) rfl b (off + k * 43) rfl rfl t hm ?_
          simp only [Act.put, List.setIfInBounds_toArray, List.set_cons_succ, List.set_cons_zero]
          clear hm
          go_wp2_with fail
          with_reducible refine (unhide (fr _)).mono ?_
          rintro e w4x ⟨rfl, hx⟩
          replace E := E.trans hx
          replace P := P.ext hx
          replace O := own_ext O hx
          clear hx
          go_upto_region 11 with fail
          have cP0 := (P.cell 0).trans (show _ = some (.int .i64 0) from rfl)
          have cP3 := (P.cell 3).trans (show _ = some (.int .i64 uw) from rfl)
          have cPl := P.lt
          have cfP0 := P.frozen 0
          go_upto_region 12 with fail
          clear cP0 cP3 cPl cfP0
          have B_ : Blk (w4x.setCell ⟨gP, 0, none⟩ (.int .i64 (uw + fa))) gP 77 [.int .i64 (uw + fa), .int .i64 0, .int .i64 0, .int .i64 uw, .int .i64 ul, .int .i64 ur, .int .i64 z].toArray := P.set_ 0 (.int .i64 (uw + fa))
          have gr : w4x.grownBy (w4x.setCell ⟨gP, 0, none⟩ (.int .i64 (uw + fa))) (some gP) := gsCell _ _
          generalize w4x.setCell ⟨gP, 0, none⟩ (.int .i64 (uw + fa)) = w5x at *
          replace E := E.grownBlk gr (by omega)
          replace O := own_grown O gr (by first | assumption | exact own_apart O (by omega))
          replace P := B_
          clear B_ gr
          have d16 : w5x.cell? ⟨b, off + k * 43 + 16, none⟩ = _ := (E.cells.1 b _ hbk).trans ((unhide HMID) 16 _ (show (styC t)[16]? = some (.int .u8 t.m0.k) from rfl))
          have d17 : w5x.cell? ⟨b, off + k * 43 + 17, none⟩ = _ := (E.cells.1 b _ hbk).trans ((unhide HMID) 17 _ (show (styC t)[17]? = some (.int .i64 t.m0.n) from rfl))
          have lb : b < w5x.heap.size := Nat.lt_of_lt_of_le hbk E.size
          go_wp2_with fail
          clear d16 d17 lb
          with_reducible refine (unhide (r0 _)).mono ?_
          rintro e w6x ⟨rfl, hx⟩
          replace E := E.trans hx
          replace P := P.ext hx
          replace O := own_ext O hx
          clear hx
          have cP1 := (P.cell 1).trans (show _ = some (.int .i64 0) from rfl)
          have cPl := P.lt
          have cfP1 := P.frozen 1
          go_upto_region 13 with fail
          clear cP1 cPl cfP1
          have B_ : Blk (w6x.setCell ⟨gP, 1, none⟩ (.int .i64 x0)) gP 77 [.int .i64 (uw + fa), .int .i64 x0, .int .i64 0, .int .i64 uw, .int .i64 ul, .int .i64 ur, .int .i64 z].toArray := P.set_ 1 (.int .i64 x0)
          have gr : w6x.grownBy (w6x.setCell ⟨gP, 1, none⟩ (.int .i64 x0)) (some gP) := gsCell _ _
          generalize w6x.setCell ⟨gP, 1, none⟩ (.int .i64 x0) = w7x at *
          replace E := E.grownBlk gr (by omega)
          replace O := own_grown O gr (by first | assumption | exact own_apart O (by omega))
          replace P := B_
          clear B_ gr
          have d20 : w7x.cell? ⟨b, off + k * 43 + 20, none⟩ = _ := (E.cells.1 b _ hbk).trans ((unhide HMID) 20 _ (show (styC t)[20]? = some (.int .u8 t.m2.k) from rfl))
          have d21 : w7x.cell? ⟨b, off + k * 43 + 21, none⟩ = _ := (E.cells.1 b _ hbk).trans ((unhide HMID) 21 _ (show (styC t)[21]? = some (.int .i64 t.m2.n) from rfl))
          have lb : b < w7x.heap.size := Nat.lt_of_lt_of_le hbk E.size
          go_wp2_with fail
          clear d20 d21 lb
          with_reducible refine (unhide (r2 _)).mono ?_
          rintro e w8x ⟨rfl, hx⟩
          replace E := E.trans hx
          replace P := P.ext hx
          replace O := own_ext O hx
          clear hx
          have cP2 := (P.cell 2).trans (show _ = some (.int .i64 0) from rfl)
          have cPl := P.lt
          have cfP2 := P.frozen 2
          go_upto_region 14 with fail
          clear cP2 cPl cfP2
          have B_ : Blk (w8x.setCell ⟨gP, 2, none⟩ (.int .i64 x2)) gP 77 [.int .i64 (uw + fa), .int .i64 x0, .int .i64 x2, .int .i64 uw, .int .i64 ul, .int .i64 ur, .int .i64 z].toArray := P.set_ 2 (.int .i64 x2)
          have gr : w8x.grownBy (w8x.setCell ⟨gP, 2, none⟩ (.int .i64 x2)) (some gP) := gsCell _ _
          generalize w8x.setCell ⟨gP, 2, none⟩ (.int .i64 x2) = w9x at *
          replace E := E.grownBlk gr (by omega)
          replace O := own_grown O gr (by first | assumption | exact own_apart O (by omega))
          replace P := B_
          clear B_ gr
          have HP := hide (show mP c ks us hs k = ⟨uw + fa, x0, x2, uw, ul, ur, z⟩ by
            obtain ⟨e1, e2, e3, e4⟩ := unhide HD
            simp only [mP, e1, unhide HU, unhide HZ, frameA]
            rw [e2, e3, e4])
          go_upto_region 14 with fail
          iterate 4 go_step
          refine wpList_load_blk rfl 77 (.tmp 11) rfl gP rfl 77 (Pr.cells ⟨uw + fa, x0, x2, uw, ul, ur, z⟩) _ P Try.underlying77 rfl (size_pr ⟨uw + fa, x0, x2, uw, ul, ur, z⟩) ?_
          simp only [Act.put, List.setIfInBounds_toArray, List.set_cons_succ, List.set_cons_zero]
          refine Go.Great.wpList_buildSliceTo rfl 74 77 1 _ rfl _ rfl _ rfl Try.underlying74 (prC ⟨uw + fa, x0, x2, uw, ul, ur, z⟩).toArray (by kernel_rfl) ?_
          simp only [Act.put, List.setIfInBounds_toArray, List.set_cons_succ, List.set_cons_zero]
          have hx : Ext w9x (w9x.alloc (.cells (prC ⟨uw + fa, x0, x2, uw, ul, ur, z⟩).toArray 77)) := (Ext.refl _).alloc _
          have R5 : Rd (w9x.alloc (.cells (prC ⟨uw + fa, x0, x2, uw, ul, ur, z⟩).toArray 77)) 7 (some ⟨w9x.heap.size, 0, none⟩) 1 (prC ⟨uw + fa, x0, x2, uw, ul, ur, z⟩) := (Blk.new w9x 77 (prC ⟨uw + fa, x0, x2, uw, ul, ur, z⟩).toArray).rdk (n := 1) (k := 7) rfl
          generalize w9x.alloc (.cells (prC ⟨uw + fa, x0, x2, uw, ul, ur, z⟩).toArray 77) = w10x at *
          generalize w9x.heap.size = gp at *
          replace E := E.trans hx
          replace P := P.ext hx
          replace O := own_ext O hx
          clear hx
          refine wpList_append_rd rfl (.tmp 76) (.tmp 78) _ rfl w.heap.size 77 _ _ 7 _ Try.underlying74 (unhide H5).1 (unhide H5).2.1 (unhide H5).2.2.1 rfl rfl (by omega) _ k (recs prC (partL c ks us hs k)) rfl O _ 1 1 (prC ⟨uw + fa, x0, x2, uw, ul, ur, z⟩) rfl R5 (prC_one _) (by simp only [maxLen]; omega) (small_ok (show k < n from hkn) (by have := unhide HN; omega) (unhide H5).2.2.2) E.size ?_
          intro A12x c13x w11x own5 g5 at5
          simp only [Act.put, List.setIfInBounds_toArray, List.set_cons_succ, List.set_cons_zero]
          replace E := E.grown g5 (fun q e => by have := (O.lt q e).1; omega)
          replace P := P.grownOwn g5 (by first | assumption | exact own_apart O (by omega))
          replace O : w11x.ownsRow w.heap.size 77 7 (.slice A12x (k + 1) c13x) (k + 1) (recs prC (partL c ks us hs (k + 1))) := by rw [partL_succ, recs_append, unhide HP, recs_one]; exact own5
          clear own5 g5 at5 R5
          clear P HP
          go_wp2_with fail
          go_roundw
          case rel => exact ⟨k + 1, A12x, c13x, by go_num, by omega, rfl, O, E⟩
          case measure => simp [intOf]; omega
        · skip
          have HZ := hide (show hs.getD k 0 = 0 by rw [List.getD_eq_getElem?_getD, List.getElem?_eq_none (by rw [unhide HHL]; omega)]; rfl)
          have hkhI : ¬ (k : Int) < (nh : Int) := by omega
          go_upto_region 10 with fail
          iterate 10 go_step
          have hm : w2x.rangeAt b (off + k * 43) (styC t) := fun j v hv => (E.cells.1 b _ hbk).trans ((unhide HMID) j v hv)
          refine wpList_load_sty (.tmp 41) rfl b (off + k * 43) rfl rfl t hm ?_
          simp only [Act.put, List.setIfInBounds_toArray, List.set_cons_succ, List.set_cons_zero]
          clear hm
          go_wp2_with fail
          with_reducible refine (unhide (fr _)).mono ?_
          rintro e w3x ⟨rfl, hx⟩
          replace E := E.trans hx
          replace P := P.ext hx
          replace O := own_ext O hx
          clear hx
          go_upto_region 11 with fail
          have cP0 := (P.cell 0).trans (show _ = some (.int .i64 0) from rfl)
          have cP3 := (P.cell 3).trans (show _ = some (.int .i64 uw) from rfl)
          have cPl := P.lt
          have cfP0 := P.frozen 0
          go_upto_region 12 with fail
          clear cP0 cP3 cPl cfP0
          have B_ : Blk (w3x.setCell ⟨gP, 0, none⟩ (.int .i64 (uw + fa))) gP 77 [.int .i64 (uw + fa), .int .i64 0, .int .i64 0, .int .i64 uw, .int .i64 ul, .int .i64 ur, .int .i64 0].toArray := P.set_ 0 (.int .i64 (uw + fa))
          have gr : w3x.grownBy (w3x.setCell ⟨gP, 0, none⟩ (.int .i64 (uw + fa))) (some gP) := gsCell _ _
          generalize w3x.setCell ⟨gP, 0, none⟩ (.int .i64 (uw + fa)) = w4x at *
          replace E := E.grownBlk gr (by omega)
          replace O := own_grown O gr (by first | assumption | exact own_apart O (by omega))
          replace P := B_
          clear B_ gr
          have d16 : w4x.cell? ⟨b, off + k * 43 + 16, none⟩ = _ := (E.cells.1 b _ hbk).trans ((unhide HMID) 16 _ (show (styC t)[16]? = some (.int .u8 t.m0.k) from rfl))
          have d17 : w4x.cell? ⟨b, off + k * 43 + 17, none⟩ = _ := (E.cells.1 b _ hbk).trans ((unhide HMID) 17 _ (show (styC t)[17]? = some (.int .i64 t.m0.n) from rfl))
          have lb : b < w4x.heap.size := Nat.lt_of_lt_of_le hbk E.size
          go_wp2_with fail
          clear d16 d17 lb
          with_reducible refine (unhide (r0 _)).mono ?_
          rintro e w5x ⟨rfl, hx⟩
          replace E := E.trans hx
          replace P := P.ext hx
          replace O := own_ext O hx
          clear hx
          have cP1 := (P.cell 1).trans (show _ = some (.int .i64 0) from rfl)
          have cPl := P.lt
          have cfP1 := P.frozen 1
          go_upto_region 13 with fail
          clear cP1 cPl cfP1
          have B_ : Blk (w5x.setCell ⟨gP, 1, none⟩ (.int .i64 x0)) gP 77 [.int .i64 (uw + fa), .int .i64 x0, .int .i64 0, .int .i64 uw, .int .i64 ul, .int .i64 ur, .int .i64 0].toArray := P.set_ 1 (.int .i64 x0)
          have gr : w5x.grownBy (w5x.setCell ⟨gP, 1, none⟩ (.int .i64 x0)) (some gP) := gsCell _ _
          generalize w5x.setCell ⟨gP, 1, none⟩ (.int .i64 x0) = w6x at *
          replace E := E.grownBlk gr (by omega)
          replace O := own_grown O gr (by first | assumption | exact own_apart O (by omega))
          replace P := B_
          clear B_ gr
          have d20 : w6x.cell? ⟨b, off + k * 43 + 20, none⟩ = _ := (E.cells.1 b _ hbk).trans ((unhide HMID) 20 _ (show (styC t)[20]? = some (.int .u8 t.m2.k) from rfl))
          have d21 : w6x.cell? ⟨b, off + k * 43 + 21, none⟩ = _ := (E.cells.1 b _ hbk).trans ((unhide HMID) 21 _ (show (styC t)[21]? = some (.int .i64 t.m2.n) from rfl))
          have lb : b < w6x.heap.size := Nat.lt_of_lt_of_le hbk E.size
          go_wp2_with fail
          clear d20 d21 lb
          with_reducible refine (unhide (r2 _)).mono ?_
          rintro e w7x ⟨rfl, hx⟩
          replace E := E.trans hx
          replace P := P.ext hx
          replace O := own_ext O hx
          clear hx
          have cP2 := (P.cell 2).trans (show _ = some (.int .i64 0) from rfl)
          have cPl := P.lt
          have cfP2 := P.frozen 2
          go_upto_region 14 with fail
          clear cP2 cPl cfP2
          have B_ : Blk (w7x.setCell ⟨gP, 2, none⟩ (.int .i64 x2)) gP 77 [.int .i64 (uw + fa), .int .i64 x0, .int .i64 x2, .int .i64 uw, .int .i64 ul, .int .i64 ur, .int .i64 0].toArray := P.set_ 2 (.int .i64 x2)
          have gr : w7x.grownBy (w7x.setCell ⟨gP, 2, none⟩ (.int .i64 x2)) (some gP) := gsCell _ _
          generalize w7x.setCell ⟨gP, 2, none⟩ (.int .i64 x2) = w8x at *
          replace E := E.grownBlk gr (by omega)
          replace O := own_grown O gr (by first | assumption | exact own_apart O (by omega))
          replace P := B_
          clear B_ gr
          have HP := hide (show mP c ks us hs k = ⟨uw + fa, x0, x2, uw, ul, ur, 0⟩ by
            obtain ⟨e1, e2, e3, e4⟩ := unhide HD
            simp only [mP, e1, unhide HU, unhide HZ, frameA]
            rw [e2, e3, e4])
          go_upto_region 14 with fail
          iterate 4 go_step
          refine wpList_load_blk rfl 77 (.tmp 11) rfl gP rfl 77 (Pr.cells ⟨uw + fa, x0, x2, uw, ul, ur, 0⟩) _ P Try.underlying77 rfl (size_pr ⟨uw + fa, x0, x2, uw, ul, ur, 0⟩) ?_
          simp only [Act.put, List.setIfInBounds_toArray, List.set_cons_succ, List.set_cons_zero]
          refine Go.Great.wpList_buildSliceTo rfl 74 77 1 _ rfl _ rfl _ rfl Try.underlying74 (prC ⟨uw + fa, x0, x2, uw, ul, ur, 0⟩).toArray (by kernel_rfl) ?_
          simp only [Act.put, List.setIfInBounds_toArray, List.set_cons_succ, List.set_cons_zero]
          have hx : Ext w8x (w8x.alloc (.cells (prC ⟨uw + fa, x0, x2, uw, ul, ur, 0⟩).toArray 77)) := (Ext.refl _).alloc _
          have R5 : Rd (w8x.alloc (.cells (prC ⟨uw + fa, x0, x2, uw, ul, ur, 0⟩).toArray 77)) 7 (some ⟨w8x.heap.size, 0, none⟩) 1 (prC ⟨uw + fa, x0, x2, uw, ul, ur, 0⟩) := (Blk.new w8x 77 (prC ⟨uw + fa, x0, x2, uw, ul, ur, 0⟩).toArray).rdk (n := 1) (k := 7) rfl
          generalize w8x.alloc (.cells (prC ⟨uw + fa, x0, x2, uw, ul, ur, 0⟩).toArray 77) = w9x at *
          generalize w8x.heap.size = gp at *
          replace E := E.trans hx
          replace P := P.ext hx
          replace O := own_ext O hx
          clear hx
          refine wpList_append_rd rfl (.tmp 76) (.tmp 78) _ rfl w.heap.size 77 _ _ 7 _ Try.underlying74 (unhide H5).1 (unhide H5).2.1 (unhide H5).2.2.1 rfl rfl (by omega) _ k (recs prC (partL c ks us hs k)) rfl O _ 1 1 (prC ⟨uw + fa, x0, x2, uw, ul, ur, 0⟩) rfl R5 (prC_one _) (by simp only [maxLen]; omega) (small_ok (show k < n from hkn) (by have := unhide HN; omega) (unhide H5).2.2.2) E.size ?_
          intro A11x c12x w10x own5 g5 at5
          simp only [Act.put, List.setIfInBounds_toArray, List.set_cons_succ, List.set_cons_zero]
          replace E := E.grown g5 (fun q e => by have := (O.lt q e).1; omega)
          replace P := P.grownOwn g5 (by first | assumption | exact own_apart O (by omega))
          replace O : w10x.ownsRow w.heap.size 77 7 (.slice A11x (k + 1) c12x) (k + 1) (recs prC (partL c ks us hs (k + 1))) := by rw [partL_succ, recs_append, unhide HP, recs_one]; exact own5
          clear own5 g5 at5 R5
          clear P HP
          go_wp2_with fail
          go_roundw
          case rel => exact ⟨k + 1, A11x, c12x, by go_num, by omega, rfl, O, E⟩
          case measure => simp [intOf]; omega
      · skip
        have HU := hide (show us.getD k ⟨0, 0, 0⟩ = ⟨0, 0, 0⟩ by rw [List.getD_eq_getElem?_getD, List.getElem?_eq_none (by rw [unhide HUL]; omega)]; rfl)
        have hkuI : ¬ (k : Int) < (nu : Int) := by omega
        go_upto_region 8 with fail
        by_cases hkh : k < nh
        · skip
          obtain ⟨z, hz⟩ : ∃ t, hs[k]? = some t := ⟨_, List.getElem?_eq_getElem (by rw [unhide HHL]; exact hkh)⟩
          obtain ⟨bz, oz, rfl, hbz, hmz⟩ := rh.intIn hz
          have hkhI : (k : Int) < (nh : Int) := by omega
          have HZ := hide (show hs.getD k 0 = z by rw [List.getD_eq_getElem?_getD, hz]; rfl)
          clear hz
          have d0 : w1x.cell? ⟨bz, oz + k, none⟩ = _ := (E.cells.1 bz _ hbz).trans hmz
          have lz : bz < w1x.heap.size := Nat.lt_of_lt_of_le hbz E.size
          have cP6 := (P.cell 6).trans (show _ = some (.int .i64 0) from rfl)
          have cPl := P.lt
          have cfP6 := P.frozen 6
          go_upto_region 10 with fail
          clear cP6 cPl cfP6
          have B_ : Blk (w1x.setCell ⟨gP, 6, none⟩ (.int .i64 z)) gP 77 [.int .i64 0, .int .i64 0, .int .i64 0, .int .i64 0, .int .i64 0, .int .i64 0, .int .i64 z].toArray := P.set_ 6 (.int .i64 z)
          have gr : w1x.grownBy (w1x.setCell ⟨gP, 6, none⟩ (.int .i64 z)) (some gP) := gsCell _ _
          generalize w1x.setCell ⟨gP, 6, none⟩ (.int .i64 z) = w2x at *
          replace E := E.grownBlk gr (by omega)
          replace O := own_grown O gr (by first | assumption | exact own_apart O (by omega))
          replace P := B_
          clear B_ gr
          clear d0 lz
          go_upto_region 10 with fail
          iterate 10 go_step
          have hm : w2x.rangeAt b (off + k * 43) (styC t) := fun j v hv => (E.cells.1 b _ hbk).trans ((unhide HMID) j v hv)
          refine wpList_load_sty (.tmp 41) rfl b (off + k * 43) rfl rfl t hm ?_
          simp only [Act.put, List.setIfInBounds_toArray, List.set_cons_succ, List.set_cons_zero]
          clear hm
          go_wp2_with fail
          with_reducible refine (unhide (fr _)).mono ?_
          rintro e w3x ⟨rfl, hx⟩
          replace E := E.trans hx
          replace P := P.ext hx
          replace O := own_ext O hx
          clear hx
          go_upto_region 11 with fail
          have cP0 := (P.cell 0).trans (show _ = some (.int .i64 0) from rfl)
          have cP3 := (P.cell 3).trans (show _ = some (.int .i64 0) from rfl)
          have cPl := P.lt
          have cfP0 := P.frozen 0
          go_upto_region 12 with fail
          clear cP0 cP3 cPl cfP0
          have B_ : Blk (w3x.setCell ⟨gP, 0, none⟩ (.int .i64 fa)) gP 77 [.int .i64 fa, .int .i64 0, .int .i64 0, .int .i64 0, .int .i64 0, .int .i64 0, .int .i64 z].toArray := P.set_ 0 (.int .i64 fa)
          have gr : w3x.grownBy (w3x.setCell ⟨gP, 0, none⟩ (.int .i64 fa)) (some gP) := gsCell _ _
          generalize w3x.setCell ⟨gP, 0, none⟩ (.int .i64 fa) = w4x at *
          replace E := E.grownBlk gr (by omega)
          replace O := own_grown O gr (by first | assumption | exact own_apart O (by omega))
          replace P := B_
          clear B_ gr
          have d16 : w4x.cell? ⟨b, off + k * 43 + 16, none⟩ = _ := (E.cells.1 b _ hbk).trans ((unhide HMID) 16 _ (show (styC t)[16]? = some (.int .u8 t.m0.k) from rfl))
          have d17 : w4x.cell? ⟨b, off + k * 43 + 17, none⟩ = _ := (E.cells.1 b _ hbk).trans ((unhide HMID) 17 _ (show (styC t)[17]? = some (.int .i64 t.m0.n) from rfl))
          have lb : b < w4x.heap.size := Nat.lt_of_lt_of_le hbk E.size
          go_wp2_with fail
          clear d16 d17 lb
          with_reducible refine (unhide (r0 _)).mono ?_
          rintro e w5x ⟨rfl, hx⟩
          replace E := E.trans hx
          replace P := P.ext hx
          replace O := own_ext O hx
          clear hx
          have cP1 := (P.cell 1).trans (show _ = some (.int .i64 0) from rfl)
          have cPl := P.lt
          have cfP1 := P.frozen 1
          go_upto_region 13 with fail
          clear cP1 cPl cfP1
          have B_ : Blk (w5x.setCell ⟨gP, 1, none⟩ (.int .i64 x0)) gP 77 [.int .i64 fa, .int .i64 x0, .int .i64 0, .int .i64 0, .int .i64 0, .int .i64 0, .int .i64 z].toArray := P.set_ 1 (.int .i64 x0)
          have gr : w5x.grownBy (w5x.setCell ⟨gP, 1, none⟩ (.int .i64 x0)) (some gP) := gsCell _ _
          generalize w5x.setCell ⟨gP, 1, none⟩ (.int .i64 x0) = w6x at *
          replace E := E.grownBlk gr (by omega)
          replace O := own_grown O gr (by first | assumption | exact own_apart O (by omega))
          replace P := B_
          clear B_ gr
          have d20 : w6x.cell? ⟨b, off + k * 43 + 20, none⟩ = _ := (E.cells.1 b _ hbk).trans ((unhide HMID) 20 _ (show (styC t)[20]? = some (.int .u8 t.m2.k) from rfl))
          have d21 : w6x.cell? ⟨b, off + k * 43 + 21, none⟩ = _ := (E.cells.1 b _ hbk).trans ((unhide HMID) 21 _ (show (styC t)[21]? = some (.int .i64 t.m2.n) from rfl))
          have lb : b < w6x.heap.size := Nat.lt_of_lt_of_le hbk E.size
          go_wp2_with fail
          clear d20 d21 lb
          with_reducible refine (unhide (r2 _)).mono ?_
          rintro e w7x ⟨rfl, hx⟩
          replace E := E.trans hx
          replace P := P.ext hx
          replace O := own_ext O hx
          clear hx
          have cP2 := (P.cell 2).trans (show _ = some (.int .i64 0) from rfl)
          have cPl := P.lt
          have cfP2 := P.frozen 2
          go_upto_region 14 with fail
          clear cP2 cPl cfP2
          have B_ : Blk (w7x.setCell ⟨gP, 2, none⟩ (.int .i64 x2)) gP 77 [.int .i64 fa, .int .i64 x0, .int .i64 x2, .int .i64 0, .int .i64 0, .int .i64 0, .int .i64 z].toArray := P.set_ 2 (.int .i64 x2)
          have gr : w7x.grownBy (w7x.setCell ⟨gP, 2, none⟩ (.int .i64 x2)) (some gP) := gsCell _ _
          generalize w7x.setCell ⟨gP, 2, none⟩ (.int .i64 x2) = w8x at *
          replace E := E.grownBlk gr (by omega)
          replace O := own_grown O gr (by first | assumption | exact own_apart O (by omega))
          replace P := B_
          clear B_ gr
          have HP := hide (show mP c ks us hs k = ⟨fa, x0, x2, 0, 0, 0, z⟩ by
            obtain ⟨e1, e2, e3, e4⟩ := unhide HD
            simp only [mP, e1, unhide HU, unhide HZ, frameA]
            rw [e2, e3, e4]; simp)
          go_upto_region 14 with fail
          iterate 4 go_step
          refine wpList_load_blk rfl 77 (.tmp 11) rfl gP rfl 77 (Pr.cells ⟨fa, x0, x2, 0, 0, 0, z⟩) _ P Try.underlying77 rfl (size_pr ⟨fa, x0, x2, 0, 0, 0, z⟩) ?_
          simp only [Act.put, List.setIfInBounds_toArray, List.set_cons_succ, List.set_cons_zero]
          refine Go.Great.wpList_buildSliceTo rfl 74 77 1 _ rfl _ rfl _ rfl Try.underlying74 (prC ⟨fa, x0, x2, 0, 0, 0, z⟩).toArray (by kernel_rfl) ?_
          simp only [Act.put, List.setIfInBounds_toArray, List.set_cons_succ, List.set_cons_zero]
          have hx : Ext w8x (w8x.alloc (.cells (prC ⟨fa, x0, x2, 0, 0, 0, z⟩).toArray 77)) := (Ext.refl _).alloc _
          have R5 : Rd (w8x.alloc (.cells (prC ⟨fa, x0, x2, 0, 0, 0, z⟩).toArray 77)) 7 (some ⟨w8x.heap.size, 0, none⟩) 1 (prC ⟨fa, x0, x2, 0, 0, 0, z⟩) := (Blk.new w8x 77 (prC ⟨fa, x0, x2, 0, 0, 0, z⟩).toArray).rdk (n := 1) (k := 7) rfl
          generalize w8x.alloc (.cells (prC ⟨fa, x0, x2, 0, 0, 0, z⟩).toArray 77) = w9x at *
          generalize w8x.heap.size = gp at *
          replace E := E.trans hx
          replace P := P.ext hx
          replace O := own_ext O hx
          clear hx
          refine wpList_append_rd rfl (.tmp 76) (.tmp 78) _ rfl w.heap.size 77 _ _ 7 _ Try.underlying74 (unhide H5).1 (unhide H5).2.1 (unhide H5).2.2.1 rfl rfl (by omega) _ k (recs prC (partL c ks us hs k)) rfl O _ 1 1 (prC ⟨fa, x0, x2, 0, 0, 0, z⟩) rfl R5 (prC_one _) (by simp only [maxLen]; omega) (small_ok (show k < n from hkn) (by have := unhide HN; omega) (unhide H5).2.2.2) E.size ?_
          intro A11x c12x w10x own5 g5 at5
          simp only [Act.put, List.setIfInBounds_toArray, List.set_cons_succ, List.set_cons_zero]
          replace E := E.grown g5 (fun q e => by have := (O.lt q e).1; omega)
          replace P := P.grownOwn g5 (by first | assumption | exact own_apart O (by omega))
          replace O : w10x.ownsRow w.heap.size 77 7 (.slice A11x (k + 1) c12x) (k + 1) (recs prC (partL c ks us hs (k + 1))) := by rw [partL_succ, recs_append, unhide HP, recs_one]; exact own5
          clear own5 g5 at5 R5
          clear P HP
          go_wp2_with fail
          go_roundw
          case rel => exact ⟨k + 1, A11x, c12x, by go_num, by omega, rfl, O, E⟩
          case measure => simp [intOf]; omega
        · skip
          have HZ := hide (show hs.getD k 0 = 0 by rw [List.getD_eq_getElem?_getD, List.getElem?_eq_none (by rw [unhide HHL]; omega)]; rfl)
          have hkhI : ¬ (k : Int) < (nh : Int) := by omega
          go_upto_region 10 with fail
          iterate 10 go_step
          have hm : w1x.rangeAt b (off + k * 43) (styC t) := fun j v hv => (E.cells.1 b _ hbk).trans ((unhide HMID) j v hv)
          refine wpList_load_sty (.tmp 41) rfl b (off + k * 43) rfl rfl t hm ?_
          simp only [Act.put, List.setIfInBounds_toArray, List.set_cons_succ, List.set_cons_zero]
          clear hm
          go_wp2_with fail
          with_reducible refine (unhide (fr _)).mono ?_
          rintro e w2x ⟨rfl, hx⟩
          replace E := E.trans hx
          replace P := P.ext hx
          replace O := own_ext O hx
          clear hx
          go_upto_region 11 with fail
          have cP0 := (P.cell 0).trans (show _ = some (.int .i64 0) from rfl)
          have cP3 := (P.cell 3).trans (show _ = some (.int .i64 0) from rfl)
          have cPl := P.lt
          have cfP0 := P.frozen 0
          go_upto_region 12 with fail
          clear cP0 cP3 cPl cfP0
          have B_ : Blk (w2x.setCell ⟨gP, 0, none⟩ (.int .i64 fa)) gP 77 [.int .i64 fa, .int .i64 0, .int .i64 0, .int .i64 0, .int .i64 0, .int .i64 0, .int .i64 0].toArray := P.set_ 0 (.int .i64 fa)
          have gr : w2x.grownBy (w2x.setCell ⟨gP, 0, none⟩ (.int .i64 fa)) (some gP) := gsCell _ _
          generalize w2x.setCell ⟨gP, 0, none⟩ (.int .i64 fa) = w3x at *
          replace E := E.grownBlk gr (by omega)
          replace O := own_grown O gr (by first | assumption | exact own_apart O (by omega))
          replace P := B_
          clear B_ gr
          have d16 : w3x.cell? ⟨b, off + k * 43 + 16, none⟩ = _ := (E.cells.1 b _ hbk).trans ((unhide HMID) 16 _ (show (styC t)[16]? = some (.int .u8 t.m0.k) from rfl))
          have d17 : w3x.cell? ⟨b, off + k * 43 + 17, none⟩ = _ := (E.cells.1 b _ hbk).trans ((unhide HMID) 17 _ (show (styC t)[17]? = some (.int .i64 t.m0.n) from rfl))
          have lb : b < w3x.heap.size := Nat.lt_of_lt_of_le hbk E.size
          go_wp2_with fail
          clear d16 d17 lb
          with_reducible refine (unhide (r0 _)).mono ?_
          rintro e w4x ⟨rfl, hx⟩
          replace E := E.trans hx
          replace P := P.ext hx
          replace O := own_ext O hx
          clear hx
          have cP1 := (P.cell 1).trans (show _ = some (.int .i64 0) from rfl)
          have cPl := P.lt
          have cfP1 := P.frozen 1
          go_upto_region 13 with fail
          clear cP1 cPl cfP1
          have B_ : Blk (w4x.setCell ⟨gP, 1, none⟩ (.int .i64 x0)) gP 77 [.int .i64 fa, .int .i64 x0, .int .i64 0, .int .i64 0, .int .i64 0, .int .i64 0, .int .i64 0].toArray := P.set_ 1 (.int .i64 x0)
          have gr : w4x.grownBy (w4x.setCell ⟨gP, 1, none⟩ (.int .i64 x0)) (some gP) := gsCell _ _
          generalize w4x.setCell ⟨gP, 1, none⟩ (.int .i64 x0) = w5x at *
          replace E := E.grownBlk gr (by omega)
          replace O := own_grown O gr (by first | assumption | exact own_apart O (by omega))
          replace P := B_
          clear B_ gr
          have d20 : w5x.cell? ⟨b, off + k * 43 + 20, none⟩ = _ := (E.cells.1 b _ hbk).trans ((unhide HMID) 20 _ (show (styC t)[20]? = some (.int .u8 t.m2.k) from rfl))
          have d21 : w5x.cell? ⟨b, off + k * 43 + 21, none⟩ = _ := (E.cells.1 b _ hbk).trans ((unhide HMID) 21 _ (show (styC t)[21]? = some (.int .i64 t.m2.n) from rfl))
          have lb : b < w5x.heap.size := Nat.lt_of_lt_of_le hbk E.size
          go_wp2_with fail
          clear d20 d21 lb
          with_reducible refine (unhide (r2 _)).mono ?_
          rintro e w6x ⟨rfl, hx⟩
          replace E := E.trans hx
          replace P := P.ext hx
          replace O := own_ext O hx
          clear hx
          have cP2 := (P.cell 2).trans (show _ = some (.int .i64 0) from rfl)
          have cPl := P.lt
          have cfP2 := P.frozen 2
          go_upto_region 14 with fail
          clear cP2 cPl cfP2
          have B_ : Blk (w6x.setCell ⟨gP, 2, none⟩ (.int .i64 x2)) gP 77 [.int .i64 fa, .int .i64 x0, .int .i64 x2, .int .i64 0, .int .i64 0, .int .i64 0, .int .i64 0].toArray := P.set_ 2 (.int .i64 x2)
          have gr : w6x.grownBy (w6x.setCell ⟨gP, 2, none⟩ (.int .i64 x2)) (some gP) := gsCell _ _
          generalize w6x.setCell ⟨gP, 2, none⟩ (.int .i64 x2) = w7x at *
          replace E := E.grownBlk gr (by omega)
          replace O := own_grown O gr (by first | assumption | exact own_apart O (by omega))
          replace P := B_
          clear B_ gr
          have HP := hide (show mP c ks us hs k = ⟨fa, x0, x2, 0, 0, 0, 0⟩ by
            obtain ⟨e1, e2, e3, e4⟩ := unhide HD
            simp only [mP, e1, unhide HU, unhide HZ, frameA]
            rw [e2, e3, e4]; simp)
          go_upto_region 14 with fail
          iterate 4 go_step
          refine wpList_load_blk rfl 77 (.tmp 11) rfl gP rfl 77 (Pr.cells ⟨fa, x0, x2, 0, 0, 0, 0⟩) _ P Try.underlying77 rfl (size_pr ⟨fa, x0, x2, 0, 0, 0, 0⟩) ?_
          simp only [Act.put, List.setIfInBounds_toArray, List.set_cons_succ, List.set_cons_zero]
          refine Go.Great.wpList_buildSliceTo rfl 74 77 1 _ rfl _ rfl _ rfl Try.underlying74 (prC ⟨fa, x0, x2, 0, 0, 0, 0⟩).toArray (by kernel_rfl) ?_
          simp only [Act.put, List.setIfInBounds_toArray, List.set_cons_succ, List.set_cons_zero]
          have hx : Ext w7x (w7x.alloc (.cells (prC ⟨fa, x0, x2, 0, 0, 0, 0⟩).toArray 77)) := (Ext.refl _).alloc _
          have R5 : Rd (w7x.alloc (.cells (prC ⟨fa, x0, x2, 0, 0, 0, 0⟩).toArray 77)) 7 (some ⟨w7x.heap.size, 0, none⟩) 1 (prC ⟨fa, x0, x2, 0, 0, 0, 0⟩) := (Blk.new w7x 77 (prC ⟨fa, x0, x2, 0, 0, 0, 0⟩).toArray).rdk (n := 1) (k := 7) rfl
          generalize w7x.alloc (.cells (prC ⟨fa, x0, x2, 0, 0, 0, 0⟩).toArray 77) = w8x at *
          generalize w7x.heap.size = gp at *
          replace E := E.trans hx
          replace P := P.ext hx
          replace O := own_ext O hx
          clear hx
          refine wpList_append_rd rfl (.tmp 76) (.tmp 78) _ rfl w.heap.size 77 _ _ 7 _ Try.underlying74 (unhide H5).1 (unhide H5).2.1 (unhide H5).2.2.1 rfl rfl (by omega) _ k (recs prC (partL c ks us hs k)) rfl O _ 1 1 (prC ⟨fa, x0, x2, 0, 0, 0, 0⟩) rfl R5 (prC_one _) (by simp only [maxLen]; omega) (small_ok (show k < n from hkn) (by have := unhide HN; omega) (unhide H5).2.2.2) E.size ?_
          intro A10x c11x w9x own5 g5 at5
          simp only [Act.put, List.setIfInBounds_toArray, List.set_cons_succ, List.set_cons_zero]
          replace E := E.grown g5 (fun q e => by have := (O.lt q e).1; omega)
          replace P := P.grownOwn g5 (by first | assumption | exact own_apart O (by omega))
          replace O : w9x.ownsRow w.heap.size 77 7 (.slice A10x (k + 1) c11x) (k + 1) (recs prC (partL c ks us hs (k + 1))) := by rw [partL_succ, recs_append, unhide HP, recs_one]; exact own5
          clear own5 g5 at5 R5
          clear P HP
          go_wp2_with fail
          go_roundw
          case rel => exact ⟨k + 1, A10x, c11x, by go_num, by omega, rfl, O, E⟩
          case measure => simp [intOf]; omega
    · obtain rfl : k = n := by omega
      have R1 := Rd.of_own O
      go_wp2_with fail
      go_ret
      exact ⟨B, d, rfl, R1, E⟩
end Go.Proofs.Ytkkkdjkjggofkaa
