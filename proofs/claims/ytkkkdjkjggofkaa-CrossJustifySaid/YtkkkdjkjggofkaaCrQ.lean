/- Layer 20: the law CrossJustify (walk). -/
import Derived.Test.YtkkkdjkjggofkaaCrR
namespace Go.Proofs.Ytkkkdjkjggofkaa
open Go.RowKit
set_option maxRecDepth 100000 in
set_option maxHeartbeats 16000000 in
theorem law_crossJustify (c : Int) (A : Option Addr) (n cp : Nat) (l : List Int) (hc : 0 ≤ c ∧ c ≤ 4294967295) (hb : ∀ x ∈ l, 0 ≤ x ∧ x ≤ 65535) (w : World) (hR : Rd w 1 A n (u16s l)) :
    Calls Try.prog 5 #[.int .u32 c, .slice A n cp] w fun e w' => e = .returned (.bool true) ∧ Ext w w' := by
  have hbx := hide hb
  have hl : l.length = n := by have := hR.len; rw [u16s_len] at this; omega
  have cW := fun w => hide (works20_any w)
  by_cases hbig : 60 < n
  · have hnI : (60 : Int) < (n : Int) := by omega
    clear hR hl hb
    go_enter Try.func5, Try.ntmps5
    go_wp2_with fail
    with_reducible refine (unhide (cW _)).mono ?_
    rintro e wz ⟨rfl, hx⟩
    go_wp2_with fail
    go_ret
    exact ⟨rfl, hx⟩
  by_cases hzero : n = 0
  · subst hzero
    clear hR hl hb
    go_enter Try.func5, Try.ntmps5
    go_wp2_with fail
    with_reducible refine (unhide (cW _)).mono ?_
    rintro e wz ⟨rfl, hx⟩
    go_wp2_with fail
    go_ret
    exact ⟨rfl, hx⟩
  obtain ⟨m, hm⟩ : ∃ m, n = m + 1 := ⟨n - 1, by omega⟩
  obtain ⟨b, off, rfl, _, _⟩ := hR.at_ (by omega)
  obtain ⟨S, hS⟩ : ∃ S, sumL l n = S := ⟨_, rfl⟩
  obtain ⟨F, hF⟩ : ∃ F, c - S = F := ⟨_, rfl⟩
  have hSb : 0 ≤ S ∧ S ≤ 65535 * 60 := by have := sumL_bd hb n (by omega); omega
  have hFb : -3932100 ≤ F ∧ F ≤ 4294967295 := by omega
  have cP := fun j hj Ak Au Aq gr ck cu cq w b1 b2 b4 b5 => hide (just_placeN l c j n F hl (by rw [hS]; exact hF) ⟨by omega, by omega⟩ hb hc hj Ak Au Aq gr ck cu cq w b1 b2 b4 b5)
  have VB := fun j i hi => jsV_bd (l := l) (c := c) (F := F) hl (by rw [hS]; exact hF) ⟨by omega, by omega⟩ hb hc j i hi
  have SB := fun p hp => sumL_bd hb p hp
  obtain ⟨i5, hi5, hz5, hs5, hb5⟩ := info_bnd js_info
  obtain ⟨i6, hi6, hz6, hs6, hb6⟩ := info_bnd ju_info
  obtain ⟨i7, hi7, hz7, hs7, hb7⟩ := info_bnd ji_info
  have H5 := hide (And.intro hi5 (And.intro hz5 (And.intro hs5 hb5)))
  have H6 := hide (And.intro hi6 (And.intro hz6 (And.intro hs6 hb6)))
  have H7 := hide (And.intro hi7 (And.intro hz7 (And.intro hs7 hb7)))
  clear hi5 hz5 hs5 hb5 hi6 hz6 hs6 hb6 hi7 hz7 hs7 hb7
  have HL := hide hl
  have HM := hide hm
  have HS := hide hS
  have HF := hide hF
  have HB := hide hb
  have HSb := hide hSb
  have HFb := hide hFb
  have hnI : (0 : Int) < (n : Int) ∧ (n : Int) ≤ 60 := by omega
  have hnz : ((n : Int) == 0) = false := by simp; omega
  have VBH := hide VB
  have SBH := hide SB
  clear hl hm hS hF hb hSb hFb hbig hzero VB SB
  go_enter Try.func5, Try.ntmps5
  go_upto_region 6 with fail
  have J : JsSt w (w.alloc (.cells #[] 3)) 0 none none (some ⟨w.heap.size, 0, none⟩) 0 0 0 l := ⟨⟨rfl, .inl ⟨rfl, rfl⟩⟩, ⟨rfl, .inl ⟨rfl, rfl⟩⟩, ⟨rfl, .inr ⟨w.heap.size, 0, #[], rfl, Nat.le_refl _, Blk.new _ _ _, Nat.le_refl _, by simp [maxLen], rfl, rfl⟩⟩, (Ext.refl _).alloc _⟩
  generalize w.alloc (.cells #[] 3) = wa at *
  go_wp2_with fail
  go_loopw [5, 6, 7, 8, 9] (fun v5 v6 v7 v8 v9 wr => ∃ (k : Nat) (A5 A6 A7 : Option Addr) (c5 c6 c7 : Nat), v9 = .int .i64 k ∧ k ≤ n ∧ v5 = .slice A5 k c5 ∧ v6 = .slice A6 k c6 ∧ v7 = .slice A7 k c7 ∧ v8 = .int .i64 (sumL l k) ∧ JsSt w wr k A5 A6 A7 c5 c6 c7 l) (fun _ _ _ _ v9 _ => n - (intOf v9).toNat)
  case atStart => exact ⟨0, none, none, some ⟨w.heap.size, 0, none⟩, 0, 0, 0, rfl, by omega, rfl, rfl, rfl, by rw [sumL_0], J⟩
  case round =>
    clear J
    obtain ⟨k, A5, A6, A7, c5, c6, c7, rfl, hk, rfl, rfl, rfl, rfl, J⟩ := hrel
    by_cases hkn : k < n
    · obtain ⟨x, hx⟩ : ∃ x, l[k]? = some x := ⟨_, List.getElem?_eq_getElem (by have := unhide HL; omega)⟩
      have hxb := unhide HB _ (List.mem_of_getElem? hx)
      have HX := hide hx
      have hsb := unhide SBH k (by have := unhide HL; omega)
      have HT := hide (sumL_step hx)
      clear hx
      have hkI : (0 : Int) ≤ (k : Int) ∧ (k : Int) < (n : Int) ∧ (k : Int) ≤ 59 := by omega
      obtain ⟨s, hs⟩ : ∃ s, sumL l k = s := ⟨_, rfl⟩
      rw [hs] at hsb
      have HSS := hide hs
      rw [hs]
      clear hs
      go_upto_region 10 with fail
      iterate 4 go_step
      refine wpList_buildTo rfl 28 _ rfl _ rfl (stK 1 0 0).cells (by kernel_rfl) ?_
      simp only [Act.put, List.setIfInBounds_toArray, List.set_cons_succ, List.set_cons_zero]
      refine Go.Great.wpList_buildSliceTo rfl 29 28 1 _ rfl _ rfl _ rfl Try.underlying29 (styC (stK 1 0 0)).toArray (by kernel_rfl) ?_
      simp only [Act.put, List.setIfInBounds_toArray, List.set_cons_succ, List.set_cons_zero]
      have hy : Ext wr (wr.alloc (.cells (styC (stK 1 0 0)).toArray 28)) := (Ext.refl _).alloc _
      have R5 : Rd (wr.alloc (.cells (styC (stK 1 0 0)).toArray 28)) 43 (some ⟨wr.heap.size, 0, none⟩) 1 (styC (stK 1 0 0)) := (Blk.new wr 28 (styC (stK 1 0 0)).toArray).rdk (n := 1) (k := 43) rfl
      generalize wr.alloc (.cells (styC (stK 1 0 0)).toArray 28) = w2 at *
      generalize wr.heap.size = g2 at *
      replace J : JsSt w w2 k A5 A6 A7 c5 c6 c7 l := ⟨own_far J.o5 hy, own_far J.o6 hy, own_far J.o7 hy, J.ext.trans hy⟩
      clear hy
      refine wpList_append_rd rfl (.tmp 36) (.tmp 38) _ rfl w.heap.size 28 i5 _ 43 i5.bytes Try.underlying29 (unhide H5).1 (unhide H5).2.1 (unhide H5).2.2.1 rfl rfl (by omega) _ k (recs styC (jsS k)) rfl J.o5 _ 1 1 (styC (stK 1 0 0)) rfl R5 stK_one (by simp only [maxLen]; omega) (bytes_ok (by omega) (unhide H5).2.2.2) J.ext.size ?_
      intro B5 d5 w3 own5 g5 at5
      simp only [Act.put, List.setIfInBounds_toArray, List.set_cons_succ, List.set_cons_zero]
      have J2 : JsSt w w3 k A5 A6 A7 c5 c6 c7 l → True := fun _ => trivial
      clear J2
      have O5 : w3.ownsRow w.heap.size 28 43 (.slice B5 (k + 1) d5) (k + 1) (recs styC (jsS (k + 1))) := by rw [jsS_succ]; exact own5
      have O6 := J.o6.kept g5 (own_ne J.o6 J.o5 (by decide))
      have O7 := J.o7.kept g5 (own_ne J.o7 J.o5 (by decide))
      have E3 := J.ext.grown g5 (fun q e => (J.o5.lt q e).1)
      clear own5 g5 at5 J R5
      have cl := (hR.ext E3).cellAt hkn (u16s_get (unhide HX))
      have cl2 := cl.2
      have cl1 := cl.1
      clear cl
      go_upto_region 12 with (first
        | (at_builtin
           refine wpList_append_rd rfl (.tmp 40) (.tmp 47) _ rfl w.heap.size 48 i6 _ 3 i6.bytes Try.underlying30 (unhide H6).1 (unhide H6).2.1 (unhide H6).2.2.1 rfl rfl (by omega) _ k (recs usC (jsU (l.take k))) rfl (own_far O6 ((Ext.refl _).alloc _)) _ 1 1 (usC ⟨x, 0, 0⟩) rfl ((Blk.new w3 48 (usC ⟨x, 0, 0⟩).toArray).rdk (n := 1) (k := 3) rfl) (usC_one _) (by simp only [maxLen]; omega) (bytes_ok (by omega) (unhide H6).2.2.2) (by have := E3.size; simp; omega) ?_
           intro B6 d6 w4 own6 g6 at6))
      have ha : Ext w3 (w3.alloc (.cells (usC ⟨x, 0, 0⟩).toArray 48)) := (Ext.refl _).alloc _
      replace O5 := (own_far O5 ha).kept g6 (own_ne (own_far O5 ha) (own_far O6 ha) (by decide))
      replace O7 := (own_far O7 ha).kept g6 (own_ne (own_far O7 ha) (own_far O6 ha) (by decide))
      replace E3 := (E3.trans ha).grown g6 (fun q e => (O6.lt q e).1)
      replace O6 : w4.ownsRow w.heap.size 48 3 (.slice B6 (k + 1) d6) (k + 1) (recs usC (jsU (l.take (k + 1)))) := by rw [jsU_succ (unhide HX)]; exact own6
      clear own6 g6 at6 ha cl1 cl2
      go_upto_region 13 with (first
        | (at_builtin
           refine wpList_append_rd rfl (.tmp 49) (.tmp 51) _ rfl w.heap.size 3 i7 _ 1 i7.bytes Try.underlying50 (unhide H7).1 (unhide H7).2.1 (unhide H7).2.2.1 rfl rfl (by omega) _ k (ints (castL (List.range k))) rfl (own_far O7 ((Ext.refl _).alloc _)) _ 1 1 [.int .i64 (k : Int)] rfl (Rd.one _ _) (by simp [Value.oneCell']) (by simp only [maxLen]; omega) (bytes_ok (by omega) (unhide H7).2.2.2) (by have := E3.size; simp; omega) ?_
           intro B7 d7 w5 own7 g7 at7))
      have ha : Ext w4 (w4.alloc (.cells #[.int .i64 (k : Int)] 3)) := (Ext.refl _).alloc _
      replace O5 := (own_far O5 ha).kept g7 (own_ne (own_far O5 ha) (own_far O7 ha) (by decide))
      replace O6 := (own_far O6 ha).kept g7 (own_ne (own_far O6 ha) (own_far O7 ha) (by decide))
      replace E3 := (E3.trans ha).grown g7 (fun q e => (O7.lt q e).1)
      replace O7 : w5.ownsRow w.heap.size 3 1 (.slice B7 (k + 1) d7) (k + 1) (ints (castL (List.range (k + 1)))) := by rw [jsR_succ]; exact own7
      clear own7 g7 at7 ha
      have cl := (hR.ext E3).cellAt hkn (u16s_get (unhide HX))
      have cl2 := cl.2
      have cl1 := cl.1
      clear cl
      go_wp2_with fail
      go_roundw
      case rel => exact ⟨k + 1, B5, B6, B7, d5, d6, d7, by go_num, by omega, rfl, rfl, rfl, by rw [unhide HT, unhide HSS], O5, O6, O7, E3⟩
      case measure => simp [intOf]; omega
    · obtain rfl : k = n := by omega
      have R5 := Rd.of_own J.o5
      have R6 := Rd.of_own J.o6
      have R7 := Rd.of_own J.o7
      rw [List.take_of_length_le (by have := unhide HL; omega)] at R6
      have E := J.ext
      clear J hk hkn SBH HB hR
      obtain ⟨wq, hwq⟩ : ∃ v, v = wr := ⟨_, rfl⟩
      subst hwq
      rw [unhide HS]
      have hF := unhide HF
      have hSb := unhide HSb
      have hFb := unhide HFb
      go_upto_region 15 with fail
      clear hF hSb
      have hm1 : (k : Int) - 1 = (m : Int) := by have := unhide HM; omega
      go_upto_region 16 with fail
      have HM1 := hide hm1
      clear hm1
      go_wp2_with fail
      go_loopw [12] (fun v12 wr2 => ∃ (j : Int), v12 = .int .u8 j ∧ 0 ≤ j ∧ j ≤ 4 ∧ Ext wq wr2) (fun v12 _ => (4 - intOf v12).toNat)
      case atStart => exact ⟨0, rfl, by omega, by omega, Ext.refl _⟩
      case round =>
        obtain ⟨j, rfl, hj0, hj4, EE⟩ := hrel
        by_cases hj : j < 4
        · go_upto_region 19 with fail
          iterate 4 go_step
          refine wpList_buildTo rfl 28 _ rfl _ rfl (stK 2 j 0).cells (by kernel_rfl) ?_
          simp only [Act.put, List.setIfInBounds_toArray, List.set_cons_succ, List.set_cons_zero]
          iterate 15 go_step
          refine Go.Great.wpList_buildSliceTo rfl 36 50 1 _ rfl _ rfl _ rfl Try.underlying36 #[.slice A7 k c7] (by kernel_rfl) ?_
          simp only [Act.put, List.setIfInBounds_toArray, List.set_cons_succ, List.set_cons_zero]
          have C4 : Blk (wr.alloc (.cells #[.slice A7 k c7] 50)) wr.heap.size 50 #[.slice A7 k c7] := Blk.new _ _ _
          have hx : Ext wr (wr.alloc (.cells #[.slice A7 k c7] 50)) := (Ext.refl _).alloc _
          generalize wr.alloc (.cells #[.slice A7 k c7] 50) = w5 at *
          generalize wr.heap.size = gr at *
          replace EE := EE.trans hx
          clear hx
          clear wr
          go_wp2_with fail
          with_reducible refine (unhide (cP j ⟨hj0, by omega⟩ A5 A6 A7 gr c5 c6 c7 w5 (R5.ext EE) (R6.ext EE) C4 (R7.ext EE))).mono ?_
          rintro e w6 ⟨gF, gB, t, rfl, lF, fc, hx⟩
          replace EE := EE.trans hx
          clear hx C4
          have hkk : ((k : Int) == (k : Int)) = true := by simp
          obtain ⟨x0, hx0⟩ : ∃ x, l[0]? = some x := ⟨_, List.getElem?_eq_getElem (by have := unhide HL; omega)⟩
          obtain ⟨xm, hxm⟩ : ∃ x, l[m]? = some x := ⟨_, List.getElem?_eq_getElem (by have := unhide HL; have := unhide HM; omega)⟩
          have FC := hide fc
          have c0 : w6.cell? ⟨gF, 0, none⟩ = some (.int .i64 (jsV l j F k 0)) := (fc 0 _ hx0).1
          have cm := (fc m _ hxm).1
          have cm2 := (fc m _ hxm).2
          have b0 := unhide VBH j 0 (by omega)
          have bm := unhide VBH j m (by have := unhide HM; omega)
          have e0 := js_zero (l := l) j F k
          have em := js_last hxm j F k
          rw [show m + 1 = k by have := unhide HM; omega, unhide HS] at em
          have hmb := unhide HF
          have hsb := unhide HSb
          have hxb : 0 ≤ xm ∧ xm ≤ 65535 := unhide hbx _ (List.mem_of_getElem? hxm)
          obtain ⟨V0, hV0⟩ : ∃ V, jsV l j F k 0 = V := ⟨_, rfl⟩
          obtain ⟨Vm, hVm⟩ : ∃ V, jsV l j F k m = V := ⟨_, rfl⟩
          rw [hV0] at c0 b0 e0
          rw [hVm] at cm bm em
          clear hV0 hVm fc hx0 hxm
          obtain ⟨L, hL⟩ : ∃ L, Vm + xm = L := ⟨_, rfl⟩
          rw [hL] at em
          have hLb : -600000000000 ≤ L ∧ L ≤ 600000000000 := by omega
          have HEM := hide em
          have HE0 := hide e0
          have HSB := hide hsb
          have HMB := hide hmb
          clear em e0 hsb hmb
          go_upto_region 23 with fail
          have hm1 := unhide HM1
          have hmk : (0 : Int) ≤ (m : Int) ∧ (m : Int) < (k : Int) := by omega
          go_quiet (fail)
          clear c0 cm cm2 bm hxb hL hm1
          rcases (by omega : j = 0 ∨ j = 1 ∨ j = 2 ∨ j = 3) with rfl | rfl | rfl | rfl
          · as_aux_lemma =>
              obtain rfl : V0 = 0 := (unhide HE0).trans (move_0 _ _ _)
              go_upto_region 33 with fail
              go_wp2_with fail
              go_loopw [18] (fun v18 wr3 => ∃ (i : Nat), v18 = .int .i64 i ∧ 1 ≤ i ∧ i ≤ k ∧ Ext w6 wr3) (fun v18 _ => k - (intOf v18).toNat)
              case atStart => exact ⟨1, rfl, by omega, by omega, (Ext.refl _).drewN _⟩
              case round =>
                obtain ⟨i, rfl, hi1, hik, E3⟩ := hrel
                by_cases hi : i < k
                · obtain ⟨p, hp⟩ : ∃ p, i = p + 1 := ⟨i - 1, by omega⟩
                  obtain ⟨xp, hxp⟩ : ∃ x, l[p]? = some x := ⟨_, List.getElem?_eq_getElem (by have := unhide HL; omega)⟩
                  obtain ⟨xi, hxi⟩ : ∃ x, l[i]? = some x := ⟨_, List.getElem?_eq_getElem (by have := unhide HL; omega)⟩
                  have ci := (E3.cells.1 gF _ lF).trans ((unhide FC) i _ hxi).1
                  have cp := (E3.cells.1 gF _ lF).trans ((unhide FC) p _ hxp).1
                  have cp2 := (E3.cells.1 gF _ lF).trans ((unhide FC) p _ hxp).2
                  have lF3 := Nat.lt_of_lt_of_le lF E3.size
                  have bi := unhide VBH 0 i hi
                  have bp := unhide VBH 0 p (by omega)
                  have eg := js_gap hxp 0 F k
                  have hxb := unhide hbx _ (List.mem_of_getElem? hxp)
                  rw [← hp] at eg
                  obtain ⟨Vi, hVi⟩ : ∃ V, jsV l 0 F k i = V := ⟨_, rfl⟩
                  obtain ⟨Vp, hVp⟩ : ∃ V, jsV l 0 F k p = V := ⟨_, rfl⟩
                  rw [hVi] at ci bi eg
                  rw [hVp] at cp bp eg
                  clear hVi hVp
                  have hg : Vi - Vp - xp = 0 := by rw [eg, move_0, move_0]; omega
                  clear hxp hxi
                  have hip : (i : Int) - 1 = (p : Int) := by omega
                  have hpk : (0 : Int) ≤ (i : Int) ∧ (i : Int) < (k : Int) ∧ (0 : Int) ≤ (p : Int) ∧ (p : Int) < (k : Int) := by omega
                  clear hp
                  clear eg
                  go_upto_region 36 with fail
                  go_quiet (fail)
                  clear ci cp cp2 bi bp hxb
                  go_wp2_with fail
                  go_roundw
                  case rel => exact ⟨i + 1, by go_num, by omega, by omega, E3.drewN _⟩
                  case measure => simp [intOf]; omega
                · obtain rfl : i = k := by omega
                  go_wp2_with fail
                  go_roundw
                  case rel => exact ⟨0 + 1, by go_num, by omega, by omega, EE.trans E3⟩
                  case measure => simp [intOf]
          · as_aux_lemma =>
              obtain rfl : L = c := by have h := unhide HEM; rw [move_1] at h; have := unhide HMB; omega
              have hLL : (L == L) = true := by simp
              go_upto_region 33 with fail
              go_wp2_with fail
              go_loopw [18] (fun v18 wr3 => ∃ (i : Nat), v18 = .int .i64 i ∧ 1 ≤ i ∧ i ≤ k ∧ Ext w6 wr3) (fun v18 _ => k - (intOf v18).toNat)
              case atStart => exact ⟨1, rfl, by omega, by omega, (Ext.refl _).drewN _⟩
              case round =>
                obtain ⟨i, rfl, hi1, hik, E3⟩ := hrel
                by_cases hi : i < k
                · obtain ⟨p, hp⟩ : ∃ p, i = p + 1 := ⟨i - 1, by omega⟩
                  obtain ⟨xp, hxp⟩ : ∃ x, l[p]? = some x := ⟨_, List.getElem?_eq_getElem (by have := unhide HL; omega)⟩
                  obtain ⟨xi, hxi⟩ : ∃ x, l[i]? = some x := ⟨_, List.getElem?_eq_getElem (by have := unhide HL; omega)⟩
                  have ci := (E3.cells.1 gF _ lF).trans ((unhide FC) i _ hxi).1
                  have cp := (E3.cells.1 gF _ lF).trans ((unhide FC) p _ hxp).1
                  have cp2 := (E3.cells.1 gF _ lF).trans ((unhide FC) p _ hxp).2
                  have lF3 := Nat.lt_of_lt_of_le lF E3.size
                  have bi := unhide VBH 1 i hi
                  have bp := unhide VBH 1 p (by omega)
                  have eg := js_gap hxp 1 F k
                  have hxb := unhide hbx _ (List.mem_of_getElem? hxp)
                  rw [← hp] at eg
                  obtain ⟨Vi, hVi⟩ : ∃ V, jsV l 1 F k i = V := ⟨_, rfl⟩
                  obtain ⟨Vp, hVp⟩ : ∃ V, jsV l 1 F k p = V := ⟨_, rfl⟩
                  rw [hVi] at ci bi eg
                  rw [hVp] at cp bp eg
                  clear hVi hVp
                  have hg : Vi - Vp - xp = 0 := by rw [eg, move_1, move_1]; omega
                  clear hxp hxi
                  have hip : (i : Int) - 1 = (p : Int) := by omega
                  have hpk : (0 : Int) ≤ (i : Int) ∧ (i : Int) < (k : Int) ∧ (0 : Int) ≤ (p : Int) ∧ (p : Int) < (k : Int) := by omega
                  clear hp
                  clear eg
                  go_upto_region 36 with fail
                  go_quiet (fail)
                  clear ci cp cp2 bi bp hxb
                  go_wp2_with fail
                  go_roundw
                  case rel => exact ⟨i + 1, by go_num, by omega, by omega, E3.drewN _⟩
                  case measure => simp [intOf]; omega
                · obtain rfl : i = k := by omega
                  go_wp2_with fail
                  go_roundw
                  case rel => exact ⟨1 + 1, by go_num, by omega, by omega, EE.trans E3⟩
                  case measure => simp [intOf]
          · as_aux_lemma =>
              have h0 : V0 = F / 2 := (unhide HE0).trans (move_2 _ _ _)
              have h1 : L = S + F / 2 := by have h := unhide HEM; rw [move_2] at h; exact h
              have h2 : V0 + (c - L) = F := by have := unhide HMB; omega
              have h3 : ¬ c - L < V0 := by have := unhide HMB; omega
              have h4 : ¬ c - L > V0 + 1 := by have := unhide HMB; omega
              have hFF : (F == F) = true := by simp
              clear h0 h1
              go_upto_region 33 with fail
              go_wp2_with fail
              go_loopw [18] (fun v18 wr3 => ∃ (i : Nat), v18 = .int .i64 i ∧ 1 ≤ i ∧ i ≤ k ∧ Ext w6 wr3) (fun v18 _ => k - (intOf v18).toNat)
              case atStart => exact ⟨1, rfl, by omega, by omega, (Ext.refl _).drewN _⟩
              case round =>
                obtain ⟨i, rfl, hi1, hik, E3⟩ := hrel
                by_cases hi : i < k
                · obtain ⟨p, hp⟩ : ∃ p, i = p + 1 := ⟨i - 1, by omega⟩
                  obtain ⟨xp, hxp⟩ : ∃ x, l[p]? = some x := ⟨_, List.getElem?_eq_getElem (by have := unhide HL; omega)⟩
                  obtain ⟨xi, hxi⟩ : ∃ x, l[i]? = some x := ⟨_, List.getElem?_eq_getElem (by have := unhide HL; omega)⟩
                  have ci := (E3.cells.1 gF _ lF).trans ((unhide FC) i _ hxi).1
                  have cp := (E3.cells.1 gF _ lF).trans ((unhide FC) p _ hxp).1
                  have cp2 := (E3.cells.1 gF _ lF).trans ((unhide FC) p _ hxp).2
                  have lF3 := Nat.lt_of_lt_of_le lF E3.size
                  have bi := unhide VBH 2 i hi
                  have bp := unhide VBH 2 p (by omega)
                  have eg := js_gap hxp 2 F k
                  have hxb := unhide hbx _ (List.mem_of_getElem? hxp)
                  rw [← hp] at eg
                  obtain ⟨Vi, hVi⟩ : ∃ V, jsV l 2 F k i = V := ⟨_, rfl⟩
                  obtain ⟨Vp, hVp⟩ : ∃ V, jsV l 2 F k p = V := ⟨_, rfl⟩
                  rw [hVi] at ci bi eg
                  rw [hVp] at cp bp eg
                  clear hVi hVp
                  have hg : Vi - Vp - xp = 0 := by rw [eg, move_2, move_2]; omega
                  clear hxp hxi
                  have hip : (i : Int) - 1 = (p : Int) := by omega
                  have hpk : (0 : Int) ≤ (i : Int) ∧ (i : Int) < (k : Int) ∧ (0 : Int) ≤ (p : Int) ∧ (p : Int) < (k : Int) := by omega
                  clear hp
                  clear eg
                  go_upto_region 36 with fail
                  go_quiet (fail)
                  clear ci cp cp2 bi bp hxb
                  go_wp2_with fail
                  go_roundw
                  case rel => exact ⟨i + 1, by go_num, by omega, by omega, E3.drewN _⟩
                  case measure => simp [intOf]; omega
                · obtain rfl : i = k := by omega
                  go_wp2_with fail
                  go_roundw
                  case rel => exact ⟨2 + 1, by go_num, by omega, by omega, EE.trans E3⟩
                  case measure => simp [intOf]
          · have h0 : V0 = 0 := by have h := unhide HE0; rw [move_3, bet_first] at h; exact h
            subst h0
            by_cases hFp : 0 < F
            · rcases Nat.eq_zero_or_pos m with hmz | hmp
              · as_aux_lemma =>
                  have hm0 : ¬ (0 : Int) < (m : Int) := by omega
                  have HZ := hide hmz
                  clear hmz
                  go_upto_region 33 with fail
                  go_wp2_with fail
                  go_loopw [18] (fun v18 wr3 => ∃ (i : Nat), v18 = .int .i64 i ∧ 1 ≤ i ∧ i ≤ k ∧ Ext w6 wr3) (fun v18 _ => k - (intOf v18).toNat)
                  case atStart => exact ⟨1, rfl, by omega, by omega, (Ext.refl _).drewN _⟩
                  case round =>
                    obtain ⟨i, rfl, hi1, hik, E3⟩ := hrel
                    by_cases hi : i < k
                    · obtain ⟨p, hp⟩ : ∃ p, i = p + 1 := ⟨i - 1, by omega⟩
                      obtain ⟨xp, hxp⟩ : ∃ x, l[p]? = some x := ⟨_, List.getElem?_eq_getElem (by have := unhide HL; omega)⟩
                      obtain ⟨xi, hxi⟩ : ∃ x, l[i]? = some x := ⟨_, List.getElem?_eq_getElem (by have := unhide HL; omega)⟩
                      have ci := (E3.cells.1 gF _ lF).trans ((unhide FC) i _ hxi).1
                      have cp := (E3.cells.1 gF _ lF).trans ((unhide FC) p _ hxp).1
                      have cp2 := (E3.cells.1 gF _ lF).trans ((unhide FC) p _ hxp).2
                      have lF3 := Nat.lt_of_lt_of_le lF E3.size
                      have bi := unhide VBH 3 i hi
                      have bp := unhide VBH 3 p (by omega)
                      have eg := js_gap hxp 3 F k
                      have hxb := unhide hbx _ (List.mem_of_getElem? hxp)
                      rw [← hp] at eg
                      obtain ⟨Vi, hVi⟩ : ∃ V, jsV l 3 F k i = V := ⟨_, rfl⟩
                      obtain ⟨Vp, hVp⟩ : ∃ V, jsV l 3 F k p = V := ⟨_, rfl⟩
                      rw [hVi] at ci bi eg
                      rw [hVp] at cp bp eg
                      clear hVi hVp
                      have hz := unhide HM
                      have hz2 := unhide HZ
                      omega
                    · obtain rfl : i = k := by omega
                      go_wp2_with fail
                      go_roundw
                      case rel => exact ⟨3 + 1, by go_num, by omega, by omega, EE.trans E3⟩
                      case measure => simp [intOf]
              · as_aux_lemma =>
                  obtain rfl : L = c := by
                    have h := unhide HEM
                    have hk := unhide HM
                    rw [move_3, hk, bet_last hFp hmp] at h
                    have := unhide HMB; omega
                  have hLL : (L == L) = true := by simp
                  have hmI : (0 : Int) < (m : Int) := by omega
                  go_upto_region 33 with fail
                  go_wp2_with fail
                  go_loopw [18] (fun v18 wr3 => ∃ (i : Nat), v18 = .int .i64 i ∧ 1 ≤ i ∧ i ≤ k ∧ Ext w6 wr3) (fun v18 _ => k - (intOf v18).toNat)
                  case atStart => exact ⟨1, rfl, by omega, by omega, (Ext.refl _).drewN _⟩
                  case round =>
                    obtain ⟨i, rfl, hi1, hik, E3⟩ := hrel
                    by_cases hi : i < k
                    · obtain ⟨p, hp⟩ : ∃ p, i = p + 1 := ⟨i - 1, by omega⟩
                      obtain ⟨xp, hxp⟩ : ∃ x, l[p]? = some x := ⟨_, List.getElem?_eq_getElem (by have := unhide HL; omega)⟩
                      obtain ⟨xi, hxi⟩ : ∃ x, l[i]? = some x := ⟨_, List.getElem?_eq_getElem (by have := unhide HL; omega)⟩
                      have ci := (E3.cells.1 gF _ lF).trans ((unhide FC) i _ hxi).1
                      have cp := (E3.cells.1 gF _ lF).trans ((unhide FC) p _ hxp).1
                      have cp2 := (E3.cells.1 gF _ lF).trans ((unhide FC) p _ hxp).2
                      have lF3 := Nat.lt_of_lt_of_le lF E3.size
                      have bi := unhide VBH 3 i hi
                      have bp := unhide VBH 3 p (by omega)
                      have eg := js_gap hxp 3 F k
                      have hxb := unhide hbx _ (List.mem_of_getElem? hxp)
                      rw [← hp] at eg
                      obtain ⟨Vi, hVi⟩ : ∃ V, jsV l 3 F k i = V := ⟨_, rfl⟩
                      obtain ⟨Vp, hVp⟩ : ∃ V, jsV l 3 F k p = V := ⟨_, rfl⟩
                      rw [hVi] at ci bi eg
                      rw [hVp] at cp bp eg
                      clear hVi hVp
                      obtain ⟨T, hT⟩ : ∃ T, Vi - Vp - xp = T := ⟨_, rfl⟩
                      have hbs := bet_step hFp hmp p
                      rw [hT, move_3, move_3, unhide HM, hp] at eg
                      rw [← eg] at hbs
                      obtain ⟨D, hD⟩ : ∃ D, F / (m : Int) = D := ⟨_, rfl⟩
                      rw [hD] at hbs
                      have hTD : Int.tdiv F (m : Int) = D := by rw [Int.tdiv_eq_ediv_of_nonneg (by omega)]; exact hD
                      have hDb : D ≤ 4294967295 := by have := Int.ediv_le_self (m : Int) (show 0 ≤ F by omega); omega
                      clear hD eg
                      clear hxp hxi
                      have hip : (i : Int) - 1 = (p : Int) := by omega
                      have hpk : (0 : Int) ≤ (i : Int) ∧ (i : Int) < (k : Int) ∧ (0 : Int) ≤ (p : Int) ∧ (p : Int) < (k : Int) := by omega
                      clear hp
                      go_upto_region 36 with fail
                      go_quiet (fail)
                      clear ci cp cp2 bi bp hxb
                      have hmI2 : (0 : Int) < (m : Int) := by omega
                      go_wp2_with fail
                      go_roundw
                      case rel => exact ⟨i + 1, by go_num, by omega, by omega, E3.drewN _⟩
                      case measure => simp [intOf]; omega
                    · obtain rfl : i = k := by omega
                      go_wp2_with fail
                      go_roundw
                      case rel => exact ⟨3 + 1, by go_num, by omega, by omega, EE.trans E3⟩
                      case measure => simp [intOf]
            · as_aux_lemma =>
                have hFn : F ≤ 0 := by omega
                have h00 : True := trivial
                go_upto_region 33 with fail
                go_wp2_with fail
                go_loopw [18] (fun v18 wr3 => ∃ (i : Nat), v18 = .int .i64 i ∧ 1 ≤ i ∧ i ≤ k ∧ Ext w6 wr3) (fun v18 _ => k - (intOf v18).toNat)
                case atStart => exact ⟨1, rfl, by omega, by omega, (Ext.refl _).drewN _⟩
                case round =>
                  obtain ⟨i, rfl, hi1, hik, E3⟩ := hrel
                  by_cases hi : i < k
                  · obtain ⟨p, hp⟩ : ∃ p, i = p + 1 := ⟨i - 1, by omega⟩
                    obtain ⟨xp, hxp⟩ : ∃ x, l[p]? = some x := ⟨_, List.getElem?_eq_getElem (by have := unhide HL; omega)⟩
                    obtain ⟨xi, hxi⟩ : ∃ x, l[i]? = some x := ⟨_, List.getElem?_eq_getElem (by have := unhide HL; omega)⟩
                    have ci := (E3.cells.1 gF _ lF).trans ((unhide FC) i _ hxi).1
                    have cp := (E3.cells.1 gF _ lF).trans ((unhide FC) p _ hxp).1
                    have cp2 := (E3.cells.1 gF _ lF).trans ((unhide FC) p _ hxp).2
                    have lF3 := Nat.lt_of_lt_of_le lF E3.size
                    have bi := unhide VBH 3 i hi
                    have bp := unhide VBH 3 p (by omega)
                    have eg := js_gap hxp 3 F k
                    have hxb := unhide hbx _ (List.mem_of_getElem? hxp)
                    rw [← hp] at eg
                    obtain ⟨Vi, hVi⟩ : ∃ V, jsV l 3 F k i = V := ⟨_, rfl⟩
                    obtain ⟨Vp, hVp⟩ : ∃ V, jsV l 3 F k p = V := ⟨_, rfl⟩
                    rw [hVi] at ci bi eg
                    rw [hVp] at cp bp eg
                    clear hVi hVp
                    have hg : Vi - Vp - xp = 0 := by rw [eg, move_3, move_3, bet_no hFn, bet_no hFn]; omega
                    clear hxp hxi
                    have hip : (i : Int) - 1 = (p : Int) := by omega
                    have hpk : (0 : Int) ≤ (i : Int) ∧ (i : Int) < (k : Int) ∧ (0 : Int) ≤ (p : Int) ∧ (p : Int) < (k : Int) := by omega
                    clear hp
                    clear eg
                    go_upto_region 36 with fail
                    go_quiet (fail)
                    clear ci cp cp2 bi bp hxb
                    go_wp2_with fail
                    go_roundw
                    case rel => exact ⟨i + 1, by go_num, by omega, by omega, E3.drewN _⟩
                    case measure => simp [intOf]; omega
                  · obtain rfl : i = k := by omega
                    go_wp2_with fail
                    go_roundw
                    case rel => exact ⟨3 + 1, by go_num, by omega, by omega, EE.trans E3⟩
                    case measure => simp [intOf]
        · obtain rfl : j = 4 := by omega
          go_wp2_with fail
          with_reducible refine (unhide (cW _)).mono ?_
          rintro e wz ⟨rfl, hx⟩
          go_wp2_with fail
          go_ret
          exact ⟨rfl, (E.trans EE).trans hx⟩
end Go.Proofs.Ytkkkdjkjggofkaa
