/- Layer 20: the law CrossPlays (walk). -/
import Derived.Test.YtkkkdjkjggofkaaCqD
import Derived.Test.YtkkkdjkjggofkaaCqE
import Derived.Test.YtkkkdjkjggofkaaCsQ
import Derived.Test.YtkkkdjkjggofkaaGs
import Derived.Lib.Builder
namespace Go.Proofs.Ytkkkdjkjggofkaa
open Go.RowKit
/-- what cross.Place makes of the document's rows -/
theorem placesP_any (s : Sty) (c : Int) (ak au ah Ar : Option Addr) (n ck nu cu nh ch nr cr : Nat) (ks : List Sty) (us : List Us) (hs : List Int) (rs : List (List Nat)) (w : World) (hk : Rd w 43 ak n (recs styC ks)) (hu : Rd w 3 au nu (recs usC us)) (hh : Rd w 1 ah nh (ints hs))
    (hr : RdR w 0 Ar nr (fun r => castL (rs.getD r []))) (hrs : RowsP rs n nr) (hn : n ≤ 60) (hc : 0 ≤ c ∧ c ≤ 1099511627776) (hkn : ks.length = n) (hok : ∀ s ∈ ks, KidOk s) (hub : ∀ u ∈ us, UsOk u) (hhb : ∀ h ∈ hs, 0 ≤ h ∧ h ≤ 1099511627776)
    (hsj : 0 ≤ s.justify ∧ s.justify ≤ 255) (hsh : StyH s) :
    Calls Try.prog 10 #[.agg s.cells, .int .i64 c, .slice ak n ck, .slice au nu cu, .slice ah nh ch, .slice Ar nr cr] w (PlaceOut w n (topN s c nr rs (mIt c ks us hs zsty) nr).2 (topS s nr (mIt c ks us hs zsty) rs nr)) := by
  have hst : ∀ i, i < n → ((topN s c nr rs (mIt c ks us hs zsty) nr).2 i).st = true := fun i hi => by
    have := all_st (s := s) (c := c) (nr := nr) (rs := rs) (I := (mIt c ks us hs zsty)) hrs.nd (n := n) (fun i hi => hrs.all hi) i hi
    rwa [hrs.len] at this
  have ht2 : (topN s c nr rs (mIt c ks us hs zsty) nr).1 = topS s nr (mIt c ks us hs zsty) rs nr := topN_top hrs.nd nr (by have := hrs.len; omega)
  have hle := hrs.le
  rw [← ht2]
  exact place_any s c ak au ah Ar n ck nu cu nh ch nr cr ks us hs zsty rs w hk hu hh hr hrs.len (by omega) (by omega) hc (fun s hs => (may_facts (hok s hs).may).1.ok) (fun u hu => (hub u hu).w) (fun i hi => it_bd hok hub hhb hc (by omega) zsty) hsj hsh hrs.ok hst
theorem ji64_info : (Try.prog.info? 2).map (fun i => (i.zero, i.size, decide (i.bytes ≤ 100000))) = some (some (.int .i64 0), 1, true) := by kernel_rfl
theorem bytes100 {k b : Nat} (hk : k ≤ 100) (hb : b ≤ 100000) : (0 + k) * b ≤ 140737488355328 := by
  rw [Nat.zero_add]
  exact Nat.le_trans (Nat.mul_le_mul hk hb) (by decide)
theorem styC_one (s : Sty) : ∀ v ∈ styC s, v.oneCell' = true := by
  intro v hv
  simp only [styC, List.mem_cons, List.not_mem_nil, or_false] at hv
  rcases hv with rfl | rfl | rfl | rfl | rfl | rfl | rfl | rfl | rfl | rfl | rfl | rfl | rfl | rfl | rfl | rfl | rfl | rfl | rfl | rfl | rfl | rfl | rfl | rfl | rfl | rfl | rfl | rfl | rfl | rfl | rfl | rfl | rfl | rfl | rfl | rfl | rfl | rfl | rfl | rfl | rfl | rfl | rfl
  all_goals rfl
theorem ints_all (l : List Int) : ∀ u ∈ ints l, u.oneCell' = true := by
  intro u hu
  obtain ⟨x, _, rfl⟩ := List.mem_map.1 hu
  rfl
set_option maxRecDepth 100000 in
set_option maxHeartbeats 32000000 in
theorem law_crossPlays (x : Cs) (ks : List Sty) (us : List Us) (hs : List Int) (au : Int) (w : World) (hin : CsIn w x ks us hs) :
    Calls Try.prog 3 #[.agg x.cells, .int .i64 au] w fun e w' => e = .returned (.bool true) ∧ Ext w w' := by
  obtain ⟨rk, ru, rh, hsw, _, _, _, _⟩ := hin
  have hkl : ks.length = x.kl := by have := rk.len; rw [recs_len styC_len] at this; omega
  have hul : us.length = x.ul := by have := ru.len; rw [recs_len usC_len] at this; omega
  have hhl : hs.length = x.hl := by have := rh.len; rw [ints_len] at this; omega
  have cM := fun w h1 h2 h3 => hide (caseMay_any x ks us hs w h1 h2 h3)
  have cW := fun w => hide (works20_any w)
  have CS := fun j v (h : (styC x.s)[j]? = some v) => x.sty h
  have hsj := okI_u8 hsw.justify
  obtain ⟨s, c, ka, kl, kc, ua, ul, uc, ha, hl, hc⟩ := x
  simp only at rk ru rh hkl hul hhl cM CS hsj
  clear hsw
  have HCS := hide CS
  have HKL := hide hkl
  have HUL := hide hul
  have HHL := hide hhl
  have HSJ := hide hsj
  clear CS hkl hul hhl hsj
  obtain ⟨iu, hu1, hu2, hu3, hu4⟩ := info_bnd ju_info
  have HIU := hide (And.intro hu1 (And.intro hu2 (And.intro hu3 hu4)))
  clear hu1 hu2 hu3 hu4
  obtain ⟨ih, hu1, hu2, hu3, hu4⟩ := info_bnd ji64_info
  have HIH := hide (And.intro hu1 (And.intro hu2 (And.intro hu3 hu4)))
  clear hu1 hu2 hu3 hu4
  obtain ⟨ik, hu1, hu2, hu3, hu4⟩ := info_bnd js_info
  have HIK := hide (And.intro hu1 (And.intro hu2 (And.intro hu3 hu4)))
  clear hu1 hu2 hu3 hu4
  go_enter Try.func3, Try.ntmps3
  go_upto_region 1 with fail
  have BC : Blk (w.alloc (.cells (Cs.cells ⟨s, c, ka, kl, kc, ua, ul, uc, ha, hl, hc⟩) 33)) w.heap.size 33 (Cs.cells ⟨s, c, ka, kl, kc, ua, ul, uc, ha, hl, hc⟩) := Blk.new _ _ _
  have E : Ext w (w.alloc (.cells (Cs.cells ⟨s, c, ka, kl, kc, ua, ul, uc, ha, hl, hc⟩) 33)) := (Ext.refl _).alloc _
  obtain ⟨g, hg⟩ : ∃ g, w.heap.size = g := ⟨_, rfl⟩
  rw [hg] at BC ⊢
  clear hg
  generalize w.alloc (.cells (Cs.cells ⟨s, c, ka, kl, kc, ua, ul, uc, ha, hl, hc⟩) 33) = w0 at *
  go_step
  refine wpList_load_blk rfl 33 _ rfl g rfl 33 (Cs.cells ⟨s, c, ka, kl, kc, ua, ul, uc, ha, hl, hc⟩) _ BC Try.underlying33 rfl (by kernel_rfl) ?_
  simp only [Act.put, List.setIfInBounds_toArray, List.set_cons_succ, List.set_cons_zero]
  go_wp2_with fail
  with_reducible refine (unhide (cM _ (rk.ext E) (ru.ext E) (rh.ext E))).mono ?_
  rintro e w1 ⟨b, rfl, hb, hx⟩
  replace BC := BC.ext hx
  replace E := E.trans hx
  clear hx cM
  cases b
  · skip
    go_wp2_with fail
    with_reducible refine (unhide (cW _)).mono ?_
    rintro e wz ⟨rfl, hz⟩
    go_wp2_with fail
    go_ret
    exact ⟨rfl, (E).trans hz⟩
  have HOK := hide (hb rfl)
  clear hb
  by_cases hau : au < -1099511627776
  · skip
    go_wp2_with fail
    with_reducible refine (unhide (cW _)).mono ?_
    rintro e wz ⟨rfl, hz⟩
    go_wp2_with fail
    go_ret
    exact ⟨rfl, (E).trans hz⟩
  by_cases hau2 : 1099511627776 < au
  · skip
    go_wp2_with fail
    with_reducible refine (unhide (cW _)).mono ?_
    rintro e wz ⟨rfl, hz⟩
    go_wp2_with fail
    go_ret
    exact ⟨rfl, (E).trans hz⟩
  have hkl60 := (unhide HOK).kl
  have hul60 := (unhide HOK).ul
  have hhl60 := (unhide HOK).hl
  simp only at hkl60 hul60 hhl60
  go_upto_region 3 with fail
  clear hau hau2
  have HMID := hide (show w1.rangeAt g 0 (styC s) from fun j v hv => by rw [Nat.zero_add]; exact (BC.cell j).trans (unhide HCS j v hv))
  have cR := fun w' h => hide (rows_any s c ka kl kc ks w' h hkl60 (unhide HOK).kids (unhide HOK).c)
  have C43 := (BC.cell 43).trans (show _ = some (Value.int .i64 c) from rfl)
  have C44 := (BC.cell 44).trans (show _ = some (Value.slice ka kl kc) from rfl)
  have LC := BC.lt
  iterate 4 go_step
  refine wpList_load_sty (.tmp 29) rfl g 0 rfl rfl s (unhide HMID) ?_
  simp only [Act.put, List.setIfInBounds_toArray, List.set_cons_succ, List.set_cons_zero]
  go_wp2_with fail
  with_reducible refine (unhide (cR _ (rk.ext E))).mono ?_
  rintro e w2 ⟨A, nr, cap, rs, rfl, hR, hlen, hle, hperm, hx⟩
  have HRP := hide (show RowsP rs kl nr from ⟨hperm, hlen, hle⟩)
  replace BC := BC.ext hx
  replace E := E.trans hx
  clear hx cR hlen hle hperm C43 C44 LC HMID
  go_upto_region 4 with fail
  iterate 4 go_step
  have O0 : (w2.alloc (.cells #[] 48)).ownsRow w2.heap.size 48 3 (.slice (some ⟨w2.heap.size, 0, none⟩) 0 0) 0 [] := World.ownsRow_lit (base := w2.heap.size) (e := 48) (size := 3) w2 #[] 0 (by omega) (by simp [maxLen]) rfl
  have F1 : Ext w2 (w2.alloc (.cells #[] 48)) := (Ext.refl _).alloc _
  generalize w2.alloc (.cells #[] 48) = wn at *
  have BN := BC.ext F1
  have C1 := (BN.cell 45).trans (show _ = some (Value.slice ua ul uc) from rfl)
  have L1 := BN.lt
  iterate 6 go_step
  refine wpList_append_rd rfl (.tmp 36) (.tmp 38) _ rfl w2.heap.size 48 iu _ 3 _ Try.underlying30 (unhide HIU).1 (unhide HIU).2.1 (unhide HIU).2.2.1 rfl rfl (by omega) _ 0 [] rfl O0 ua ul uc (recs usC us) rfl (ru.ext (E.trans F1)) (recs_ones usC_one us) (by simp only [maxLen]; omega) (bytes100 (by omega) (unhide HIU).2.2.2) F1.size ?_
  intro Au cu w3 own6 g6 at6
  rw [Nat.zero_add, List.nil_append] at own6
  rw [Nat.zero_add]
  simp only [Act.put, List.setIfInBounds_toArray, List.set_cons_succ, List.set_cons_zero]
  have F2 : Ext w2 w3 := F1.grown g6 (fun q e => (O0.lt q e).1)
  have Ru := Rd.of_own own6
  replace BC := BC.ext F2
  replace E := E.trans F2
  replace hR := hR.ext F2
  clear O0 F1 F2 BN C1 L1 own6 g6 at6 wn
  go_upto_region 5 with fail
  iterate 4 go_step
  have O0 : (w3.alloc (.cells #[] 2)).ownsRow w3.heap.size 2 1 (.slice (some ⟨w3.heap.size, 0, none⟩) 0 0) 0 [] := World.ownsRow_lit (base := w3.heap.size) (e := 2) (size := 1) w3 #[] 0 (by omega) (by simp [maxLen]) rfl
  have F1 : Ext w3 (w3.alloc (.cells #[] 2)) := (Ext.refl _).alloc _
  generalize w3.alloc (.cells #[] 2) = wn at *
  have BN := BC.ext F1
  have C1 := (BN.cell 46).trans (show _ = some (Value.slice ha hl hc) from rfl)
  have L1 := BN.lt
  iterate 6 go_step
  refine wpList_append_rd rfl (.tmp 40) (.tmp 42) _ rfl w3.heap.size 2 ih _ 1 _ Try.underlying31 (unhide HIH).1 (unhide HIH).2.1 (unhide HIH).2.2.1 rfl rfl (by omega) _ 0 [] rfl O0 ha hl hc (ints hs) rfl (rh.ext (E.trans F1)) (ints_all hs) (by simp only [maxLen]; omega) (bytes100 (by omega) (unhide HIH).2.2.2) F1.size ?_
  intro Ah ch w4 own6 g6 at6
  rw [Nat.zero_add, List.nil_append] at own6
  rw [Nat.zero_add]
  simp only [Act.put, List.setIfInBounds_toArray, List.set_cons_succ, List.set_cons_zero]
  have F2 : Ext w3 w4 := F1.grown g6 (fun q e => (O0.lt q e).1)
  have Rh := Rd.of_own own6
  replace BC := BC.ext F2
  replace E := E.trans F2
  replace hR := hR.ext F2
  replace Ru := Ru.ext F2
  clear O0 F1 F2 BN C1 L1 own6 g6 at6 wn
  go_upto_region 6 with fail
  have HKF := hide (fun A' c' w' h1 h2 h3 h4 => placesP_any s c A' Au Ah A kl c' ul cu hl ch nr cap ks us hs rs w' h1 h2 h3 h4 (unhide HRP) hkl60 (unhide HOK).c (unhide HKL) (unhide HOK).kids (unhide HOK).useds (unhide HOK).highs (unhide HSJ) (unhide HOK).hi.sh)
  have HMID := hide (show w4.rangeAt g 0 (styC s) from fun j v hv => by rw [Nat.zero_add]; exact (BC.cell j).trans (unhide HCS j v hv))
  have HRK := hide (rk.ext E)
  have HRR := hide hR
  have HRU := hide Ru
  have HRH := hide Rh
  obtain ⟨JJ, hJJ⟩ : ∃ f, (topN s c nr rs (mIt c ks us hs zsty) nr).2 = f := ⟨_, rfl⟩
  obtain ⟨TT, hTT⟩ : ∃ t, topS s nr (mIt c ks us hs zsty) rs nr = t := ⟨_, rfl⟩
  rw [hJJ, hTT] at HKF
  have HJJ := hide hJJ
  have HTT := hide hTT
  clear hJJ hTT
  have C43 := (BC.cell 43).trans (show _ = some (Value.int .i64 c) from rfl)
  have C44 := (BC.cell 44).trans (show _ = some (Value.slice ka kl kc) from rfl)
  have LC := BC.lt
  refine wp_region_lin (by kernel_rfl) (fun w' => (ExtX w4 w' [])) (fun ii vv ww => match ii with | 0 => vv = .pointer (some ⟨g, 0, none⟩) | 1 => vv = .agg s.cells | 2 => vv = .pointer (some ⟨g, 43, none⟩) | 3 => vv = .int .i64 c | 4 => ∃ q, vv = .slice (some ⟨q, 0, none⟩) 0 0 ∧ w4.heap.size ≤ q ∧ Blk ww q 28 #[] | 5 => vv = .pointer (some ⟨g, 44, none⟩) | 6 => vv = .slice ka kl kc | 7 => ∃ A c, vv = .slice A kl c ∧ Rd ww 43 A kl (recs styC ks) | 8 => vv = .slice Au ul cu | 9 => vv = .slice Ah hl ch | 10 => vv = .slice A nr cap | 11 => ∃ gF gB, vv = .tuple #[.slice (some ⟨gF, 0, none⟩) kl kl, .int .i64 (cutV TT), .slice (some ⟨gB, 0, none⟩) kl kl] ∧ FrAt ww gF kl (fun i => frV (JJ i)) ∧ Blk ww gB 4 (boolL (byN JJ kl kl)).toArray | 12 => ∃ gF gB, vv = .tuple #[.slice (some ⟨gF, 0, none⟩) kl kl, .int .i64 (cutV TT), .slice (some ⟨gB, 0, none⟩) kl kl] ∧ FrAt ww gF kl (fun i => frV (JJ i)) ∧ Blk ww gB 4 (boolL (byN JJ kl kl)).toArray | 13 => ∃ gF, vv = .slice (some ⟨gF, 0, none⟩) kl kl ∧ FrAt ww gF kl (fun i => frV (JJ i)) | 14 => vv = .int .i64 (cutV TT) | 15 => ∃ gB, vv = .slice (some ⟨gB, 0, none⟩) kl kl ∧ Blk ww gB 4 (boolL (byN JJ kl kl)).toArray | 16 => ∃ gF, vv = .slice (some ⟨gF, 0, none⟩) kl kl ∧ FrAt ww gF kl (fun i => frV (JJ i)) | 17 => vv = .int .i64 (cutV TT) | 18 => ∃ gB, vv = .slice (some ⟨gB, 0, none⟩) kl kl ∧ Blk ww gB 4 (boolL (byN JJ kl kl)).toArray | _ => True) (fun ii => match ii with | 1 => [(0, 45)] | 3 => [(2, 47)] | 6 => [(5, 50)] | 7 => [(4, 49), (6, 51)] | 11 => [(1, 46), (3, 48), (7, 52), (8, 53), (9, 54), (10, 55)] | 12 => [(11, 56)] | 13 => [(12, 44)] | 14 => [(12, 44)] | 15 => [(12, 44)] | 16 => [(13, 57)] | 17 => [(14, 58)] | 18 => [(15, 59)] | _ => []) (fun ii => match ii with | 0 => [2] | 2 => [2] | 5 => [2] | 8 => [6] | 9 => [7] | 10 => [5] | _ => []) (fun ii => match ii with | 0 => [2, 5, 4, 6, 3, 7, 8, 9, 10] | 1 => [2, 5, 4, 6, 3, 7, 8, 9, 10] | 2 => [0, 5, 4, 6, 1, 7, 8, 9, 10] | 3 => [0, 5, 4, 6, 1, 7, 8, 9, 10] | 4 => [0, 2, 5, 6, 1, 3, 8, 9, 10] | 5 => [0, 2, 4, 1, 3, 8, 9, 10] | 6 => [0, 2, 4, 1, 3, 8, 9, 10] | 7 => [0, 2, 1, 3, 8, 9, 10] | 8 => [0, 2, 5, 4, 6, 1, 3, 7, 9, 10] | 9 => [0, 2, 5, 4, 6, 1, 3, 7, 8, 10] | 10 => [0, 2, 5, 4, 6, 1, 3, 7, 8, 9] | 13 => [12, 14, 15] | 14 => [12, 13, 15, 16] | 15 => [12, 13, 14, 16, 17] | 16 => [12, 14, 15] | 17 => [12, 15, 16] | 18 => [16, 17] | _ => []) [16, 17, 18] [0, 1, 0, 4, 0, 0, 32, 112, 0, 0, 0, 2047, 4095, 8191, 8191, 8191, 16383, 98303, 262143] 171 rfl (by kernel_rfl) (ExtX.start _ _) ?_ ?_
  · rename_i hcont; clear hcont
    refine ⟨?_, ?_, ?_, ?_, ?_, ?_, ?_, ?_, ?_, ?_, ?_, ?_, ?_, ?_, ?_, ?_, ?_, ?_, ?_, trivial⟩
    · refine stepL_plain rfl ?_
      rintro F a w1 jE - ⟨t2, -⟩ K hK
      have t2 : a.tmps[2]? = some (.pointer (some ⟨g, 0, none⟩)) := t2
      go_simp
      exact hK _ _ jE rfl (fun _ _ _ h => h)
    · refine stepL_plain rfl ?_
      rintro F a w1 jE ⟨h0, t45, -⟩ - K hK
      have h0 : (F 0) = .pointer (some ⟨g, 0, none⟩) := h0
      rw [h0] at t45
      clear h0
      refine wp_load_mid 28 _ rfl g (0) (eval_tmp t45) (styC s) _ (fun x v hv => ((jE.ext (Ext.refl _) (by simp)).cells.1 g _ LC).trans ((unhide HMID) x v hv)) Try.underlying28 rfl (info_style s) ?_
      exact hK _ _ jE rfl (fun _ _ _ h => h)
    · refine stepL_plain rfl ?_
      rintro F a w1 jE - ⟨t2, -⟩ K hK
      have t2 : a.tmps[2]? = some (.pointer (some ⟨g, 0, none⟩)) := t2
      go_simp
      exact hK _ _ jE rfl (fun _ _ _ h => h)
    · refine stepL_plain rfl ?_
      rintro F a w1 jE ⟨h2, t47, -⟩ - K hK
      have h2 : (F 2) = .pointer (some ⟨g, 43, none⟩) := h2
      rw [h2] at t47
      clear h2
      have c := ((jE.ext (Ext.refl _) (by simp)).cells.1 _ _ LC).trans C43
      go_simp
      exact hK _ _ jE rfl (fun _ _ _ h => h)
    · refine stepL_plain rfl ?_
      rintro F a w1 jE - - K hK
      have hx : Ext w1 (w1.alloc (.cells #[] 28)) := (Ext.refl _).alloc _
      have hz := jE.size
      go_simp
      exact hK _ _ (jE.trans hx) ⟨_, rfl, by omega, Blk.new _ _ _⟩ (by intro jq hj uq h; have hj : jq ∈ [0, 2, 5, 6, 1, 3, 8, 9, 10] := hj; simp only [List.mem_cons, List.not_mem_nil, or_false] at hj; rcases hj with rfl | rfl | rfl | rfl | rfl | rfl | rfl | rfl | rfl; exact h; exact h; exact h; exact h; exact h; exact h; exact h; exact h; exact h)
    · refine stepL_plain rfl ?_
      rintro F a w1 jE - ⟨t2, -⟩ K hK
      have t2 : a.tmps[2]? = some (.pointer (some ⟨g, 0, none⟩)) := t2
      go_simp
      exact hK _ _ jE rfl (fun _ _ _ h => h)
    · refine stepL_plain rfl ?_
      rintro F a w1 jE ⟨h5, t50, -⟩ - K hK
      have h5 : (F 5) = .pointer (some ⟨g, 44, none⟩) := h5
      rw [h5] at t50
      clear h5
      have c := ((jE.ext (Ext.refl _) (by simp)).cells.1 _ _ LC).trans C44
      go_simp
      exact hK _ _ jE rfl (fun _ _ _ h => h)
    · refine stepL_plain rfl ?_
      rintro F a w1 jE ⟨h4, t49, h6, t51, -⟩ - K hK
      have h4 : ∃ q, (F 4) = .slice (some ⟨q, 0, none⟩) 0 0 ∧ w4.heap.size ≤ q ∧ Blk w1 q 28 #[] := h4
      have h6 : (F 6) = .slice ka kl kc := h6
      rw [h6] at t51
      clear h6
      obtain ⟨q, hv, hq, B0⟩ := h4
      rw [hv] at t49
      have hz := jE.size
      have O0 : w1.ownsRow w4.heap.size 28 43 (.slice (some ⟨q, 0, none⟩) 0 0) 0 [] := ⟨rfl, .inr ⟨q, 0, #[], rfl, hq, B0, Nat.le_refl _, by simp [maxLen], rfl, rfl⟩⟩
      refine wp_append_rd (.tmp 49) (.tmp 51) _ rfl w4.heap.size 28 ik _ 43 _ Try.underlying29 (unhide HIK).1 (unhide HIK).2.1 (unhide HIK).2.2.1 rfl rfl (by omega) _ 0 [] (eval_tmp t49) O0 ka kl kc (recs styC ks) (eval_tmp t51) ((unhide HRK).ext (jE.ext (Ext.refl _) (by simp))) (recs_ones styC_one ks) (by simp only [maxLen]; omega) (bytes100 (by omega) (unhide HIK).2.2.2) (by omega) ?_
      intro A' c' w2 own4 g4 at4
      rw [Nat.zero_add, List.nil_append] at own4
      rw [Nat.zero_add]
      exact hK _ _ (jE.grown g4 (fun m e => by have := (O0.lt m e).1; omega)) ⟨A', c', rfl, Rd.of_own own4⟩ (by intro jq hj uq h; have hj : jq ∈ [0, 2, 1, 3, 8, 9, 10] := hj; simp only [List.mem_cons, List.not_mem_nil, or_false] at hj; rcases hj with rfl | rfl | rfl | rfl | rfl | rfl | rfl; exact h; exact h; exact h; exact h; exact h; exact h; exact h)
    · refine stepL_plain rfl ?_
      rintro F a w1 jE - ⟨t6, -⟩ K hK
      have t6 : a.tmps[6]? = some (.slice Au ul cu) := t6
      go_simp
      exact hK _ _ jE rfl (fun _ _ _ h => h)
    · refine stepL_plain rfl ?_
      rintro F a w1 jE - ⟨t7, -⟩ K hK
      have t7 : a.tmps[7]? = some (.slice Ah hl ch) := t7
      go_simp
      exact hK _ _ jE rfl (fun _ _ _ h => h)
    · refine stepL_plain rfl ?_
      rintro F a w1 jE - ⟨t5, -⟩ K hK
      have t5 : a.tmps[5]? = some (.slice A nr cap) := t5
      go_simp
      exact hK _ _ jE rfl (fun _ _ _ h => h)
    · refine stepL_plain rfl ?_
      rintro F a w1 jE ⟨h1, t46, h3, t48, h7, t52, h8, t53, h9, t54, h10, t55, -⟩ - K hK
      have h1 : (F 1) = .agg s.cells := h1
      rw [h1] at t46
      clear h1
      have h3 : (F 3) = .int .i64 c := h3
      rw [h3] at t48
      clear h3
      have h7 : ∃ A c, (F 7) = .slice A kl c ∧ Rd w1 43 A kl (recs styC ks) := h7
      have h8 : (F 8) = .slice Au ul cu := h8
      rw [h8] at t53
      clear h8
      have h9 : (F 9) = .slice Ah hl ch := h9
      rw [h9] at t54
      clear h9
      have h10 : (F 10) = .slice A nr cap := h10
      rw [h10] at t55
      clear h10
      obtain ⟨A', c', hv, RK⟩ := h7
      rw [hv] at t52
      go_simp
      have hj := jE.ext (Ext.refl _) (by simp)
      with_reducible refine ((unhide HKF) A' c' _ RK ((unhide HRU).ext hj) ((unhide HRH).ext hj) ((unhide HRR).ext hj)).mono ?_
      rintro e w2 ⟨gF, gB, rfl, hF, hB, hx⟩
      exact hK _ _ (jE.trans hx) ⟨gF, gB, rfl, hF, hB⟩ (fun _ hj _ _ => (List.not_mem_nil hj).elim)
    · refine stepL_plain rfl ?_
      rintro F a w1 jE ⟨h11, t56, -⟩ - K hK
      have h11 : ∃ gF gB, (F 11) = .tuple #[.slice (some ⟨gF, 0, none⟩) kl kl, .int .i64 (cutV TT), .slice (some ⟨gB, 0, none⟩) kl kl] ∧ FrAt w1 gF kl (fun i => frV (JJ i)) ∧ Blk w1 gB 4 (boolL (byN JJ kl kl)).toArray := h11
      obtain ⟨gF, gB, hv, hF, hB⟩ := h11
      rw [hv] at t56
      go_simp
      exact hK _ _ jE ⟨gF, gB, rfl, hF, hB⟩ (fun _ _ _ h => h)
    · refine stepL_plain rfl ?_
      rintro F a w1 jE ⟨h12, t44, -⟩ - K hK
      have h12 : ∃ gF gB, (F 12) = .tuple #[.slice (some ⟨gF, 0, none⟩) kl kl, .int .i64 (cutV TT), .slice (some ⟨gB, 0, none⟩) kl kl] ∧ FrAt w1 gF kl (fun i => frV (JJ i)) ∧ Blk w1 gB 4 (boolL (byN JJ kl kl)).toArray := h12
      obtain ⟨gF, gB, hv, hF, hB⟩ := h12
      rw [hv] at t44
      go_simp
      exact hK _ _ jE ⟨gF, rfl, hF⟩ (fun _ _ _ h => h)
    · refine stepL_plain rfl ?_
      rintro F a w1 jE ⟨h12, t44, -⟩ - K hK
      have h12 : ∃ gF gB, (F 12) = .tuple #[.slice (some ⟨gF, 0, none⟩) kl kl, .int .i64 (cutV TT), .slice (some ⟨gB, 0, none⟩) kl kl] ∧ FrAt w1 gF kl (fun i => frV (JJ i)) ∧ Blk w1 gB 4 (boolL (byN JJ kl kl)).toArray := h12
      obtain ⟨gF, gB, hv, hF, hB⟩ := h12
      rw [hv] at t44
      go_simp
      exact hK _ _ jE rfl (fun _ _ _ h => h)
    · refine stepL_plain rfl ?_
      rintro F a w1 jE ⟨h12, t44, -⟩ - K hK
      have h12 : ∃ gF gB, (F 12) = .tuple #[.slice (some ⟨gF, 0, none⟩) kl kl, .int .i64 (cutV TT), .slice (some ⟨gB, 0, none⟩) kl kl] ∧ FrAt w1 gF kl (fun i => frV (JJ i)) ∧ Blk w1 gB 4 (boolL (byN JJ kl kl)).toArray := h12
      obtain ⟨gF, gB, hv, hF, hB⟩ := h12
      rw [hv] at t44
      go_simp
      exact hK _ _ jE ⟨gB, rfl, hB⟩ (fun _ _ _ h => h)
    · refine stepL_plain rfl ?_
      rintro F a w1 jE ⟨h13, t57, -⟩ - K hK
      have h13 : ∃ gF, (F 13) = .slice (some ⟨gF, 0, none⟩) kl kl ∧ FrAt w1 gF kl (fun i => frV (JJ i)) := h13
      obtain ⟨gF, hv, hF⟩ := h13
      rw [hv] at t57
      go_simp
      exact hK _ _ jE ⟨gF, rfl, hF⟩ (fun _ _ _ h => h)
    · refine stepL_plain rfl ?_
      rintro F a w1 jE ⟨h14, t58, -⟩ - K hK
      have h14 : (F 14) = .int .i64 (cutV TT) := h14
      rw [h14] at t58
      clear h14
      go_simp
      exact hK _ _ jE rfl (fun _ _ _ h => h)
    · refine stepL_plain rfl ?_
      rintro F a w1 jE ⟨h15, t59, -⟩ - K hK
      have h15 : ∃ gB, (F 15) = .slice (some ⟨gB, 0, none⟩) kl kl ∧ Blk w1 gB 4 (boolL (byN JJ kl kl)).toArray := h15
      obtain ⟨gB, hv, hB⟩ := h15
      rw [hv] at t59
      go_simp
      exact hK _ _ jE ⟨gB, rfl, hB⟩ (fun _ _ _ h => h)
  · rintro F w5 jE ⟨h16, h17, h18, -⟩
    have h16 : ∃ gF, (F 16) = .slice (some ⟨gF, 0, none⟩) kl kl ∧ FrAt w5 gF kl (fun i => frV (JJ i)) := h16
    have h17 : (F 17) = .int .i64 (cutV TT) := h17
    have h18 : ∃ gB, (F 18) = .slice (some ⟨gB, 0, none⟩) kl kl ∧ Blk w5 gB 4 (boolL (byN JJ kl kl)).toArray := h18
    have hx := jE.ext (Ext.refl _) (by simp)
    simp only [putL, Act.put, Nat.reduceAdd, Nat.zero_add, List.setIfInBounds_toArray, List.set_cons_succ, List.set_cons_zero]
    obtain ⟨gF, hv1, FA⟩ := h16
    obtain ⟨gB, hv2, BA⟩ := h18
    rw [hv1, h17, hv2]
    clear hv1 hv2 h17 jE
    replace BC := BC.ext hx
    replace E := E.trans hx
    replace Ru := (unhide HRU).ext hx
    replace Rh := (unhide HRH).ext hx
    replace hR := (unhide HRR).ext hx
    clear hx HRU HRH HRR HRK HKF HMID C43 C44 LC
    go_upto_region 7 with fail
    have cQ := fun w' h1 h2 h3 h4 => hide (refplace_any s c ka ua ha A kl kc ul uc hl hc nr cap ks us hs rs w' h1 h2 h3 h4 (unhide HRP) (by omega) (unhide HOK).c (fun s hs => (may_facts ((unhide HOK).kids s hs).may).1.ok) (fun u hu => ((unhide HOK).useds u hu).w) (fun i hi => it_bd (unhide HOK).kids (unhide HOK).useds (unhide HOK).highs (unhide HOK).c (by have := unhide HKL; omega) zsty) (unhide HOK).hi.sh)
    simp only [unhide HJJ, unhide HTT] at cQ
    have HMID := hide (show w5.rangeAt g 0 (styC s) from fun j v hv => by rw [Nat.zero_add]; exact (BC.cell j).trans (unhide HCS j v hv))
    have C43 := (BC.cell 43).trans (show _ = some (Value.int .i64 c) from rfl)
    have C44 := (BC.cell 44).trans (show _ = some (Value.slice ka kl kc) from rfl)
    have C45 := (BC.cell 45).trans (show _ = some (Value.slice ua ul uc) from rfl)
    have C46 := (BC.cell 46).trans (show _ = some (Value.slice ha hl hc) from rfl)
    have LC := BC.lt
    iterate 4 go_step
    refine wpList_load_sty (.tmp 61) rfl g 0 rfl rfl s (unhide HMID) ?_
    simp only [Act.put, List.setIfInBounds_toArray, List.set_cons_succ, List.set_cons_zero]
    go_wp2_with fail
    with_reducible refine (unhide (cQ _ (rk.ext E) (ru.ext E) (rh.ext E) hR)).mono ?_
    rintro e w6 ⟨gG, gD, rfl, FD, BD, hx⟩
    replace BC := BC.ext hx
    replace E := E.trans hx
    replace Ru := Ru.ext hx
    replace Rh := Rh.ext hx
    replace FA := FA.ext hx
    replace BA := BA.ext hx
    clear hx cQ hR C43 C44 C45 C46 LC HMID
    obtain ⟨tv, htv⟩ : ∃ t, cutV TT = t := ⟨_, rfl⟩
    rw [htv]
    clear htv HTT
    obtain ⟨bl, hbl⟩ : ∃ l, byN JJ kl kl = l := ⟨_, rfl⟩
    have hbl2 : bl.length = kl := by rw [← hbl]; exact byN_len _ _ _
    rw [hbl] at BA BD
    have HBL := hide hbl2
    clear hbl hbl2
    obtain ⟨hv, hhv⟩ : ∃ z, highV s au = z := ⟨_, rfl⟩
    have cA := fun w => hide (high_any s au w)
    have cB := fun w => hide (ref_high s au w)
    simp only [hhv] at cA cB
    clear hhv
    have ek : ((kl : Int) == (kl : Int)) = true := by simp
    have et : (tv == tv) = true := by simp
    have eh : (hv == hv) = true := by simp
    go_upto_region 8 with fail
    have HMID := hide (show w6.rangeAt g 0 (styC s) from fun j v hv => by rw [Nat.zero_add]; exact (BC.cell j).trans (unhide HCS j v hv))
    have LC := BC.lt
    refine wp_region_lin (by kernel_rfl) (fun w' => (ExtX w6 w' [])) (fun ii vv ww => match ii with | 0 => vv = .int .i64 tv | 1 => vv = .int .i64 tv | 2 => vv = .bool false | 3 => vv = .bool false | 4 => vv = .slice (some ⟨gF, 0, none⟩) kl kl | 5 => vv = .int .i64 ((kl : Nat) : Int) | 6 => vv = .slice (some ⟨gG, 0, none⟩) kl kl | 7 => vv = .int .i64 ((kl : Nat) : Int) | 8 => vv = .bool false | 9 => vv = .bool false | 10 => vv = .bool false | 11 => vv = .slice (some ⟨gB, 0, none⟩) kl kl | 12 => vv = .int .i64 ((kl : Nat) : Int) | 13 => vv = .slice (some ⟨gD, 0, none⟩) kl kl | 14 => vv = .int .i64 ((kl : Nat) : Int) | 15 => vv = .bool false | 16 => vv = .bool false | 17 => vv = .bool false | 18 => vv = .slice (some ⟨gF, 0, none⟩) kl kl | 19 => vv = .int .i64 ((kl : Nat) : Int) | 20 => vv = .slice (some ⟨gB, 0, none⟩) kl kl | 21 => vv = .int .i64 ((kl : Nat) : Int) | 22 => vv = .bool false | 23 => vv = .bool false | 24 => vv = .bool false | 25 => vv = .pointer (some ⟨g, 0, none⟩) | 26 => vv = .agg s.cells | 27 => vv = .int .i64 au | 28 => vv = .int .i64 hv | 29 => vv = .pointer (some ⟨g, 0, none⟩) | 30 => vv = .agg s.cells | 31 => vv = .int .i64 au | 32 => vv = .int .i64 hv | 33 => vv = .bool false | 34 => vv = .bool false | _ => True) (fun ii => match ii with | 2 => [(0, 76), (1, 77)] | 3 => [(2, 78)] | 4 => [(3, 79)] | 5 => [(4, 80), (3, 79)] | 6 => [(3, 79)] | 7 => [(6, 82), (3, 79)] | 8 => [(5, 81), (7, 83), (3, 79)] | 9 => [(3, 79), (8, 84)] | 10 => [(9, 85)] | 11 => [(10, 86)] | 12 => [(11, 87), (10, 86)] | 13 => [(10, 86)] | 14 => [(13, 89), (10, 86)] | 15 => [(12, 88), (14, 90), (10, 86)] | 16 => [(10, 86), (15, 91)] | 17 => [(16, 92)] | 18 => [(17, 93)] | 19 => [(18, 94), (17, 93)] | 20 => [(17, 93)] | 21 => [(20, 96), (17, 93)] | 22 => [(19, 95), (21, 97), (17, 93)] | 23 => [(17, 93), (22, 98)] | 24 => [(23, 99)] | 25 => [(24, 100)] | 26 => [(25, 101), (24, 100)] | 27 => [(24, 100)] | 28 => [(26, 102), (27, 103), (24, 100)] | 29 => [(24, 100)] | 30 => [(29, 105), (24, 100)] | 31 => [(24, 100)] | 32 => [(30, 106), (31, 107), (24, 100)] | 33 => [(28, 104), (32, 108), (24, 100)] | 34 => [(24, 100), (33, 109)] | _ => []) (fun ii => match ii with | 0 => [9] | 1 => [12] | 4 => [8] | 6 => [11] | 11 => [10] | 13 => [13] | 18 => [8] | 20 => [10] | 25 => [2] | 27 => [1] | 29 => [2] | 31 => [1] | _ => []) (fun ii => match ii with | 0 => [1] | 1 => [0] | 4 => [3, 6, 7] | 5 => [3, 6, 7] | 6 => [3, 4, 5] | 7 => [3, 4, 5] | 8 => [3] | 11 => [10, 13, 14] | 12 => [10, 13, 14] | 13 => [10, 11, 12] | 14 => [10, 11, 12] | 15 => [10] | 18 => [17, 20, 21] | 19 => [17, 20, 21] | 20 => [17, 18, 19] | 21 => [17, 18, 19] | 22 => [17] | 25 => [24, 27, 29, 30, 31] | 26 => [24, 27, 29, 30, 31] | 27 => [24, 25, 26, 29, 30, 31] | 28 => [24, 29, 30, 31] | 29 => [24, 25, 26, 27, 31, 28] | 30 => [24, 25, 26, 27, 31, 28] | 31 => [24, 25, 26, 27, 29, 30, 28] | 32 => [28, 24] | 33 => [24] | _ => []) [34] [0, 0, 3, 7, 15, 31, 15, 79, 255, 511, 1023, 2047, 4095, 2047, 10239, 32767, 65535, 131071, 262143, 524287, 262143, 1310719, 4194303, 8388607, 16777215, 33554431, 67108863, 33554431, 268435455, 33554431, 570425343, 33554431, 4294967295, 8589934591, 17179869183] 171 rfl (by kernel_rfl) (ExtX.start _ _) ?_ ?_
    · rename_i hcont; clear hcont
      refine ⟨?_, ?_, ?_, ?_, ?_, ?_, ?_, ?_, ?_, ?_, ?_, ?_, ?_, ?_, ?_, ?_, ?_, ?_, ?_, ?_, ?_, ?_, ?_, ?_, ?_, ?_, ?_, ?_, ?_, ?_, ?_, ?_, ?_, ?_, ?_, trivial⟩
      · refine stepL_plain rfl ?_
        rintro F a w1 jE - ⟨t9, -⟩ K hK
        have t9 : a.tmps[9]? = some (.int .i64 tv) := t9
        go_simp
        exact hK _ _ jE rfl (fun _ _ _ h => h)
      · refine stepL_plain rfl ?_
        rintro F a w1 jE - ⟨t12, -⟩ K hK
        have t12 : a.tmps[12]? = some (.int .i64 tv) := t12
        go_simp
        exact hK _ _ jE rfl (fun _ _ _ h => h)
      · refine stepL_plain rfl ?_
        rintro F a w1 jE ⟨h0, t76, h1, t77, -⟩ - K hK
        have h0 : (F 0) = .int .i64 tv := h0
        rw [h0] at t76
        clear h0
        have h1 : (F 1) = .int .i64 tv := h1
        rw [h1] at t77
        clear h1
        go_simp
        exact hK _ _ jE rfl (fun _ _ _ h => h)
      · refine stepL_plain rfl ?_
        rintro F a w1 jE ⟨h2, t78, -⟩ - K hK
        have h2 : (F 2) = .bool false := h2
        rw [h2] at t78
        clear h2
        go_simp
        exact hK _ _ jE rfl (fun _ _ _ h => h)
      · refine stepL_of ?_
        rintro F a w1 jE ⟨h3, t79, -⟩ ⟨t8, -⟩ K hK
        have h3 : (F 3) = .bool false := h3
        rw [h3] at t79
        clear h3
        have t8 : a.tmps[8]? = some (.slice (some ⟨gF, 0, none⟩) kl kl) := t8
        refine stepY ((wanted_of 3 false 79 _ rfl rfl t79).trans rfl) ?_
        go_simp
        exact hK _ _ jE rfl (fun _ _ _ h => h)
      · refine stepL_of ?_
        rintro F a w1 jE ⟨h4, t80, h3, t79, -⟩ - K hK
        have h4 : (F 4) = .slice (some ⟨gF, 0, none⟩) kl kl := h4
        rw [h4] at t80
        clear h4
        have h3 : (F 3) = .bool false := h3
        rw [h3] at t79
        clear h3
        refine stepY ((wanted_of 3 false 79 _ rfl rfl t79).trans rfl) ?_
        go_simp
        exact hK _ _ jE rfl (fun _ _ _ h => h)
      · refine stepL_of ?_
        rintro F a w1 jE ⟨h3, t79, -⟩ ⟨t11, -⟩ K hK
        have h3 : (F 3) = .bool false := h3
        rw [h3] at t79
        clear h3
        have t11 : a.tmps[11]? = some (.slice (some ⟨gG, 0, none⟩) kl kl) := t11
        refine stepY ((wanted_of 3 false 79 _ rfl rfl t79).trans rfl) ?_
        go_simp
        exact hK _ _ jE rfl (fun _ _ _ h => h)
      · refine stepL_of ?_
        rintro F a w1 jE ⟨h6, t82, h3, t79, -⟩ - K hK
        have h6 : (F 6) = .slice (some ⟨gG, 0, none⟩) kl kl := h6
        rw [h6] at t82
        clear h6
        have h3 : (F 3) = .bool false := h3
        rw [h3] at t79
        clear h3
        refine stepY ((wanted_of 3 false 79 _ rfl rfl t79).trans rfl) ?_
        go_simp
        exact hK _ _ jE rfl (fun _ _ _ h => h)
      · refine stepL_of ?_
        rintro F a w1 jE ⟨h5, t81, h7, t83, h3, t79, -⟩ - K hK
        have h5 : (F 5) = .int .i64 ((kl : Nat) : Int) := h5
        rw [h5] at t81
        clear h5
        have h7 : (F 7) = .int .i64 ((kl : Nat) : Int) := h7
        rw [h7] at t83
        clear h7
        have h3 : (F 3) = .bool false := h3
        rw [h3] at t79
        clear h3
        refine stepY ((wanted_of 3 false 79 _ rfl rfl t79).trans rfl) ?_
        go_simp
        exact hK _ _ jE rfl (fun _ _ _ h => h)
      · refine stepL_plain rfl ?_
        rintro F a w1 jE ⟨h3, t79, h8, t84, -⟩ - K hK
        have h3 : (F 3) = .bool false := h3
        rw [h3] at t79
        clear h3
        have h8 : (F 8) = .bool false := h8
        rw [h8] at t84
        clear h8
        go_simp
        exact hK _ _ jE rfl (fun _ _ _ h => h)
      · refine stepL_plain rfl ?_
        rintro F a w1 jE ⟨h9, t85, -⟩ - K hK
        have h9 : (F 9) = .bool false := h9
        rw [h9] at t85
        clear h9
        go_simp
        exact hK _ _ jE rfl (fun _ _ _ h => h)
      · refine stepL_of ?_
        rintro F a w1 jE ⟨h10, t86, -⟩ ⟨t10, -⟩ K hK
        have h10 : (F 10) = .bool false := h10
        rw [h10] at t86
        clear h10
        have t10 : a.tmps[10]? = some (.slice (some ⟨gB, 0, none⟩) kl kl) := t10
        refine stepY ((wanted_of 10 false 86 _ rfl rfl t86).trans rfl) ?_
        go_simp
        exact hK _ _ jE rfl (fun _ _ _ h => h)
      · refine stepL_of ?_
        rintro F a w1 jE ⟨h11, t87, h10, t86, -⟩ - K hK
        have h11 : (F 11) = .slice (some ⟨gB, 0, none⟩) kl kl := h11
        rw [h11] at t87
        clear h11
        have h10 : (F 10) = .bool false := h10
        rw [h10] at t86
        clear h10
        refine stepY ((wanted_of 10 false 86 _ rfl rfl t86).trans rfl) ?_
        go_simp
        exact hK _ _ jE rfl (fun _ _ _ h => h)
      · refine stepL_of ?_
        rintro F a w1 jE ⟨h10, t86, -⟩ ⟨t13, -⟩ K hK
        have h10 : (F 10) = .bool false := h10
        rw [h10] at t86
        clear h10
        have t13 : a.tmps[13]? = some (.slice (some ⟨gD, 0, none⟩) kl kl) := t13
        refine stepY ((wanted_of 10 false 86 _ rfl rfl t86).trans rfl) ?_
        go_simp
        exact hK _ _ jE rfl (fun _ _ _ h => h)
      · refine stepL_of ?_
        rintro F a w1 jE ⟨h13, t89, h10, t86, -⟩ - K hK
        have h13 : (F 13) = .slice (some ⟨gD, 0, none⟩) kl kl := h13
        rw [h13] at t89
        clear h13
        have h10 : (F 10) = .bool false := h10
        rw [h10] at t86
        clear h10
        refine stepY ((wanted_of 10 false 86 _ rfl rfl t86).trans rfl) ?_
        go_simp
        exact hK _ _ jE rfl (fun _ _ _ h => h)
      · refine stepL_of ?_
        rintro F a w1 jE ⟨h12, t88, h14, t90, h10, t86, -⟩ - K hK
        have h12 : (F 12) = .int .i64 ((kl : Nat) : Int) := h12
        rw [h12] at t88
        clear h12
        have h14 : (F 14) = .int .i64 ((kl : Nat) : Int) := h14
        rw [h14] at t90
        clear h14
        have h10 : (F 10) = .bool false := h10
        rw [h10] at t86
        clear h10
        refine stepY ((wanted_of 10 false 86 _ rfl rfl t86).trans rfl) ?_
        go_simp
        exact hK _ _ jE rfl (fun _ _ _ h => h)
      · refine stepL_plain rfl ?_
        rintro F a w1 jE ⟨h10, t86, h15, t91, -⟩ - K hK
        have h10 : (F 10) = .bool false := h10
        rw [h10] at t86
        clear h10
        have h15 : (F 15) = .bool false := h15
        rw [h15] at t91
        clear h15
        go_simp
        exact hK _ _ jE rfl (fun _ _ _ h => h)
      · refine stepL_plain rfl ?_
        rintro F a w1 jE ⟨h16, t92, -⟩ - K hK
        have h16 : (F 16) = .bool false := h16
        rw [h16] at t92
        clear h16
        go_simp
        exact hK _ _ jE rfl (fun _ _ _ h => h)
      · refine stepL_of ?_
        rintro F a w1 jE ⟨h17, t93, -⟩ ⟨t8, -⟩ K hK
        have h17 : (F 17) = .bool false := h17
        rw [h17] at t93
        clear h17
        have t8 : a.tmps[8]? = some (.slice (some ⟨gF, 0, none⟩) kl kl) := t8
        refine stepY ((wanted_of 17 false 93 _ rfl rfl t93).trans rfl) ?_
        go_simp
        exact hK _ _ jE rfl (fun _ _ _ h => h)
      · refine stepL_of ?_
        rintro F a w1 jE ⟨h18, t94, h17, t93, -⟩ - K hK
        have h18 : (F 18) = .slice (some ⟨gF, 0, none⟩) kl kl := h18
        rw [h18] at t94
        clear h18
        have h17 : (F 17) = .bool false := h17
        rw [h17] at t93
        clear h17
        refine stepY ((wanted_of 17 false 93 _ rfl rfl t93).trans rfl) ?_
        go_simp
        exact hK _ _ jE rfl (fun _ _ _ h => h)
      · refine stepL_of ?_
        rintro F a w1 jE ⟨h17, t93, -⟩ ⟨t10, -⟩ K hK
        have h17 : (F 17) = .bool false := h17
        rw [h17] at t93
        clear h17
        have t10 : a.tmps[10]? = some (.slice (some ⟨gB, 0, none⟩) kl kl) := t10
        refine stepY ((wanted_of 17 false 93 _ rfl rfl t93).trans rfl) ?_
        go_simp
        exact hK _ _ jE rfl (fun _ _ _ h => h)
      · refine stepL_of ?_
        rintro F a w1 jE ⟨h20, t96, h17, t93, -⟩ - K hK
        have h20 : (F 20) = .slice (some ⟨gB, 0, none⟩) kl kl := h20
        rw [h20] at t96
        clear h20
        have h17 : (F 17) = .bool false := h17
        rw [h17] at t93
        clear h17
        refine stepY ((wanted_of 17 false 93 _ rfl rfl t93).trans rfl) ?_
        go_simp
        exact hK _ _ jE rfl (fun _ _ _ h => h)
      · refine stepL_of ?_
        rintro F a w1 jE ⟨h19, t95, h21, t97, h17, t93, -⟩ - K hK
        have h19 : (F 19) = .int .i64 ((kl : Nat) : Int) := h19
        rw [h19] at t95
        clear h19
        have h21 : (F 21) = .int .i64 ((kl : Nat) : Int) := h21
        rw [h21] at t97
        clear h21
        have h17 : (F 17) = .bool false := h17
        rw [h17] at t93
        clear h17
        refine stepY ((wanted_of 17 false 93 _ rfl rfl t93).trans rfl) ?_
        go_simp
        exact hK _ _ jE rfl (fun _ _ _ h => h)
      · refine stepL_plain rfl ?_
        rintro F a w1 jE ⟨h17, t93, h22, t98, -⟩ - K hK
        have h17 : (F 17) = .bool false := h17
        rw [h17] at t93
        clear h17
        have h22 : (F 22) = .bool false := h22
        rw [h22] at t98
        clear h22
        go_simp
        exact hK _ _ jE rfl (fun _ _ _ h => h)
      · refine stepL_plain rfl ?_
        rintro F a w1 jE ⟨h23, t99, -⟩ - K hK
        have h23 : (F 23) = .bool false := h23
        rw [h23] at t99
        clear h23
        go_simp
        exact hK _ _ jE rfl (fun _ _ _ h => h)
      · refine stepL_of ?_
        rintro F a w1 jE ⟨h24, t100, -⟩ ⟨t2, -⟩ K hK
        have h24 : (F 24) = .bool false := h24
        rw [h24] at t100
        clear h24
        have t2 : a.tmps[2]? = some (.pointer (some ⟨g, 0, none⟩)) := t2
        refine stepY ((wanted_of 24 false 100 _ rfl rfl t100).trans rfl) ?_
        go_simp
        exact hK _ _ jE rfl (fun _ _ _ h => h)
      · refine stepL_of ?_
        rintro F a w1 jE ⟨h25, t101, h24, t100, -⟩ - K hK
        have h25 : (F 25) = .pointer (some ⟨g, 0, none⟩) := h25
        rw [h25] at t101
        clear h25
        have h24 : (F 24) = .bool false := h24
        rw [h24] at t100
        clear h24
        refine stepY ((wanted_of 24 false 100 _ rfl rfl t100).trans rfl) ?_
        refine wp_load_mid 28 _ rfl g (0) (eval_tmp t101) (styC s) _ (fun x v hv => ((jE.ext (Ext.refl _) (by simp)).cells.1 g _ LC).trans ((unhide HMID) x v hv)) Try.underlying28 rfl (info_style s) ?_
        exact hK _ _ jE rfl (fun _ _ _ h => h)
      · refine stepL_of ?_
        rintro F a w1 jE ⟨h24, t100, -⟩ ⟨t1, -⟩ K hK
        have h24 : (F 24) = .bool false := h24
        rw [h24] at t100
        clear h24
        have t1 : a.tmps[1]? = some (.int .i64 au) := t1
        refine stepY ((wanted_of 24 false 100 _ rfl rfl t100).trans rfl) ?_
        go_simp
        exact hK _ _ jE rfl (fun _ _ _ h => h)
      · refine stepL_of ?_
        rintro F a w1 jE ⟨h26, t102, h27, t103, h24, t100, -⟩ - K hK
        have h26 : (F 26) = .agg s.cells := h26
        rw [h26] at t102
        clear h26
        have h27 : (F 27) = .int .i64 au := h27
        rw [h27] at t103
        clear h27
        have h24 : (F 24) = .bool false := h24
        rw [h24] at t100
        clear h24
        refine stepY ((wanted_of 24 false 100 _ rfl rfl t100).trans rfl) ?_
        go_simp
        with_reducible refine (unhide (cA _)).mono ?_
        rintro e w2 ⟨rfl, hx⟩
        exact hK _ _ (jE.trans hx) (rfl) (by intro jq hj uq h; have hj : jq ∈ [24, 29, 30, 31] := hj; simp only [List.mem_cons, List.not_mem_nil, or_false] at hj; rcases hj with rfl | rfl | rfl | rfl; exact h; exact h; exact h; exact h)
      · refine stepL_of ?_
        rintro F a w1 jE ⟨h24, t100, -⟩ ⟨t2, -⟩ K hK
        have h24 : (F 24) = .bool false := h24
        rw [h24] at t100
        clear h24
        have t2 : a.tmps[2]? = some (.pointer (some ⟨g, 0, none⟩)) := t2
        refine stepY ((wanted_of 24 false 100 _ rfl rfl t100).trans rfl) ?_
        go_simp
        exact hK _ _ jE rfl (fun _ _ _ h => h)
      · refine stepL_of ?_
        rintro F a w1 jE ⟨h29, t105, h24, t100, -⟩ - K hK
        have h29 : (F 29) = .pointer (some ⟨g, 0, none⟩) := h29
        rw [h29] at t105
        clear h29
        have h24 : (F 24) = .bool false := h24
        rw [h24] at t100
        clear h24
        refine stepY ((wanted_of 24 false 100 _ rfl rfl t100).trans rfl) ?_
        refine wp_load_mid 28 _ rfl g (0) (eval_tmp t105) (styC s) _ (fun x v hv => ((jE.ext (Ext.refl _) (by simp)).cells.1 g _ LC).trans ((unhide HMID) x v hv)) Try.underlying28 rfl (info_style s) ?_
        exact hK _ _ jE rfl (fun _ _ _ h => h)
      · refine stepL_of ?_
        rintro F a w1 jE ⟨h24, t100, -⟩ ⟨t1, -⟩ K hK
        have h24 : (F 24) = .bool false := h24
        rw [h24] at t100
        clear h24
        have t1 : a.tmps[1]? = some (.int .i64 au) := t1
        refine stepY ((wanted_of 24 false 100 _ rfl rfl t100).trans rfl) ?_
        go_simp
        exact hK _ _ jE rfl (fun _ _ _ h => h)
      · refine stepL_of ?_
        rintro F a w1 jE ⟨h30, t106, h31, t107, h24, t100, -⟩ - K hK
        have h30 : (F 30) = .agg s.cells := h30
        rw [h30] at t106
        clear h30
        have h31 : (F 31) = .int .i64 au := h31
        rw [h31] at t107
        clear h31
        have h24 : (F 24) = .bool false := h24
        rw [h24] at t100
        clear h24
        refine stepY ((wanted_of 24 false 100 _ rfl rfl t100).trans rfl) ?_
        go_simp
        with_reducible refine (unhide (cB _)).mono ?_
        rintro e w2 ⟨rfl, hx⟩
        exact hK _ _ (jE.trans hx) (rfl) (by intro jq hj uq h; have hj : jq ∈ [28, 24] := hj; simp only [List.mem_cons, List.not_mem_nil, or_false] at hj; rcases hj with rfl | rfl; exact h; exact h)
      · refine stepL_of ?_
        rintro F a w1 jE ⟨h28, t104, h32, t108, h24, t100, -⟩ - K hK
        have h28 : (F 28) = .int .i64 hv := h28
        rw [h28] at t104
        clear h28
        have h32 : (F 32) = .int .i64 hv := h32
        rw [h32] at t108
        clear h32
        have h24 : (F 24) = .bool false := h24
        rw [h24] at t100
        clear h24
        refine stepY ((wanted_of 24 false 100 _ rfl rfl t100).trans rfl) ?_
        go_simp
        exact hK _ _ jE rfl (fun _ _ _ h => h)
      · refine stepL_plain rfl ?_
        rintro F a w1 jE ⟨h24, t100, h33, t109, -⟩ - K hK
        have h24 : (F 24) = .bool false := h24
        rw [h24] at t100
        clear h24
        have h33 : (F 33) = .bool false := h33
        rw [h33] at t109
        clear h33
        go_simp
        exact hK _ _ jE rfl (fun _ _ _ h => h)
    · rintro F w1x jE ⟨h34, -⟩
      have h34 : (F 34) = .bool false := h34
      have hx := jE.ext (Ext.refl _) (by simp)
      simp only [putL, Act.put, Nat.reduceAdd, Nat.zero_add, List.setIfInBounds_toArray, List.set_cons_succ, List.set_cons_zero]
      rw [h34]
      clear jE h34
      replace E := E.trans hx
      replace BC := BC.ext hx
      replace BA := BA.ext hx
      replace BD := BD.ext hx
      replace Ru := Ru.ext hx
      replace Rh := Rh.ext hx
      replace FA := FA.ext hx
      replace FD := FD.ext hx
      clear hx
      clear HMID LC cA cB ek et eh
      have HRU := hide Ru
      have HRH := hide Rh
      clear Ru Rh
      go_wp2_with fail
      go_loopw [14] (fun v14 wr => ∃ k : Nat, v14 = .int .i64 k ∧ k ≤ kl ∧ Ext w1x wr) (fun v14 _ => kl - (intOf v14).toNat)
      case atStart => exact ⟨0, rfl, by omega, Ext.refl _⟩
      case round =>
        obtain ⟨k, rfl, hk, E1⟩ := hrel
        by_cases hkn : k < kl
        · as_aux_lemma =>
            have hkI : (0 : Int) ≤ (k : Int) ∧ (k : Int) < (kl : Int) := by omega
            obtain ⟨f, hf⟩ : ∃ f, frV (JJ k) = f := ⟨_, rfl⟩
            have m1 := FA.cell k hkn
            have m2 := FD.cell k hkn
            simp only [hf] at m1 m2
            have HM1 := hide (show wr.rangeAt gF (k * 5) (frC f) from fun j v hv => (E1.cells.1 gF _ FA.lt).trans (m1 j v hv))
            have HM2 := hide (show wr.rangeAt gG (k * 5) (frC f) from fun j v hv => (E1.cells.1 gG _ FD.lt).trans (m2 j v hv))
            clear m1 m2 hf
            obtain ⟨bv, hbv⟩ : ∃ b, bl[k]? = some b := ⟨_, List.getElem?_eq_getElem (by rw [unhide HBL]; exact hkn)⟩
            have cb1 := (BA.ext E1).bool hbv
            have cb2 := (BD.ext E1).bool hbv
            have lb1 := (BA.ext E1).lt
            have lb2 := (BD.ext E1).lt
            have l1 := (FA.ext E1).lt
            have l2 := (FD.ext E1).lt
            clear hbv
            have eb : (bv == bv) = true := by simp
            have cS := fun w => hide (sameFrag_any f w)
            go_upto_region 13 with fail
            refine wp_region_lin (by kernel_rfl) (fun w' => (ExtX wr w' [])) (fun ii vv ww => match ii with | 0 => vv = .slice (some ⟨gF, 0, none⟩) kl kl | 1 => vv = .int .i64 (k : Int) | 2 => vv = .pointer (some ⟨gF, k * 5, none⟩) | 3 => vv = .agg (frC f).toArray | 4 => vv = .slice (some ⟨gG, 0, none⟩) kl kl | 5 => vv = .int .i64 (k : Int) | 6 => vv = .pointer (some ⟨gG, k * 5, none⟩) | 7 => vv = .agg (frC f).toArray | 8 => vv = .bool true | 9 => vv = .bool false | 10 => vv = .bool false | 11 => vv = .slice (some ⟨gB, 0, none⟩) kl kl | 12 => vv = .int .i64 (k : Int) | 13 => vv = .pointer (some ⟨gB, k, none⟩) | 14 => vv = .bool bv | 15 => vv = .slice (some ⟨gD, 0, none⟩) kl kl | 16 => vv = .int .i64 (k : Int) | 17 => vv = .pointer (some ⟨gD, k, none⟩) | 18 => vv = .bool bv | 19 => vv = .bool false | 20 => vv = .bool false | _ => True) (fun ii => match ii with | 2 => [(0, 117), (1, 118)] | 3 => [(2, 119)] | 6 => [(4, 121), (5, 122)] | 7 => [(6, 123)] | 8 => [(3, 120), (7, 124)] | 9 => [(8, 125)] | 10 => [(9, 126)] | 11 => [(10, 127)] | 12 => [(10, 127)] | 13 => [(11, 128), (12, 129), (10, 127)] | 14 => [(13, 130), (10, 127)] | 15 => [(10, 127)] | 16 => [(10, 127)] | 17 => [(15, 132), (16, 133), (10, 127)] | 18 => [(17, 134), (10, 127)] | 19 => [(14, 131), (18, 135), (10, 127)] | 20 => [(10, 127), (19, 136)] | _ => []) (fun ii => match ii with | 0 => [8] | 1 => [14] | 4 => [11] | 5 => [14] | 11 => [10] | 12 => [14] | 15 => [13] | 16 => [14] | _ => []) (fun ii => match ii with | 0 => [1, 4, 5, 6, 7] | 1 => [0, 4, 5, 6, 7] | 2 => [4, 5, 6, 7] | 3 => [4, 5, 6, 7] | 4 => [0, 1, 2, 5, 3] | 5 => [0, 1, 2, 4, 3] | 6 => [0, 1, 2, 3] | 7 => [0, 1, 2, 3] | 11 => [10, 12, 15, 16, 17, 18] | 12 => [10, 11, 15, 16, 17, 18] | 13 => [10, 15, 16, 17, 18] | 14 => [10, 15, 16, 17, 18] | 15 => [10, 11, 12, 13, 16, 14] | 16 => [10, 11, 12, 13, 15, 14] | 17 => [10, 11, 12, 13, 14] | 18 => [10, 11, 12, 13, 14] | 19 => [10] | _ => []) [20] [0, 0, 3, 7, 0, 0, 48, 112, 255, 511, 1023, 2047, 2047, 8191, 16383, 2047, 2047, 100351, 231423, 524287, 1048575] 171 rfl (by kernel_rfl) (ExtX.start _ _) ?_ ?_
            · rename_i hcont; clear hcont
              refine ⟨?_, ?_, ?_, ?_, ?_, ?_, ?_, ?_, ?_, ?_, ?_, ?_, ?_, ?_, ?_, ?_, ?_, ?_, ?_, ?_, ?_, trivial⟩
              · refine stepL_plain rfl ?_
                rintro F a w1 jE - ⟨t8, -⟩ K hK
                have t8 : a.tmps[8]? = some (.slice (some ⟨gF, 0, none⟩) kl kl) := t8
                go_simp
                exact hK _ _ jE rfl (fun _ _ _ h => h)
              · refine stepL_plain rfl ?_
                rintro F a w1 jE - ⟨t14, -⟩ K hK
                have t14 : a.tmps[14]? = some (.int .i64 (k : Int)) := t14
                go_simp
                exact hK _ _ jE rfl (fun _ _ _ h => h)
              · refine stepL_plain rfl ?_
                rintro F a w1 jE ⟨h0, t117, h1, t118, -⟩ - K hK
                have h0 : (F 0) = .slice (some ⟨gF, 0, none⟩) kl kl := h0
                rw [h0] at t117
                clear h0
                have h1 : (F 1) = .int .i64 (k : Int) := h1
                rw [h1] at t118
                clear h1
                go_simp
                exact hK _ _ jE rfl (fun _ _ _ h => h)
              · refine stepL_plain rfl ?_
                rintro F a w1 jE ⟨h2, t119, -⟩ - K hK
                have h2 : (F 2) = .pointer (some ⟨gF, k * 5, none⟩) := h2
                rw [h2] at t119
                clear h2
                refine wp_load_mid 46 _ rfl gF (k * 5) (eval_tmp t119) (frC f) _ (fun x v hv => ((jE.ext (Ext.refl _) (by simp)).cells.1 gF _ l1).trans ((unhide HM1) x v hv)) Try.underlying46 rfl (info_fr f) ?_
                exact hK _ _ jE rfl (fun _ _ _ h => h)
              · refine stepL_plain rfl ?_
                rintro F a w1 jE - ⟨t11, -⟩ K hK
                have t11 : a.tmps[11]? = some (.slice (some ⟨gG, 0, none⟩) kl kl) := t11
                go_simp
                exact hK _ _ jE rfl (fun _ _ _ h => h)
              · refine stepL_plain rfl ?_
                rintro F a w1 jE - ⟨t14, -⟩ K hK
                have t14 : a.tmps[14]? = some (.int .i64 (k : Int)) := t14
                go_simp
                exact hK _ _ jE rfl (fun _ _ _ h => h)
              · refine stepL_plain rfl ?_
                rintro F a w1 jE ⟨h4, t121, h5, t122, -⟩ - K hK
                have h4 : (F 4) = .slice (some ⟨gG, 0, none⟩) kl kl := h4
                rw [h4] at t121
                clear h4
                have h5 : (F 5) = .int .i64 (k : Int) := h5
                rw [h5] at t122
                clear h5
                go_simp
                exact hK _ _ jE rfl (fun _ _ _ h => h)
              · refine stepL_plain rfl ?_
                rintro F a w1 jE ⟨h6, t123, -⟩ - K hK
                have h6 : (F 6) = .pointer (some ⟨gG, k * 5, none⟩) := h6
                rw [h6] at t123
                clear h6
                refine wp_load_mid 46 _ rfl gG (k * 5) (eval_tmp t123) (frC f) _ (fun x v hv => ((jE.ext (Ext.refl _) (by simp)).cells.1 gG _ l2).trans ((unhide HM2) x v hv)) Try.underlying46 rfl (info_fr f) ?_
                exact hK _ _ jE rfl (fun _ _ _ h => h)
              · refine stepL_plain rfl ?_
                rintro F a w1 jE ⟨h3, t120, h7, t124, -⟩ - K hK
                have h3 : (F 3) = .agg (frC f).toArray := h3
                rw [h3] at t120
                clear h3
                have h7 : (F 7) = .agg (frC f).toArray := h7
                rw [h7] at t124
                clear h7
                go_simp
                with_reducible refine (unhide (cS _)).mono ?_
                rintro e w2 ⟨rfl, hx⟩
                exact hK _ _ (jE.trans hx) (rfl) (fun _ hj _ _ => (List.not_mem_nil hj).elim)
              · refine stepL_plain rfl ?_
                rintro F a w1 jE ⟨h8, t125, -⟩ - K hK
                have h8 : (F 8) = .bool true := h8
                rw [h8] at t125
                clear h8
                go_simp
                exact hK _ _ jE rfl (fun _ _ _ h => h)
              · refine stepL_plain rfl ?_
                rintro F a w1 jE ⟨h9, t126, -⟩ - K hK
                have h9 : (F 9) = .bool false := h9
                rw [h9] at t126
                clear h9
                go_simp
                exact hK _ _ jE rfl (fun _ _ _ h => h)
              · refine stepL_of ?_
                rintro F a w1 jE ⟨h10, t127, -⟩ ⟨t10, -⟩ K hK
                have h10 : (F 10) = .bool false := h10
                rw [h10] at t127
                clear h10
                have t10 : a.tmps[10]? = some (.slice (some ⟨gB, 0, none⟩) kl kl) := t10
                refine stepY ((wanted_of 10 false 127 _ rfl rfl t127).trans rfl) ?_
                go_simp
                exact hK _ _ jE rfl (fun _ _ _ h => h)
              · refine stepL_of ?_
                rintro F a w1 jE ⟨h10, t127, -⟩ ⟨t14, -⟩ K hK
                have h10 : (F 10) = .bool false := h10
                rw [h10] at t127
                clear h10
                have t14 : a.tmps[14]? = some (.int .i64 (k : Int)) := t14
                refine stepY ((wanted_of 10 false 127 _ rfl rfl t127).trans rfl) ?_
                go_simp
                exact hK _ _ jE rfl (fun _ _ _ h => h)
              · refine stepL_of ?_
                rintro F a w1 jE ⟨h11, t128, h12, t129, h10, t127, -⟩ - K hK
                have h11 : (F 11) = .slice (some ⟨gB, 0, none⟩) kl kl := h11
                rw [h11] at t128
                clear h11
                have h12 : (F 12) = .int .i64 (k : Int) := h12
                rw [h12] at t129
                clear h12
                have h10 : (F 10) = .bool false := h10
                rw [h10] at t127
                clear h10
                refine stepY ((wanted_of 10 false 127 _ rfl rfl t127).trans rfl) ?_
                go_simp
                exact hK _ _ jE rfl (fun _ _ _ h => h)
              · refine stepL_of ?_
                rintro F a w1 jE ⟨h13, t130, h10, t127, -⟩ - K hK
                have h13 : (F 13) = .pointer (some ⟨gB, k, none⟩) := h13
                rw [h13] at t130
                clear h13
                have h10 : (F 10) = .bool false := h10
                rw [h10] at t127
                clear h10
                refine stepY ((wanted_of 10 false 127 _ rfl rfl t127).trans rfl) ?_
                have c := ((jE.ext (Ext.refl _) (by simp)).cells.1 _ _ lb1).trans cb1
                go_simp
                exact hK _ _ jE rfl (fun _ _ _ h => h)
              · refine stepL_of ?_
                rintro F a w1 jE ⟨h10, t127, -⟩ ⟨t13, -⟩ K hK
                have h10 : (F 10) = .bool false := h10
                rw [h10] at t127
                clear h10
                have t13 : a.tmps[13]? = some (.slice (some ⟨gD, 0, none⟩) kl kl) := t13
                refine stepY ((wanted_of 10 false 127 _ rfl rfl t127).trans rfl) ?_
                go_simp
                exact hK _ _ jE rfl (fun _ _ _ h => h)
              · refine stepL_of ?_
                rintro F a w1 jE ⟨h10, t127, -⟩ ⟨t14, -⟩ K hK
                have h10 : (F 10) = .bool false := h10
                rw [h10] at t127
                clear h10
                have t14 : a.tmps[14]? = some (.int .i64 (k : Int)) := t14
                refine stepY ((wanted_of 10 false 127 _ rfl rfl t127).trans rfl) ?_
                go_simp
                exact hK _ _ jE rfl (fun _ _ _ h => h)
              · refine stepL_of ?_
                rintro F a w1 jE ⟨h15, t132, h16, t133, h10, t127, -⟩ - K hK
                have h15 : (F 15) = .slice (some ⟨gD, 0, none⟩) kl kl := h15
                rw [h15] at t132
                clear h15
                have h16 : (F 16) = .int .i64 (k : Int) := h16
                rw [h16] at t133
                clear h16
                have h10 : (F 10) = .bool false := h10
                rw [h10] at t127
                clear h10
                refine stepY ((wanted_of 10 false 127 _ rfl rfl t127).trans rfl) ?_
                go_simp
                exact hK _ _ jE rfl (fun _ _ _ h => h)
              · refine stepL_of ?_
                rintro F a w1 jE ⟨h17, t134, h10, t127, -⟩ - K hK
                have h17 : (F 17) = .pointer (some ⟨gD, k, none⟩) := h17
                rw [h17] at t134
                clear h17
                have h10 : (F 10) = .bool false := h10
                rw [h10] at t127
                clear h10
                refine stepY ((wanted_of 10 false 127 _ rfl rfl t127).trans rfl) ?_
                have c := ((jE.ext (Ext.refl _) (by simp)).cells.1 _ _ lb2).trans cb2
                go_simp
                exact hK _ _ jE rfl (fun _ _ _ h => h)
              · refine stepL_of ?_
                rintro F a w1 jE ⟨h14, t131, h18, t135, h10, t127, -⟩ - K hK
                have h14 : (F 14) = .bool bv := h14
                rw [h14] at t131
                clear h14
                have h18 : (F 18) = .bool bv := h18
                rw [h18] at t135
                clear h18
                have h10 : (F 10) = .bool false := h10
                rw [h10] at t127
                clear h10
                refine stepY ((wanted_of 10 false 127 _ rfl rfl t127).trans rfl) ?_
                go_simp
                exact hK _ _ jE rfl (fun _ _ _ h => h)
              · refine stepL_plain rfl ?_
                rintro F a w1 jE ⟨h10, t127, h19, t136, -⟩ - K hK
                have h10 : (F 10) = .bool false := h10
                rw [h10] at t127
                clear h10
                have h19 : (F 19) = .bool false := h19
                rw [h19] at t136
                clear h19
                go_simp
                exact hK _ _ jE rfl (fun _ _ _ h => h)
            · rintro F w1x jE ⟨h20, -⟩
              have h20 : (F 20) = .bool false := h20
              have hx := jE.ext (Ext.refl _) (by simp)
              simp only [putL, Act.put, Nat.reduceAdd, Nat.zero_add, List.setIfInBounds_toArray, List.set_cons_succ, List.set_cons_zero]
              rw [h20]
              clear jE h20
              replace E1 := E1.trans hx
              clear hx
              clear cb1 cb2 lb1 lb2 l1 l2 HM1 HM2
              go_wp2_with fail
              go_roundw
              case rel => exact ⟨k + 1, by go_num, by omega, E1⟩
              case measure => simp [intOf]; omega
        · as_aux_lemma =>
            have hkn2 : ¬ (k : Int) < (kl : Int) := by omega
            have BC1 := BC.ext E1
            replace E := E.trans E1
            have RU1 := hide ((unhide HRU).ext E1)
            have RH1 := hide ((unhide HRH).ext E1)
            clear HRU HRH FA FD BA BD BC E1 hk hkn
            go_wp2_with fail
            clear hkn2
            have E1 : Ext wr wr := Ext.refl _
            go_loopw [15] (fun v15 wx => ∃ k : Nat, v15 = .int .i64 k ∧ k ≤ hl ∧ Ext wr wx) (fun v15 _ => hl - (intOf v15).toNat)
            case atStart => exact ⟨0, rfl, by omega, E1⟩
            case round =>
              clear E1
              obtain ⟨k, rfl, hk, E1⟩ := hrel
              by_cases hkn : k < hl
              · as_aux_lemma =>
                  have hkI : (0 : Int) ≤ (k : Int) ∧ (k : Int) < (hl : Int) := by omega
                  obtain ⟨z, hz⟩ : ∃ t, hs[k]? = some t := ⟨_, List.getElem?_eq_getElem (by rw [unhide HHL]; exact hkn)⟩
                  have C46 := ((BC1.ext E1).cell 46).trans (show _ = some (Value.slice ha hl hc) from rfl)
                  have LC := (BC1.ext E1).lt
                  obtain ⟨b1, o1, rfl, k1, d1⟩ := ((unhide RH1).ext E1).intIn hz
                  obtain ⟨b2, o2, rfl, k2, d2⟩ := (rh.ext (E.trans E1)).intIn hz
                  clear hz
                  have ez : (z == z) = true := by simp
                  go_upto_region 18 with fail
                  go_quiet (fail)
                  clear d1 d2 k1 k2 C46 LC
                  go_wp2_with fail
                  go_roundw
                  case rel => exact ⟨k + 1, by go_num, by omega, E1.drewN _⟩
                  case measure => simp [intOf]; omega
              · as_aux_lemma =>
                  have hkn2 : ¬ (k : Int) < (hl : Int) := by omega
                  have BC2 := BC1.ext E1
                  replace E := E.trans E1
                  have RU2 := hide ((unhide RU1).ext E1)
                  clear RU1 RH1 BC1 E1 hk hkn
                  go_wp2_with fail
                  clear hkn2
                  skip
                  go_loopw [16] (fun v16 wy => ∃ k : Nat, v16 = .int .i64 k ∧ k ≤ ul ∧ Ext wr wy) (fun v16 _ => ul - (intOf v16).toNat)
                  case atStart => exact ⟨0, rfl, by omega, Ext.refl _⟩
                  case round =>
                    obtain ⟨k, rfl, hk, E1⟩ := hrel
                    by_cases hkn : k < ul
                    · as_aux_lemma =>
                        have hkI : (0 : Int) ≤ (k : Int) ∧ (k : Int) < (ul : Int) := by omega
                        obtain ⟨u, hu⟩ : ∃ t, us[k]? = some t := ⟨_, List.getElem?_eq_getElem (by rw [unhide HUL]; exact hkn)⟩
                        have C45 := ((BC2.ext E1).cell 45).trans (show _ = some (Value.slice ua ul uc) from rfl)
                        have LC := (BC2.ext E1).lt
                        obtain ⟨b1, o1, rfl, k1, m1⟩ := ((unhide RU2).ext E1).rec_ usC_len hu (by omega)
                        obtain ⟨b2, o2, rfl, k2, m2⟩ := (ru.ext (E.trans E1)).rec_ usC_len hu (by omega)
                        clear hu
                        have heq := fun W => eq_us u W
                        obtain ⟨uw, v1, v2⟩ := u
                        have d0 := m1 0 _ rfl
                        have d1 := m1 1 _ rfl
                        have d2 := m1 2 _ rfl
                        have f0 := m2 0 _ rfl
                        have f1 := m2 1 _ rfl
                        have f2 := m2 2 _ rfl
                        rw [Nat.add_zero] at d0 f0
                        clear m1 m2
                        simp only [usC] at heq
                        go_upto_region 23 with fail
                        go_quiet (fail)
                        clear d0 d1 d2 f0 f1 f2 k1 k2 C45 LC
                        go_wp2_with fail
                        go_roundw
                        case rel => exact ⟨k + 1, by go_num, by omega, E1.drewN _⟩
                        case measure => simp [intOf]; omega
                    · have hkn2 : ¬ (k : Int) < (ul : Int) := by omega
                      go_wp2_with fail
                      with_reducible refine (unhide (cW _)).mono ?_
                      rintro e wz ⟨rfl, hz⟩
                      go_wp2_with fail
                      go_ret
                      exact ⟨rfl, (E.trans E1).trans hz⟩
end Go.Proofs.Ytkkkdjkjggofkaa
