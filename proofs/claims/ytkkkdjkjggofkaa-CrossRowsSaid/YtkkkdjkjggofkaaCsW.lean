/- Layer 20: the law CrossRows (walk). -/
import Derived.Test.YtkkkdjkjggofkaaCsQ
namespace Go.Proofs.Ytkkkdjkjggofkaa
open Go.RowKit
def mK (s : Sty) (j : Nat) : Int := match j with | 0 => s.m0.k | 1 => s.m1.k | 2 => s.m2.k | _ => s.m3.k
def mN (s : Sty) (j : Nat) : Int := match j with | 0 => s.m0.n | 1 => s.m1.n | 2 => s.m2.n | _ => s.m3.n
def bdN (s : Sty) (j : Nat) : Int := match j with | 0 => s.b0 | 1 => s.b1 | 2 => s.b2 | _ => s.b3
def pdN (s : Sty) (j : Nat) : Int := match j with | 0 => s.p0 | 1 => s.p1 | 2 => s.p2 | _ => s.p3
structure SideR (s : Sty) (j : Nat) : Prop where
  (k : mK s j ≠ 2) (n : 0 ≤ mN s j ∧ mN s j ≤ 1073741824) (b : bdN s j ≤ 1073741824) (p : pdN s j ≤ 1073741824)
theorem nat4R {j : Nat} (h : j < 4) : j = 0 ∨ j = 1 ∨ j = 2 ∨ j = 3 := by omega
theorem cell_mk (s : Sty) {j : Nat} (h : j < 4) : s.cells[16 + j * 2]? = some (.int .u8 (mK s j)) := by rcases nat4R h with rfl | rfl | rfl | rfl <;> rfl
theorem cell_mn (s : Sty) {j : Nat} (h : j < 4) : s.cells[16 + j * 2 + 1]? = some (.int .i64 (mN s j)) := by rcases nat4R h with rfl | rfl | rfl | rfl <;> rfl
theorem cell_bd (s : Sty) {j : Nat} (h : j < 4) : s.cells[24 + j]? = some (.int .i64 (bdN s j)) := by rcases nat4R h with rfl | rfl | rfl | rfl <;> rfl
theorem cell_pd (s : Sty) {j : Nat} (h : j < 4) : s.cells[28 + j]? = some (.int .i64 (pdN s j)) := by rcases nat4R h with rfl | rfl | rfl | rfl <;> rfl
theorem kid_R {s : Sty} {u : Us} {h : Int} (ok : KidOk s) (hk : s.h.k = 0) (lk : s.minh.k = 0) (gk : s.maxh.k = 0) (w : 0 ≤ u.w ∧ u.w ≤ 1073741824) (l : 0 ≤ u.l ∧ u.l ≤ 1073741824) (r : 0 ≤ u.r ∧ u.r ≤ 1073741824) (hh : 0 ≤ h ∧ h ≤ 1073741824) (hs : ∀ j, j < 4 → SideR s j) (hb : frameD s ≤ h) : KidR s u h := by
  obtain ⟨a1, a2, a3, a4⟩ := hs 0 (by omega)
  obtain ⟨b1, b2, b3, b4⟩ := hs 1 (by omega)
  obtain ⟨c1, c2, c3, c4⟩ := hs 2 (by omega)
  obtain ⟨d1, d2, d3, d4⟩ := hs 3 (by omega)
  exact ⟨ok, hk, lk, gk, w, l, r, hh, a1, c1, a2, c2, a3, b3, c3, d3, a4, b4, c4, d4, hb⟩
set_option maxRecDepth 100000 in
set_option maxHeartbeats 16000000 in
theorem law_crossRows (x : Cs) (ks : List Sty) (us : List Us) (hs : List Int) (w : World) (hin : CsIn w x ks us hs) :
    Calls Try.prog 4 #[.agg x.cells] w fun e w' => e = .returned (.bool true) ∧ Ext w w' := by
  obtain ⟨rk, ru, rh, hsw, _, _, _, _⟩ := hin
  have hkl : ks.length = x.kl := by have := rk.len; rw [recs_len styC_len] at this; omega
  have hul : us.length = x.ul := by have := ru.len; rw [recs_len usC_len] at this; omega
  have hhl : hs.length = x.hl := by have := rh.len; rw [ints_len] at this; omega
  have cM := fun w h1 h2 h3 => hide (caseMay_any x ks us hs w h1 h2 h3)
  have cW := fun w => hide (works20_any w)
  have CS := fun j v (h : (styC x.s)[j]? = some v) => x.sty h
  have hsj := okI_u8 hsw.justify
  obtain ⟨s, c, ka, kl, kc, ua, ul, uc, ha, hl, hc⟩ := x
  simp only at rk ru rh hkl hul hhl cM CS hsj
  clear hsw
  have HCS := hide CS
  have HKL := hide hkl
  have HUL := hide hul
  have HHL := hide hhl
  have HSJ := hide hsj
  clear CS hkl hul hhl hsj
  go_enter Try.func4, Try.ntmps4
  go_upto_region 1 with fail
  have BC : Blk (w.alloc (.cells (Cs.cells ⟨s, c, ka, kl, kc, ua, ul, uc, ha, hl, hc⟩) 33)) w.heap.size 33 (Cs.cells ⟨s, c, ka, kl, kc, ua, ul, uc, ha, hl, hc⟩) := Blk.new _ _ _
  have E : Ext w (w.alloc (.cells (Cs.cells ⟨s, c, ka, kl, kc, ua, ul, uc, ha, hl, hc⟩) 33)) := (Ext.refl _).alloc _
  obtain ⟨g, hg⟩ : ∃ g, w.heap.size = g := ⟨_, rfl⟩
  rw [hg] at BC ⊢
  have HGW := hide hg
  clear hg
  generalize w.alloc (.cells (Cs.cells ⟨s, c, ka, kl, kc, ua, ul, uc, ha, hl, hc⟩) 33) = w0 at *
  go_step
  refine wpList_load_blk rfl 33 _ rfl g rfl 33 (Cs.cells ⟨s, c, ka, kl, kc, ua, ul, uc, ha, hl, hc⟩) _ BC Try.underlying33 rfl (by kernel_rfl) ?_
  simp only [Act.put, List.setIfInBounds_toArray, List.set_cons_succ, List.set_cons_zero]
  go_wp2_with fail
  with_reducible refine (unhide (cM _ (rk.ext E) (ru.ext E) (rh.ext E))).mono ?_
  rintro e w1 ⟨b, rfl, hb, hx⟩
  replace BC := BC.ext hx
  replace E := E.trans hx
  clear hx cM
  cases b
  · skip
    go_wp2_with fail
    with_reducible refine (unhide (cW _)).mono ?_
    rintro e wz ⟨rfl, hz⟩
    go_wp2_with fail
    go_ret
    exact ⟨rfl, (E).trans hz⟩
  have HOK := hide (hb rfl)
  clear hb
  have C6 := (BC.cell 6).trans (show _ = some (Value.int .u8 s.h.k) from rfl)
  have LC := BC.lt
  by_cases hsk : s.h.k = 0
  rotate_left
  · skip
    go_wp2_with fail
    with_reducible refine (unhide (cW _)).mono ?_
    rintro e wz ⟨rfl, hz⟩
    go_wp2_with fail
    go_ret
    exact ⟨rfl, (E).trans hz⟩
  go_upto_region 3 with fail
  clear C6 LC
  have HSK := hide hsk
  clear hsk
  have hkl60 := (unhide HOK).kl
  simp only at hkl60
  have HKR := hide (show KR ks us hs 0 from ⟨by omega, by omega, fun i _ _ _ h => by omega⟩)
  go_wp2_with fail
  go_loopw [3] (fun v3 wr => ∃ (k : Nat), v3 = .int .i64 k ∧ k ≤ kl ∧ Hid (KR ks us hs k) ∧ Ext w wr ∧ Blk wr g 33 (Cs.cells ⟨s, c, ka, kl, kc, ua, ul, uc, ha, hl, hc⟩)) (fun v3 _ => kl - (intOf v3).toNat)
  case atStart => exact ⟨0, rfl, by omega, HKR, E, BC⟩
  case round =>
    clear HKR E BC
    obtain ⟨k, rfl, hk, HKR, E, BC⟩ := hrel
    have C44 := (BC.cell 44).trans (show _ = some (Value.slice ka kl kc) from rfl)
    have LC := BC.lt
    by_cases hkn : k < kl
    · as_aux_lemma =>
        obtain ⟨t, ht⟩ : ∃ t, ks[k]? = some t := ⟨_, List.getElem?_eq_getElem (by rw [unhide HKL]; exact hkn)⟩
        have HTOK := hide ((unhide HOK).kids t (List.mem_of_getElem? ht))
        obtain ⟨b, off, rfl, hb, hmid⟩ := (rk.ext E).rec_ styC_len ht (by omega)
        have HMID := hide hmid
        have HT := hide ht
        clear hmid ht
        have hkI : (0 : Int) ≤ (k : Int) ∧ (k : Int) < (kl : Int) ∧ (kl : Int) ≤ 60 := by omega
        go_upto_region 6 with fail
        iterate 13 go_step
        refine wpList_load_sty _ rfl b (off + k * 43) rfl rfl t (unhide HMID) ?_
        simp only [Act.put, List.setIfInBounds_toArray, List.set_cons_succ, List.set_cons_zero]
        refine wpList_alloc_var rfl 28 rfl zsty.cells zero_sty ?_
        intro wa Ba Ea za
        simp only [Act.put, List.setIfInBounds_toArray, List.set_cons_succ, List.set_cons_zero]
        refine wpList_store_blk rfl 28 _ _ rfl wr.heap.size rfl t.cells rfl 28 zsty.cells Ba (info_style t) rfl (by kernel_rfl) ?_
        intro w2 B4 gr zs
        simp only [Act.put]
        have E2 : Ext wr w2 := Ext.grown Ea gr (fun q e => by injection e with e; omega)
        replace E := E.trans E2
        replace BC := BC.ext E2
        generalize wr.heap.size = g4 at *
        clear Ba Ea za gr zs C44 LC E2 hb HMID
        have c6 := (B4.cell 6).trans (show _ = some (Value.int .u8 t.h.k) from rfl)
        have c12 := (B4.cell 12).trans (show _ = some (Value.int .u8 t.minh.k) from rfl)
        have c14 := (B4.cell 14).trans (show _ = some (Value.int .u8 t.maxh.k) from rfl)
        have L4 := B4.lt
        have LC := BC.lt
        have C45 := (BC.cell 45).trans (show _ = some (Value.slice ua ul uc) from rfl)
        have C46 := (BC.cell 46).trans (show _ = some (Value.slice ha hl hc) from rfl)
        go_upto_region 7 with fail
        simp only [List.append_eq, List.cons_append, List.nil_append]
        obtain ⟨q6, hq6⟩ : ∃ z, t.h.k = z := ⟨_, rfl⟩
        obtain ⟨q12, hq12⟩ : ∃ z, t.minh.k = z := ⟨_, rfl⟩
        obtain ⟨q14, hq14⟩ : ∃ z, t.maxh.k = z := ⟨_, rfl⟩
        rw [hq6] at c6
        rw [hq12] at c12
        rw [hq14] at c14
        have HQ := hide (And.intro hq6 (And.intro hq12 hq14))
        clear hq6 hq12 hq14
        by_cases e0 : q6 = 0
        rotate_left
        · skip
          go_wp2_with fail
          with_reducible refine (unhide (cW _)).mono ?_
          rintro e wz ⟨rfl, hz⟩
          go_wp2_with fail
          go_ret
          exact ⟨rfl, (E).trans hz⟩
        subst e0
        by_cases e1 : q12 = 0
        rotate_left
        · skip
          go_wp2_with fail
          with_reducible refine (unhide (cW _)).mono ?_
          rintro e wz ⟨rfl, hz⟩
          go_wp2_with fail
          go_ret
          exact ⟨rfl, (E).trans hz⟩
        subst e1
        by_cases e2 : q14 = 0
        rotate_left
        · skip
          go_wp2_with fail
          with_reducible refine (unhide (cW _)).mono ?_
          rintro e wz ⟨rfl, hz⟩
          go_wp2_with fail
          go_ret
          exact ⟨rfl, (E).trans hz⟩
        subst e2
        by_cases u1 : k < ul
        rotate_left
        · have u1I : (ul : Int) ≤ (k : Int) := by omega
          go_wp2_with fail
          with_reducible refine (unhide (cW _)).mono ?_
          rintro e wz ⟨rfl, hz⟩
          go_wp2_with fail
          go_ret
          exact ⟨rfl, (E).trans hz⟩
        have u1I : ¬ (ul : Int) ≤ (k : Int) := by omega
        by_cases u2 : k < hl
        rotate_left
        · have u2I : (hl : Int) ≤ (k : Int) := by omega
          go_wp2_with fail
          with_reducible refine (unhide (cW _)).mono ?_
          rintro e wz ⟨rfl, hz⟩
          go_wp2_with fail
          go_ret
          exact ⟨rfl, (E).trans hz⟩
        have u2I : ¬ (hl : Int) ≤ (k : Int) := by omega
        have u3I : (k : Int) < (ul : Int) ∧ (k : Int) < (hl : Int) := by omega
        obtain ⟨⟨uw, v1, v2⟩, hu⟩ : ∃ t, us[k]? = some t := ⟨_, List.getElem?_eq_getElem (by rw [unhide HUL]; exact u1)⟩
        obtain ⟨z, hz⟩ : ∃ t, hs[k]? = some t := ⟨_, List.getElem?_eq_getElem (by rw [unhide HHL]; exact u2)⟩
        obtain ⟨⟨p1, p2⟩, _, _⟩ := (unhide HOK).useds _ (List.mem_of_getElem? hu)
        simp only at p1 p2
        have p3 := (unhide HOK).highs _ (List.mem_of_getElem? hz)
        obtain ⟨bu, ou, rfl, hbu, hmu⟩ := (ru.ext E).rec_ usC_len hu (by omega)
        have d0 := hmu 0 _ rfl
        have d1 := hmu 1 _ rfl
        have d2 := hmu 2 _ rfl
        rw [Nat.add_zero] at d0
        obtain ⟨bz, oz, rfl, hbz, d3⟩ := (rh.ext E).intIn hz
        have HUU := hide hu
        have HZZ := hide hz
        clear hu hz hmu
        by_cases f0 : 1073741824 < uw
        · skip
          go_wp2_with fail
          with_reducible refine (unhide (cW _)).mono ?_
          rintro e wz ⟨rfl, hz⟩
          go_wp2_with fail
          go_ret
          exact ⟨rfl, (E).trans hz⟩
        by_cases f1 : v1 < 0
        · skip
          go_wp2_with fail
          with_reducible refine (unhide (cW _)).mono ?_
          rintro e wz ⟨rfl, hz⟩
          go_wp2_with fail
          go_ret
          exact ⟨rfl, (E).trans hz⟩
        by_cases f2 : 1073741824 < v1
        · skip
          go_wp2_with fail
          with_reducible refine (unhide (cW _)).mono ?_
          rintro e wz ⟨rfl, hz⟩
          go_wp2_with fail
          go_ret
          exact ⟨rfl, (E).trans hz⟩
        by_cases f3 : v2 < 0
        · skip
          go_wp2_with fail
          with_reducible refine (unhide (cW _)).mono ?_
          rintro e wz ⟨rfl, hz⟩
          go_wp2_with fail
          go_ret
          exact ⟨rfl, (E).trans hz⟩
        by_cases f4 : 1073741824 < v2
        · skip
          go_wp2_with fail
          with_reducible refine (unhide (cW _)).mono ?_
          rintro e wz ⟨rfl, hz⟩
          go_wp2_with fail
          go_ret
          exact ⟨rfl, (E).trans hz⟩
        by_cases f5 : 1073741824 < z
        · skip
          go_wp2_with fail
          with_reducible refine (unhide (cW _)).mono ?_
          rintro e wz ⟨rfl, hz⟩
          go_wp2_with fail
          go_ret
          exact ⟨rfl, (E).trans hz⟩
        have HE := HQ
        have HUB := hide (show (0 ≤ uw ∧ uw ≤ 1073741824) ∧ (0 ≤ v1 ∧ v1 ≤ 1073741824) ∧ (0 ≤ v2 ∧ v2 ≤ 1073741824) ∧ (0 ≤ z ∧ z ≤ 1073741824) from ⟨⟨by omega, by omega⟩, ⟨by omega, by omega⟩, ⟨by omega, by omega⟩, ⟨by omega, by omega⟩⟩)
        go_upto_region 9 with fail
        clear c6 c12 c14 L4 LC C45 C46 d0 d1 d2 d3 f0 f1 f2 f3 f4 f5 p1 p2 p3 u1I u2I hbu hbz
        go_wp2_with fail
        go_loopw [5] (fun v5 wr => ∃ (j : Nat), v5 = .int .i64 j ∧ j ≤ 4 ∧ Hid (∀ i, i < j → SideR t i) ∧ Ext w wr ∧ Blk wr g 33 (Cs.cells ⟨s, c, some ⟨b, off, none⟩, kl, kc, some ⟨bu, ou, none⟩, ul, uc, some ⟨bz, oz, none⟩, hl, hc⟩) ∧ Blk wr g4 28 t.cells) (fun v5 _ => 4 - (intOf v5).toNat)
        case atStart => exact ⟨0, rfl, by omega, hide (fun i h => by omega), E, BC, B4⟩
        case round =>
          clear E BC B4
          obtain ⟨j, rfl, hj, HSI, E, BC, B4⟩ := hrel
          have L4 := B4.lt
          by_cases hj4 : j < 4
          · as_aux_lemma =>
              have hjI : (0 : Int) ≤ (j : Int) ∧ (j : Int) < 4 := by omega
              have g1 := (B4.cell (16 + j * 2)).trans (cell_mk t hj4)
              have g2 := (B4.cell (16 + j * 2 + 1)).trans (cell_mn t hj4)
              have g3 := (B4.cell (24 + j)).trans (cell_bd t hj4)
              have g5 := (B4.cell (28 + j)).trans (cell_pd t hj4)
              by_cases f0 : mK t j = 2
              · skip
                go_wp2_with fail
                with_reducible refine (unhide (cW _)).mono ?_
                rintro e wz ⟨rfl, hz⟩
                go_wp2_with fail
                go_ret
                exact ⟨rfl, (E).trans hz⟩
              by_cases f1 : mN t j < 0
              · skip
                go_wp2_with fail
                with_reducible refine (unhide (cW _)).mono ?_
                rintro e wz ⟨rfl, hz⟩
                go_wp2_with fail
                go_ret
                exact ⟨rfl, (E).trans hz⟩
              by_cases f2 : 1073741824 < mN t j
              · skip
                go_wp2_with fail
                with_reducible refine (unhide (cW _)).mono ?_
                rintro e wz ⟨rfl, hz⟩
                go_wp2_with fail
                go_ret
                exact ⟨rfl, (E).trans hz⟩
              by_cases f3 : 1073741824 < bdN t j
              · skip
                go_wp2_with fail
                with_reducible refine (unhide (cW _)).mono ?_
                rintro e wz ⟨rfl, hz⟩
                go_wp2_with fail
                go_ret
                exact ⟨rfl, (E).trans hz⟩
              by_cases f4 : 1073741824 < pdN t j
              · skip
                go_wp2_with fail
                with_reducible refine (unhide (cW _)).mono ?_
                rintro e wz ⟨rfl, hz⟩
                go_wp2_with fail
                go_ret
                exact ⟨rfl, (E).trans hz⟩
              have HS2 := hide (show ∀ i, i < j + 1 → SideR t i from fun i hi => by
                rcases Nat.lt_or_ge i j with h | h
                · exact (unhide HSI) i h
                · obtain rfl : i = j := by omega
                  exact ⟨f0, ⟨by omega, by omega⟩, by omega, by omega⟩)
              go_wp2_with fail
              go_roundw
              case rel => exact ⟨j + 1, by go_num, by omega, HS2, E, BC, B4⟩
              case measure => simp [intOf]; omega
          · as_aux_lemma =>
              obtain rfl : j = 4 := by omega
              have hS0 := (unhide HSI) 0 (by omega)
              have hS2 := (unhide HSI) 2 (by omega)
              obtain ⟨hed, _⟩ := may_facts (unhide HTOK).may
              obtain ⟨⟨a1, _⟩, _, ⟨a2, _⟩, _, ⟨a3, _⟩, _, ⟨a4, _⟩, _⟩ := hed.thin
              have s1 : t.b0 ≤ 1073741824 := hS0.b
              have s2 : t.p0 ≤ 1073741824 := hS0.p
              have s3 : t.b2 ≤ 1073741824 := hS2.b
              have s4 : t.p2 ≤ 1073741824 := hS2.p
              clear hS0 hS2 hed
              have c24 := (B4.cell 24).trans (show _ = some (Value.int .i64 t.b0) from rfl)
              have c26 := (B4.cell 26).trans (show _ = some (Value.int .i64 t.b2) from rfl)
              have c28 := (B4.cell 28).trans (show _ = some (Value.int .i64 t.p0) from rfl)
              have c30 := (B4.cell 30).trans (show _ = some (Value.int .i64 t.p2) from rfl)
              have LC := BC.lt
              have C46 := (BC.cell 46).trans (show _ = some (Value.slice (some ⟨bz, oz, none⟩) hl hc) from rfl)
              obtain ⟨bz', oz', hq, hbz, d3⟩ := (rh.ext E).intIn (unhide HZZ)
              injection hq with hq
              injection hq with hq hq2
              subst hq hq2
              skip
              go_upto_region 14 with fail
              go_quiet (fail)
              clear c24 c26 c28 c30 LC C46 L4 hbz d3
              replace E := E.drewN nq
              replace BC := BC.drewN nq
              clear B4
              generalize wr.drewN nq = w5 at *
              by_cases hbig : z < t.b0 + t.b2 + t.p0 + t.p2
              · skip
                go_wp2_with fail
                with_reducible refine (unhide (cW _)).mono ?_
                rintro e wz ⟨rfl, hz⟩
                go_wp2_with fail
                go_ret
                exact ⟨rfl, (E).trans hz⟩
              have HK2 := hide (show KR ks us hs (k + 1) from by
                obtain ⟨q1, q2, q3⟩ := unhide HKR
                obtain ⟨x1, x2, x3, x4⟩ := unhide HUB
                obtain ⟨y1, y2, y3⟩ := unhide HE
                refine ⟨by have := unhide HUL; omega, by have := unhide HHL; omega, fun i s u h hi h1 h2 h3 => ?_⟩
                rcases Nat.lt_or_ge i k with h4 | h4
                · exact q3 i s u h h4 h1 h2 h3
                · obtain rfl : i = k := by omega
                  rw [unhide HT] at h1
                  rw [unhide HUU] at h2
                  rw [unhide HZZ] at h3
                  obtain rfl := Option.some.inj h1
                  obtain rfl := Option.some.inj h2
                  obtain rfl := Option.some.inj h3
                  exact kid_R (unhide HTOK) y1 y2 y3 x1 x2 x3 x4 (unhide HSI) (by show t.b0 + t.b2 + t.p0 + t.p2 ≤ z; omega))
              go_wp2_with fail
              go_roundw
              case rel => exact ⟨k + 1, by go_num, by omega, HK2, E, BC⟩
              case measure => simp [intOf]; omega
    · as_aux_lemma =>
        have HKF := hide (show KR ks us hs kl from by
        have e : k = kl := by omega
        rw [← e]; exact unhide HKR)
        go_upto_region 16 with fail
        clear HKR hk hkn C44 LC
        have HMID := hide (show wr.rangeAt g 0 (styC s) from fun j v hv => by rw [Nat.zero_add]; exact (BC.cell j).trans (unhide HCS j v hv))
        have cR := fun w' h => hide (rows_any s c ka kl kc ks w' h hkl60 (unhide HOK).kids (unhide HOK).c)
        have C43 := (BC.cell 43).trans (show _ = some (Value.int .i64 c) from rfl)
        have C44 := (BC.cell 44).trans (show _ = some (Value.slice ka kl kc) from rfl)
        have LC := BC.lt
        iterate 4 go_step
        refine wpList_load_sty (.tmp 190) rfl g 0 rfl rfl s (unhide HMID) ?_
        simp only [Act.put, List.setIfInBounds_toArray, List.set_cons_succ, List.set_cons_zero]
        go_wp2_with fail
        with_reducible refine (unhide (cR _ (rk.ext E))).mono ?_
        rintro e w1 ⟨A, nr, cap, rs, rfl, hR, hlen, hle, hperm, hx⟩
        have HRP := hide (show RowsP rs kl nr from ⟨hperm, hlen, hle⟩)
        replace BC := BC.ext hx
        replace E := E.trans hx
        clear hx cR hlen hperm C43 C44 LC HMID
        go_upto_region 17 with fail
        have HMID := hide (show w1.rangeAt g 0 (styC s) from fun j v hv => by rw [Nat.zero_add]; exact (BC.cell j).trans (unhide HCS j v hv))
        have cP := fun w' h1 h2 h3 h4 => hide (places_any s c ka ua ha A kl kc ul uc hl hc nr cap ks us hs rs w' h1 h2 h3 h4 (unhide HRP) hkl60 (unhide HOK).c (unhide HKL) (unhide HOK).kids (unhide HOK).useds (unhide HOK).highs (unhide HSJ) (unhide HOK).hi (unhide HSK) (unhide HKF))
        have C43 := (BC.cell 43).trans (show _ = some (Value.int .i64 c) from rfl)
        have C44 := (BC.cell 44).trans (show _ = some (Value.slice ka kl kc) from rfl)
        have C45 := (BC.cell 45).trans (show _ = some (Value.slice ua ul uc) from rfl)
        have C46 := (BC.cell 46).trans (show _ = some (Value.slice ha hl hc) from rfl)
        have LC := BC.lt
        iterate 4 go_step
        refine wpList_load_sty (.tmp 198) rfl g 0 rfl rfl s (unhide HMID) ?_
        simp only [Act.put, List.setIfInBounds_toArray, List.set_cons_succ, List.set_cons_zero]
        go_wp2_with fail
        with_reducible refine (unhide (cP _ (rk.ext E) (ru.ext E) (rh.ext E) hR)).mono ?_
        rintro e wP ⟨gF, gB, rfl, hP, hx⟩
        replace hR := hR.ext hx
        replace BC := BC.ext hx
        replace E := E.trans hx
        clear hx cP C43 C44 C45 C46 LC HMID
        replace rk := rk.ext E
        replace ru := ru.ext E
        replace rh := rh.ext E
        have C44 := (BC.cell 44).trans (show _ = some (Value.slice ka kl kc) from rfl)
        have LC := BC.lt
        have hkk : ((kl : Int) == (kl : Int)) = true := by simp
        obtain ⟨TN, hTN⟩ : ∃ t, topS s nr (mIt c ks us hs zsty) rs nr = t := ⟨_, rfl⟩
        rw [hTN]
        have HTN := hide hTN
        clear hTN
        have HIR := hide (show ∀ ks' ∈ rs, ∀ k ∈ ks', ItR (mIt c ks us hs zsty k) from fun ks' h1 k h2 => by
          obtain ⟨_, _, _, h⟩ := (unhide HKF).it (unhide HKL) c ((unhide HRP).lt h1 h2)
          exact h.it)
        have HTB := fun r (h : r ≤ nr) => hide (top_R (s := s) (nr := nr) (I := mIt c ks us hs zsty) (rs := rs) (unhide HIR) (by have := unhide HSK; omega) r (by have := (unhide HRP).len; omega))
        go_upto_region 18 with fail
        go_wp2_with fail
        clear hkk C44 LC
        go_loopw [10, 11] (fun v10 v11 wr2 => ∃ (r : Nat) (tp : Int), v11 = .int .i64 r ∧ r ≤ nr ∧ v10 = .int .i64 tp ∧ Hid (topS s nr (mIt c ks us hs zsty) rs r = tp) ∧ Ext wP wr2) (fun _ v11 _ => nr - (intOf v11).toNat)
        case atStart => exact ⟨0, 0, rfl, by omega, rfl, hide rfl, Ext.refl _⟩
        case round =>
          obtain ⟨r, tp, rfl, hr, rfl, HTP, E3⟩ := hrel
          have hRlen : (0 : Int) ≤ (r : Int) := by omega
          by_cases hrn : r < nr
          · as_aux_lemma =>
              have hrI : (0 : Int) ≤ (r : Int) ∧ (r : Int) < (nr : Int) := by omega
              obtain ⟨bR, oR, Ai, ci, rfl, _, hbR, hcR, hrR, _⟩ := hR.at_ r hrn
              obtain ⟨row, hrow⟩ : ∃ row, rs.getD r [] = row := ⟨_, rfl⟩
              rw [hrow, castL_len] at hcR hrR
              have hmem : row ∈ rs := by rw [← hrow]; exact (unhide HRP).getD hrn
              have HIRR := hide ((unhide HIR) row hmem)
              have HLT := hide (fun k (h : k ∈ row) => (unhide HRP).lt hmem h)
              have hml := (unhide HRP).rlen hmem
              obtain ⟨m, hm⟩ : ∃ m, row.length = m := ⟨_, rfl⟩
              rw [hm] at hcR hrR hml
              have hFR : Hid (∀ p k, row[p]? = some k → ∃ F : Fr, FrIs s (topS s nr (mIt c ks us hs zsty) rs r) (tallV (mIt c ks us hs zsty) row) (xR s c (mIt c ks us hs zsty) row p k) (mIt c ks us hs zsty k) F ∧ wP.rangeAt gF (k * 5) (frC F)) := hide (fun p k h => by have := hP.fr r p k (by rw [hrow]; exact h); rwa [hrow] at this)
              have HROW := hide hrow
              have HM := hide hm
              have htpb := unhide (HTB r hr)
              rw [unhide HTP] at htpb
              have HTP2 := hide (show topS s nr (mIt c ks us hs zsty) rs (r + 1) = tp + tallV (mIt c ks us hs zsty) row by rw [top_step (by have := unhide HSK; omega), unhide HTP, unhide HROW])
              have hTl := tall_le (I := mIt c ks us hs zsty) (ks := row) (unhide HIRR)
              clear hrow hm hmem
              obtain ⟨bk, ok, rfl, _, _⟩ := rk.at_ (show 0 < kl by omega)
              obtain ⟨bu, ou, rfl, _, _⟩ := ru.at_ (show 0 < ul by have := (unhide HKF).1; have := unhide HUL; omega)
              obtain ⟨bz, oz, rfl, _, _⟩ := rh.at_ (show 0 < hl by have := (unhide HKF).2.1; have := unhide HHL; omega)
              have hUL : kl ≤ ul ∧ kl ≤ hl := by have := (unhide HKF).1; have := (unhide HKF).2.1; have := unhide HUL; have := unhide HHL; omega
              have cc := (E3.cells.1 bR _ hbR).trans hcR
              have lR := Nat.lt_of_lt_of_le hbR E3.size
              go_wp2_with fail
              clear cc lR
              go_loopw [12, 13, 14] (fun v12 v13 v14 wr3 => ∃ (i : Nat) (t a : Int), v12 = .int .i64 t ∧ v13 = .int .i64 a ∧ v14 = .int .i64 i ∧ i ≤ m ∧ Hid (RowA s c (mIt c ks us hs zsty) row i t a) ∧ Ext wP wr3) (fun _ _ v14 _ => m - (intOf v14).toNat)
              case atStart => exact ⟨0, 0, 0, rfl, rfl, rfl, by omega, hide (RowA.zero _ _ _ _), E3⟩
              case round =>
                obtain ⟨i, t, a, rfl, rfl, rfl, hi, HRA, E3⟩ := hrel
                have cc := (E3.cells.1 bR _ hbR).trans hcR
                have lR := Nat.lt_of_lt_of_le hbR E3.size
                by_cases him : i < m
                · as_aux_lemma =>
                    have hiI : (0 : Int) ≤ (i : Int) ∧ (i : Int) < (m : Int) := by omega
                    obtain ⟨k2, hk⟩ : ∃ k, row[i]? = some k := ⟨_, List.getElem?_eq_getElem (by rw [unhide HM]; omega)⟩
                    have hkl2 := (unhide HLT) k2 (List.mem_of_getElem? hk)
                    obtain ⟨bi, oi, rfl, hbi, hci⟩ := (hrR.ext E3).intIn (castL_get hk)
                    obtain ⟨sk, u, z, ff⟩ := (unhide HKF).it (unhide HKL) c hkl2
                    obtain ⟨F, hFi, hFc⟩ := (unhide hFR) _ _ hk
                    have hkI : (0 : Int) ≤ (k2 : Int) ∧ (k2 : Int) < (kl : Int) ∧ (kl : Int) ≤ (ul : Int) ∧ (kl : Int) ≤ (hl : Int) := by omega
                    obtain ⟨lk, hmk⟩ := (rk.ext E3).recAt styC_len ff.eks (by omega)
                    obtain ⟨lu, hmu⟩ := (ru.ext E3).recAt usC_len ff.eus (by omega)
                    obtain ⟨lz, cz⟩ := (rh.ext E3).intAt ff.ehs
                    have lF := Nat.lt_of_lt_of_le hP.lt E3.size
                    have BC3 := BC.ext E3
                    have LC := BC3.lt
                    have C44 := (BC3.cell 44).trans (show _ = some (Value.slice (some ⟨bk, ok, none⟩) kl kc) from rfl)
                    have C45 := (BC3.cell 45).trans (show _ = some (Value.slice (some ⟨bu, ou, none⟩) ul uc) from rfl)
                    have C46 := (BC3.cell 46).trans (show _ = some (Value.slice (some ⟨bz, oz, none⟩) hl hc) from rfl)
                    have m0c := hmk 17 _ (show (styC sk)[17]? = some (Value.int .i64 sk.m0.n) from rfl)
                    have m2c := hmk 21 _ (show (styC sk)[21]? = some (Value.int .i64 sk.m2.n) from rfl)
                    have ulc := hmu 1 _ (show (usC u)[1]? = some (Value.int .i64 u.l) from rfl)
                    have urc := hmu 2 _ (show (usC u)[2]? = some (Value.int .i64 u.r) from rfl)
                    have fxc0 := hFc 0 _ (show (frC F)[0]? = some (Value.int .i64 F.x) from rfl)
                    have fwc0 := hFc 2 _ (show (frC F)[2]? = some (Value.int .i64 F.w) from rfl)
                    rw [Nat.add_zero] at fxc0
                    have HRA2 := hide ((unhide HRA).step (unhide HIRR) (by have := unhide HM; omega) (unhide HOK).c hk hFi.x hFi.w ff.high ff.above ff.below ff.right)
                    obtain ⟨-, htb, hab, hat⟩ := unhide HRA
                    have hat2 : 0 < i → a + u.l ≤ F.x := fun h => by have := hat k2 h hk; rw [ff.left] at this; rw [hFi.x]; exact this
                    have hzb := ff.kid.hh
                    have hm0 := ff.kid.n0
                    have hm2 := ff.kid.n2
                    have hul := ff.kid.l
                    have hur := ff.kid.r
                    have hxb := x_bd (s := s) (unhide HIRR) (by have := unhide HM; omega) (unhide HOK).c hk
                    rw [← hFi.x] at hxb
                    have hwb := (unhide HIRR k2 (List.mem_of_getElem? hk)).wide
                    rw [← hFi.w] at hwb
                    generalize F.x = X at *
                    generalize F.w = W at *
                    generalize sk.m0.n = mt at *
                    generalize sk.m2.n = mb at *
                    obtain ⟨uw, v1, v2⟩ := u
                    simp only at ulc urc hul hur hat2 HRA2
                    obtain ⟨mx, hmx⟩ : ∃ mx, max t (z + mt + mb) = mx := ⟨_, rfl⟩
                    rw [hmx] at HRA2
                    have HKK := hide hk
                    have HUS := hide ff.eus
                    have HFX := hide fxc0
                    have HFW := hide fwc0
                    clear hk hmk hmu hFc ff hFi hat fxc0 fwc0
                    go_upto_region 30 with fail
                    go_quiet (fail)
                    have HMX := hide hmx
                    clear hmx
                    replace E3 := E3.drewN nq
                    generalize wr.drewN nq = wq1 at *
                    clear m0c m2c ulc urc cz lk lu lz lR hci BC3 LC C44 C45 C46 lF
                    by_cases hi0 : (0 : Int) < (i : Int)
                    · skip
                      have hx1 : ¬ X < a + v1 := by have := hat2 (by omega); omega
                      have hg : decide (0 < i) = true := decide_eq_true (by omega)
                      clear hi0
                      clear hat2
                      obtain ⟨lu, hmu⟩ := (ru.ext E3).recAt usC_len (unhide HUS) (by omega)
                      have lF := Nat.lt_of_lt_of_le hP.lt E3.size
                      have BC3 := BC.ext E3
                      have LC := BC3.lt
                      have C45 := (BC3.cell 45).trans (show _ = some (Value.slice (some ⟨bu, ou, none⟩) ul uc) from rfl)
                      have ulc := hmu 1 _ (show (usC ⟨uw, v1, v2⟩)[1]? = some (Value.int .i64 v1) from rfl)
                      have urc := hmu 2 _ (show (usC ⟨uw, v1, v2⟩)[2]? = some (Value.int .i64 v2) from rfl)
                      clear hmu
                      have fxc := (E3.cells.1 gF _ hP.lt).trans (unhide HFX)
                      have fwc := (E3.cells.1 gF _ hP.lt).trans (unhide HFW)
                      go_upto_region 31 with fail
                      go_quiet (fail)
                      replace E3 := E3.drewN nq
                      generalize wq1.drewN nq = wq2 at *
                      clear lu lF BC3 LC C45 ulc urc fxc fwc
                      clear hg
                      obtain ⟨lu, hmu⟩ := (ru.ext E3).recAt usC_len (unhide HUS) (by omega)
                      have lF := Nat.lt_of_lt_of_le hP.lt E3.size
                      have BC3 := BC.ext E3
                      have LC := BC3.lt
                      have C45 := (BC3.cell 45).trans (show _ = some (Value.slice (some ⟨bu, ou, none⟩) ul uc) from rfl)
                      have ulc := hmu 1 _ (show (usC ⟨uw, v1, v2⟩)[1]? = some (Value.int .i64 v1) from rfl)
                      have urc := hmu 2 _ (show (usC ⟨uw, v1, v2⟩)[2]? = some (Value.int .i64 v2) from rfl)
                      clear hmu
                      have fxc := (E3.cells.1 gF _ hP.lt).trans (unhide HFX)
                      have fwc := (E3.cells.1 gF _ hP.lt).trans (unhide HFW)
                      go_upto_region 33 with fail
                      go_quiet (fail)
                      replace E3 := E3.drewN nq
                      generalize wq2.drewN nq = wq3 at *
                      clear lu lF BC3 LC C45 ulc urc fxc fwc
                      go_wp2_with fail
                      go_roundw
                      case rel => exact ⟨i + 1, _, _, rfl, rfl, by go_num, by omega, HRA2, E3⟩
                      case measure => simp [intOf]; omega
                    · skip
                      have hg : decide (0 < i) = false := decide_eq_false (by omega)
                      clear hi0
                      clear hat2
                      obtain ⟨lu, hmu⟩ := (ru.ext E3).recAt usC_len (unhide HUS) (by omega)
                      have lF := Nat.lt_of_lt_of_le hP.lt E3.size
                      have BC3 := BC.ext E3
                      have LC := BC3.lt
                      have C45 := (BC3.cell 45).trans (show _ = some (Value.slice (some ⟨bu, ou, none⟩) ul uc) from rfl)
                      have ulc := hmu 1 _ (show (usC ⟨uw, v1, v2⟩)[1]? = some (Value.int .i64 v1) from rfl)
                      have urc := hmu 2 _ (show (usC ⟨uw, v1, v2⟩)[2]? = some (Value.int .i64 v2) from rfl)
                      clear hmu
                      have fxc := (E3.cells.1 gF _ hP.lt).trans (unhide HFX)
                      have fwc := (E3.cells.1 gF _ hP.lt).trans (unhide HFW)
                      go_upto_region 31 with fail
                      go_quiet (fail)
                      replace E3 := E3.drewN nq
                      generalize wq1.drewN nq = wq2 at *
                      clear lu lF BC3 LC C45 ulc urc fxc fwc
                      clear hg
                      obtain ⟨lu, hmu⟩ := (ru.ext E3).recAt usC_len (unhide HUS) (by omega)
                      have lF := Nat.lt_of_lt_of_le hP.lt E3.size
                      have BC3 := BC.ext E3
                      have LC := BC3.lt
                      have C45 := (BC3.cell 45).trans (show _ = some (Value.slice (some ⟨bu, ou, none⟩) ul uc) from rfl)
                      have ulc := hmu 1 _ (show (usC ⟨uw, v1, v2⟩)[1]? = some (Value.int .i64 v1) from rfl)
                      have urc := hmu 2 _ (show (usC ⟨uw, v1, v2⟩)[2]? = some (Value.int .i64 v2) from rfl)
                      clear hmu
                      have fxc := (E3.cells.1 gF _ hP.lt).trans (unhide HFX)
                      have fwc := (E3.cells.1 gF _ hP.lt).trans (unhide HFW)
                      go_upto_region 33 with fail
                      go_quiet (fail)
                      replace E3 := E3.drewN nq
                      generalize wq2.drewN nq = wq3 at *
                      clear lu lF BC3 LC C45 ulc urc fxc fwc
                      go_wp2_with fail
                      go_roundw
                      case rel => exact ⟨i + 1, _, _, rfl, rfl, by go_num, by omega, HRA2, E3⟩
                      case measure => simp [intOf]; omega
                · as_aux_lemma =>
                    obtain rfl : i = m := by omega
                    have HRA2 := hide ((show RowA s c (mIt c ks us hs zsty) row row.length t a by rw [unhide HM]; exact unhide HRA).all)
                    have htb := (unhide HRA).2.1
                    clear HRA
                    obtain ⟨T, hT⟩ : ∃ T, tallV (mIt c ks us hs zsty) row = T := ⟨_, rfl⟩
                    rw [hT] at HRA2 HTP2 hFR
                    obtain rfl := unhide HRA2
                    clear HRA2
                    go_wp2_with fail
                    go_loopw [16] (fun v16 wr4 => ∃ (j : Nat), v16 = .int .i64 j ∧ j ≤ i ∧ Ext wP wr4) (fun v16 _ => i - (intOf v16).toNat)
                    case atStart => exact ⟨0, rfl, by omega, E3⟩
                    case round =>
                      clear E3 cc lR hi him
                      obtain ⟨j, rfl, hj, E3⟩ := hrel
                      have cc := (E3.cells.1 bR _ hbR).trans hcR
                      have lR := Nat.lt_of_lt_of_le hbR E3.size
                      by_cases hji : j < i
                      · as_aux_lemma =>
                          have hiI : (0 : Int) ≤ (j : Int) ∧ (j : Int) < (i : Int) := by omega
                          obtain ⟨k2, hk⟩ : ∃ k, row[j]? = some k := ⟨_, List.getElem?_eq_getElem (by rw [unhide HM]; omega)⟩
                          have hkl2 := (unhide HLT) k2 (List.mem_of_getElem? hk)
                          obtain ⟨bi, oi, rfl, hbi, hci⟩ := (hrR.ext E3).intIn (castL_get hk)
                          obtain ⟨sk, u, z, ff⟩ := (unhide HKF).it (unhide HKL) c hkl2
                          obtain ⟨F, hFi, hFc⟩ := (unhide hFR) _ _ hk
                          have hkI : (0 : Int) ≤ (k2 : Int) ∧ (k2 : Int) < (kl : Int) ∧ (kl : Int) ≤ (ul : Int) ∧ (kl : Int) ≤ (hl : Int) := by omega
                          obtain ⟨lk, hmk⟩ := (rk.ext E3).recAt styC_len ff.eks (by omega)
                          obtain ⟨lu, hmu⟩ := (ru.ext E3).recAt usC_len ff.eus (by omega)
                          obtain ⟨lz, cz⟩ := (rh.ext E3).intAt ff.ehs
                          have lF := Nat.lt_of_lt_of_le hP.lt E3.size
                          have BC3 := BC.ext E3
                          have LC := BC3.lt
                          have C44 := (BC3.cell 44).trans (show _ = some (Value.slice (some ⟨bk, ok, none⟩) kl kc) from rfl)
                          have C45 := (BC3.cell 45).trans (show _ = some (Value.slice (some ⟨bu, ou, none⟩) ul uc) from rfl)
                          have C46 := (BC3.cell 46).trans (show _ = some (Value.slice (some ⟨bz, oz, none⟩) hl hc) from rfl)
                          have m0c := hmk 17 _ (show (styC sk)[17]? = some (Value.int .i64 sk.m0.n) from rfl)
                          have m2c := hmk 21 _ (show (styC sk)[21]? = some (Value.int .i64 sk.m2.n) from rfl)
                          have fyc := (E3.cells.1 gF _ hP.lt).trans (hFc 1 _ (show (frC F)[1]? = some (Value.int .i64 F.y) from rfl))
                          have fhc := (E3.cells.1 gF _ hP.lt).trans (hFc 3 _ (show (frC F)[3]? = some (Value.int .i64 F.h) from rfl))
                          have C36 := (BC3.cell 36).trans (show _ = some (Value.int .u8 s.items) from rfl)
                          have hzb := ff.kid.hh
                          have hm0 := ff.kid.n0
                          have hm2 := ff.kid.n2
                          have y1 := hFi.yl
                          have y2 := hFi.yh
                          have y0 := hFi.h0
                          have y3 := hFi.hn
                          have y4 := hFi.hs
                          rw [unhide HTP, ff.above] at y1
                          rw [unhide HTP, ff.below] at y2
                          rw [ff.high] at y3
                          rw [ff.above, ff.below] at y4
                          generalize F.y = Y at *
                          generalize F.h = H at *
                          generalize sk.m0.n = mt at *
                          generalize sk.m2.n = mb at *
                          clear hk hmk hmu hFc ff hFi C45 lu
                          have htp0 := htpb
                          have hYb : 0 ≤ Y ∧ Y ≤ 400000000000 ∧ 0 ≤ H ∧ H ≤ 3221225472 := by omega
                          have t1 : decide (Y < tp + mt) = false := decide_eq_false (by omega)
                          have t2 : decide (tp + t < Y + H + mb) = false := decide_eq_false (by omega)
                          obtain ⟨it, hit⟩ : ∃ it, s.items = it := ⟨_, rfl⟩
                          rw [hit] at C36 y3 y4
                          clear hit
                          by_cases hs3 : it = 3
                          · skip
                            have hH : H = t - mt - mb := y4 hs3
                            have hHn : t - mt - mb = H := hH.symm
                            clear y3 y4 hH
                            subst hs3
                            have hHe : (H == H) = true := by simp
                            go_upto_region 40 with fail
                            simp only [List.append_eq, List.cons_append, List.nil_append]
                            have v0 : IntKind.i64.wrap (tp + mt) = tp + mt := IntWalk.i64_in _ (by omega)
                            have v1 : IntKind.i64.wrap (Y + H) = Y + H := IntWalk.i64_in _ (by omega)
                            have v2 : IntKind.i64.wrap (Y + H + mb) = Y + H + mb := IntWalk.i64_in _ (by omega)
                            have v3 : IntKind.i64.wrap (tp + t) = tp + t := IntWalk.i64_in _ (by omega)
                            have v5 : IntKind.i64.wrap (t - mt) = t - mt := IntWalk.i64_in _ (by omega)
                            have v6 : IntKind.i64.wrap (t - mt - mb) = H := (IntWalk.i64_in _ (by omega)).trans hHn
                            go_quiet (fail)
                            clear v0 v1 v2 v3
                            replace E3 := E3.drewN nq
                            generalize wr.drewN nq = wq1 at *
                            go_wp2_with fail
                            go_roundw
                            case rel => exact ⟨j + 1, by go_num, by omega, E3⟩
                            case measure => simp [intOf]; omega
                          · skip
                            have hH : H = z := y3 hs3
                            subst hH
                            clear y3 y4
                            have hHe : (H == H) = true := by simp
                            have hs3b : (it == 3) = false := by simp; exact hs3
                            have hs3n : (it != 3) = true := by simp; exact hs3
                            clear hs3
                            go_upto_region 40 with fail
                            simp only [List.append_eq, List.cons_append, List.nil_append]
                            have v0 : IntKind.i64.wrap (tp + mt) = tp + mt := IntWalk.i64_in _ (by omega)
                            have v1 : IntKind.i64.wrap (Y + H) = Y + H := IntWalk.i64_in _ (by omega)
                            have v2 : IntKind.i64.wrap (Y + H + mb) = Y + H + mb := IntWalk.i64_in _ (by omega)
                            have v3 : IntKind.i64.wrap (tp + t) = tp + t := IntWalk.i64_in _ (by omega)
                            go_quiet (fail)
                            clear v0 v1 v2 v3
                            replace E3 := E3.drewN nq
                            generalize wr.drewN nq = wq1 at *
                            go_wp2_with fail
                            go_roundw
                            case rel => exact ⟨j + 1, by go_num, by omega, E3⟩
                            case measure => simp [intOf]; omega
                      · obtain rfl : j = i := by omega
                        have hTp := htpb
                        go_wp2_with fail
                        go_roundw
                        case rel => exact ⟨r + 1, tp + t, by go_num, by omega, rfl, hide (by rw [unhide HTP2]), E3⟩
                        case measure => simp [intOf]; omega
          · obtain rfl : r = nr := by omega
            obtain rfl : TN = tp := by have h1 := unhide HTN; have h2 := unhide HTP; omega
            have hTT : (TN == TN) = true := by simp
            go_wp2_with fail
            with_reducible refine (unhide (cW _)).mono ?_
            rintro e wz ⟨rfl, hz⟩
            go_wp2_with fail
            go_ret
            exact ⟨rfl, (E.trans E3).trans hz⟩
end Go.Proofs.Ytkkkdjkjggofkaa
