/- Layer 20: the document's Place (walk). -/
import Derived.Test.YtkkkdjkjggofkaaCqC
import Derived.Test.YtkkkdjkjggofkaaCrK
import Derived.Test.YtkkkdjkjggofkaaCrL
import Derived.Test.YtkkkdjkjggofkaaLinN
import Derived.Deep.CutRange
import Derived.Deep.CutBlock
namespace Go.Proofs.Ytkkkdjkjggofkaa
open Go.RowKit
theorem topS_bd {s : Sty} (hs : StyH s) {nr : Nat} {I : Nat → It} {rs : List (List Nat)} (h : ∀ ks ∈ rs, ∀ k ∈ ks, ItBd (I k)) : ∀ r, r ≤ rs.length → 0 ≤ topS s nr I rs r ∧ topS s nr I rs r ≤ 240000000000000 * (r : Int) := by
  intro r
  induction r with
  | zero => intro _; simp [topS]
  | succ r ih =>
    intro hr
    have h1 := ih (by omega)
    have hm : rs.getD r [] ∈ rs := by rw [List.getD_eq_getElem?_getD, List.getElem?_eq_getElem (by omega)]; exact List.getElem_mem _
    have h2 := rowH_bd hs (nr := nr) (h _ hm)
    show 0 ≤ topS s nr I rs r + rowH s nr I (rs.getD r []) ∧ topS s nr I rs r + rowH s nr I (rs.getD r []) ≤ _
    omega
theorem between_bd {jv f M t : Int} {j i : Nat} (h : (if jv = 3 then betV f j i else 0) = M) (hj : j ≤ i) (hi : i ≤ 300) (hf : 0 ≤ t ∧ t ≤ 240000000000000 ∧ -5000000000000000 ≤ f ∧ f ≤ 5000000000000000) : -1500000000000000000 ≤ M ∧ M ≤ 1500000000000000000 := by
  subst h
  split
  · unfold betV
    split
    · omega
    · have h1 : (j : Int) * f ≤ 300 * 5000000000000000 := Int.mul_le_mul (by omega) (by omega) (by omega) (by omega)
      have h0 : 0 ≤ (j : Int) * f := Int.mul_nonneg (by omega) (by omega)
      have h2 := Int.ediv_nonneg h0 (show 0 ≤ (i : Int) - 1 by omega)
      have h3 := Int.ediv_le_self ((i : Int) - 1) h0
      omega
  · omega
theorem between_no {jv f M : Int} {j i : Nat} (h : (if jv = 3 then betV f j i else 0) = M) (hn : ¬ (jv = 3 ∧ 0 < f ∧ 1 < i)) : 0 = M := by
  subst h
  by_cases h3 : jv = 3
  · rw [if_pos h3, betV, if_pos (by omega)]
  · rw [if_neg h3]
theorem fin_of {s : Sty} {c tp T a A0 M Y Lf H f pw pa pb pl pr ph fd jv iv : Int} {nr r j i k : Nat} {I : Nat → It} {rs : List (List Nat)} {row : List Nat} {xs : Sty} (hTP : topS s nr I rs r = tp) (hrow : rs.getD r [] = row) (hT : rowH s nr I row = T)
    (hI : I k = ⟨xs, pl, pr, pw, ph, fd, pa, pb, 0, 0, false⟩) (hA : a = A0 + sumV I (row.take j)) (hA0 : (if jv = 1 then f else if jv = 2 then f / 2 else 0) = A0) (hM : (if jv = 3 then betV f j i else 0) = M)
    (hY : (if iv = 1 then tp + pa + Lf else if iv = 2 then tp + pa + Lf / 2 else tp + pa) = Y) (hL : T - H - pa - pb = Lf) (hH : newH s T (I k) = H) (hf : f = c - sumV I row) (hm : row.length = i) (hj : s.justify = jv) (hi : s.items = iv) :
    (⟨a + pl + M, Y, pw, H⟩ : Fr) = rawF (finI s c nr (topS s nr I rs r) I (rs.getD r []) j (I k)) := by
  subst hrow hTP
  have e1 : a + pl + M = sumV I ((rs.getD r []).take j) + (I k).left + moveV s.justify (c - sumV I (rs.getD r [])) j (rs.getD r []).length := by
    rw [hA, hj, ← hf, hm, hI, ← hA0, ← hM, moveV]
    simp only
    by_cases h1 : jv = 1
    · rw [if_pos h1, if_pos h1, if_neg (by omega)]; omega
    · rw [if_neg h1, if_neg h1]
      by_cases h2 : jv = 2
      · rw [if_pos h2, if_pos h2, if_neg (by omega)]; omega
      · rw [if_neg h2, if_neg h2]; omega
  have e2 : Y = yV s (topS s nr I rs r) (rowH s nr I (rs.getD r [])) (I k) := by
    rw [yV, leftV, hT, hH, hi, hI, ← hY, ← hL]
    simp only
    by_cases h1 : iv = 1
    · rw [if_pos h1, if_pos h1]
    · rw [if_neg h1, if_neg h1]
      by_cases h2 : iv = 2
      · rw [if_pos h2, if_pos h2]
      · rw [if_neg h2, if_neg h2]; omega
  have e3 : H = newH s (rowH s nr I (rs.getD r [])) (I k) := by rw [hT, hH]
  have e4 : pw = (I k).wide := by rw [hI]
  show (⟨a + pl + M, Y, pw, H⟩ : Fr) = ⟨_, _, _, _⟩
  rw [e1, e2, e3, e4]
  rfl
/-- an item, out of what the document knows of it -/
theorem mIt_of {c : Int} {ks : List Sty} {us : List Us} {hs : List Int} {k : Nat} {t : Sty} {x : Pr} (ht : ks[k]? = some t) (hx : mP c ks us hs k = x) : mIt c ks us hs zsty k = ⟨t, x.ul, x.ur, x.wide, x.high, frameD t, x.above, x.below, 0, 0, false⟩ := by
  subst hx
  have e : ks.getD k zsty = t := by rw [List.getD_eq_getElem?_getD, ht]; rfl
  simp only [mIt, mP, e]
/-- the first loop over a row -/
def TallP (c : Int) (I : Nat → It) (row : List Nat) (i : Nat) (t f : Int) : Prop := t = tallV I (row.take i) ∧ f = c - sumV I (row.take i)
theorem TallP.zero (c : Int) (I : Nat → It) (row : List Nat) : TallP c I row 0 0 c := ⟨by simp [tallV], by simp [sumV]⟩
theorem TallP.step {c : Int} {I : Nat → It} {row : List Nat} {i k : Nat} {t f : Int} (h : TallP c I row i t f) (hk : row[i]? = some k) {x : It} (hx : I k = x) : TallP c I row (i + 1) (max t (x.high + x.above + x.below)) (f - x.left - x.wide - x.right) := by
  subst hx
  obtain ⟨h1, h2⟩ := h
  refine ⟨by rw [takeS hk, tallV_snoc, h1], ?_⟩
  rw [takeS hk, sumV_snoc, h2]; omega
theorem TallP.all {c : Int} {I : Nat → It} {row : List Nat} {m : Nat} {t f : Int} (h : TallP c I row m t f) (hm : row.length = m) : t = tallV I row ∧ f = c - sumV I row := by
  subst hm
  obtain ⟨h1, h2⟩ := h
  rw [List.take_of_length_le (Nat.le_refl _)] at h1 h2
  exact ⟨h1, h2⟩
theorem TallP.bd {c : Int} {I : Nat → It} {row : List Nat} {i : Nat} {t f : Int} (h : TallP c I row i t f) (hI : ∀ k ∈ row, ItBd (I k)) (hl : row.length ≤ 300) (hi : i ≤ row.length) (hc : 0 ≤ c ∧ c ≤ 1099511627776) : 0 ≤ t ∧ t ≤ 240000000000000 ∧ -5000000000000000 ≤ f ∧ f ≤ 5000000000000000 := by
  obtain ⟨h1, h2⟩ := h
  have a := tallV_bd I (row.take i) (fun k hk => hI k (List.mem_of_mem_take hk))
  have b := sumV_bd I row (fun k hk => (hI k hk).w) i hi
  rw [← h1] at a
  omega
section
variable {w w' : World} {gF n : Nat} {F : Nat → Fr}
theorem FrAt.grownNe {g : Nat} (h : FrAt w gF n F) (hg : w.grownBy w' (some g)) (hn : gF ≠ g) : FrAt w' gF n F := h.block hg.size (hg.block gF h.lt (fun e => hn (Option.some.inj e)))
end
def cutU (G : Nat → Fr) (k i : Nat) : Fr := if i < k then cutF (G i) else G i
def unraw (f : Fr) : It := ⟨zsty, 0, 0, f.w, f.h, 0, 0, 0, f.x, f.y, false⟩
def byG (G : Nat → Fr) (n k : Nat) : List Bool := byN (fun i => unraw (G i)) n k
theorem byG_step (G : Nat → Fr) {n k : Nat} (h : k < n) : (byG G n k).set k (cutFB (G k)) = byG G n (k + 1) := byN_step (fun i => unraw (G i)) h
theorem byG_all {G : Nat → Fr} {J : Nat → It} {n : Nat} (h : ∀ i, i < n → G i = rawF (J i)) : byG G n n = byN J n n := by
  unfold byG byN
  refine List.map_congr_left fun i hi => ?_
  show (decide (i < n) && byB (unraw (G i))) = (decide (i < n) && byB (J i))
  rw [h i (List.mem_range.1 hi)]
  rfl
theorem built_fr (x y p q : Int) : Try.prog.built 46 [(0, .int .i64 x), (1, .int .i64 y), (2, .int .i64 p), (3, .int .i64 q)] = some (frC ⟨x, y, p, q⟩).toArray := by kernel_rfl
set_option maxRecDepth 100000 in
set_option maxHeartbeats 32000000 in
theorem refplace_any (s : Sty) (c : Int) (ak au ah Ar : Option Addr) (n ck nu cu nh ch nr cr : Nat) (ks : List Sty) (us : List Us) (hs : List Int) (rs : List (List Nat)) (w : World) (rk : Rd w 43 ak n (recs styC ks)) (ru : Rd w 3 au nu (recs usC us)) (rh : Rd w 1 ah nh (ints hs))
    (hr : RdR w 0 Ar nr (fun r => castL (rs.getD r []))) (hrs : RowsP rs n nr) (hn : n ≤ 300) (hc : 0 ≤ c ∧ c ≤ 1099511627776) (hok : ∀ s ∈ ks, StyOk s) (hub : ∀ u ∈ us, 0 ≤ u.w ∧ u.w ≤ 1099511627776)
    (hbd : ∀ i, i < n → ItBd (mIt c ks us hs zsty i)) (hsh : StyH s) :
    Calls Try.prog 11 #[.agg s.cells, .int .i64 c, .slice ak n ck, .slice au nu cu, .slice ah nh ch, .slice Ar nr cr] w (PlaceOut w n (topN s c nr rs (mIt c ks us hs zsty) nr).2 (topS s nr (mIt c ks us hs zsty) rs nr)) := by
  have hkl : ks.length = n := by have := rk.len; rw [recs_len styC_len] at this; omega
  have cPa := fun w h1 h2 h3 => hide (parts_any c ak au ah n ck nu cu nh ch ks us hs w h1 h2 h3 hn hc.2 hok hub)
  have cH := fun (t : Sty) x w => hide (ref_high t x w)
  have cF := fun t h w => hide (ref_frame t h w)
  have cHf := fun x h1 h2 w => hide (half_any x h1 h2 w)
  have cCu := fun f w => hide (show Calls Try.prog 29 #[.agg (frC f).toArray] w (CutIs w f (.slice none 0 0)) from cutFrag_any f none 0 0 w)
  have cC := fun x w => hide (ref_cut x w)
  have HM1 := hide (make_frags n (by omega))
  have HM2 := hide (make_bools n (by omega))
  have HOK := hide hok
  have HBD := hide hbd
  have HRS := hide hrs
  have HSH := hide hsh
  have HKL := hide hkl
  have HC := hide hc
  have hle := hrs.le
  clear hkl hok hub hbd hrs hsh hc
  go_enter Try.func11, Try.ntmps11
  go_upto_region 1 with fail
  have BS : Blk (w.alloc (.cells s.cells 28)) w.heap.size 28 s.cells := Blk.new _ _ _
  have E : Ext w (w.alloc (.cells s.cells 28)) := (Ext.refl _).alloc _
  generalize w.alloc (.cells s.cells 28) = w0 at *
  obtain ⟨gS, hgS⟩ : ∃ g, w.heap.size = g := ⟨_, rfl⟩
  rw [hgS] at BS ⊢
  have HGS := hide hgS
  clear hgS
  go_wp2_with fail
  with_reducible refine (unhide (cPa _ (rk.ext E) (ru.ext E) (rh.ext E))).mono ?_
  rintro e w1 ⟨AP, cP, rfl, RP, hx⟩
  replace BS := BS.ext hx
  replace E := E.trans hx
  clear hx cPa ru rh
  replace rk := rk.ext E
  replace hr := hr.ext E
  have hmk := unhide HM1
  go_upto_region 3 with fail
  clear hmk HM1
  have E1 : Ext w1 (w1.alloc (.cells (mkF n) 46)) := (Ext.refl _).alloc _
  have F0 := FrAt.new w1 n
  have hzF : (w1.alloc (.cells (mkF n) 46)).heap.size = w1.heap.size + 1 := by simp
  generalize w1.alloc (.cells (mkF n) 46) = w2 at *
  obtain ⟨gF, hgF⟩ : ∃ g, w1.heap.size = g := ⟨_, rfl⟩
  rw [hgF] at F0 hzF ⊢
  have hmk := unhide HM2
  go_upto_region 4 with fail
  clear hmk HM2
  have BB : Blk (w2.alloc (.cells (boolL (noB n)).toArray 4)) w2.heap.size 4 (boolL (noB n)).toArray := Blk.new _ _ _
  replace E1 := E1.alloc (.cells (boolL (noB n)).toArray 4)
  replace F0 := F0.ext ((Ext.refl _).alloc (.cells (boolL (noB n)).toArray 4))
  generalize w2.alloc (.cells (boolL (noB n)).toArray 4) = w3 at *
  rw [hzF] at BB
  obtain ⟨gB, hgB⟩ : ∃ g, gF + 1 = g := ⟨_, rfl⟩
  rw [hgB] at BB ⊢
  have hgs : w1.heap.size ≤ gF ∧ gF < gB := by omega
  clear hzF hgB hgF
  have lS := BS.lt
  have HIR := hide (show ∀ ks' ∈ rs, ∀ k ∈ ks', ItBd (mIt c ks us hs zsty k) from fun ks' h1 k h2 => (unhide HBD) k ((unhide HRS).lt h1 h2))
  have HGS2 := hide hgs
  go_wp2_with fail
  go_loopw [18, 19] (fun v18 v19 wr => ∃ (r : Nat) (tp : Int) (G : Nat → Fr), v19 = .int .i64 r ∧ r ≤ nr ∧ v18 = .int .i64 tp ∧ Hid (topS s nr (mIt c ks us hs zsty) rs r = tp) ∧ Hid (OutP s c nr rs (mIt c ks us hs zsty) r 0 G) ∧ Ext w1 wr ∧ FrAt wr gF n G ∧ Blk wr gB 4 (boolL (noB n)).toArray) (fun _ v19 _ => nr - (intOf v19).toNat)
  case atStart => exact ⟨0, 0, _, rfl, by omega, rfl, hide rfl, hide (OutP.zero _), E1, F0, BB⟩
  case round =>
    clear E1 F0 BB
    obtain ⟨r, tp, G, rfl, hr1, rfl, HTP, HG, E1, FA, BB⟩ := hrel
    have hrI0 : (0 : Int) ≤ (r : Int) := by omega
    by_cases hrn : r < nr
    · as_aux_lemma =>
        have hrI : (0 : Int) ≤ (r : Int) ∧ (r : Int) < (nr : Int) := by omega
        obtain ⟨bR, oR, Ai, ci, rfl, _, hbR, hcR, hrR, _⟩ := hr.at_ r hrn
        obtain ⟨row, hrow⟩ : ∃ row, rs.getD r [] = row := ⟨_, rfl⟩
        rw [hrow, castL_len] at hcR hrR
        have hmem : row ∈ rs := by rw [← hrow]; exact (unhide HRS).getD hrn
        have HIRR := hide ((unhide HIR) row hmem)
        have HLT := hide (fun k (h : k ∈ row) => (unhide HRS).lt hmem h)
        have hml := (unhide HRS).rlen hmem
        obtain ⟨m, hm⟩ : ∃ m, row.length = m := ⟨_, rfl⟩
        rw [hm] at hcR hrR hml
        have HROW := hide hrow
        have HM := hide hm
        clear hrow hm hmem
        obtain ⟨bk, ok, rfl, _, _⟩ := rk.at_ (show 0 < n by omega)
        obtain ⟨bP, oP, rfl, _, _⟩ := RP.at_ (show 0 < n by omega)
        have cc := (E1.cells.1 bR _ hbR).trans hcR
        have lR := Nat.lt_of_lt_of_le hbR E1.size
        go_wp2_with fail
        clear cc lR
        go_loopw [21, 22, 23] (fun v21 v22 v23 wr => ∃ (i : Nat) (t f : Int), v23 = .int .i64 i ∧ i ≤ m ∧ v21 = .int .i64 t ∧ v22 = .int .i64 f ∧ Hid (TallP c (mIt c ks us hs zsty) row i t f) ∧ Ext w1 wr ∧ FrAt wr gF n G ∧ Blk wr gB 4 (boolL (noB n)).toArray) (fun _ _ v23 _ => m - (intOf v23).toNat)
        case atStart => exact ⟨0, 0, c, rfl, by omega, rfl, rfl, hide (TallP.zero _ _ _), E1, FA, BB⟩
        case round =>
          clear E1 FA BB
          obtain ⟨i, t, f, rfl, hi, rfl, rfl, HT, E1, FA, BB⟩ := hrel
          have htf := (unhide HT).bd (unhide HIRR) (by have := unhide HM; omega) (by rw [unhide HM]; exact hi) (unhide HC)
          by_cases him : i < m
          · as_aux_lemma =>
              have hgs := unhide HGS2
              have hiI : (0 : Int) ≤ (i : Int) ∧ (i : Int) < (m : Int) := by omega
              obtain ⟨k, hk⟩ : ∃ k, row[i]? = some k := ⟨_, List.getElem?_eq_getElem (by rw [unhide HM]; omega)⟩
              have hkn := (unhide HLT) k (List.mem_of_getElem? hk)
              obtain ⟨bi, oi, rfl, hbi, hci⟩ := hrR.intIn (castL_get hk)
              have ci1 := (E1.cells.1 bi _ hbi).trans hci
              have li := Nat.lt_of_lt_of_le hbi E1.size
              have hkI : (0 : Int) ≤ (k : Int) ∧ (k : Int) < (n : Int) := by omega
              obtain ⟨xs, hxs⟩ : ∃ t, ks[k]? = some t := ⟨_, List.getElem?_eq_getElem (by rw [unhide HKL]; exact hkn)⟩
              obtain ⟨px, hpx⟩ : ∃ x, mP c ks us hs k = x := ⟨_, rfl⟩
              have hIt := mIt_of hxs hpx
              obtain ⟨lp, hmp⟩ := RP.recAt prC_len (partL_get hkn) (by omega)
              rw [hpx] at hmp
              have hib := (unhide HBD) k hkn
              rw [hIt] at hib
              obtain ⟨pw, pa, pb, uw, pl, pr, ph⟩ := px
              simp only at hIt hib
              obtain ⟨sh, bl, br, bw, bh, bd, ba, bb⟩ := hib
              simp only at bl br bw bh bd ba bb
              have HMP := hide hmp
              have HIT := hide hIt
              have HXS := hide hxs
              have HKK := hide hk
              clear hmp hIt hxs hpx hk hci
              go_upto_region 14 with fail
              iterate 19 go_step
              have hm0 : wr.rangeAt bP (oP + k * 7) (prC ⟨pw, pa, pb, uw, pl, pr, ph⟩) := fun j v hv => (E1.cells.1 bP _ lp).trans ((unhide HMP) j v hv)
              refine wpList_load_midg 77 (.tmp 72) rfl bP (oP + k * 7) rfl rfl (prC ⟨pw, pa, pb, uw, pl, pr, ph⟩) _ hm0 Try.underlying77 rfl (size_prC _) ?_
              simp only [Act.put, List.setIfInBounds_toArray, List.set_cons_succ, List.set_cons_zero]
              clear hm0
              refine wpList_alloc_var rfl 77 rfl zpr.cells zero_pr ?_
              intro w1x X hx zx
              simp only [Act.put, List.setIfInBounds_toArray, List.set_cons_succ, List.set_cons_zero]
              have nXBB : gB < wr.heap.size := BB.lt
              have zXE1 := E1.size
              generalize wr.heap.size = gX at *
              clear zx
              replace E1 := E1.trans hx
              replace BB := BB.ext hx
              replace FA := FA.ext hx
              clear hx
              refine wpList_store_in rfl 77 (.tmp 24) (.tmp 73) rfl gX 0 rfl (Pr.cells ⟨pw, pa, pb, uw, pl, pr, ph⟩) rfl 77 [.int .i64 0, .int .i64 0, .int .i64 0, .int .i64 0, .int .i64 0, .int .i64 0, .int .i64 0] X (by simp) (size_pr ⟨pw, pa, pb, uw, pl, pr, ph⟩) (by kernel_rfl) [.int .i64 pw, .int .i64 pa, .int .i64 pb, .int .i64 uw, .int .i64 pl, .int .i64 pr, .int .i64 ph] rfl ?_
              intro w2x B_ gr zx
              simp only [Act.put]
              replace E1 := E1.grownBlk gr (by omega)
              replace BB := BB.grownNe gr (by omega)
              replace FA := FA.grownNe gr (by omega)
              replace X := B_
              clear B_ gr zx
              clear ci1 li
              obtain ⟨mx, hmx⟩ : ∃ z, max t (ph + pa + pb) = z := ⟨_, rfl⟩
              have cX1 := (X.cell 1).trans (show _ = some (.int .i64 pa) from rfl)
              have cX2 := (X.cell 2).trans (show _ = some (.int .i64 pb) from rfl)
              have cX6 := (X.cell 6).trans (show _ = some (.int .i64 ph) from rfl)
              have cXl := X.lt
              go_upto_region 16 with fail
              have HMX := hide hmx
              clear hmx
              clear cX1 cX2 cX6 cXl
              have cX0 := (X.cell 0).trans (show _ = some (.int .i64 pw) from rfl)
              have cX4 := (X.cell 4).trans (show _ = some (.int .i64 pl) from rfl)
              have cX5 := (X.cell 5).trans (show _ = some (.int .i64 pr) from rfl)
              have cXl := X.lt
              have HT2 := hide ((unhide HT).step (unhide HKK) (unhide HIT))
              simp only at HT2
              rw [unhide HMX] at HT2
              go_wp2_with fail
              clear cX0 cX4 cX5 cXl
              go_roundw
              case rel => exact ⟨i + 1, _, _, by go_num, by omega, rfl, rfl, HT2, E1, FA, BB⟩
              case measure => simp [intOf]; omega
          · as_aux_lemma =>
              have hgs := unhide HGS2
              obtain rfl : i = m := by omega
              obtain ⟨hT, hF⟩ := (unhide HT).all (unhide HM)
              have HTF := hide (And.intro hT hF)
              clear HT hT hF
              obtain ⟨T, hTe⟩ : ∃ T, rowH s nr (mIt c ks us hs zsty) row = T := ⟨_, rfl⟩
              have hTb := rowH_bd (unhide HSH) (nr := nr) (unhide HIRR)
              rw [hTe] at hTb
              have HTE := hide hTe
              clear hTe him
              obtain ⟨sk, hsk⟩ : ∃ z, s.h.k = z := ⟨_, rfl⟩
              obtain ⟨jv, hjv⟩ : ∃ z, s.justify = z := ⟨_, rfl⟩
              obtain ⟨iv, hiv⟩ : ∃ z, s.items = z := ⟨_, rfl⟩
              have HSK := hide hsk
              have HJV := hide hjv
              have HIV := hide hiv
              have s6 := (BS.cell 6).trans (show _ = some (Value.int .u8 s.h.k) from rfl)
              rw [hsk] at s6
              have s35 := (BS.cell 35).trans (show _ = some (Value.int .u8 s.justify) from rfl)
              rw [hjv] at s35
              have s36 := (BS.cell 36).trans (show _ = some (Value.int .u8 s.items) from rfl)
              rw [hiv] at s36
              clear hsk hjv hiv
              have S6 := hide s6
              have S35 := hide s35
              have S36 := hide s36
              clear s6 s35 s36
              obtain ⟨b17, hb17⟩ : ∃ b, decide (nr = 1 ∧ sk = 1) = b := ⟨_, rfl⟩
              have HB17 := hide hb17
              clear hb17
              go_upto_region 17 with fail
              go_cut [104] from 50 to 252 (fun v104 wx => v104 = .bool b17 ∧ Ext w1 wx ∧ FrAt wx gF n G ∧ Blk wx gB 4 (boolL (noB n)).toArray)
              case first =>
                as_aux_lemma =>
                  have c6 := (E1.cells.1 gS _ lS).trans (unhide S6)
                  have l6 := Nat.lt_of_lt_of_le lS E1.size
                  by_cases hn1 : nr = 1
                  · have z1 : ((nr : Int) == 1) = true := by simp; omega
                    have hn1h := hide hn1
                    clear hn1
                    by_cases hk1 : sk = 1
                    · have hbt := hide ((unhide HB17).symm.trans (decide_eq_true ⟨unhide hn1h, hk1⟩))
                      subst hk1
                      go_wp2_with fail
                      go_meet
                      case rel => exact ⟨by rw [unhide hbt], E1, FA, BB⟩
                    · have hbt := hide ((unhide HB17).symm.trans (decide_eq_false (fun h => hk1 h.2)))
                      have z2 : (sk == 1) = false := by simp; exact hk1
                      go_wp2_with fail
                      go_meet
                      case rel => exact ⟨by rw [unhide hbt], E1, FA, BB⟩
                  · have z1 : ((nr : Int) == 1) = false := by simp; omega
                    have hbt := hide ((unhide HB17).symm.trans (decide_eq_false (fun h => hn1 h.1)))
                    clear hn1
                    go_wp2_with fail
                    go_meet
                    case rel => exact ⟨by rw [unhide hbt], E1, FA, BB⟩
              case rest =>
                as_aux_lemma =>
                  clear E1 FA BB
                  obtain ⟨rfl, E1, FA, BB⟩ := hcut
                  go_upto_if 104 with (fail)
                  go_cut [21] from 50 to 252 (fun v21 wx => v21 = .int .i64 T ∧ Ext w1 wx ∧ FrAt wx gF n G ∧ Blk wx gB 4 (boolL (noB n)).toArray)
                  case first =>
                    as_aux_lemma =>
                      cases b17
                      · go_wp2_with fail
                        go_meet
                        case rel => exact ⟨by rw [← unhide HTE, rowH, if_neg (by have := of_decide_eq_false (unhide HB17); rw [unhide HSK]; exact this), (unhide HTF).1], E1, FA, BB⟩
                      · go_upto_region 18 with fail
                        go_step
                        refine wpList_load_blk rfl 28 (.tmp 6) rfl gS rfl 28 s.cells _ (BS.ext E1) Try.underlying28 rfl (info_style s) ?_
                        simp only [Act.put, List.setIfInBounds_toArray, List.set_cons_succ, List.set_cons_zero]
                        go_wp2_with fail
                        with_reducible refine (unhide (cH s 0 _)).mono ?_
                        rintro e wz ⟨rfl, hx⟩
                        go_wp2_with fail
                        go_meet
                        case rel => exact ⟨by rw [← unhide HTE, rowH, if_pos (by have := of_decide_eq_true (unhide HB17); rw [unhide HSK]; exact this)], E1.trans hx, FA.ext hx, BB.ext hx⟩
                  case rest =>
                    as_aux_lemma =>
                      clear E1 FA BB
                      obtain ⟨rfl, E1, FA, BB⟩ := hcut
                      have c35 := (E1.cells.1 gS _ lS).trans (unhide S35)
                      have l6 := Nat.lt_of_lt_of_le lS E1.size
                      go_upto_block 4 with fail
                      clear c35 l6
                      obtain ⟨A0, hA0⟩ : ∃ a, (if jv = 1 then f else if jv = 2 then f / 2 else 0) = a := ⟨_, rfl⟩
                      have hA0b : -5000000000000000 ≤ A0 ∧ A0 ≤ 5000000000000000 := by rw [← hA0]; split <;> (try split) <;> omega
                      have HA0 := hide hA0
                      clear hA0
                      go_cut [25] from 50 to 252 (fun v25 wx => v25 = .int .i64 A0 ∧ Ext w1 wx ∧ FrAt wx gF n G ∧ Blk wx gB 4 (boolL (noB n)).toArray)
                      case first =>
                        as_aux_lemma =>
                          have HC35 := hide ((E1.cells.1 gS _ lS).trans (unhide S35))
                          have l6 := Nat.lt_of_lt_of_le lS E1.size
                          by_cases hj1 : jv = 1
                          · have h0 := hide (show f = A0 by rw [← unhide HA0, if_pos hj1])
                            subst hj1
                            go_wp2_with fail
                            go_meet
                            case rel => exact ⟨by rw [unhide h0], E1, FA, BB⟩
                          · have zj1 : (jv == 1) = false := by simp; exact hj1
                            by_cases hj2 : jv = 2
                            · have h0 := hide (show f / 2 = A0 by rw [← unhide HA0, if_neg hj1, if_pos hj2])
                              clear hj1
                              subst hj2
                              go_wp2_with fail
                              with_reducible refine (unhide (cHf f (by omega) (by omega) _)).mono ?_
                              rintro e wz ⟨rfl, rfl⟩
                              rw [unhide h0]
                              go_wp2_with fail
                              go_meet
                              case rel => exact ⟨rfl, E1, FA, BB⟩
                            · have h0 := hide (show 0 = A0 by rw [← unhide HA0, if_neg hj1, if_neg hj2])
                              have zj2 : (jv == 2) = false := by simp; exact hj2
                              clear hj1 hj2
                              go_wp2_with fail
                              go_meet
                              case rel => exact ⟨by rw [← unhide h0], E1, FA, BB⟩
                      case rest =>
                        as_aux_lemma =>
                          clear E1 FA BB
                          obtain ⟨rfl, E1, FA, BB⟩ := hcut
                          go_wp2_with fail
                          go_loopw [25, 26] (fun v25 v26 wr => ∃ (j : Nat) (a : Int) (G2 : Nat → Fr), v26 = .int .i64 j ∧ j ≤ i ∧ v25 = .int .i64 a ∧ Hid (a = A0 + sumV (mIt c ks us hs zsty) (row.take j)) ∧ Hid (OutP s c nr rs (mIt c ks us hs zsty) r j G2) ∧ Ext w1 wr ∧ FrAt wr gF n G2 ∧ Blk wr gB 4 (boolL (noB n)).toArray) (fun _ v26 _ => i - (intOf v26).toNat)
                          case atStart => exact ⟨0, A0, G, rfl, by omega, rfl, hide (by simp [sumV]), HG, E1, FA, BB⟩
                          case round =>
                            clear E1 FA BB
                            obtain ⟨j, a, G2, rfl, hj, rfl, HA, HG2, E1, FA, BB⟩ := hrel
                            have hab : -10000000000000000 ≤ a ∧ a ≤ 10000000000000000 := by
                              have h1 := sumV_bd (mIt c ks us hs zsty) row (fun k hk => (unhide HIRR k hk).w) j (by rw [unhide HM]; exact hj)
                              have h2 := unhide HA
                              omega
                            have htpb := topS_bd (unhide HSH) (nr := nr) (unhide HIR) r (by have := (unhide HRS).len; omega)
                            rw [unhide HTP] at htpb
                            by_cases hji : j < i
                            · as_aux_lemma =>
                                have hgs := unhide HGS2
                                have hiI : (0 : Int) ≤ (j : Int) ∧ (j : Int) < (i : Int) := by omega
                                obtain ⟨k, hk⟩ : ∃ k, row[j]? = some k := ⟨_, List.getElem?_eq_getElem (by rw [unhide HM]; omega)⟩
                                have hkn := (unhide HLT) k (List.mem_of_getElem? hk)
                                obtain ⟨bi, oi, rfl, hbi, hci⟩ := hrR.intIn (castL_get hk)
                                have ci1 := (E1.cells.1 bi _ hbi).trans hci
                                have li := Nat.lt_of_lt_of_le hbi E1.size
                                have hkI : (0 : Int) ≤ (k : Int) ∧ (k : Int) < (n : Int) := by omega
                                obtain ⟨xs, hxs⟩ : ∃ t, ks[k]? = some t := ⟨_, List.getElem?_eq_getElem (by rw [unhide HKL]; exact hkn)⟩
                                obtain ⟨px, hpx⟩ : ∃ x, mP c ks us hs k = x := ⟨_, rfl⟩
                                have hIt := mIt_of hxs hpx
                                obtain ⟨lp, hmp⟩ := RP.recAt prC_len (partL_get hkn) (by omega)
                                rw [hpx] at hmp
                                have hib := (unhide HBD) k hkn
                                rw [hIt] at hib
                                obtain ⟨pw, pa, pb, uw, pl, pr, ph⟩ := px
                                simp only at hIt hib
                                obtain ⟨sh, bl, br, bw, bh, bd, ba, bb⟩ := hib
                                simp only at bl br bw bh bd ba bb
                                have HMP := hide hmp
                                have HIT := hide hIt
                                have HXS := hide hxs
                                have HKK := hide hk
                                clear hmp hIt hxs hpx hk hci
                                have hfb := htf
                                have hkid := (unhide HOK) xs (List.mem_of_getElem? (unhide HXS))
                                obtain ⟨lk0, hmk⟩ := rk.recAt styC_len (unhide HXS) (by omega)
                                have HMK := hide hmk
                                clear hmk
                                have HTHIN := hide hkid.thin
                                clear hkid
                                go_upto_region 29 with fail
                                iterate 10 go_step
                                have hm0 : wr.rangeAt bP (oP + k * 7) (prC ⟨pw, pa, pb, uw, pl, pr, ph⟩) := fun j v hv => (E1.cells.1 bP _ lp).trans ((unhide HMP) j v hv)
                                refine wpList_load_midg 77 (.tmp 128) rfl bP (oP + k * 7) rfl rfl (prC ⟨pw, pa, pb, uw, pl, pr, ph⟩) _ hm0 Try.underlying77 rfl (size_prC _) ?_
                                simp only [Act.put, List.setIfInBounds_toArray, List.set_cons_succ, List.set_cons_zero]
                                clear hm0
                                refine wpList_alloc_var rfl 77 rfl zpr.cells zero_pr ?_
                                intro w1x X hx zx
                                simp only [Act.put, List.setIfInBounds_toArray, List.set_cons_succ, List.set_cons_zero]
                                have nXBB : gB < wr.heap.size := BB.lt
                                have zXE1 := E1.size
                                generalize wr.heap.size = gX at *
                                clear zx
                                replace E1 := E1.trans hx
                                replace BB := BB.ext hx
                                replace FA := FA.ext hx
                                clear hx
                                refine wpList_store_in rfl 77 (.tmp 28) (.tmp 129) rfl gX 0 rfl (Pr.cells ⟨pw, pa, pb, uw, pl, pr, ph⟩) rfl 77 [.int .i64 0, .int .i64 0, .int .i64 0, .int .i64 0, .int .i64 0, .int .i64 0, .int .i64 0] X (by simp) (size_pr ⟨pw, pa, pb, uw, pl, pr, ph⟩) (by kernel_rfl) [.int .i64 pw, .int .i64 pa, .int .i64 pb, .int .i64 uw, .int .i64 pl, .int .i64 pr, .int .i64 ph] rfl ?_
                                intro w2x B_ gr zx
                                simp only [Act.put]
                                replace E1 := E1.grownBlk gr (by omega)
                                replace BB := BB.grownNe gr (by omega)
                                replace FA := FA.grownNe gr (by omega)
                                replace X := B_
                                clear B_ gr zx
                                clear ci1 li
                                have cX6 := (X.cell 6).trans (show _ = some (.int .i64 ph) from rfl)
                                have cXl := X.lt
                                go_upto_region 31 with fail
                                clear cX6 cXl
                                iterate 10 go_step
                                have hm : w2x.rangeAt bk (ok + k * 43) (styC xs) := fun j v hv => (E1.cells.1 bk _ lk0).trans ((unhide HMK) j v hv)
                                refine wpList_load_sty (.tmp 135) rfl bk (ok + k * 43) rfl rfl xs hm ?_
                                simp only [Act.put, List.setIfInBounds_toArray, List.set_cons_succ, List.set_cons_zero]
                                clear hm
                                go_wp2_with fail
                                with_reducible refine (unhide (cF xs (unhide HTHIN) _)).mono ?_
                                rintro e w3x ⟨rfl, hx⟩
                                replace E1 := E1.trans hx
                                replace BB := BB.ext hx
                                replace X := X.ext hx
                                replace FA := FA.ext hx
                                clear hx
                                obtain ⟨fd, hfd⟩ : ∃ z, xs.b0 + xs.b2 + xs.p0 + xs.p2 = z := ⟨_, rfl⟩
                                have bd2 : 0 ≤ fd ∧ fd ≤ 5000000000000 := by rw [← hfd]; exact bd
                                rw [hfd]
                                have HFD := hide hfd
                                clear hfd bd
                                obtain ⟨xk, hxk⟩ : ∃ z, xs.h.k = z := ⟨_, rfl⟩
                                have HXK := hide hxk
                                clear hxk
                                obtain ⟨b32, hb32⟩ : ∃ b, decide (iv = 3 ∧ xk = 0) = b := ⟨_, rfl⟩
                                have HB32 := hide hb32
                                clear hb32
                                obtain ⟨mx, hmx⟩ : ∃ z, max (T - pa - pb - fd) 0 = z := ⟨_, rfl⟩
                                have hmxb : 0 ≤ mx ∧ mx ≤ 400000000000000 := by omega
                                have hvb := highV_bd sh (a := mx)
                                have hvb2 : 0 ≤ highV xs mx ∧ highV xs mx ≤ 400000000000000 := by omega
                                have HMX := hide hmx
                                clear hmx hvb
                                obtain ⟨H, hH⟩ : ∃ z, newH s T ((mIt c ks us hs zsty) k) = z := ⟨_, rfl⟩
                                have hH2 : (if iv = 3 ∧ xk = 0 then highV xs mx + fd else ph) = H := by
                                  rw [← hH, newH, unhide HIT]
                                  simp only [unhide HIV, unhide HXK, frameD, unhide HFD, unhide HMX]
                                have hHb : 0 ≤ H ∧ H ≤ 500000000000000 := by rw [← hH2]; split <;> omega
                                have HH := hide hH
                                have HH2 := hide hH2
                                clear hH hH2
                                replace X : Blk w3x gX 77 (prC ⟨pw, pa, pb, uw, pl, pr, ph⟩).toArray := X
                                skip
                                go_upto_region 32 with fail
                                go_cut [151] from 116 to 249 (fun v151 wx => v151 = .bool b32 ∧ Ext w1 wx ∧ FrAt wx gF n G2 ∧ Blk wx gB 4 (boolL (noB n)).toArray ∧ Blk wx gX 77 (prC ⟨pw, pa, pb, uw, pl, pr, ph⟩).toArray)
                                case first =>
                                  as_aux_lemma =>
                                    have c36 := (E1.cells.1 gS _ lS).trans (unhide S36)
                                    have l6 := Nat.lt_of_lt_of_le lS E1.size
                                    have ck := (E1.cells.1 bk _ lk0).trans ((unhide HMK) 6 _ (show (styC xs)[6]? = some (Value.int .u8 xs.h.k) from rfl))
                                    rw [unhide HXK] at ck
                                    have lk1 := Nat.lt_of_lt_of_le lk0 E1.size
                                    by_cases h3 : iv = 3
                                    · have h3h := hide h3
                                      by_cases h0 : xk = 0
                                      · have hbt := hide ((unhide HB32).symm.trans (decide_eq_true ⟨h3, h0⟩))
                                        subst h3
                                        subst h0
                                        go_wp2_with fail
                                        go_meet
                                        case rel => exact ⟨by rw [unhide hbt], E1, FA, BB, X⟩
                                      · have hbt := hide ((unhide HB32).symm.trans (decide_eq_false (fun h => h0 h.2)))
                                        subst h3
                                        have z0 : (xk == 0) = false := by simp; exact h0
                                        clear h0
                                        go_wp2_with fail
                                        go_meet
                                        case rel => exact ⟨by rw [unhide hbt], E1, FA, BB, X⟩
                                    · have hbt := hide ((unhide HB32).symm.trans (decide_eq_false (fun h => h3 h.1)))
                                      have z3 : (iv == 3) = false := by simp; exact h3
                                      clear h3
                                      go_wp2_with fail
                                      go_meet
                                      case rel => exact ⟨by rw [unhide hbt], E1, FA, BB, X⟩
                                case rest =>
                                  as_aux_lemma =>
                                    clear E1 FA BB X
                                    obtain ⟨rfl, E1, FA, BB, X⟩ := hcut
                                    go_upto_if 151 with (fail)
                                    go_cut [29] from 116 to 249 (fun v29 wx => v29 = .int .i64 H ∧ Ext w1 wx ∧ FrAt wx gF n G2 ∧ Blk wx gB 4 (boolL (noB n)).toArray ∧ Blk wx gX 77 (prC ⟨pw, pa, pb, uw, pl, pr, ph⟩).toArray)
                                    case first =>
                                      as_aux_lemma =>
                                        cases b32
                                        · have h0 := hide (show ph = H by rw [← unhide HH2, if_neg (of_decide_eq_false (unhide HB32))])
                                          go_wp2_with fail
                                          go_meet
                                          case rel => exact ⟨by rw [unhide h0], E1, FA, BB, X⟩
                                        · have h0 := hide (show highV xs mx + fd = H by rw [← unhide HH2, if_pos (of_decide_eq_true (unhide HB32))])
                                          have cX1 := (X.cell 1).trans (show _ = some (Value.int .i64 pa) from rfl)
                                          have cX2 := (X.cell 2).trans (show _ = some (Value.int .i64 pb) from rfl)
                                          have lX := X.lt
                                          have lk1 := Nat.lt_of_lt_of_le lk0 E1.size
                                          have HM2 : Hid (wc.rangeAt bk (ok + k * 43) (styC xs)) := hide (fun j v hv => (E1.cells.1 bk _ lk0).trans ((unhide HMK) j v hv))
                                          go_upto_region 33 with fail
                                          refine wp_region_lin (by kernel_rfl) (fun w' => (ExtX wc w' [])) (fun ii vv ww => match ii with | 0 => vv = .slice (some ⟨bk, ok, none⟩) n ck | 1 => vv = .int .i64 (k : Int) | 2 => vv = .pointer (some ⟨bk, ok + k * 43, none⟩) | 3 => vv = .agg xs.cells | 4 => vv = .int .i64 T | 5 => vv = .pointer (some ⟨gX, 1, none⟩) | 6 => vv = .int .i64 pa | 7 => vv = .int .i64 (T - pa) | 8 => vv = .pointer (some ⟨gX, 2, none⟩) | 9 => vv = .int .i64 pb | 10 => vv = .int .i64 ((T - pa) - pb) | 11 => vv = .int .i64 fd | 12 => vv = .int .i64 (((T - pa) - pb) - fd) | 13 => vv = .int .i64 mx | 14 => vv = .int .i64 (highV xs mx) | 15 => vv = .int .i64 fd | 16 => vv = .int .i64 ((highV xs mx) + fd) | 17 => vv = .int .i64 ((highV xs mx) + fd) | _ => True) (fun ii => match ii with | 2 => [(0, 152), (1, 153)] | 3 => [(2, 154)] | 6 => [(5, 157)] | 7 => [(4, 156), (6, 158)] | 9 => [(8, 160)] | 10 => [(7, 159), (9, 161)] | 12 => [(10, 162), (11, 163)] | 13 => [(12, 164)] | 14 => [(3, 155), (13, 165)] | 16 => [(14, 166), (15, 167)] | 17 => [(16, 168)] | _ => []) (fun ii => match ii with | 0 => [2] | 1 => [27] | 4 => [21] | 5 => [28] | 8 => [28] | 11 => [31] | 15 => [31] | _ => []) (fun ii => match ii with | 0 => [1, 5, 4, 6, 8, 7, 9, 10, 11, 12, 13, 15] | 1 => [0, 5, 4, 6, 8, 7, 9, 10, 11, 12, 13, 15] | 2 => [5, 4, 6, 8, 7, 9, 10, 11, 12, 13, 15] | 3 => [5, 4, 6, 8, 7, 9, 10, 11, 12, 13, 15] | 4 => [0, 1, 2, 5, 6, 8, 9, 11, 3, 15] | 5 => [0, 1, 2, 4, 8, 9, 11, 3, 15] | 6 => [0, 1, 2, 4, 8, 9, 11, 3, 15] | 7 => [0, 1, 2, 8, 9, 11, 3, 15] | 8 => [0, 1, 2, 5, 4, 6, 7, 11, 3, 15] | 9 => [0, 1, 2, 5, 4, 6, 7, 11, 3, 15] | 10 => [0, 1, 2, 11, 3, 15] | 11 => [0, 1, 2, 5, 4, 6, 8, 7, 9, 10, 3, 15] | 12 => [0, 1, 2, 3, 15] | 13 => [0, 1, 2, 3, 15] | 14 => [15] | 15 => [0, 1, 2, 5, 4, 6, 8, 7, 9, 10, 11, 12, 3, 13, 14] | _ => []) [17] [0, 0, 3, 7, 0, 0, 32, 112, 0, 256, 1008, 0, 4080, 8176, 16383, 0, 65535, 131071] 281 rfl (by kernel_rfl) (ExtX.start _ _) ?_ ?_
                                          · rename_i hcont; clear hcont
                                            refine ⟨?_, ?_, ?_, ?_, ?_, ?_, ?_, ?_, ?_, ?_, ?_, ?_, ?_, ?_, ?_, ?_, ?_, ?_, trivial⟩
                                            · refine stepL_plain rfl ?_
                                              rintro F a w1 jE - ⟨t2, -⟩ K hK
                                              have t2 : a.tmps[2]? = some (.slice (some ⟨bk, ok, none⟩) n ck) := t2
                                              go_simp
                                              exact hK _ _ jE rfl (fun _ _ _ h => h)
                                            · refine stepL_plain rfl ?_
                                              rintro F a w1 jE - ⟨t27, -⟩ K hK
                                              have t27 : a.tmps[27]? = some (.int .i64 (k : Int)) := t27
                                              go_simp
                                              exact hK _ _ jE rfl (fun _ _ _ h => h)
                                            · refine stepL_plain rfl ?_
                                              rintro F a w1 jE ⟨h0, t152, h1, t153, -⟩ - K hK
                                              have h0 : (F 0) = .slice (some ⟨bk, ok, none⟩) n ck := h0
                                              rw [h0] at t152
                                              clear h0
                                              have h1 : (F 1) = .int .i64 (k : Int) := h1
                                              rw [h1] at t153
                                              clear h1
                                              go_simp
                                              exact hK _ _ jE rfl (fun _ _ _ h => h)
                                            · refine stepL_plain rfl ?_
                                              rintro F a w1 jE ⟨h2, t154, -⟩ - K hK
                                              have h2 : (F 2) = .pointer (some ⟨bk, ok + k * 43, none⟩) := h2
                                              rw [h2] at t154
                                              clear h2
                                              refine wp_load_mid 28 _ rfl bk (ok + k * 43) (eval_tmp t154) (styC xs) _ (fun x v hv => ((jE.ext (Ext.refl _) (by simp)).cells.1 bk _ lk1).trans ((unhide HM2) x v hv)) Try.underlying28 rfl (info_style xs) ?_
                                              exact hK _ _ jE rfl (fun _ _ _ h => h)
                                            · refine stepL_plain rfl ?_
                                              rintro F a w1 jE - ⟨t21, -⟩ K hK
                                              have t21 : a.tmps[21]? = some (.int .i64 T) := t21
                                              go_simp
                                              exact hK _ _ jE rfl (fun _ _ _ h => h)
                                            · refine stepL_plain rfl ?_
                                              rintro F a w1 jE - ⟨t28, -⟩ K hK
                                              have t28 : a.tmps[28]? = some (.pointer (some ⟨gX, 0, none⟩)) := t28
                                              go_simp
                                              exact hK _ _ jE rfl (fun _ _ _ h => h)
                                            · refine stepL_plain rfl ?_
                                              rintro F a w1 jE ⟨h5, t157, -⟩ - K hK
                                              have h5 : (F 5) = .pointer (some ⟨gX, 1, none⟩) := h5
                                              rw [h5] at t157
                                              clear h5
                                              have c := ((jE.ext (Ext.refl _) (by simp)).cells.1 _ _ lX).trans cX1
                                              go_simp
                                              exact hK _ _ jE rfl (fun _ _ _ h => h)
                                            · refine stepL_plain rfl ?_
                                              rintro F a w1 jE ⟨h4, t156, h6, t158, -⟩ - K hK
                                              have h4 : (F 4) = .int .i64 T := h4
                                              rw [h4] at t156
                                              clear h4
                                              have h6 : (F 6) = .int .i64 pa := h6
                                              rw [h6] at t158
                                              clear h6
                                              have e1 : IntKind.i64.wrap (T - pa) = (T - pa) := IntWalk.i64_in _ (by omega)
                                              go_simp
                                              exact hK _ _ jE rfl (fun _ _ _ h => h)
                                            · refine stepL_plain rfl ?_
                                              rintro F a w1 jE - ⟨t28, -⟩ K hK
                                              have t28 : a.tmps[28]? = some (.pointer (some ⟨gX, 0, none⟩)) := t28
                                              go_simp
                                              exact hK _ _ jE rfl (fun _ _ _ h => h)
                                            · refine stepL_plain rfl ?_
                                              rintro F a w1 jE ⟨h8, t160, -⟩ - K hK
                                              have h8 : (F 8) = .pointer (some ⟨gX, 2, none⟩) := h8
                                              rw [h8] at t160
                                              clear h8
                                              have c := ((jE.ext (Ext.refl _) (by simp)).cells.1 _ _ lX).trans cX2
                                              go_simp
                                              exact hK _ _ jE rfl (fun _ _ _ h => h)
                                            · refine stepL_plain rfl ?_
                                              rintro F a w1 jE ⟨h7, t159, h9, t161, -⟩ - K hK
                                              have h7 : (F 7) = .int .i64 (T - pa) := h7
                                              rw [h7] at t159
                                              clear h7
                                              have h9 : (F 9) = .int .i64 pb := h9
                                              rw [h9] at t161
                                              clear h9
                                              have e1 : IntKind.i64.wrap ((T - pa) - pb) = ((T - pa) - pb) := IntWalk.i64_in _ (by omega)
                                              go_simp
                                              exact hK _ _ jE rfl (fun _ _ _ h => h)
                                            · refine stepL_plain rfl ?_
                                              rintro F a w1 jE - ⟨t31, -⟩ K hK
                                              have t31 : a.tmps[31]? = some (.int .i64 fd) := t31
                                              go_simp
                                              exact hK _ _ jE rfl (fun _ _ _ h => h)
                                            · refine stepL_plain rfl ?_
                                              rintro F a w1 jE ⟨h10, t162, h11, t163, -⟩ - K hK
                                              have h10 : (F 10) = .int .i64 ((T - pa) - pb) := h10
                                              rw [h10] at t162
                                              clear h10
                                              have h11 : (F 11) = .int .i64 fd := h11
                                              rw [h11] at t163
                                              clear h11
                                              have e1 : IntKind.i64.wrap (((T - pa) - pb) - fd) = (((T - pa) - pb) - fd) := IntWalk.i64_in _ (by omega)
                                              go_simp
                                              exact hK _ _ jE rfl (fun _ _ _ h => h)
                                            · refine stepL_plain rfl ?_
                                              rintro F a w1 jE ⟨h12, t164, -⟩ - K hK
                                              have h12 : (F 12) = .int .i64 (((T - pa) - pb) - fd) := h12
                                              rw [h12] at t164
                                              clear h12
                                              have e1 := unhide HMX
                                              go_simp
                                              exact hK _ _ jE rfl (fun _ _ _ h => h)
                                            · refine stepL_plain rfl ?_
                                              rintro F a w1 jE ⟨h3, t155, h13, t165, -⟩ - K hK
                                              have h3 : (F 3) = .agg xs.cells := h3
                                              rw [h3] at t155
                                              clear h3
                                              have h13 : (F 13) = .int .i64 mx := h13
                                              rw [h13] at t165
                                              clear h13
                                              go_simp
                                              with_reducible refine (unhide (cH xs mx _)).mono ?_
                                              rintro e w2 ⟨rfl, hx⟩
                                              exact hK _ _ (jE.trans hx) (rfl) (by intro jq hj uq h; have hj : jq ∈ [15] := hj; simp only [List.mem_singleton] at hj; subst hj; exact h)
                                            · refine stepL_plain rfl ?_
                                              rintro F a w1 jE - ⟨t31, -⟩ K hK
                                              have t31 : a.tmps[31]? = some (.int .i64 fd) := t31
                                              go_simp
                                              exact hK _ _ jE rfl (fun _ _ _ h => h)
                                            · refine stepL_plain rfl ?_
                                              rintro F a w1 jE ⟨h14, t166, h15, t167, -⟩ - K hK
                                              have h14 : (F 14) = .int .i64 (highV xs mx) := h14
                                              rw [h14] at t166
                                              clear h14
                                              have h15 : (F 15) = .int .i64 fd := h15
                                              rw [h15] at t167
                                              clear h15
                                              have e1 : IntKind.i64.wrap ((highV xs mx) + fd) = ((highV xs mx) + fd) := IntWalk.i64_in _ (by omega)
                                              go_simp
                                              exact hK _ _ jE rfl (fun _ _ _ h => h)
                                            · refine stepL_plain rfl ?_
                                              rintro F a w1 jE ⟨h16, t168, -⟩ - K hK
                                              have h16 : (F 16) = .int .i64 ((highV xs mx) + fd) := h16
                                              rw [h16] at t168
                                              clear h16
                                              go_simp
                                              exact hK _ _ jE rfl (fun _ _ _ h => h)
                                          · rintro F w1x jE ⟨h17, -⟩
                                            have h17 : (F 17) = .int .i64 ((highV xs mx) + fd) := h17
                                            have hx := jE.ext (Ext.refl _) (by simp)
                                            simp only [putL, Act.put, Nat.reduceAdd, Nat.zero_add, List.setIfInBounds_toArray, List.set_cons_succ, List.set_cons_zero]
                                            rw [h17]
                                            clear jE h17
                                            replace E1 := E1.trans hx
                                            replace BB := BB.ext hx
                                            replace X := X.ext hx
                                            replace FA := FA.ext hx
                                            clear hx
                                            clear cX1 cX2 lX lk1 HM2
                                            rw [unhide h0]
                                            go_wp2_with fail
                                            go_meet
                                            case rel => exact ⟨rfl, E1, FA, BB, X⟩
                                    case rest =>
                                      as_aux_lemma =>
                                        clear E1 FA BB X
                                        obtain ⟨rfl, E1, FA, BB, X⟩ := hcut
                                        have cX1 := (X.cell 1).trans (show _ = some (Value.int .i64 pa) from rfl)
                                        have cX2 := (X.cell 2).trans (show _ = some (Value.int .i64 pb) from rfl)
                                        have lX := X.lt
                                        have c36 := (E1.cells.1 gS _ lS).trans (unhide S36)
                                        have l6 := Nat.lt_of_lt_of_le lS E1.size
                                        go_upto_block 7 with fail
                                        clear cX1 cX2 lX c36 l6
                                        obtain ⟨Lf, hLf⟩ : ∃ z, T - H - pa - pb = z := ⟨_, rfl⟩
                                        rw [hLf]
                                        have hLb : -600000000000000 ≤ Lf ∧ Lf ≤ 600000000000000 := by omega
                                        have HLF := hide hLf
                                        clear hLf
                                        obtain ⟨Y, hY⟩ : ∃ z, (if iv = 1 then tp + pa + Lf else if iv = 2 then tp + pa + Lf / 2 else tp + pa) = z := ⟨_, rfl⟩
                                        have hYb : -200000000000000000 ≤ Y ∧ Y ≤ 200000000000000000 := by rw [← hY]; split <;> (try split) <;> omega
                                        have HY := hide hY
                                        clear hY
                                        go_cut [32] from 116 to 249 (fun v32 wx => v32 = .int .i64 Y ∧ Ext w1 wx ∧ FrAt wx gF n G2 ∧ Blk wx gB 4 (boolL (noB n)).toArray ∧ Blk wx gX 77 (prC ⟨pw, pa, pb, uw, pl, pr, ph⟩).toArray)
                                        case first =>
                                          as_aux_lemma =>
                                            by_cases h1 : iv = 1
                                            · have h0 := hide (show tp + pa + Lf = Y by rw [← unhide HY, if_pos h1])
                                              subst h1
                                              go_wp2_with fail
                                              go_meet
                                              case rel => exact ⟨by rw [unhide h0], E1, FA, BB, X⟩
                                            · have z1 : (iv == 1) = false := by simp; exact h1
                                              by_cases h2 : iv = 2
                                              · have h0 := hide (show tp + pa + Lf / 2 = Y by rw [← unhide HY, if_neg h1, if_pos h2])
                                                clear h1
                                                subst h2
                                                go_wp2_with fail
                                                with_reducible refine (unhide (cHf Lf (by omega) (by omega) _)).mono ?_
                                                rintro e wz ⟨rfl, rfl⟩
                                                go_wp2_with fail
                                                go_meet
                                                case rel => exact ⟨by rw [unhide h0], E1, FA, BB, X⟩
                                              · have h0 := hide (show tp + pa = Y by rw [← unhide HY, if_neg h1, if_neg h2])
                                                have z2 : (iv == 2) = false := by simp; exact h2
                                                clear h1 h2
                                                go_wp2_with fail
                                                go_meet
                                                case rel => exact ⟨by rw [unhide h0], E1, FA, BB, X⟩
                                        case rest =>
                                          as_aux_lemma =>
                                            clear E1 FA BB X
                                            obtain ⟨rfl, E1, FA, BB, X⟩ := hcut
                                            obtain ⟨b42, hb42⟩ : ∃ b, decide (jv = 3 ∧ 0 < f ∧ 1 < i) = b := ⟨_, rfl⟩
                                            have HB42 := hide hb42
                                            clear hb42
                                            go_upto_region 42 with fail
                                            go_cut [206] from 116 to 249 (fun v206 wx => v206 = .bool b42 ∧ Ext w1 wx ∧ FrAt wx gF n G2 ∧ Blk wx gB 4 (boolL (noB n)).toArray ∧ Blk wx gX 77 (prC ⟨pw, pa, pb, uw, pl, pr, ph⟩).toArray)
                                            case first =>
                                              as_aux_lemma =>
                                                have c35 := (E1.cells.1 gS _ lS).trans (unhide S35)
                                                have l6 := Nat.lt_of_lt_of_le lS E1.size
                                                by_cases h3 : jv = 3
                                                · by_cases hf0 : 0 < f
                                                  · by_cases hi1 : 1 < i
                                                    · have hbt := hide ((unhide HB42).symm.trans (decide_eq_true ⟨h3, hf0, hi1⟩))
                                                      have hi1I : (1 : Int) < (i : Int) := by omega
                                                      subst h3
                                                      go_wp2_with fail
                                                      go_meet
                                                      case rel => exact ⟨by rw [unhide hbt], E1, FA, BB, X⟩
                                                    · have hbt := hide ((unhide HB42).symm.trans (decide_eq_false (fun h => hi1 h.2.2)))
                                                      have hi1I : ¬ (1 : Int) < (i : Int) := by omega
                                                      subst h3
                                                      go_wp2_with fail
                                                      go_meet
                                                      case rel => exact ⟨by rw [unhide hbt], E1, FA, BB, X⟩
                                                  · have hbt := hide ((unhide HB42).symm.trans (decide_eq_false (fun h => hf0 h.2.1)))
                                                    subst h3
                                                    go_wp2_with fail
                                                    go_meet
                                                    case rel => exact ⟨by rw [unhide hbt], E1, FA, BB, X⟩
                                                · have hbt := hide ((unhide HB42).symm.trans (decide_eq_false (fun h => h3 h.1)))
                                                  have z3 : (jv == 3) = false := by simp; exact h3
                                                  clear h3
                                                  go_wp2_with fail
                                                  go_meet
                                                  case rel => exact ⟨by rw [unhide hbt], E1, FA, BB, X⟩
                                            case rest =>
                                              as_aux_lemma =>
                                                clear E1 FA BB X
                                                obtain ⟨rfl, E1, FA, BB, X⟩ := hcut
                                                obtain ⟨M, hM⟩ : ∃ z, (if jv = 3 then betV f j i else 0) = z := ⟨_, rfl⟩
                                                have hMb := between_bd hM (show j ≤ i by omega) (show i ≤ 300 by omega) hfb
                                                have HM3 := hide hM
                                                clear hM
                                                go_upto_if 206 with (fail)
                                                go_cut [34] from 116 to 249 (fun v34 wx => v34 = .int .i64 M ∧ Ext w1 wx ∧ FrAt wx gF n G2 ∧ Blk wx gB 4 (boolL (noB n)).toArray ∧ Blk wx gX 77 (prC ⟨pw, pa, pb, uw, pl, pr, ph⟩).toArray)
                                                case first =>
                                                  as_aux_lemma =>
                                                    cases b42
                                                    · have h0 := hide (between_no (unhide HM3) (of_decide_eq_false (unhide HB42)))
                                                      go_wp2_with fail
                                                      go_meet
                                                      case rel => exact ⟨by rw [unhide h0], E1, FA, BB, X⟩
                                                    · obtain ⟨q1, q2, q3⟩ := of_decide_eq_true (unhide HB42)
                                                      obtain ⟨mm, hmm⟩ : ∃ mm, i = mm + 1 := ⟨i - 1, by omega⟩
                                                      have hM0 : M = betV f j (mm + 1) := by rw [← unhide HM3, if_pos q1, hmm]
                                                      have hmI : (0 : Int) < (mm : Int) ∧ (mm : Int) ≤ 300 := by omega
                                                      have e0 : (i : Int) - 1 = (mm : Int) := by omega
                                                      obtain ⟨D, hD⟩ : ∃ z, f / (mm : Int) = z := ⟨_, rfl⟩
                                                      obtain ⟨Rm, hRm⟩ : ∃ z, f % (mm : Int) = z := ⟨_, rfl⟩
                                                      have d1 : 0 ≤ D ∧ D ≤ f := by rw [← hD]; exact ⟨Int.ediv_nonneg (by omega) (by omega), Int.ediv_le_self _ (by omega)⟩
                                                      have r1 : 0 ≤ Rm ∧ Rm < 300 := by rw [← hRm]; have a1 := Int.emod_nonneg f (show (mm : Int) ≠ 0 by omega); have a2 := Int.emod_lt_of_pos f (show (0 : Int) < mm by omega); omega
                                                      obtain ⟨p1, hp1⟩ : ∃ z, D * (j : Int) = z := ⟨_, rfl⟩
                                                      obtain ⟨p2, hp2⟩ : ∃ z, Rm * (j : Int) = z := ⟨_, rfl⟩
                                                      have p1b : 0 ≤ p1 ∧ p1 ≤ 1500000000000000000 := by rw [← hp1]; exact ⟨Int.mul_nonneg (by omega) (by omega), Int.le_trans (Int.mul_le_mul (show D ≤ 5000000000000000 by omega) (show (j : Int) ≤ 300 by omega) (by omega) (by omega)) (by decide)⟩
                                                      have p2b : 0 ≤ p2 ∧ p2 ≤ 90000 := by rw [← hp2]; exact ⟨Int.mul_nonneg (by omega) (by omega), Int.le_trans (Int.mul_le_mul (show Rm ≤ 300 by omega) (show (j : Int) ≤ 300 by omega) (by omega) (by omega)) (by decide)⟩
                                                      obtain ⟨p3, hp3⟩ : ∃ z, p2 / (mm : Int) = z := ⟨_, rfl⟩
                                                      have p3b : 0 ≤ p3 ∧ p3 ≤ p2 := by rw [← hp3]; exact ⟨Int.ediv_nonneg (by omega) (by omega), Int.ediv_le_self _ (by omega)⟩
                                                      have hsum : p1 + p3 = M := by rw [hM0, ← hp1, ← hp3, ← hp2, ← hD, ← hRm, bet_parts (by omega) (by omega), betV, if_neg (by omega)]; congr 1; omega
                                                      have t1 : Int.tdiv f (mm : Int) = D := by rw [Int.tdiv_eq_ediv_of_nonneg (by omega)]; exact hD
                                                      have t2 : Int.tmod f (mm : Int) = Rm := by rw [Int.tmod_eq_emod_of_nonneg (by omega)]; exact hRm
                                                      have t3 : Int.tdiv p2 (mm : Int) = p3 := by rw [Int.tdiv_eq_ediv_of_nonneg (by omega)]; exact hp3
                                                      have u1 : IntKind.i64.wrap D = D := IntWalk.i64_in _ (by omega)
                                                      have u2 : IntKind.i64.wrap Rm = Rm := IntWalk.i64_in _ (by omega)
                                                      have u3 : IntKind.i64.wrap p1 = p1 := IntWalk.i64_in _ (by omega)
                                                      have u4 : IntKind.i64.wrap p2 = p2 := IntWalk.i64_in _ (by omega)
                                                      have u5 : IntKind.i64.wrap p3 = p3 := IntWalk.i64_in _ (by omega)
                                                      have u6 : IntKind.i64.wrap (p1 + p3) = M := (IntWalk.i64_in _ (by omega)).trans hsum
                                                      have hz : ((mm : Int) == 0) = false := by simp; omega
                                                      clear hD hRm hp3 hsum hM0 hmm q1 q2 q3
                                                      go_upto_region 44 with fail
                                                      go_quiet (fail)
                                                      replace E1 := E1.drewN nq
                                                      replace FA := FA.ext ((Ext.refl _).drewN nq)
                                                      replace BB := BB.drewN nq
                                                      replace X := X.drewN nq
                                                      go_wp2_with fail
                                                      go_meet
                                                      case rel => exact ⟨rfl, E1, FA, BB, X⟩
                                                case rest =>
                                                  as_aux_lemma =>
                                                    clear E1 FA BB X
                                                    obtain ⟨rfl, E1, FA, BB, X⟩ := hcut
                                                    have cX0 := (X.cell 0).trans (show _ = some (Value.int .i64 pw) from rfl)
                                                    have cX4 := (X.cell 4).trans (show _ = some (Value.int .i64 pl) from rfl)
                                                    have cX5 := (X.cell 5).trans (show _ = some (Value.int .i64 pr) from rfl)
                                                    have lX := X.lt
                                                    have lF := FA.lt
                                                    go_upto_region 45 with fail
                                                    iterate 40 go_step
                                                    refine wpList_buildTo rfl 46 _ rfl _ rfl (frC ⟨a + pl + M, Y, pw, H⟩).toArray (by simp only [List.map_toArray, List.map_cons, List.map_nil]; exact built_fr _ _ _ _) ?_
                                                    simp only [Act.put, List.setIfInBounds_toArray, List.set_cons_succ, List.set_cons_zero]
                                                    iterate 3 go_step
                                                    refine wpList_store_mid rfl 46 (.tmp 237) (.tmp 236) rfl gF (k * 5) (frC ⟨a + pl + M, Y, pw, H⟩).toArray rfl rfl (FA.there hkn) (info_fr _) (all_oneCell_toArray (frC_one _)) ?_
                                                    simp only [Act.put]
                                                    have gr := gsGrown gF (frC ⟨a + pl + M, Y, pw, H⟩) (k * 5) wc
                                                    have FA3 := FA.put hkn ⟨a + pl + M, Y, pw, H⟩
                                                    clear FA cX0 cX4 cX5 lX lF
                                                    replace E1 := E1.grownBlk gr (by omega)
                                                    replace BB := BB.grownNe gr (by omega)
                                                    replace X := X.grownNe gr (by omega)
                                                    clear gr
                                                    generalize wc.setCells gF (k * 5) (frC ⟨a + pl + M, Y, pw, H⟩) = wd at *
                                                    have cX0 := (X.cell 0).trans (show _ = some (Value.int .i64 pw) from rfl)
                                                    have cX4 := (X.cell 4).trans (show _ = some (Value.int .i64 pl) from rfl)
                                                    have cX5 := (X.cell 5).trans (show _ = some (Value.int .i64 pr) from rfl)
                                                    have lX := X.lt
                                                    have HA2 := hide (show a + pl + pw + pr = A0 + sumV (mIt c ks us hs zsty) (row.take (j + 1)) by rw [takeS (unhide HKK), sumV_snoc, unhide HIT, unhide HA]; simp only; omega)
                                                    have HG3 := hide ((unhide HG2).step (unhide HRS).nd (show (rs.getD r [])[j]? = some k by rw [unhide HROW]; exact unhide HKK) (f := ⟨a + pl + M, Y, pw, H⟩) (fin_of (unhide HTP) (unhide HROW) (unhide HTE) (unhide HIT) (unhide HA) (unhide HA0) (unhide HM3) (unhide HY) (unhide HLF) (unhide HH) (unhide HTF).2 (unhide HM) (unhide HJV) (unhide HIV)))
                                                    go_wp2_with fail
                                                    go_roundw
                                                    case rel => exact ⟨j + 1, _, _, by go_num, by omega, rfl, HA2, HG3, E1, FA3, BB⟩
                                                    case measure => simp [intOf]; omega
                            · obtain rfl : j = i := by omega
                              have HTP3 := hide (show topS s nr (mIt c ks us hs zsty) rs (r + 1) = tp + T by rw [topS, unhide HTP, unhide HROW, unhide HTE])
                              have HG3 := hide (show OutP s c nr rs (mIt c ks us hs zsty) (r + 1) 0 G2 from OutP.next (by rw [unhide HROW, unhide HM]; exact unhide HG2))
                              go_wp2_with fail
                              go_roundw
                              case rel => exact ⟨r + 1, tp + T, G2, by go_num, by omega, rfl, HTP3, HG3, E1, FA, BB⟩
                              case measure => simp [intOf]; omega
    · obtain rfl : nr = r := by omega
      have HG4 := hide (fun i (hi : i < n) => (unhide HG).fin (unhide HRS) hi)
      have hin : ¬ (nr : Int) < (nr : Int) := by omega
      clear hr1 hrn
      rw [show noB n = byG G n 0 from (byN_0 _ n).symm] at BB
      have FA2 : FrAt wr gF n (cutU G 0) := FA
      clear FA
      go_wp2_with fail
      go_loopw [36] (fun v36 wx => ∃ k : Nat, v36 = .int .i64 k ∧ k ≤ n ∧ Ext w1 wx ∧ FrAt wx gF n (cutU G k) ∧ Blk wx gB 4 (boolL (byG G n k)).toArray) (fun v36 _ => n - (intOf v36).toNat)
      case atStart => exact ⟨0, rfl, by omega, E1, FA2, BB⟩
      case round =>
        clear E1 FA2 BB
        obtain ⟨k, rfl, hk1, E1, FA, BB⟩ := hrel
        have hgs := unhide HGS2
        by_cases hkn : k < n
        · have hkI : (0 : Int) ≤ (k : Int) ∧ (k : Int) < (n : Int) := by omega
          obtain ⟨f, hf⟩ : ∃ f, G k = f := ⟨_, rfl⟩
          have hcf : cutU G k k = f := by rw [cutU, if_neg (by omega), hf]
          have hm0 := FA.cell k hkn
          rw [hcf] at hm0
          have lF := FA.lt
          go_upto_region 51 with fail
          iterate 22 go_step
          refine wpList_load_midg 46 (.tmp 266) rfl gF (k * 5) rfl rfl (frC f) _ hm0 Try.underlying46 rfl (info_fr f) ?_
          simp only [Act.put, List.setIfInBounds_toArray, List.set_cons_succ, List.set_cons_zero]
          clear hm0
          go_wp2_with fail
          with_reducible refine (unhide (cCu f _)).mono ?_
          rintro e w9 ⟨rfl, hx⟩
          replace E1 := E1.trans hx
          replace FA := FA.ext hx
          replace BB := BB.ext hx
          clear hx lF
          have lF := FA.lt
          dsimp only
          iterate 13 go_step
          refine wpList_store_mid rfl 46 (.tmp 271) (.tmp 269) rfl gF (k * 5) (frC (cutF f)).toArray rfl rfl (FA.there hkn) (info_fr _) (all_oneCell_toArray (frC_one _)) ?_
          simp only [Act.put]
          have gr := gsGrown gF (frC (cutF f)) (k * 5) w9
          have FA3 := FA.put hkn (cutF f)
          clear FA lF
          replace E1 := E1.grownBlk gr (by omega)
          replace BB := BB.grownNe gr (by omega)
          clear gr
          generalize w9.setCells gF (k * 5) (frC (cutF f)) = wd at *
          have FA4 : FrAt wd gF n (cutU G (k + 1)) := FA3.congr (fun i _ => by
            show cutU G (k + 1) i = if i = k then _ else cutU G k i
            by_cases e : i = k
            · subst e; rw [if_pos rfl, cutU, if_pos (by omega), hf]
            · rw [if_neg e, cutU, cutU]; by_cases h : i < k
              · rw [if_pos h, if_pos (by omega)]
              · rw [if_neg h, if_neg (by omega)])
          have B2 := BB.set_ k (.bool (cutFB f))
          rw [boolL_set, ← hf, byG_step G hkn, hf] at B2
          have gr := gsCell (w := wd) gB k (u := .bool (cutFB f))
          have E2 := E1.grownBlk gr (by omega)
          have FA5 := FA4.grownNe gr (by omega)
          have cB := BB.bool (byN_get _ hkn)
          have fB := BB.frozen k
          have lB := BB.lt
          clear FA3 FA4 hf hcf gr E1
          go_upto_region 50 with fail
          clear cB fB lB BB
          generalize wd.setCell ⟨gB, k, none⟩ (.bool (cutFB f)) = we at *
          go_wp2_with fail
          go_roundw
          case rel => exact ⟨k + 1, by go_num, by omega, E2, FA5, B2⟩
          case measure => simp [intOf]; omega
        · have hin2 : ¬ (k : Int) < (n : Int) := by omega
          have hke : n = k := by omega
          have FA2 : FrAt wr gF n (fun i => frV ((topN s c nr rs (mIt c ks us hs zsty) nr).2 i)) := FA.congr (fun i hi => by
            rw [cutU, if_pos (by omega), unhide HG4 i hi, cutF_raw])
          have BB2 : Blk wr gB 4 (boolL (byN (topN s c nr rs (mIt c ks us hs zsty) nr).2 n n)).toArray := by
            rw [← hke, byG_all (unhide HG4)] at BB; exact BB
          have E2 := E.trans E1
          clear hke FA BB hk1 hkn E1
          go_wp2_with fail
          with_reducible refine (unhide (cC tp _)).mono ?_
          rintro e w8 ⟨rfl, rfl⟩
          go_wp2_with fail
          refine bodyPost_ret (v := .tuple #[.slice (some ⟨gF, 0, none⟩) n n, .int .i64 (cutV tp), .slice (some ⟨gB, 0, none⟩) n n]) (by simp [results, Try.results11, go_sem]) rfl ?_
          exact ⟨gF, gB, by rw [unhide HTP], FA2, BB2, E2⟩
end Go.Proofs.Ytkkkdjkjggofkaa
