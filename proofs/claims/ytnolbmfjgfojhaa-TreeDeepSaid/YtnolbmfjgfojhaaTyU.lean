/- Trees: the law TreeHeads (walk). -/
import Derived.Test.YtnolbmfjgfojhaaTyT
namespace Go.Proofs.Ytnolbmfjgfojhaa
open Go.RowKit
theorem rd_take {w : World} {k n : Nat} {A : Option Addr} {xs : List Value} (h : Rd w k A n xs) {m : Nat} (hm : m ≤ n) : Rd w k A m (xs.take (m * k)) :=
  ⟨by rw [List.length_take, h.len]; exact Nat.min_eq_left (Nat.mul_le_mul_right k hm), fun h0 => by
    obtain ⟨b, off, ha, hb, hc⟩ := h.at_ (by omega)
    refine ⟨b, off, ha, hb, fun j u hu => hc j u ?_⟩
    rw [List.getElem?_take] at hu
    split at hu
    · exact hu
    · cases hu⟩
theorem nds_upto (l : List Nd) (m : Nat) (hm : m ≤ l.length) : (nds l).take (m * 44) = nds (l.take m) := by
  have h := nds_append (l.take m) (l.drop m)
  rw [List.take_append_drop] at h
  rw [h, List.take_left' (by rw [nds_len, List.length_take]; congr 1; omega)]
section
variable (t : Tr) (ns : List Nd) (av : List Int)
set_option maxRecDepth 100000 in
set_option maxHeartbeats 16000000 in
theorem law_tyHeads (x : Int) (hx : 0 ≤ x ∧ x ≤ 65535) (A2 : Option Addr) (n2 c2 : Nat) (more : List Nd) (w : World) (h : TrIn w t ns av) (hm : t.nl ≤ 17592186044415) (ha : t.al ≤ 17592186044415) (hcp : t.nl ≤ t.nc) (hM : Rd w 44 A2 n2 (nds more)) :
    Calls Try.prog 6 #[.agg t.cs, .int .u16 x, .slice A2 n2 c2] w fun e w' => e = .returned (.bool true) ∧ Ext w w' := by
  have cm := fun w h => hide (small05_any t ns av w h hm ha)
  obtain ⟨q, hq⟩ : ∃ q, (!vastV ns t.al && decide (t.nl ≤ 700)) = q := ⟨_, rfl⟩
  rw [hq] at cm
  have cW := fun w => hide (works05_any w)
  have hml := hM.nlen
  go_enter Try.func6, Try.ntmps6
  go_wp2_with fail
  refine (unhide (cm _ (h.ext ((Ext.refl _).alloc _)))).mono ?_
  rintro e w1 ⟨rfl, hx2⟩
  have BT : Blk w1 w.heap.size 25 t.cs := (Blk.new _ _ _).ext hx2
  have E1 : Ext w w1 := ((Ext.refl _).alloc _).trans hx2
  clear hx2 cm
  have c1 := BT.cell
  have l1 := BT.lt
  cases q
  · go_wp2_with fail
    refine (unhide (cW _)).mono ?_
    rintro e w9 ⟨rfl, hx⟩
    go_wp2_with fail
    go_ret
    exact ⟨rfl, E1.trans hx⟩
  by_cases h100 : 100 < n2
  · have hI : (100 : Int) < (n2 : Int) := by omega
    go_wp2_with fail
    refine (unhide (cW _)).mono ?_
    rintro e w9 ⟨rfl, hx⟩
    go_wp2_with fail
    go_ret
    exact ⟨rfl, E1.trans hx⟩
  have hI : ¬ (100 : Int) < (n2 : Int) := by omega
  rw [Bool.and_eq_true] at hq
  have h700 : t.nl ≤ 700 := by simpa using hq.2
  have hl := h.nodes.nlen
  have ha' : t.al ≤ maxLen := by unfold maxLen; omega
  have cc := fun t ns w h hm ha => hide (check_any t ns av w h hm ha)
  have hN := h.nodes
  have hA := h.advs
  obtain ⟨na, nl, nc, aa, al, ac, view⟩ := t
  simp only at hm ha hl h700 hN hA BT hcp ha'
  have HL := hide hl
  have c1' := cc ⟨na, nl, nc, aa, al, ac, view⟩ ns _ (h.ext E1) (by simp only; omega) ha'
  clear hq hm ha h
  go_wp2_with fail
  refine (unhide c1').mono ?_
  rintro e w2 ⟨rfl, hx2⟩
  simp only []
  replace E1 := E1.trans hx2
  replace BT := BT.ext hx2
  clear hx2 c1 l1 c1'
  generalize hg : w.heap.size = g at *
  have HG := hide hg
  clear hg
  obtain ⟨CV, hCV⟩ : ∃ CV, checkV ns av view = CV := ⟨_, rfl⟩
  rw [hCV]
  obtain ⟨C1, C2⟩ := CV
  have c1 := BT.cell
  have l1 := BT.lt
  simp only
  by_cases hC : C2 = 0
  · have hCb : (C2 == 0) = true := by simpa using hC
    have hz := whole_zero (ns := ns) (av := av) (view := view) (.inl (by rw [hCV]; exact hC))
    have hpos : 0 < nl := by have := hz.2.2; omega
    obtain ⟨b, off, hna, -, -⟩ := hN.at_ hpos
    subst hna
    obtain ⟨k0, hk0⟩ : ∃ k0 : Nat, x.tmod (nl : Int) = k0 := ⟨(x.tmod (nl : Int)).toNat, by
      rw [Int.tmod_eq_emod_of_nonneg hx.1]; have := Int.emod_nonneg x (b := (nl : Int)) (by omega); omega⟩
    have hk1 : k0 < nl := by
      have := Int.emod_lt_of_pos x (b := (nl : Int)) (by omega)
      rw [Int.tmod_eq_emod_of_nonneg hx.1] at hk0
      omega
    obtain ⟨k, hk⟩ : ∃ k, k0 + 1 = k := ⟨_, rfl⟩
    have hkI : 1 + (k0 : Int) = (k : Int) := by omega
    have hk2 : k ≤ nl := by omega
    have hkn : (0 : Int) ≤ (k : Int) ∧ (k : Int) ≤ (nc : Int) := by omega
    have hkn2 : ¬ (nc : Int) < (k : Int) := by omega
    have hNk : Rd w 44 (some ⟨b, off, none⟩) k (nds (ns.take k)) := by rw [← nds_upto ns k (by omega)]; exact rd_take hN hk2
    have hCH := check_head (ns := ns) (av := av) (view := view) (by rw [hCV]; exact hC) (by omega : 0 < k) (by omega) (by omega)
    have nlz : (((nl : Nat) : Int) == 0) = false := by simp; omega
    have nlz2 : ¬ ((nl : Nat) : Int) = 0 := by omega
    have hxl : 0 ≤ x := hx.1
    have hxh : x ≤ 65535 := hx.2
    have HCH := hide hCH
    have HC := hide hC
    clear hz hCH hCV hC hk hk1 hpos hx
    go_upto_region 6 with fail
    have BP : Blk (w2.alloc (.cells (Tr.cs ⟨some ⟨b, off, none⟩, nl, nc, aa, al, ac, view⟩) 25)) w2.heap.size 25 (Tr.cs ⟨some ⟨b, off, none⟩, nl, nc, aa, al, ac, view⟩) := Blk.new _ _ _
    replace BT := BT.alloc (.cells (Tr.cs ⟨some ⟨b, off, none⟩, nl, nc, aa, al, ac, view⟩) 25)
    replace E1 := E1.alloc (.cells (Tr.cs ⟨some ⟨b, off, none⟩, nl, nc, aa, al, ac, view⟩) 25)
    have hgp : w.heap.size ≤ w2.heap.size ∧ g ≠ w2.heap.size := by
      have h1 := E1.size
      have h2 : (w2.alloc (.cells (Tr.cs ⟨some ⟨b, off, none⟩, nl, nc, aa, al, ac, view⟩) 25)).heap.size = w2.heap.size + 1 := by simp
      have h3 := unhide HG
      exact ⟨by omega, by omega⟩
    clear c1 l1
    generalize w2.alloc (.cells (Tr.cs ⟨some ⟨b, off, none⟩, nl, nc, aa, al, ac, view⟩) 25) = w3 at *
    generalize w2.heap.size = gp at *
    clear w2
    have cg := BT.cell 0
    have cp := BP.cell 0
    have fp := BP.frozen 0
    have lp := BP.lt
    refine wp_region_linT (by kernel_rfl) (fun w' => (True)) (fun ii vv ww => match ii with | 0 => vv = .pointer (some ⟨g, 0, none⟩) | 1 => vv = .slice (some ⟨b, off, none⟩) nl nc | 2 => vv = .int .u16 x | 3 => vv = .int .i64 x | 4 => vv = .pointer (some ⟨g, 0, none⟩) | 5 => vv = .slice (some ⟨b, off, none⟩) nl nc | 6 => vv = .int .i64 (nl : Int) | 7 => vv = .int .i64 (k0 : Int) | 8 => vv = .int .i64 (k : Int) | 9 => vv = .slice (some ⟨b, off, none⟩) k nc | 10 => vv = .pointer (some ⟨gp, 0, none⟩) | _ => True) (fun ii => match ii with | 1 => [(0, 32)] | 3 => [(2, 34)] | 5 => [(4, 36)] | 6 => [(5, 37)] | 7 => [(3, 35), (6, 38)] | 8 => [(7, 39)] | 9 => [(1, 33), (8, 40)] | 11 => [(10, 42), (9, 41)] | _ => []) (fun ii => match ii with | 0 => [3] | 2 => [1] | 4 => [3] | 10 => [9] | _ => []) (fun ii => match ii with | 0 => [2, 4, 5, 3, 6, 7, 8] | 1 => [2, 4, 5, 3, 6, 7, 8] | 2 => [0, 4, 5, 6, 1] | 3 => [0, 4, 5, 6, 1] | 4 => [0, 2, 3, 1] | 5 => [0, 2, 3, 1] | 6 => [0, 2, 3, 1] | 7 => [0, 1] | 8 => [0, 1] | 10 => [9] | _ => []) [] [0, 1, 0, 4, 0, 16, 48, 124, 252, 511, 1023, 2047] (fun w0q => w0q = w3.drew) [11] (fun FT wT => wT = w3.drew.setCell ⟨gp, 0, none⟩ (.slice (some ⟨b, off, none⟩) k nc)) 11 88 rfl (by kernel_rfl) (by kernel_rfl) (.inl (by kernel_rfl)) (trivial) (rfl) ?_ ?_
    · rename_i hcont; clear hcont
      refine ⟨?_, ?_, ?_, ?_, ?_, ?_, ?_, ?_, ?_, ?_, ?_, ?_, trivial⟩
      · refine stepT_plain rfl ?_
        rintro F a w1 jE - ⟨t3, -⟩ iO K hK
        have t3 : a.tmps[3]? = some (.pointer (some ⟨g, 0, none⟩)) := t3
        go_simp
        exact hK _ _ jE rfl (fun _ _ _ h => h) (fun _ => by first | exact iO | rfl) (fun he => absurd he (by decide))
      · refine stepT_plain rfl ?_
        rintro F a w1 jE ⟨h0, t32, -⟩ - iO K hK
        have h0 : (F 0) = .pointer (some ⟨g, 0, none⟩) := h0
        rw [h0] at t32
        clear h0
        have c : w1.cell? ⟨g, 0, none⟩ = some (.slice (some ⟨b, off, none⟩) nl nc) := by rw [iO]; exact cg
        go_simp
        exact hK _ _ jE rfl (fun _ _ _ h => h) (fun _ => by first | exact iO | rfl) (fun he => absurd he (by decide))
      · refine stepT_plain rfl ?_
        rintro F a w1 jE - ⟨t1, -⟩ iO K hK
        have t1 : a.tmps[1]? = some (.int .u16 x) := t1
        go_simp
        exact hK _ _ jE rfl (fun _ _ _ h => h) (fun _ => by first | exact iO | rfl) (fun he => absurd he (by decide))
      · refine stepT_plain rfl ?_
        rintro F a w1 jE ⟨h2, t34, -⟩ - iO K hK
        have h2 : (F 2) = .int .u16 x := h2
        rw [h2] at t34
        clear h2
        have e1 : IntKind.i64.wrap x = x := IntWalk.i64_in _ (by omega)
        go_simp
        exact hK _ _ jE rfl (fun _ _ _ h => h) (fun _ => by first | exact iO | rfl) (fun he => absurd he (by decide))
      · refine stepT_plain rfl ?_
        rintro F a w1 jE - ⟨t3, -⟩ iO K hK
        have t3 : a.tmps[3]? = some (.pointer (some ⟨g, 0, none⟩)) := t3
        go_simp
        exact hK _ _ jE rfl (fun _ _ _ h => h) (fun _ => by first | exact iO | rfl) (fun he => absurd he (by decide))
      · refine stepT_plain rfl ?_
        rintro F a w1 jE ⟨h4, t36, -⟩ - iO K hK
        have h4 : (F 4) = .pointer (some ⟨g, 0, none⟩) := h4
        rw [h4] at t36
        clear h4
        have c : w1.cell? ⟨g, 0, none⟩ = some (.slice (some ⟨b, off, none⟩) nl nc) := by rw [iO]; exact cg
        go_simp
        exact hK _ _ jE rfl (fun _ _ _ h => h) (fun _ => by first | exact iO | rfl) (fun he => absurd he (by decide))
      · refine stepT_plain rfl ?_
        rintro F a w1 jE ⟨h5, t37, -⟩ - iO K hK
        have h5 : (F 5) = .slice (some ⟨b, off, none⟩) nl nc := h5
        rw [h5] at t37
        clear h5
        go_simp
        exact hK _ _ jE rfl (fun _ _ _ h => h) (fun _ => by first | exact iO | rfl) (fun he => absurd he (by decide))
      · refine stepT_plain rfl ?_
        rintro F a w1 jE ⟨h3, t35, h6, t38, -⟩ - iO K hK
        have h3 : (F 3) = .int .i64 x := h3
        rw [h3] at t35
        clear h3
        have h6 : (F 6) = .int .i64 (nl : Int) := h6
        rw [h6] at t38
        clear h6
        have e1 : ¬ nl = 0 := by omega
        go_simp
        exact hK _ _ jE rfl (fun _ _ _ h => h) (fun _ => by first | exact iO | rfl) (fun he => absurd he (by decide))
      · refine stepT_plain rfl ?_
        rintro F a w1 jE ⟨h7, t39, -⟩ - iO K hK
        have h7 : (F 7) = .int .i64 (k0 : Int) := h7
        rw [h7] at t39
        clear h7
        have e1 : IntKind.i64.wrap (k : Int) = (k : Int) := IntWalk.i64_in _ (by omega)
        go_simp
        exact hK _ _ jE rfl (fun _ _ _ h => h) (fun _ => by first | exact iO | rfl) (fun he => absurd he (by decide))
      · refine stepT_plain rfl ?_
        rintro F a w1 jE ⟨h1, t33, h8, t40, -⟩ - iO K hK
        have h1 : (F 1) = .slice (some ⟨b, off, none⟩) nl nc := h1
        rw [h1] at t33
        clear h1
        have h8 : (F 8) = .int .i64 (k : Int) := h8
        rw [h8] at t40
        clear h8
        go_simp
        exact hK _ _ jE rfl (fun _ _ _ h => h) (fun _ => by first | exact iO | rfl) (fun he => absurd he (by decide))
      · refine stepT_plain rfl ?_
        rintro F a w1 jE - ⟨t9, -⟩ iO K hK
        have t9 : a.tmps[9]? = some (.pointer (some ⟨gp, 0, none⟩)) := t9
        go_simp
        exact hK _ _ jE rfl (fun _ _ _ h => h) (fun _ => by first | exact iO | rfl) (fun he => absurd he (by decide))
      · refine stepT_plain rfl ?_
        rintro F a w1 jE ⟨h10, t42, h9, t41, -⟩ - iO K hK
        have h10 : (F 10) = .pointer (some ⟨gp, 0, none⟩) := h10
        rw [h10] at t42
        clear h10
        have h9 : (F 9) = .slice (some ⟨b, off, none⟩) k nc := h9
        rw [h9] at t41
        clear h9
        subst iO
        have c : w3.drew.cell? ⟨gp, 0, none⟩ = some (.slice (some ⟨b, off, none⟩) nl nc) := cp
        have f : w3.drew.frozen? ⟨gp, 0, none⟩ = false := fp
        go_simp
        exact hK undef _ trivial trivial (fun _ hj _ _ => (List.not_mem_nil hj).elim) (fun h => (h (by simp)).elim) (fun _ => rfl)
    · rintro F w9 jE - hT
      have hT := hT (by decide)
      subst hT
      simp only [putL, Act.put, Nat.reduceAdd, Nat.zero_add, List.setIfInBounds_toArray, List.set_cons_succ, List.set_cons_zero]
      have BP2 : Blk (w3.drew.setCell ⟨gp, 0, none⟩ (.slice (some ⟨b, off, none⟩) k nc)) gp 25 (Tr.cs ⟨some ⟨b, off, none⟩, k, nc, aa, al, ac, view⟩) := by have := (BP.drew).set_ 0 (.slice (some ⟨b, off, none⟩) k nc); simpa using this
      have E2 := (E1.drew).set (p := ⟨gp, 0, none⟩) hgp.1 (.slice (some ⟨b, off, none⟩) k nc)
      generalize w3.drew.setCell _ _ = w4 at *
      clear cg cp fp lp E1 BT BP jE hgp hkI hkn hkn2 nlz nlz2 hxl hxh
      have c2' := BP2.cell
      have l2 := BP2.lt
      have E1 := E2
      have cc2 := cc ⟨some ⟨b, off, none⟩, k, nc, aa, al, ac, view⟩ (ns.take k) _ ⟨hNk.ext E2, hA.ext E2⟩ (by simp only; omega) ha'
      go_wp2_with fail
      refine (unhide cc2).mono ?_
      rintro e w5 ⟨rfl, hx2⟩
      replace E1 := E1.trans hx2
      clear hx2 cc2
      simp only []
      rw [unhide HCH]
      simp only []
      go_wp2_with fail
      refine (unhide (cW _)).mono ?_
      rintro e w9 ⟨rfl, hx⟩
      go_wp2_with fail
      go_ret
      exact ⟨rfl, E1.trans hx⟩
  have hCb : (C2 == 0) = false := by simpa using hC
  by_cases hD : C1 = 0
  · have hDb : (C1 == 0) = true := by simpa using hD
    clear hD hCV
    go_wp2_with fail
    refine (unhide (cW _)).mono ?_
    rintro e w9 ⟨rfl, hx⟩
    go_wp2_with fail
    go_ret
    exact ⟨rfl, E1.trans hx⟩
  have hDb : (C1 == 0) = false := by simpa using hD
  have hz := whole_zero (ns := ns) (av := av) (view := view) (.inr (by rw [hCV]; exact hD))
  have hpos : 0 < nl := by have := hz.2.2; omega
  obtain ⟨b, off, hna, -, -⟩ := hN.at_ hpos
  subst hna
  obtain ⟨qi, _, hq2, hq3, hq4, _⟩ := bad_at _ 0 rfl (show (badV ns 0).2 ≠ 0 by rw [← hz.2.1, hCV]; exact hC)
  have hC1 : C1 = (qi : Int) := by
    have := hz.2.1
    rw [hCV, hq3] at this
    exact congrArg Prod.fst this
  subst hC1
  have hct := check_tail (ns := ns) (av := av) (view := view) (i := qi) (by rw [hCV]) (by rw [hCV]; exact hC) (by omega) more (by omega)
  rw [hCV] at hct
  obtain ⟨hi, hct⟩ := hct
  have hin : ¬ ((nl : Nat) : Int) ≤ (qi : Int) := by omega
  obtain ⟨m1, hm1⟩ : ∃ m1, qi + 1 = m1 := ⟨_, rfl⟩
  have hq1 : m1 ≤ nl := by omega
  have hiN : (qi : Int) + 1 = (m1 : Int) := by omega
  have hiI : (0 : Int) ≤ (m1 : Int) ∧ (m1 : Int) ≤ (nc : Int) := by omega
  have hiI2 : ¬ (nc : Int) < (m1 : Int) := by omega
  rw [hm1] at hct
  have hNk : Rd w 44 (some ⟨b, off, none⟩) m1 (nds (ns.take m1)) := by rw [← nds_upto ns m1 (by omega)]; exact rd_take hN hq1
  clear hm1
  have HCT := hide hct
  have HD := hide hD
  have HCC := hide hC
  have hn2 : n2 ≤ 100 := by omega
  clear hz hpos hCV hC hD hct hq2 hq3 hq4 hi
  obtain ⟨i0, hi0, hz0, hz1, hz2⟩ := node_all
  have HI := hide (And.intro hi0 (And.intro hz0 (And.intro hz1 hz2)))
  clear hi0 hz0 hz1 hz2
  go_upto_region 14 with fail
  have BP : Blk (w2.alloc (.cells (Tr.cs ⟨some ⟨b, off, none⟩, nl, nc, aa, al, ac, view⟩) 25)) w2.heap.size 25 (Tr.cs ⟨some ⟨b, off, none⟩, nl, nc, aa, al, ac, view⟩) := Blk.new _ _ _
  replace BT := BT.alloc (.cells (Tr.cs ⟨some ⟨b, off, none⟩, nl, nc, aa, al, ac, view⟩) 25)
  replace E1 := E1.alloc (.cells (Tr.cs ⟨some ⟨b, off, none⟩, nl, nc, aa, al, ac, view⟩) 25)
  have h2 : (w2.alloc (.cells (Tr.cs ⟨some ⟨b, off, none⟩, nl, nc, aa, al, ac, view⟩) 25)).heap.size = w2.heap.size + 1 := by simp
  have hgp : w.heap.size ≤ w2.heap.size ∧ g ≠ w2.heap.size := by
    have h3 := unhide HG
    exact ⟨by omega, by omega⟩
  clear c1 l1
  generalize w2.alloc (.cells (Tr.cs ⟨some ⟨b, off, none⟩, nl, nc, aa, al, ac, view⟩) 25) = w3 at *
  generalize w2.heap.size = gp at *
  clear w2
  have O0 := World.ownsRow_lit (base := w3.heap.size) (e := 47) (size := 44) w3 #[] 0 (by omega) (by simp [maxLen]) rfl
  rw [h2] at O0
  have c1 := BT.cell
  have l1 := BT.lt
  have c0' : (w3.alloc (.cells #[] 47)).cell? ⟨g, 0, none⟩ = some (.slice (some ⟨b, off, none⟩) nl nc) := ((BT.alloc (.cells #[] 47)).cell 0).trans rfl
  go_upto_region 15 with (first
    | (at_builtin
       refine wpList_append_rd rfl (.tmp 62) (.tmp 67) _ rfl (gp + 1) 47 i0 _ 44 328 Try.underlying22 (unhide HI).1 (unhide HI).2.1 (unhide HI).2.2.1 (unhide HI).2.2.2 rfl (by omega) _ 0 [] rfl O0 _ m1 nc (nds (ns.take m1)) rfl ((hNk.ext E1).alloc _) (nodes_one _) (by simp only [maxLen]; omega) (by omega) (by simp; omega) ?_
       intro A4 c4 w4 own4 g4 at4
       simp only [Nat.zero_add, List.nil_append] at own4 ⊢
       have r4 : ∀ q, Value.ownBlock (.slice (some ⟨gp + 1, 0, none⟩) 0 0) = some q → gp + 1 ≤ q := fun q e => (O0.lt q e).1
       have E4 : Ext w w4 := Ext.grown (E1.alloc _) g4 (fun j e => by have := r4 j e; have := E1.size; omega)
       have BP4 := (BP.alloc (.cells #[] 47)).grown g4 (fun e => by have := r4 _ e; omega)
       have s4 := g4.size
       rw [World.size_alloc] at s4)
    | (at_builtin
       refine wpList_append_rd rfl (.tmp 68) (.tmp 69) _ rfl (gp + 1) 47 i0 _ 44 328 Try.underlying22 (unhide HI).1 (unhide HI).2.1 (unhide HI).2.2.1 (unhide HI).2.2.2 rfl (by omega) _ m1 (nds (ns.take m1)) rfl own4 _ n2 c2 (nds more) rfl (hM.ext E4) (nodes_one _) (by simp only [maxLen]; omega) (by omega) (by omega) ?_
       intro A6 c6 w6 own6 g6 at6
       have E6 : Ext w w6 := Ext.grown E4 g6 (fun j e => by have := (own4.lt j e).1; have := E1.size; omega)
       have BP6 := BP4.grown g6 (fun e => by have := (own4.lt _ e).1; omega)
       have d6 := BP6.cell
       have f6 := BP6.frozen
       have l6 := BP6.lt))
  have O7 := own_set (g := gp) (i := 0) own6 (by omega) (.slice A6 (m1 + n2) c6)
  have B7 : Blk (w6.setCell ⟨gp, 0, none⟩ (.slice A6 (m1 + n2) c6)) gp 25 (Tr.cs ⟨A6, m1 + n2, c6, aa, al, ac, view⟩) := by have := BP6.set_ 0 (.slice A6 (m1 + n2) c6); simpa using this
  have E7 := E6.set (p := ⟨gp, 0, none⟩) hgp.1 (.slice A6 (m1 + n2) c6)
  rw [← nds_append] at O7
  generalize w6.setCell _ _ = w7 at *
  clear O0 own4 own6 g4 g6 at4 at6 BP4 BP6 BP BT d6 f6 l6 c1 l1 E4 E6 r4 s4
  have c1 := B7.cell
  have l1 := B7.lt
  have cc2 := cc ⟨A6, m1 + n2, c6, aa, al, ac, view⟩ (ns.take m1 ++ more) _ ⟨Rd.of_own O7, hA.ext E7⟩ (by simp only; omega) ha'
  go_wp2_with fail
  refine (unhide cc2).mono ?_
  rintro e w8 ⟨rfl, hx2⟩
  replace E1 := E7.trans hx2
  clear hx2 cc2 E7 c1 l1
  simp only []
  rw [unhide HCT]
  simp only []
  have r1 : (((qi : Nat) : Int) == ((qi : Nat) : Int)) = true := by simp
  have r2 : (C2 == C2) = true := by simp
  go_wp2_with fail
  refine (unhide (cW _)).mono ?_
  rintro e w9 ⟨rfl, hx⟩
  go_wp2_with fail
  go_ret
  exact ⟨rfl, E1.trans hx⟩
end
end Go.Proofs.Ytnolbmfjgfojhaa
