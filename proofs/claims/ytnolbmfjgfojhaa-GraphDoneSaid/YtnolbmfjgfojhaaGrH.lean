/- Graphs: the document's islands (walk). -/
import Derived.Test.YtnolbmfjgfojhaaGrG
namespace Go.Proofs.Ytnolbmfjgfojhaa
open Go.RowKit
/-- a graph and the roots that are handed back -/
def IsOut (w : World) (m : Nat) (E : List (Int × Int)) (rs : List Int) (e : Ending) (w' : World) : Prop := ∃ A A' Ar c, e = .returned (.tuple #[.agg #[.slice A m m, .slice A' m m], .slice Ar m c]) ∧ Rd w' 1 A m (ints (wL E m)) ∧ RdR w' w.heap.size A' m (nE E) ∧ Rd w' 1 Ar m (ints rs) ∧ Ext w w'
def riS (ns : List Nd) (m i k q : Nat) : List Int := if q < i then riK ns m q else if q = i then riK ns k i else []
theorem riS_0 (ns : List Nd) (m q : Nat) : riS ns m 0 1 q = [] := by
  unfold riS
  rw [if_neg (by omega)]
  split
  · rw [riK_start]
  · rfl
theorem riS_next (ns : List Nd) (m i q : Nat) : riS ns m (i + 1) (i + 1 + 1) q = riS ns m i m q := by
  unfold riS
  by_cases h1 : q < i
  · rw [if_pos h1, if_pos (by omega)]
  · rw [if_neg h1]
    by_cases h2 : q = i
    · subst h2
      rw [if_pos (by omega), if_pos rfl]
    · rw [if_neg (by omega), if_neg h2]
      split
      · rw [riK_start]
      · rfl
theorem riS_yes (ns : List Nd) {m i k : Nat} (hi : i < k) (ho : overI ns (rtN ns k) = rtN ns i) (q : Nat) : riS ns m i (k + 1) q = if q = i then riS ns m i k i ++ [(k : Int)] else riS ns m i k q := by
  unfold riS
  by_cases h2 : q = i
  · subst h2
    rw [if_neg (by omega), if_pos rfl, if_pos rfl, if_neg (by omega), if_pos rfl, riK_succ, if_pos ⟨hi, ho⟩]
  · rw [if_neg h2, if_neg h2, if_neg h2]
theorem riS_not (ns : List Nd) {m i k : Nat} (ho : ¬ overI ns (rtN ns k) = rtN ns i) (q : Nat) : riS ns m i (k + 1) q = riS ns m i k q := by
  unfold riS
  by_cases h2 : q = i
  · subst h2
    rw [if_neg (by omega), if_pos rfl, if_neg (by omega), if_pos rfl, riK_succ, if_neg (fun h => ho h.2)]
  · rw [if_neg h2, if_neg h2]
theorem riS_len (ns : List Nd) (m i k q : Nat) : (riS ns m i k q).length ≤ m + k := by
  unfold riS
  have h1 := riK_len ns m q
  have h2 := riK_len ns k i
  split
  · omega
  · split
    · omega
    · simp
theorem rtN_in {w : World} {b off m : Nat} {ns : List Nd} (h : Rd w 1 (some ⟨b, off, none⟩) m (ints (rootsN ns ns.length))) (hm : (rootsN ns ns.length).length = m) {k : Nat} (hk : k < m) : b < w.heap.size ∧ w.cell? ⟨b, off + k, none⟩ = some (.int .i64 (rtN ns k)) := by
  obtain ⟨b', off', e, h1, h2⟩ := h.intIn (rt_get (ns := ns) (k := k) (by omega))
  injection e with e
  injection e with e1 e2
  subst e1 e2
  exact ⟨h1, h2⟩
theorem roots_pos {ns : List Nd} (hT : TOk ns) : 0 < (rootsN ns ns.length).length := (List.getElem?_eq_some_iff.1 (roots_at ns hT.root0 hT.pos)).1
set_option maxRecDepth 100000 in
set_option maxHeartbeats 8000000 in
theorem refisles_graph (t : Tr) (ns : List Nd) (hT : TOk ns) (hm : t.nl ≤ 900) (w : World) (h : Rd w 44 t.na t.nl (nds ns)) :
    Calls Try.prog 44 #[.agg t.cs] w (IsOut w (rootsN ns ns.length).length (ofE (riK ns (rootsN ns ns.length).length) (rootsN ns ns.length).length) (rootsN ns ns.length)) := by
  have hnl := h.nlen
  have cr := fun w1 (hx : Ext w w1) => hide (refroots_new t ns w1 (h.ext hx) (by omega))
  have cv := fun z w1 (hx : Ext w w1) => hide (refover_any t ns hT z w1 (h.ext hx) (by unfold maxLen; omega))
  obtain ⟨m, hm0⟩ : ∃ m, (rootsN ns ns.length).length = m := ⟨_, rfl⟩
  have hm1 : m ≤ 900 := by have := rootsN_len ns ns.length; omega
  have hm2 : 0 < m := by have := roots_pos hT; omega
  rw [hm0]
  have hmk := make_rows m (by omega)
  have co := fun bk ok w1 h1 => hide (of_rows (riK ns m) m bk ok m 0 hm1 (fun j => riK_len ns m j) w1 h1)
  obtain ⟨i0, hi0, hz0, hz1, hz2⟩ := info_parts int_info
  have HI := hide (And.intro hi0 (And.intro hz0 (And.intro hz1 hz2)))
  have HM := hide hm0
  clear hi0 hz0 hz1 hz2 hnl hm0
  go_enter Try.func44, Try.ntmps44
  go_upto_region 1 with fail
  have BT : Blk ((w.alloc (.cells t.cs 25)).alloc (.cells #[.slice none 0 0, .slice none 0 0] 55)) w.heap.size 25 t.cs := (Blk.new _ _ _).alloc _
  have B0 : Blk ((w.alloc (.cells t.cs 25)).alloc (.cells #[.slice none 0 0, .slice none 0 0] 55)) (w.heap.size + 1) 55 #[.slice none 0 0, .slice none 0 0] := by
    have h := Blk.new (w.alloc (.cells t.cs 25)) 55 #[.slice none 0 0, .slice none 0 0]
    rw [World.size_alloc] at h
    exact h
  have E0 : Ext w ((w.alloc (.cells t.cs 25)).alloc (.cells #[.slice none 0 0, .slice none 0 0] 55)) := ((Ext.refl _).alloc _).alloc _
  have hs0 : ((w.alloc (.cells t.cs 25)).alloc (.cells #[.slice none 0 0, .slice none 0 0] 55)).heap.size = w.heap.size + 1 + 1 := by simp
  generalize (w.alloc (.cells t.cs 25)).alloc (.cells #[.slice none 0 0, .slice none 0 0] 55) = w1 at *
  generalize hg : w.heap.size = g at *
  have HS := hide hs0
  have HG := hide hg
  clear hs0 hg
  have c1 := BT.cell
  have l1 := BT.lt
  go_wp2_with fail
  refine (unhide (cr _ E0)).mono ?_
  rintro e w2 ⟨Ar, ca, rfl, RR, hx, hfr⟩
  rw [unhide HM] at RR ⊢
  obtain ⟨bR, oR, hAr, hbR, -⟩ := RR.at_ hm2
  subst hAr
  have HFR := hide (hfr _ _ rfl)
  clear hfr
  replace BT := BT.ext hx
  replace B0 := B0.ext hx
  replace E0 := E0.trans hx
  have HS2 := hide hx.size
  clear c1 l1 hx cr
  have c1 := BT.cell
  have l1 := BT.lt
  go_wp2_with fail
  have R0 := Rws.start w2 w2.heap.size m (Nat.le_refl _)
  have E1 : Ext w2 (w2.alloc (.cells (Array.replicate m (.slice none 0 0)) 36)) := (Ext.refl _).alloc _
  generalize w2.alloc (.cells (Array.replicate m (.slice none 0 0)) 36) = w3 at *
  generalize hgr : w2.heap.size = gr at *
  have HGR := hide hgr
  clear hmk c1 l1 hgr
  go_loopw [6] (fun v wr => ∃ (i : Nat) (vs : List Value), v = .int .i64 i ∧ i ≤ m ∧ Rws wr gr gr m (riS ns m i (i + 1)) vs ∧ Ext w2 wr) (fun v _ => m - (intOf v).toNat)
  case atStart => exact ⟨0, _, rfl, by omega, R0.congr (fun q _ => riS_0 ns m q), E1⟩
  case round =>
    clear R0 E1 w3
    obtain ⟨i, vs, rfl, q1, R1, E1⟩ := hrel
    by_cases hi : i < m
    · go_wp2_with fail
      go_loopw [7] (fun v wr => ∃ (k : Nat) (vs : List Value), v = .int .i64 k ∧ i < k ∧ k ≤ m ∧ Rws wr gr gr m (riS ns m i k) vs ∧ Ext w2 wr) (fun v _ => m - (intOf v).toNat)
      case atStart => exact ⟨i + 1, vs, by go_num, by omega, by omega, R1, E1⟩
      case round =>
        clear R1 E1
        obtain ⟨k, vs2, rfl, q2, q3, R2, E2⟩ := hrel
        by_cases hk : k < m
        · have hkI : (0 : Int) ≤ (k : Int) ∧ (k : Int) < (m : Int) := by omega
          have hiI : (0 : Int) ≤ (i : Int) ∧ (i : Int) < (m : Int) := by omega
          obtain ⟨hb1, hc1⟩ := rtN_in (RR.ext E2) (unhide HM) hk
          obtain ⟨-, hc2⟩ := rtN_in (RR.ext E2) (unhide HM) hi
          have HY := fun ho q => riS_yes ns (m := m) q2 (k := k) ho q
          have HN := fun ho q => riS_not ns (m := m) (i := i) (k := k) ho q
          generalize rtN ns k = zk at *
          generalize rtN ns i = zi at *
          have cw := fun w1 hx => cv zk w1 hx
          generalize overI ns zk = ov at *
          have BW := BT.ext E2
          have EW := E0.trans E2
          go_upto_region 9 with fail
          refine wp_region_lin (by kernel_rfl) (fun w' => (ExtX wr w' [])) (fun ii vv ww => match ii with | 0 => vv = (.agg t.cs) | 1 => vv = .slice (some ⟨bR, oR, none⟩) m ca | 2 => vv = .int .i64 (k : Int) | 3 => vv = .pointer (some ⟨bR, oR + k, none⟩) | 4 => vv = .int .i64 zk | 5 => vv = .int .i64 ov | 6 => vv = .slice (some ⟨bR, oR, none⟩) m ca | 7 => vv = .int .i64 (i : Int) | 8 => vv = .pointer (some ⟨bR, oR + i, none⟩) | 9 => vv = .int .i64 zi | 10 => vv = .bool (ov == zi) | _ => True) (fun ii => match ii with | 3 => [(1, 28), (2, 29)] | 4 => [(3, 30)] | 5 => [(0, 27), (4, 31)] | 8 => [(6, 33), (7, 34)] | 9 => [(8, 35)] | 10 => [(5, 32), (9, 36)] | _ => []) (fun ii => match ii with | 0 => [1] | 1 => [4] | 2 => [7] | 6 => [4] | 7 => [6] | _ => []) (fun ii => match ii with | 0 => [1, 2, 3, 4, 6, 7, 8, 9] | 1 => [2, 0, 6, 7, 8, 9] | 2 => [1, 0, 6, 7, 8, 9] | 3 => [0, 6, 7, 8, 9] | 4 => [0, 6, 7, 8, 9] | 5 => [6, 7, 8, 9] | 6 => [1, 2, 3, 0, 4, 7, 5] | 7 => [1, 2, 3, 0, 4, 6, 5] | 8 => [1, 2, 3, 0, 4, 5] | 9 => [1, 2, 3, 0, 4, 5] | _ => []) [10] [0, 0, 0, 6, 14, 31, 0, 0, 192, 448, 1023] 51 rfl (by kernel_rfl) (ExtX.start _ _) ?_ ?_
          · rename_i hcont; clear hcont
            refine ⟨?_, ?_, ?_, ?_, ?_, ?_, ?_, ?_, ?_, ?_, ?_, trivial⟩
            · refine stepL_plain rfl ?_
              rintro F a w1 jE - ⟨t1, -⟩ K hK
              have t1 : a.tmps[1]? = some (.pointer (some ⟨g, 0, none⟩)) := t1
              refine wp_load_blk 25 _ rfl g (eval_tmp t1) 25 t.cs _ (jE.blk BW (by simp)) Try.underlying25 rfl (info_tree _) ?_
              exact hK _ _ jE rfl (fun _ _ _ h => h)
            · refine stepL_plain rfl ?_
              rintro F a w1 jE - ⟨t4, -⟩ K hK
              have t4 : a.tmps[4]? = some (.slice (some ⟨bR, oR, none⟩) m ca) := t4
              go_simp
              exact hK _ _ jE rfl (fun _ _ _ h => h)
            · refine stepL_plain rfl ?_
              rintro F a w1 jE - ⟨t7, -⟩ K hK
              have t7 : a.tmps[7]? = some (.int .i64 (k : Int)) := t7
              go_simp
              exact hK _ _ jE rfl (fun _ _ _ h => h)
            · refine stepL_plain rfl ?_
              rintro F a w1 jE ⟨h1, t28, h2, t29, -⟩ - K hK
              have h1 : (F 1) = .slice (some ⟨bR, oR, none⟩) m ca := h1
              rw [h1] at t28
              clear h1
              have h2 : (F 2) = .int .i64 (k : Int) := h2
              rw [h2] at t29
              clear h2
              go_simp
              exact hK _ _ jE rfl (fun _ _ _ h => h)
            · refine stepL_plain rfl ?_
              rintro F a w1 jE ⟨h3, t30, -⟩ - K hK
              have h3 : (F 3) = .pointer (some ⟨bR, oR + k, none⟩) := h3
              rw [h3] at t30
              clear h3
              have c := ((jE.ext (Ext.refl _) (by simp)).cells.1 bR _ hb1).trans hc1
              go_simp
              exact hK _ _ jE rfl (fun _ _ _ h => h)
            · refine stepL_plain rfl ?_
              rintro F a w1 jE ⟨h0, t27, h4, t31, -⟩ - K hK
              have h0 : (F 0) = (.agg t.cs) := h0
              rw [h0] at t27
              clear h0
              have h4 : (F 4) = .int .i64 zk := h4
              rw [h4] at t31
              clear h4
              go_simp
              with_reducible refine (unhide (cw w1 (EW.trans (jE.ext (Ext.refl _) (by simp))))).mono ?_
              rintro e w2 ⟨rfl, hx⟩
              exact hK _ _ (jE.trans hx) (rfl) (by intro jq hj uq h; have hj : jq ∈ [6, 7, 8, 9] := hj; simp only [List.mem_cons, List.not_mem_nil, or_false] at hj; rcases hj with rfl | rfl | rfl | rfl; exact h; exact h; exact h; exact h)
            · refine stepL_plain rfl ?_
              rintro F a w1 jE - ⟨t4, -⟩ K hK
              have t4 : a.tmps[4]? = some (.slice (some ⟨bR, oR, none⟩) m ca) := t4
              go_simp
              exact hK _ _ jE rfl (fun _ _ _ h => h)
            · refine stepL_plain rfl ?_
              rintro F a w1 jE - ⟨t6, -⟩ K hK
              have t6 : a.tmps[6]? = some (.int .i64 (i : Int)) := t6
              go_simp
              exact hK _ _ jE rfl (fun _ _ _ h => h)
            · refine stepL_plain rfl ?_
              rintro F a w1 jE ⟨h6, t33, h7, t34, -⟩ - K hK
              have h6 : (F 6) = .slice (some ⟨bR, oR, none⟩) m ca := h6
              rw [h6] at t33
              clear h6
              have h7 : (F 7) = .int .i64 (i : Int) := h7
              rw [h7] at t34
              clear h7
              go_simp
              exact hK _ _ jE rfl (fun _ _ _ h => h)
            · refine stepL_plain rfl ?_
              rintro F a w1 jE ⟨h8, t35, -⟩ - K hK
              have h8 : (F 8) = .pointer (some ⟨bR, oR + i, none⟩) := h8
              rw [h8] at t35
              clear h8
              have c := ((jE.ext (Ext.refl _) (by simp)).cells.1 bR _ hb1).trans hc2
              go_simp
              exact hK _ _ jE rfl (fun _ _ _ h => h)
            · refine stepL_plain rfl ?_
              rintro F a w1 jE ⟨h5, t32, h9, t36, -⟩ - K hK
              have h5 : (F 5) = .int .i64 ov := h5
              rw [h5] at t32
              clear h5
              have h9 : (F 9) = .int .i64 zi := h9
              rw [h9] at t36
              clear h9
              go_simp
              exact hK _ _ jE rfl (fun _ _ _ h => h)
          · rintro F w8 jE ⟨h10, -⟩
            have h10 : (F 10) = .bool (ov == zi) := h10
            have hx := jE.ext (Ext.refl _) (by simp)
            simp only [putL, Act.put, Nat.reduceAdd, Nat.zero_add, List.setIfInBounds_toArray, List.set_cons_succ, List.set_cons_zero]
            rw [h10]
            clear h10 jE hc1 hc2 hb1 cw BW EW
            have R3 := R2.ext hx
            have E3 := E2.trans hx
            clear R2 E2 hx
            by_cases ho : ov = zi
            · have HYS := hide (HY ho)
              have hob : (ov == zi) = true := by simpa using ho
              clear HY HN ho
              obtain ⟨v, hv, hc, hf, how⟩ := R3.get hi
              obtain ⟨A, c, rfl⟩ := kids_own how
              obtain ⟨l, hl⟩ : ∃ l, (riS ns m i k i).length = l := ⟨_, rfl⟩
              have hl2 : l ≤ 2000 := by have := riS_len ns m i k i; omega
              rw [hl] at hc how hv
              have lg := R3.blk.lt
              have HV := hide hv
              have HL := hide hl
              clear hv hl
              go_wp2_with (first
                | (at_builtin
                   refine wpList_append_rd rfl (.tmp 43) (.tmp 45) _ rfl gr 3 i0 _ 1 8 Try.underlying36 (unhide HI).1 (unhide HI).2.1 (unhide HI).2.2.1 (unhide HI).2.2.2 rfl (by omega) _ l (ints (riS ns m i k i)) rfl (how.alloc _) _ 1 1 [.int .i64 k] rfl (Rd.one _ _) (by simp [Value.oneCell']) (by simp only [maxLen]; omega) (by omega) (by simp; omega) ?_
                   intro A4 c4 w4 own4 g4 at4
                   have R4 := (R3.alloc _).step (unhide HV) g4 (by rw [List.length_append, unhide HL]; rfl) own4 at4
                   have hc4 : w4.cell? ⟨gr, i, none⟩ = some (.slice A l c) := (World.cell?_of_block (a := ⟨gr, i, none⟩) (g4.block _ (by simp; omega) (fun e => R3.off i _ (unhide HV) e.symm))).trans (((Ext.refl w8).alloc _).cells.1 _ _ lg |>.trans hc)
                   have hf4 : w4.frozen? ⟨gr, i, none⟩ = false := (World.frozen?_of_block (a := ⟨gr, i, none⟩) (g4.block _ (by simp; omega) (fun e => R3.off i _ (unhide HV) e.symm))).trans (((Ext.refl w8).alloc _).cells.2 _ _ lg |>.trans hf)))
              go_roundw
              case rel =>
                refine ⟨k + 1, _, by go_num, by omega, by omega, R4.congr (fun q _ => unhide HYS q), ((E3.alloc _).grown g4 (fun b e => ?_)).set (p := ⟨gr, i, none⟩) ?_ _⟩
                · have := (how.lt b e).1
                  have := unhide HGR
                  omega
                · rw [unhide HGR]; exact Nat.le_refl _
              case measure => simp [intOf]; omega
            · have HNS := hide (HN ho)
              have hob : (ov == zi) = false := by simpa using ho
              clear HY HN ho
              go_wp2_with fail
              go_roundw
              case rel => exact ⟨k + 1, vs2, by go_num, by omega, by omega, R3.congr (fun q _ => unhide HNS q), E3⟩
              case measure => simp [intOf]; omega
        · have hke : k = m := by omega
          have R3 : Rws wr gr gr m (riS ns m (i + 1) (i + 1 + 1)) vs2 := by rw [hke] at R2; exact R2.congr (fun q _ => riS_next ns m i q)
          have hkI : ¬ (k : Int) < (m : Int) := by omega
          clear hke R2
          go_wp2_with fail
          go_roundw
          case rel => exact ⟨i + 1, vs2, by go_num, by omega, R3, E2⟩
          case measure => simp [intOf]; omega
    · have hie : i = m := by omega
      have R2 : RdR wr gr (some ⟨gr, 0, none⟩) m (riK ns m) := by
        rw [hie] at R1
        exact (R1.congr (fun q hq => by unfold riS; rw [if_pos hq])).rdr
      clear hie R1
      have hiI : ¬ (i : Int) < (m : Int) := by omega
      replace B0 := B0.ext E1
      replace E0 := E0.trans E1
      replace RR := RR.ext E1
      have hs2 := E1.size
      have HS3 := hide hs2
      clear BT E1 hs2 cv
      go_wp2_with fail
      refine (unhide (co _ _ _ (R2.mono (Nat.zero_le _)))).mono ?_
      rintro e w9 ⟨A, A', rfl, R1, R2, hA, hx⟩
      replace RR := RR.ext hx
      have B2 := B0.ext hx
      have c2 := B2.cell
      have f2 := B2.frozen
      have l2 := B2.lt
      have E2 := E0.trans hx
      clear co B0 E0 hx
      go_wp2_with fail
      refine bodyPost_ret (results_cell_tmp Try.results44 _ _ (g + 1) 55 _ _ rfl ((B2.set_ 0 _).set_ 1 _) Try.underlying55 rfl (by kernel_rfl)) rfl ?_
      have hb1 := unhide HG
      have hb2 := unhide HS
      have hb3 := unhide HS2
      have hb4 := unhide HS3
      have hb5 := unhide HGR
      have X : ExtX w9 ((w9.setCell ⟨g + 1, 0, none⟩ (.slice A m m)).setCell ⟨g + 1, 1, none⟩ (.slice A' m m)) [g + 1] := ((ExtX.refl w9 [g + 1]).set (by simp) _).set (by simp) _
      refine ⟨A, A', some ⟨bR, oR, none⟩, ca, rfl, X.rd R1 (fun b off e hm => ?_), (R2.past X (fun q hq => ?_)).mono ?_, X.rd RR (fun b off e hm => ?_), X.ext E2 (fun q hq => ?_)⟩
      · have hm := List.mem_singleton.1 hm
        have := hA b off e
        omega
      · rw [List.mem_singleton.1 hq]; omega
      · omega
      · have hm := List.mem_singleton.1 hm
        have := unhide HFR
        injection e with e
        injection e with e
        omega
      · rw [List.mem_singleton.1 hq]; omega
end Go.Proofs.Ytnolbmfjgfojhaa
