/- Islands: who lies in an island, whole (walks). -/
import Derived.Test.YtnolbmfjgfojhaaIsG
import Derived.Laws.EntriesVeiled
namespace Go.Proofs.Ytnolbmfjgfojhaa
open Go.RowKit
theorem insN_no {ns : List Nd} {z : Int} (h : rootI ns z = false) : insN ns z = [] := by rw [insN, h]; rfl
theorem insN_step {ns : List Nd} {k : Nat} (m : Nat) (h1 : 1 ≤ m) : insR ns k 1 (m + 1) = if (decide (nK ns m ≠ 3) && (((isl ns (parN ns m).toNat : Nat) : Int) == (k : Int))) = true then insR ns k 1 m ++ [(m : Int)] else insR ns k 1 m := by
  rw [insR_succ k 1 m h1]
  by_cases hc : nK ns m ≠ 3 ∧ isl ns (parN ns m).toNat = k
  · rw [if_pos hc, if_pos (by simp [hc.1, hc.2])]
  · rw [if_neg hc, if_neg (by simp only [Bool.and_eq_true, decide_eq_true_eq, beq_iff_eq]; omega)]
theorem box_no {ns : List Nd} {z : Int} (h : boxI ns z = false) : rootI ns z = false := by
  cases hr : rootI ns z
  · rfl
  · rw [root_box hr] at h; cases h
section
variable (t : Tr) (ns : List Nd)
set_option maxRecDepth 100000 in
set_option maxHeartbeats 4000000 in
theorem inside_new (hT : TOk ns) (z : Int) (w : World) (h : Rd w 44 t.na t.nl (nds ns)) (hm : t.nl ≤ 1000000) :
    Calls Try.prog 40 #[.agg t.cs, .int .i64 z] w (IntsNew w (insN ns z)) := by
  have hm' : t.nl ≤ maxLen := by unfold maxLen; omega
  have cz := fun w h => hide (root_all t ns z w h hm')
  by_cases hr : rootI ns z = true
  rotate_left
  · rw [Bool.not_eq_true] at hr
    rw [insN_no hr]
    rw [hr] at cz
    clear hr
    go_enter Try.func40, Try.ntmps40
    go_wp2_with fail
    refine (unhide (cz _ (h.alloc _))).mono ?_
    rintro e w2 ⟨rfl, hx⟩
    go_wp2_with fail
    go_ret
    exact ⟨none, 0, rfl, Rd.nil _ _ _, ((Ext.refl _).alloc _).trans hx, fun b off e => by cases e⟩
  rw [hr] at cz
  have hz := rootI_lt hr
  obtain ⟨k, rfl⟩ : ∃ k : Nat, z = k := ⟨z.toNat, by omega⟩
  have hk : k < ns.length := by omega
  rw [rootI_nat] at hr
  have HV := hide (insN_end hT hr hk)
  have hl := h.nlen
  obtain ⟨b, off, ha, hb, _⟩ := h.at_ (by omega)
  obtain ⟨na, nl, nc, aa, al, ac, view⟩ := t
  simp only at ha hm hl h cz hm'
  subst ha
  have HA := hide (show Asks ns k k true from by
    refine ⟨?_, isl_root hr⟩
    have := root_val (List.getElem?_eq_getElem hk)
    rw [hr] at this
    rw [nK_of hk]
    intro h3
    rw [if_pos h3] at this
    cases this)
  have HT := hide hT
  have HK := hide hk
  clear hl hT hr hz hk
  go_enter Try.func40, Try.ntmps40
  go_wp2_with fail
  refine (unhide (cz _ (h.alloc _))).mono ?_
  rintro e w2 ⟨rfl, hx⟩
  have lx := hx.size
  rw [World.size_alloc] at lx
  have E2 := ((Ext.refl w).alloc (.cells (Tr.cs ⟨some ⟨b, off, none⟩, nl, nc, aa, al, ac, view⟩) 25)).trans hx
  have D : Ins w (Tr.cs ⟨some ⟨b, off, none⟩, nl, nc, aa, al, ac, view⟩) (.func (.func 65) #[] #[.pointer (some ⟨w.heap.size, 0, none⟩), .pointer (some ⟨w2.heap.size, 0, none⟩), .pointer (some ⟨w2.heap.size + 1, 0, none⟩)]) w.heap.size w2.heap.size (w2.heap.size + 1) ((w2.alloc (.cells #[.slice none 0 0] 36)).alloc (.cells #[(.func (.func 65) #[] #[.pointer (some ⟨w.heap.size, 0, none⟩), .pointer (some ⟨w2.heap.size, 0, none⟩), .pointer (some ⟨w2.heap.size + 1, 0, none⟩)])] 72)) [] :=
    ⟨(E2.alloc _).alloc _, (((Blk.new _ _ _).ext hx).alloc _).alloc _, Blk.new1 _ _ _ _, ⟨none, 0, (Blk.new _ _ _).alloc _, own_none _ _ _⟩, by omega⟩
  have C := hide (insdown_any ns b off nl nc al ac aa view w w.heap.size w2.heap.size (w2.heap.size + 1) k (unhide HT) h hm ns.length k (by omega) (unhide HK) [] true _ D (unhide HA) (Nat.le_refl _) (by simp))
  have cD : ((w2.alloc (.cells #[.slice none 0 0] 36)).alloc (.cells #[(.func (.func 65) #[] #[.pointer (some ⟨w.heap.size, 0, none⟩), .pointer (some ⟨w2.heap.size, 0, none⟩), .pointer (some ⟨w2.heap.size + 1, 0, none⟩)])] 72)).cell? ⟨w2.heap.size + 1, 0, none⟩ = some (.func (.func 65) #[] #[.pointer (some ⟨w.heap.size, 0, none⟩), .pointer (some ⟨w2.heap.size, 0, none⟩), .pointer (some ⟨w2.heap.size + 1, 0, none⟩)]) := (D.bd.cell 0).trans rfl
  clear D E2 hx cz
  go_wp2_with fail
  refine (unhide C).mono ?_
  rintro e w5 ⟨rfl, D5⟩
  rw [List.nil_append] at D5
  have E5 := D5.ext
  obtain ⟨A, c, BB, OO⟩ := D5.box
  rw [← unhide HV] at BB OO
  have c5 := BB.cell
  have l5 := BB.lt
  clear C D5 BB
  generalize endN ns k = ee at *
  go_wp2_with fail
  go_ret
  exact ⟨A, c, rfl, Rd.of_own OO, E5, fun b off e => by have := own_fresh OO b off e; omega⟩
theorem inside_any (hT : TOk ns) (z : Int) (w : World) (h : Rd w 44 t.na t.nl (nds ns)) (hm : t.nl ≤ 1000000) :
    Calls Try.prog 40 #[.agg t.cs, .int .i64 z] w (IntsOut w (insN ns z)) := (inside_new t ns hT z w h hm).mono fun _ _ h => h.out
set_option maxRecDepth 100000 in
set_option maxHeartbeats 8000000 in
theorem refinside_any (hT : TOk ns) (z : Int) (w : World) (h : Rd w 44 t.na t.nl (nds ns)) (hm : t.nl ≤ 1000000) :
    Calls Try.prog 41 #[.agg t.cs, .int .i64 z] w (IntsOut w (insN ns z)) := by
  have hm' : t.nl ≤ maxLen := by unfold maxLen; omega
  obtain ⟨q, hq⟩ : ∃ q, boxI ns z = q := ⟨_, rfl⟩
  have cb := fun w h => hide (box_any t ns z w h hm')
  rw [hq] at cb
  obtain ⟨r, hr⟩ : ∃ r, rootI ns z = r := ⟨_, rfl⟩
  have cz := fun w h => hide (refroot_all t ns z w h hm')
  rw [hr] at cz
  cases q
  · rw [insN_no (box_no hq)]
    clear hq hr cz
    go_enter Try.func41, Try.ntmps41
    go_wp2_with fail
    refine (unhide (cb _ (h.alloc _))).mono ?_
    rintro e w2 ⟨rfl, hx⟩
    go_wp2_with fail
    go_ret
    exact ⟨none, 0, rfl, Rd.nil _ _ _, ((Ext.refl _).alloc _).trans hx⟩
  clear hq
  cases r
  · rw [insN_no hr]
    clear hr
    go_enter Try.func41, Try.ntmps41
    go_wp2_with fail
    refine (unhide (cb _ (h.alloc _))).mono ?_
    rintro e w2 ⟨rfl, hx⟩
    have BT : Blk w2 w.heap.size 25 t.cs := (Blk.new _ _ _).ext hx
    have E1 : Ext w w2 := ((Ext.refl _).alloc _).trans hx
    clear hx cb
    have c1 := BT.cell
    have l1 := BT.lt
    go_wp2_with fail
    refine (unhide (cz _ (h.ext E1))).mono ?_
    rintro e w3 ⟨rfl, hx⟩
    go_wp2_with fail
    go_ret
    exact ⟨none, 0, rfl, Rd.nil _ _ _, E1.trans hx⟩
  have hz := rootI_lt hr
  obtain ⟨k, rfl⟩ : ∃ k : Nat, z = k := ⟨z.toNat, by omega⟩
  have hk : k < ns.length := by omega
  rw [rootI_nat] at hr
  have HV := hide (show insN ns (k : Int) = insR ns k 1 ns.length by rw [insN, rootI_nat, if_pos hr, Int.toNat_natCast])
  have HR := hide hr
  have hl := h.nlen
  have hm2 := hm'
  unfold maxLen at hm2
  obtain ⟨b, off, ha, hb, _⟩ := h.at_ (by omega)
  have CB := fun (m : Nat) w h => hide (box_any t ns (m : Int) w h hm')
  have CI := fun (p : Nat) (hp : p < ns.length) w h => hide (island_any t ns hT p hp w h hm')
  obtain ⟨na, nl, nc, aa, al, ac, view⟩ := t
  simp only at ha hm hm' hm2 hl h cz cb CB CI
  subst ha
  obtain ⟨i0, hi0, hz0, hz1, hz2⟩ := info_parts int_info
  have HI := hide (And.intro hi0 (And.intro hz0 (And.intro hz1 hz2)))
  have HL := hide hl
  have HT := hide hT
  clear hi0 hz0 hz1 hz2 hl hT hz hk hr
  go_enter Try.func41, Try.ntmps41
  go_wp2_with fail
  refine (unhide (cb _ (h.alloc _))).mono ?_
  rintro e w2 ⟨rfl, hx⟩
  have BT : Blk w2 w.heap.size 25 (Tr.cs ⟨some ⟨b, off, none⟩, nl, nc, aa, al, ac, view⟩) := (Blk.new _ _ _).ext hx
  have E1 : Ext w w2 := ((Ext.refl _).alloc _).trans hx
  clear hx cb
  have c1 := BT.cell
  have l1 := BT.lt
  go_wp2_with fail
  refine (unhide (cz _ (h.ext E1))).mono ?_
  rintro e w3 ⟨rfl, hx⟩
  replace E1 := E1.trans hx
  replace BT := BT.ext hx
  clear hx cz c1 l1
  go_wp2_with fail
  generalize hg : w.heap.size = g at *
  have HG := hide hg
  clear hg
  go_loopw [5, 6] (fun v x wr => ∃ (m : Nat) (A : Option Addr) (c : Nat) (l : List Int), x = .int .i64 m ∧ v = .slice A l.length c ∧ 1 ≤ m ∧ m ≤ nl ∧ Hid (insR ns k 1 m = l) ∧ Ext w wr ∧ Blk wr g 25 (Tr.cs ⟨some ⟨b, off, none⟩, nl, nc, aa, al, ac, view⟩) ∧ wr.ownsRow (g + 1) 3 1 (.slice A l.length c) l.length (ints l)) (fun _ x _ => nl - (intOf x).toNat)
  case atStart => exact ⟨1, none, 0, [], rfl, rfl, by omega, by have := (unhide HT).pos; have := unhide HL; omega, hide (insR_nil k 1 1 (Nat.le_refl _)), E1, BT, own_none _ _ _⟩
  case round =>
    clear E1 BT
    obtain ⟨m, A, c, l, rfl, rfl, q0, q1, HRl, E1, BT, O1⟩ := hrel
    have c1 := BT.cell
    have l1 := BT.lt
    have hll : l.length ≤ m := by rw [← unhide HRl]; exact insR_len k 1 m
    by_cases hmn : m < nl
    · have hmL : m < ns.length := by rw [unhide HL]; exact hmn
      have hin : (0 : Int) ≤ (m : Int) ∧ (m : Int) < (nl : Int) := by omega
      have HS := hide (insN_step (ns := ns) (k := k) m q0)
      obtain ⟨p, hp, hpm⟩ := (unhide HT).par (by omega : 0 < m) hmL
      have hpN := ((unhide HT).parN hmL).trans hp
      have cp2 := (h.ext E1).par rfl hmL
      rw [hp] at cp2
      rw [hpN, Int.toNat_natCast] at HS
      have cb := CB m
      have ci := CI p (by omega)
      have hq : boxI ns (m : Int) = decide (nK ns m ≠ 3) := by rw [boxI, Int.toNat_natCast]; simp; omega
      rw [hq] at cb
      obtain ⟨q, hq2⟩ : ∃ q, decide (nK ns m ≠ 3) = q := ⟨_, rfl⟩
      rw [hq2] at cb HS
      have hb2 : b < wr.heap.size := by have := E1.size; have := unhide HG; omega
      clear CB CI hq hq2 hp hpN hpm
      go_upto_region 7 with fail
      cases q
      · refine wp_region_lin (by kernel_rfl) (fun w' => (ExtX wr w' [])) (fun ii vv ww => match ii with | 0 => vv = (.agg (Tr.cs ⟨some ⟨b, off, none⟩, nl, nc, aa, al, ac, view⟩)) | 1 => vv = .int .i64 (m : Int) | 2 => vv = .bool false | 3 => vv = .bool false | 4 => vv = undef | 5 => vv = undef | 6 => vv = undef | 7 => vv = undef | 8 => vv = undef | 9 => vv = undef | 10 => vv = undef | 11 => vv = undef | 12 => vv = undef | 13 => vv = undef | 14 => vv = .bool false | _ => True) (fun ii => match ii with | 2 => [(0, 24), (1, 25)] | 3 => [(2, 26)] | 4 => [(3, 27)] | 5 => [(3, 27)] | 6 => [(5, 29), (3, 27)] | 7 => [(3, 27)] | 8 => [(6, 30), (7, 31), (3, 27)] | 9 => [(8, 32), (3, 27)] | 10 => [(9, 33), (3, 27)] | 11 => [(4, 28), (10, 34), (3, 27)] | 12 => [(3, 27)] | 13 => [(11, 35), (12, 36), (3, 27)] | 14 => [(3, 27), (13, 37)] | _ => []) (fun ii => match ii with | 0 => [2] | 1 => [6] | 4 => [2] | 5 => [2] | 7 => [6] | 12 => [1] | _ => []) (fun ii => match ii with | 0 => [1] | 1 => [0] | 4 => [3, 5, 6, 7, 8, 9, 10, 12] | 5 => [3, 7, 4, 12] | 6 => [3, 7, 4, 12] | 7 => [3, 5, 6, 4, 12] | 8 => [3, 4, 12] | 9 => [3, 4, 12] | 10 => [3, 4, 12] | 11 => [3, 12] | 12 => [3, 5, 6, 7, 8, 9, 4, 10, 11] | 13 => [3] | _ => []) [14] [0, 0, 3, 7, 15, 15, 47, 15, 239, 495, 1007, 2047, 15, 8191, 16383] 44 rfl (by kernel_rfl) (ExtX.start _ _) ?_ ?_
        · rename_i hcont; clear hcont
          refine ⟨?_, ?_, ?_, ?_, ?_, ?_, ?_, ?_, ?_, ?_, ?_, ?_, ?_, ?_, ?_, trivial⟩
          · refine stepL_plain rfl ?_
            rintro F a w1 jE - ⟨t2, -⟩ K hK
            have t2 : a.tmps[2]? = some (.pointer (some ⟨g, 0, none⟩)) := t2
            have c := (jE.blk BT (by simp)).cell
            refine wp_load_blk 25 _ rfl g (eval_tmp t2) 25 (Tr.cs ⟨some ⟨b, off, none⟩, nl, nc, aa, al, ac, view⟩) _ (jE.blk BT (by simp)) Try.underlying25 rfl (info_tree _) ?_
            exact hK _ _ jE rfl (fun _ _ _ h => h)
          · refine stepL_plain rfl ?_
            rintro F a w1 jE - ⟨t6, -⟩ K hK
            have t6 : a.tmps[6]? = some (.int .i64 (m : Int)) := t6
            go_simp
            exact hK _ _ jE rfl (fun _ _ _ h => h)
          · refine stepL_plain rfl ?_
            rintro F a w1 jE ⟨h0, t24, h1, t25, -⟩ - K hK
            have h0 : (F 0) = (.agg (Tr.cs ⟨some ⟨b, off, none⟩, nl, nc, aa, al, ac, view⟩)) := h0
            rw [h0] at t24
            clear h0
            have h1 : (F 1) = .int .i64 (m : Int) := h1
            rw [h1] at t25
            clear h1
            go_simp
            with_reducible refine (unhide (cb _ (h.ext (E1.trans (jE.ext (Ext.refl _) (by simp)))))).mono ?_
            rintro e w2 ⟨rfl, hx⟩
            exact hK _ _ (jE.trans hx) (rfl) (fun _ hj _ _ => (List.not_mem_nil hj).elim)
          · refine stepL_plain rfl ?_
            rintro F a w1 jE ⟨h2, t26, -⟩ - K hK
            have h2 : (F 2) = .bool false := h2
            rw [h2] at t26
            clear h2
            go_simp
            exact hK _ _ jE rfl (fun _ _ _ h => h)
          · refine stepL_of ?_
            rintro F a w1 jE ⟨h3, t27, -⟩ ⟨t2, -⟩ K hK
            have h3 : (F 3) = .bool false := h3
            rw [h3] at t27
            clear h3
            have t2 : a.tmps[2]? = some (.pointer (some ⟨g, 0, none⟩)) := t2
            exact stepN ((wanted_of 3 true 27 _ rfl rfl t27).trans rfl) (hK undef _ jE rfl (fun _ _ _ h => h))
          · refine stepL_of ?_
            rintro F a w1 jE ⟨h3, t27, -⟩ ⟨t2, -⟩ K hK
            have h3 : (F 3) = .bool false := h3
            rw [h3] at t27
            clear h3
            have t2 : a.tmps[2]? = some (.pointer (some ⟨g, 0, none⟩)) := t2
            exact stepN ((wanted_of 3 true 27 _ rfl rfl t27).trans rfl) (hK undef _ jE rfl (fun _ _ _ h => h))
          · refine stepL_of ?_
            rintro F a w1 jE ⟨h5, t29, h3, t27, -⟩ - K hK
            have h5 : (F 5) = undef := h5
            rw [h5] at t29
            clear h5
            have h3 : (F 3) = .bool false := h3
            rw [h3] at t27
            clear h3
            exact stepN ((wanted_of 3 true 27 _ rfl rfl t27).trans rfl) (hK undef _ jE rfl (fun _ _ _ h => h))
          · refine stepL_of ?_
            rintro F a w1 jE ⟨h3, t27, -⟩ ⟨t6, -⟩ K hK
            have h3 : (F 3) = .bool false := h3
            rw [h3] at t27
            clear h3
            have t6 : a.tmps[6]? = some (.int .i64 (m : Int)) := t6
            exact stepN ((wanted_of 3 true 27 _ rfl rfl t27).trans rfl) (hK undef _ jE rfl (fun _ _ _ h => h))
          · refine stepL_of ?_
            rintro F a w1 jE ⟨h6, t30, h7, t31, h3, t27, -⟩ - K hK
            have h6 : (F 6) = undef := h6
            rw [h6] at t30
            clear h6
            have h7 : (F 7) = undef := h7
            rw [h7] at t31
            clear h7
            have h3 : (F 3) = .bool false := h3
            rw [h3] at t27
            clear h3
            exact stepN ((wanted_of 3 true 27 _ rfl rfl t27).trans rfl) (hK undef _ jE rfl (fun _ _ _ h => h))
          · refine stepL_of ?_
            rintro F a w1 jE ⟨h8, t32, h3, t27, -⟩ - K hK
            have h8 : (F 8) = undef := h8
            rw [h8] at t32
            clear h8
            have h3 : (F 3) = .bool false := h3
            rw [h3] at t27
            clear h3
            exact stepN ((wanted_of 3 true 27 _ rfl rfl t27).trans rfl) (hK undef _ jE rfl (fun _ _ _ h => h))
          · refine stepL_of ?_
            rintro F a w1 jE ⟨h9, t33, h3, t27, -⟩ - K hK
            have h9 : (F 9) = undef := h9
            rw [h9] at t33
            clear h9
            have h3 : (F 3) = .bool false := h3
            rw [h3] at t27
            clear h3
            exact stepN ((wanted_of 3 true 27 _ rfl rfl t27).trans rfl) (hK undef _ jE rfl (fun _ _ _ h => h))
          · refine stepL_of ?_
            rintro F a w1 jE ⟨h4, t28, h10, t34, h3, t27, -⟩ - K hK
            have h4 : (F 4) = undef := h4
            rw [h4] at t28
            clear h4
            have h10 : (F 10) = undef := h10
            rw [h10] at t34
            clear h10
            have h3 : (F 3) = .bool false := h3
            rw [h3] at t27
            clear h3
            exact stepN ((wanted_of 3 true 27 _ rfl rfl t27).trans rfl) (hK undef _ jE rfl (fun _ _ _ h => h))
          · refine stepL_of ?_
            rintro F a w1 jE ⟨h3, t27, -⟩ ⟨t1, -⟩ K hK
            have h3 : (F 3) = .bool false := h3
            rw [h3] at t27
            clear h3
            have t1 : a.tmps[1]? = some (.int .i64 (k : Int)) := t1
            exact stepN ((wanted_of 3 true 27 _ rfl rfl t27).trans rfl) (hK undef _ jE rfl (fun _ _ _ h => h))
          · refine stepL_of ?_
            rintro F a w1 jE ⟨h11, t35, h12, t36, h3, t27, -⟩ - K hK
            have h11 : (F 11) = undef := h11
            rw [h11] at t35
            clear h11
            have h12 : (F 12) = undef := h12
            rw [h12] at t36
            clear h12
            have h3 : (F 3) = .bool false := h3
            rw [h3] at t27
            clear h3
            exact stepN ((wanted_of 3 true 27 _ rfl rfl t27).trans rfl) (hK undef _ jE rfl (fun _ _ _ h => h))
          · refine stepL_plain rfl ?_
            rintro F a w1 jE ⟨h3, t27, h13, t37, -⟩ - K hK
            have h3 : (F 3) = .bool false := h3
            rw [h3] at t27
            clear h3
            have h13 : (F 13) = undef := h13
            rw [h13] at t37
            clear h13
            go_simp
            exact hK _ _ jE rfl (fun _ _ _ h => h)
        · rintro F w9 jE ⟨h14, -⟩
          have h14 : (F 14) = .bool false := h14
          have hx := jE.ext (Ext.refl _) (by simp)
          replace E1 := E1.trans hx
          replace BT := BT.ext hx
          have O2 := own_extI O1 hx
          clear jE hx O1 c1 l1 cp2
          simp only [putL, Act.put, Nat.reduceAdd, Nat.zero_add, List.setIfInBounds_toArray, List.set_cons_succ, List.set_cons_zero]
          rw [h14]
          clear h14
          have c1 := BT.cell
          have l1 := BT.lt
          have HS2 := hide (show insR ns k 1 (m + 1) = l by rw [unhide HS]; simpa using unhide HRl)
          go_wp2_with fail
          go_roundw
          case rel => exact ⟨m + 1, A, c, l, by go_num, rfl, by omega, by omega, HS2, E1, BT, O2⟩
          case measure => simp [intOf]; omega
      · obtain ⟨p37, hp37⟩ : ∃ x, (((isl ns p : Nat) : Int) == (k : Int)) = x := ⟨_, rfl⟩
        have Hp37 := hide hp37
        clear hp37
        refine wp_region_lin (by kernel_rfl) (fun w' => (ExtX wr w' [])) (fun ii vv ww => match ii with | 0 => vv = (.agg (Tr.cs ⟨some ⟨b, off, none⟩, nl, nc, aa, al, ac, view⟩)) | 1 => vv = .int .i64 (m : Int) | 2 => vv = .bool true | 3 => vv = .bool true | 4 => vv = (.agg (Tr.cs ⟨some ⟨b, off, none⟩, nl, nc, aa, al, ac, view⟩)) | 5 => vv = .pointer (some ⟨g, 0, none⟩) | 6 => vv = .slice (some ⟨b, off, none⟩) nl nc | 7 => vv = .int .i64 (m : Int) | 8 => vv = .pointer (some ⟨b, off + m * 44, none⟩) | 9 => vv = .pointer (some ⟨b, off + m * 44, none⟩) | 10 => vv = .int .i64 (p : Int) | 11 => vv = .int .i64 ((isl ns p : Nat) : Int) | 12 => vv = .int .i64 (k : Int) | 13 => vv = .bool p37 | 14 => vv = .bool p37 | _ => True) (fun ii => match ii with | 2 => [(0, 24), (1, 25)] | 3 => [(2, 26)] | 4 => [(3, 27)] | 5 => [(3, 27)] | 6 => [(5, 29), (3, 27)] | 7 => [(3, 27)] | 8 => [(6, 30), (7, 31), (3, 27)] | 9 => [(8, 32), (3, 27)] | 10 => [(9, 33), (3, 27)] | 11 => [(4, 28), (10, 34), (3, 27)] | 12 => [(3, 27)] | 13 => [(11, 35), (12, 36), (3, 27)] | 14 => [(3, 27), (13, 37)] | _ => []) (fun ii => match ii with | 0 => [2] | 1 => [6] | 4 => [2] | 5 => [2] | 7 => [6] | 12 => [1] | _ => []) (fun ii => match ii with | 0 => [1] | 1 => [0] | 4 => [3, 5, 6, 7, 8, 9, 10, 12] | 5 => [3, 7, 4, 12] | 6 => [3, 7, 4, 12] | 7 => [3, 5, 6, 4, 12] | 8 => [3, 4, 12] | 9 => [3, 4, 12] | 10 => [3, 4, 12] | 11 => [3, 12] | 12 => [3, 5, 6, 7, 8, 9, 4, 10, 11] | 13 => [3] | _ => []) [14] [0, 0, 3, 7, 15, 15, 47, 15, 239, 495, 1007, 2047, 15, 8191, 16383] 44 rfl (by kernel_rfl) (ExtX.start _ _) ?_ ?_
        · rename_i hcont; clear hcont
          refine ⟨?_, ?_, ?_, ?_, ?_, ?_, ?_, ?_, ?_, ?_, ?_, ?_, ?_, ?_, ?_, trivial⟩
          · refine stepL_plain rfl ?_
            rintro F a w1 jE - ⟨t2, -⟩ K hK
            have t2 : a.tmps[2]? = some (.pointer (some ⟨g, 0, none⟩)) := t2
            have c := (jE.blk BT (by simp)).cell
            refine wp_load_blk 25 _ rfl g (eval_tmp t2) 25 (Tr.cs ⟨some ⟨b, off, none⟩, nl, nc, aa, al, ac, view⟩) _ (jE.blk BT (by simp)) Try.underlying25 rfl (info_tree _) ?_
            exact hK _ _ jE rfl (fun _ _ _ h => h)
          · refine stepL_plain rfl ?_
            rintro F a w1 jE - ⟨t6, -⟩ K hK
            have t6 : a.tmps[6]? = some (.int .i64 (m : Int)) := t6
            go_simp
            exact hK _ _ jE rfl (fun _ _ _ h => h)
          · refine stepL_plain rfl ?_
            rintro F a w1 jE ⟨h0, t24, h1, t25, -⟩ - K hK
            have h0 : (F 0) = (.agg (Tr.cs ⟨some ⟨b, off, none⟩, nl, nc, aa, al, ac, view⟩)) := h0
            rw [h0] at t24
            clear h0
            have h1 : (F 1) = .int .i64 (m : Int) := h1
            rw [h1] at t25
            clear h1
            go_simp
            with_reducible refine (unhide (cb _ (h.ext (E1.trans (jE.ext (Ext.refl _) (by simp)))))).mono ?_
            rintro e w2 ⟨rfl, hx⟩
            exact hK _ _ (jE.trans hx) (rfl) (fun _ hj _ _ => (List.not_mem_nil hj).elim)
          · refine stepL_plain rfl ?_
            rintro F a w1 jE ⟨h2, t26, -⟩ - K hK
            have h2 : (F 2) = .bool true := h2
            rw [h2] at t26
            clear h2
            go_simp
            exact hK _ _ jE rfl (fun _ _ _ h => h)
          · refine stepL_of ?_
            rintro F a w1 jE ⟨h3, t27, -⟩ ⟨t2, -⟩ K hK
            have h3 : (F 3) = .bool true := h3
            rw [h3] at t27
            clear h3
            have t2 : a.tmps[2]? = some (.pointer (some ⟨g, 0, none⟩)) := t2
            refine stepY ((wanted_of 3 true 27 _ rfl rfl t27).trans rfl) ?_
            have c := (jE.blk BT (by simp)).cell
            refine wp_load_blk 25 _ rfl g (eval_tmp t2) 25 (Tr.cs ⟨some ⟨b, off, none⟩, nl, nc, aa, al, ac, view⟩) _ (jE.blk BT (by simp)) Try.underlying25 rfl (info_tree _) ?_
            exact hK _ _ jE rfl (fun _ _ _ h => h)
          · refine stepL_of ?_
            rintro F a w1 jE ⟨h3, t27, -⟩ ⟨t2, -⟩ K hK
            have h3 : (F 3) = .bool true := h3
            rw [h3] at t27
            clear h3
            have t2 : a.tmps[2]? = some (.pointer (some ⟨g, 0, none⟩)) := t2
            refine stepY ((wanted_of 3 true 27 _ rfl rfl t27).trans rfl) ?_
            go_simp
            exact hK _ _ jE rfl (fun _ _ _ h => h)
          · refine stepL_of ?_
            rintro F a w1 jE ⟨h5, t29, h3, t27, -⟩ - K hK
            have h5 : (F 5) = .pointer (some ⟨g, 0, none⟩) := h5
            rw [h5] at t29
            clear h5
            have h3 : (F 3) = .bool true := h3
            rw [h3] at t27
            clear h3
            refine stepY ((wanted_of 3 true 27 _ rfl rfl t27).trans rfl) ?_
            have c := (jE.blk BT (by simp)).cell
            go_simp
            exact hK _ _ jE rfl (fun _ _ _ h => h)
          · refine stepL_of ?_
            rintro F a w1 jE ⟨h3, t27, -⟩ ⟨t6, -⟩ K hK
            have h3 : (F 3) = .bool true := h3
            rw [h3] at t27
            clear h3
            have t6 : a.tmps[6]? = some (.int .i64 (m : Int)) := t6
            refine stepY ((wanted_of 3 true 27 _ rfl rfl t27).trans rfl) ?_
            go_simp
            exact hK _ _ jE rfl (fun _ _ _ h => h)
          · refine stepL_of ?_
            rintro F a w1 jE ⟨h6, t30, h7, t31, h3, t27, -⟩ - K hK
            have h6 : (F 6) = .slice (some ⟨b, off, none⟩) nl nc := h6
            rw [h6] at t30
            clear h6
            have h7 : (F 7) = .int .i64 (m : Int) := h7
            rw [h7] at t31
            clear h7
            have h3 : (F 3) = .bool true := h3
            rw [h3] at t27
            clear h3
            refine stepY ((wanted_of 3 true 27 _ rfl rfl t27).trans rfl) ?_
            go_simp
            exact hK _ _ jE rfl (fun _ _ _ h => h)
          · refine stepL_of ?_
            rintro F a w1 jE ⟨h8, t32, h3, t27, -⟩ - K hK
            have h8 : (F 8) = .pointer (some ⟨b, off + m * 44, none⟩) := h8
            rw [h8] at t32
            clear h8
            have h3 : (F 3) = .bool true := h3
            rw [h3] at t27
            clear h3
            refine stepY ((wanted_of 3 true 27 _ rfl rfl t27).trans rfl) ?_
            go_simp
            exact hK _ _ jE rfl (fun _ _ _ h => h)
          · refine stepL_of ?_
            rintro F a w1 jE ⟨h9, t33, h3, t27, -⟩ - K hK
            have h9 : (F 9) = .pointer (some ⟨b, off + m * 44, none⟩) := h9
            rw [h9] at t33
            clear h9
            have h3 : (F 3) = .bool true := h3
            rw [h3] at t27
            clear h3
            refine stepY ((wanted_of 3 true 27 _ rfl rfl t27).trans rfl) ?_
            have c := ((jE.ext (Ext.refl _) (by simp)).cells.1 b _ hb2).trans cp2
            go_simp
            exact hK _ _ jE rfl (fun _ _ _ h => h)
          · refine stepL_of ?_
            rintro F a w1 jE ⟨h4, t28, h10, t34, h3, t27, -⟩ - K hK
            have h4 : (F 4) = (.agg (Tr.cs ⟨some ⟨b, off, none⟩, nl, nc, aa, al, ac, view⟩)) := h4
            rw [h4] at t28
            clear h4
            have h10 : (F 10) = .int .i64 (p : Int) := h10
            rw [h10] at t34
            clear h10
            have h3 : (F 3) = .bool true := h3
            rw [h3] at t27
            clear h3
            refine stepY ((wanted_of 3 true 27 _ rfl rfl t27).trans rfl) ?_
            go_simp
            with_reducible refine (unhide (ci _ (h.ext (E1.trans (jE.ext (Ext.refl _) (by simp)))))).mono ?_
            rintro e w2 ⟨rfl, hx⟩
            exact hK _ _ (jE.trans hx) (rfl) (by intro jq hj uq h; have hj : jq ∈ [3, 12] := hj; simp only [List.mem_cons, List.not_mem_nil, or_false] at hj; rcases hj with rfl | rfl; exact h; exact h)
          · refine stepL_of ?_
            rintro F a w1 jE ⟨h3, t27, -⟩ ⟨t1, -⟩ K hK
            have h3 : (F 3) = .bool true := h3
            rw [h3] at t27
            clear h3
            have t1 : a.tmps[1]? = some (.int .i64 (k : Int)) := t1
            refine stepY ((wanted_of 3 true 27 _ rfl rfl t27).trans rfl) ?_
            go_simp
            exact hK _ _ jE rfl (fun _ _ _ h => h)
          · refine stepL_of ?_
            rintro F a w1 jE ⟨h11, t35, h12, t36, h3, t27, -⟩ - K hK
            have h11 : (F 11) = .int .i64 ((isl ns p : Nat) : Int) := h11
            rw [h11] at t35
            clear h11
            have h12 : (F 12) = .int .i64 (k : Int) := h12
            rw [h12] at t36
            clear h12
            have h3 : (F 3) = .bool true := h3
            rw [h3] at t27
            clear h3
            refine stepY ((wanted_of 3 true 27 _ rfl rfl t27).trans rfl) ?_
            have e1 := unhide Hp37
            go_simp
            exact hK _ _ jE rfl (fun _ _ _ h => h)
          · refine stepL_plain rfl ?_
            rintro F a w1 jE ⟨h3, t27, h13, t37, -⟩ - K hK
            have h3 : (F 3) = .bool true := h3
            rw [h3] at t27
            clear h3
            have h13 : (F 13) = .bool p37 := h13
            rw [h13] at t37
            clear h13
            go_simp
            exact hK _ _ jE rfl (fun _ _ _ h => h)
        · rintro F w9 jE ⟨h14, -⟩
          have h14 : (F 14) = .bool p37 := h14
          have hx := jE.ext (Ext.refl _) (by simp)
          replace E1 := E1.trans hx
          replace BT := BT.ext hx
          have O2 := own_extI O1 hx
          clear jE hx O1 c1 l1 cp2
          simp only [putL, Act.put, Nat.reduceAdd, Nat.zero_add, List.setIfInBounds_toArray, List.set_cons_succ, List.set_cons_zero]
          rw [h14]
          clear h14
          have c1 := BT.cell
          have l1 := BT.lt
          have HS0 : Hid (insR ns k 1 (m + 1) = if p37 = true then l ++ [(m : Int)] else l) := hide (by rw [unhide HS, unhide HRl, ← unhide Hp37]; simp)
          cases p37
          · have HS2 := hide ((unhide HS0).trans (if_neg (by simp)))
            go_wp2_with fail
            go_roundw
            case rel => exact ⟨m + 1, A, c, l, by go_num, rfl, by omega, by omega, HS2, E1, BT, O2⟩
            case measure => simp [intOf]; omega
          · have HS2 := hide ((unhide HS0).trans (if_pos rfl))
            go_wp2_with (first
              | (at_builtin
                 refine wpList_append_rd rfl (.tmp 39) (.tmp 41) _ rfl (g + 1) 3 i0 _ 1 8 Try.underlying36 (unhide HI).1 (unhide HI).2.1 (unhide HI).2.2.1 (unhide HI).2.2.2 rfl (by omega) _ l.length (ints l) rfl (own_extI O2 ((Ext.refl _).alloc _)) _ 1 1 [.int .i64 (m : Int)] rfl (Rd.one _ _) (by simp [Value.oneCell']) (by simp only [maxLen]; omega) (by omega) (by simp; omega) ?_
                 intro A4 c4 w4 own4 g4 at4
                 have E4 := (E1.alloc (.cells #[.int .i64 (m : Int)] 3)).grown g4 (fun j e => by have := (O2.lt j e).1; have := unhide HG; omega)
                 have BT4 := (BT.alloc (.cells #[.int .i64 (m : Int)] 3)).grown g4 (fun e => by have := (O2.lt _ e).1; omega)))
            go_roundw
            case rel => exact ⟨m + 1, A4, c4, l ++ [(m : Int)], by go_num, by simp, by omega, by omega, HS2, E4, BT4, by simpa [ints_append, ints] using own4⟩
            case measure => simp [intOf]; omega
    · have hmL : m = ns.length := by have := unhide HL; omega
      have HR2 := hide (show insN ns (k : Int) = l by rw [unhide HV, ← hmL]; exact unhide HRl)
      have hmI : ¬ ((m : Int) < (nl : Int)) := by omega
      clear hmL CB CI
      go_wp2_with fail
      go_ret
      rw [unhide HR2]
      exact ⟨A, c, rfl, Rd.of_own O1, E1⟩
end
end Go.Proofs.Ytnolbmfjgfojhaa
