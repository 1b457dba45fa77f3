/- Trees: small, same, depths, the last ones below (walks). -/
import Derived.Test.YtnolbmfjgfojhaaTyP
namespace Go.Proofs.Ytnolbmfjgfojhaa
open Go.RowKit
theorem ints_arr {l : List Int} {p : Nat} {x : Int} (h : l[p]? = some x) : (ints l).toArray[p]? = some (.int .i64 x) := by
  have h2 : (ints l)[p]? = some (.int .i64 x) := by unfold ints; rw [List.getElem?_map, h]; rfl
  simpa using h2
set_option maxRecDepth 100000 in
set_option maxHeartbeats 4000000 in
theorem same05_any (A B : Option Addr) (n c m d : Nat) (xs ys : List Int) (w : World) (ha : Rd w 1 A n (ints xs)) (hb : Rd w 1 B m (ints ys)) (hn : n ≤ maxLen) (hm : m ≤ maxLen) :
    Calls Try.prog 23 #[.slice A n c, .slice B m d] w fun e w' => e = .returned (.bool (decide (xs = ys))) ∧ Ext w w' := by
  have la := ha.len
  have lb := hb.len
  rw [ints_len] at la lb
  unfold maxLen at hn hm
  by_cases hnm : n = m
  rotate_left
  · have hI : ((n : Int) != (m : Int)) = true := by simp; omega
    have HD := hide (show decide (xs = ys) = false by
      simp only [decide_eq_false_iff_not]
      rintro rfl
      omega)
    generalize decide (xs = ys) = r at *
    clear la lb
    go_enter Try.func23, Try.ntmps23
    go_wp2_with fail
    go_ret
    exact ⟨ret1b (unhide HD).symm, Ext.refl _⟩
  subst hnm
  have LA := hide la
  have LB := hide lb
  clear la lb hm
  have hI : ((n : Int) != (n : Int)) = false := by simp
  go_enter Try.func23, Try.ntmps23
  go_wp2_with fail
  go_loopw [5] (fun i wr => ∃ k : Nat, i = .int .i64 k ∧ k ≤ n ∧ Hid (xs.take k = ys.take k) ∧ Ext w wr ∧ Rd wr 1 A n (ints xs) ∧ Rd wr 1 B n (ints ys)) (fun i _ => n - (intOf i).toNat)
  case atStart => exact ⟨0, rfl, by omega, hide rfl, Ext.refl _, ha, hb⟩
  case round =>
    clear ha hb
    obtain ⟨k, rfl, q1, HT, E1, RA, RB⟩ := hrel
    by_cases hk : k < n
    · obtain ⟨b1, o1, u1, rfl, hb1, hu1, hc1⟩ := RA.get hk
      obtain ⟨b2, o2, u2, rfl, hb2, hu2, hc2⟩ := RB.get hk
      have hka : k < xs.length := by have := unhide LA; omega
      have hkb : k < ys.length := by have := unhide LB; omega
      rw [ints_get hka] at hu1
      rw [ints_get hkb] at hu2
      have e1 := Option.some.inj hu1
      have e2 := Option.some.inj hu2
      subst e1 e2
      have hin : (0 : Int) ≤ (k : Int) ∧ (k : Int) < (n : Int) := by omega
      by_cases hxy : xs[k] = ys[k]
      · have HY := hide (show xs.take (k + 1) = ys.take (k + 1) by rw [List.take_succ_eq_append_getElem hka, List.take_succ_eq_append_getElem hkb, unhide HT, hxy])
        rw [hxy] at hc1
        generalize ys[k] = y at *
        clear hu1 hu2 hxy HT
        go_wp2_with fail
        go_quiet (fail)
        go_wp2_with fail
        go_roundw
        case rel => exact ⟨k + 1, by go_num, by omega, HY, E1.drewN _, RA.drewN _, RB.drewN _⟩
        case measure => simp [intOf]; omega
      · have HN := hide (show decide (xs = ys) = false by
          simp only [decide_eq_false_iff_not]
          rintro rfl
          exact hxy rfl)
        have hxb : (xs[k] != ys[k]) = true := by simpa using hxy
        generalize xs[k] = x at *
        generalize ys[k] = y at *
        clear hu1 hu2 hxy HT
        go_wp2_with fail
        go_quiet (fail)
        go_wp2_with fail
        go_ret
        exact ⟨ret1b (unhide HN).symm, E1.drewN _⟩
    · have HY := hide (show decide (xs = ys) = true by
        have h1 := unhide HT
        rw [List.take_of_length_le (by have := unhide LA; omega), List.take_of_length_le (by have := unhide LB; omega)] at h1
        simpa using h1)
      clear HT
      go_wp2_with fail
      go_ret
      exact ⟨ret1b (unhide HY).symm, E1⟩


section
variable (t : Tr) (ns : List Nd) (av : List Int)
set_option maxRecDepth 100000 in
set_option maxHeartbeats 4000000 in
theorem vast_any (w : World) (h : TrIn w t ns av) (hm : t.nl ≤ 17592186044415) (ha : t.al ≤ 17592186044415) :
    Calls Try.prog 30 #[.agg t.cs] w fun e w' => e = .returned (.bool (vastV ns t.al)) ∧ Ext w w' := by
  have hl := h.nodes.nlen
  obtain ⟨na, nl, nc, aa, al, ac, view⟩ := t
  simp only at hm ha hl
  have HL := hide hl
  have HV := hide (show vastV ns al = decide (5000 < nl + al + unitsV ns nl) by rw [vastV, hl])
  have HU := hide (fun k (hk : k ≤ nl) => (show unitsV ns k ≤ unitsV ns nl by have := unitsV_le ns (k := k) (by omega); rw [hl] at this; exact this))
  clear hl
  go_enter Try.func30, Try.ntmps30
  go_wp2_with fail
  have BT : Blk (w.alloc (.cells (Tr.cs ⟨na, nl, nc, aa, al, ac, view⟩) 25)) w.heap.size 25 (Tr.cs ⟨na, nl, nc, aa, al, ac, view⟩) := Blk.new _ _ _
  have E0 : Ext w (w.alloc (.cells (Tr.cs ⟨na, nl, nc, aa, al, ac, view⟩) 25)) := (Ext.refl _).alloc _
  generalize w.alloc (.cells (Tr.cs ⟨na, nl, nc, aa, al, ac, view⟩) 25) = w0 at *
  have dT := BT.cell
  have lT := BT.lt
  have hN := (h.ext E0).nodes
  have hu0 : unitsV ns 0 = 0 := by simp [unitsV]
  have HU0 := hide hu0
  clear hu0
  go_loop [3, 4] (fun n i => ∃ k m : Nat, i = .int .i64 k ∧ n = .int .i64 m ∧ k ≤ nl ∧ m ≤ 35184372100000 ∧ Hid (m = nl + al + unitsV ns k)) (fun _ i => nl - (intOf i).toNat)
  case atStart => exact ⟨0, nl + al, rfl, by go_num, by omega, by omega, hide (by rw [unhide HU0]; omega)⟩
  case round =>
    obtain ⟨k, m, rfl, rfl, q1, q2, HM⟩ := hrel
    by_cases hk1 : k < nl
    · have hkI : (0 : Int) ≤ (k : Int) ∧ (k : Int) < (nl : Int) := by omega
      by_cases hk2 : m ≤ 5000
      · have hkl : k < ns.length := by rw [unhide HL]; exact hk1
        obtain ⟨b, off, hA, hb, hc⟩ := hN.node (List.getElem?_eq_getElem hkl)
        have hu : w0.cell? ⟨b, off + k * 44 + 43, none⟩ = some (.slice (ns[k]).s.ua (ns[k]).s.ul (ns[k]).s.uc) := hc 43 _ rfl
        have hA : na = some ⟨b, off, none⟩ := hA
        subst hA
        have hmI : (m : Int) ≤ 5000 := by omega
        have HS := hide (unitsV_succ (ns := ns) (k := k) (List.getElem?_eq_getElem hkl))
        clear hc
        generalize (ns[k]).s.ul = UL at *
        generalize (ns[k]).s.ua = UA at *
        generalize (ns[k]).s.uc = UC at *
        obtain ⟨y, hy⟩ : ∃ y : Int, (if (5000 : Int) < (UL : Int) then (5000 : Int) else (UL : Int)) = y := ⟨_, rfl⟩
        have hy1 : 0 ≤ y ∧ y ≤ 5000 := by rw [← hy]; split <;> omega
        have HY := hide (show y = ((min UL 5000 : Nat) : Int) by rw [← hy]; split <;> omega)
        clear hkl
        go_wp2_with fail
        go_round
        case rel => exact ⟨k + 1, (m + y).toNat, by go_num, congrArg (Value.int IntKind.i64) (by omega), by omega, by omega, hide (by have := unhide HY; have := unhide HM; have := unhide HS; omega)⟩
        case measure => simp [intOf]; omega
      · have hmI : ¬ (m : Int) ≤ 5000 := by omega
        have HR := hide (show true = vastV ns al by
          rw [unhide HV]
          have := unhide HU k q1
          have := unhide HM
          simp; omega)
        have hm5 : (5000 : Int) < (m : Int) := by omega
        go_wp2_with fail
        go_ret
        exact ⟨ret1b (unhide HR), E0⟩
    · have hkI : ¬ (k : Int) < (nl : Int) := by omega
      obtain ⟨z, hz⟩ : ∃ z, decide ((5000 : Int) < (m : Int)) = z := ⟨_, rfl⟩
      have HR := hide (show z = vastV ns al by
        rw [unhide HV, ← hz, show nl = k by omega]
        have := unhide HM
        exact decide_eq_decide.2 (by rw [show nl = k by omega] at this; omega))
      go_wp2_with fail
      go_ret
      exact ⟨ret1b (by rw [← unhide HR, ← hz]), E0⟩
set_option maxHeartbeats 1000000 in
theorem small05_any (w : World) (h : TrIn w t ns av) (hm : t.nl ≤ 17592186044415) (ha : t.al ≤ 17592186044415) :
    Calls Try.prog 15 #[.agg t.cs] w fun e w' => e = .returned (.bool (!vastV ns t.al && decide (t.nl ≤ 700))) ∧ Ext w w' := by
  have cv := fun w h => hide (vast_any t ns av w h hm ha)
  obtain ⟨v, hv⟩ : ∃ v, vastV ns t.al = v := ⟨_, rfl⟩
  rw [hv] at cv ⊢
  clear hv
  go_enter Try.func15, Try.ntmps15
  go_wp2_with fail
  refine (unhide (cv _ (h.ext ((Ext.refl _).alloc _)))).mono ?_
  rintro e w1 ⟨rfl, hx⟩
  have BT : Blk w1 w.heap.size 25 t.cs := (Blk.new _ _ _).ext hx
  have E1 : Ext w w1 := ((Ext.refl _).alloc _).trans hx
  have c1 := BT.cell
  have l1 := BT.lt
  clear hx
  cases v
  · by_cases h7 : t.nl ≤ 700
    · have hI : ((t.nl : Nat) : Int) ≤ 700 := by omega
      go_wp2_with fail
      go_ret
      exact ⟨ret1b (by simp [h7]), E1⟩
    · have hI : ¬ ((t.nl : Nat) : Int) ≤ 700 := by omega
      go_wp2_with fail
      go_ret
      exact ⟨ret1b (by simp [h7]; omega), E1⟩
  · go_wp2_with fail
    go_ret
    exact ⟨ret1b (by simp), E1⟩
set_option maxRecDepth 100000 in
set_option maxHeartbeats 4000000 in
theorem depths_any (w : World) (h : Rd w 44 t.na t.nl (nds ns)) (hm : t.nl ≤ 1000000) :
    Calls Try.prog 24 #[.agg t.cs] w (IntsOut w (depsN ns)) := by
  have hl := h.nlen
  have hm' : t.nl ≤ maxLen := by unfold maxLen; omega
  have hmk := make_ints t.nl hm
  have HL := hide hl
  clear hl
  go_enter Try.func24, Try.ntmps24
  go_wp2_with fail
  have BT : Blk ((w.alloc (.cells t.cs 25)).alloc (.cells (Array.replicate t.nl (.int .i64 0)) 3)) w.heap.size 25 t.cs := (Blk.new _ _ _).alloc _
  have BL : Blk ((w.alloc (.cells t.cs 25)).alloc (.cells (Array.replicate t.nl (.int .i64 0)) 3)) (w.heap.size + 1) 3 (Array.replicate t.nl (.int .i64 0)) := Blk.new1 _ _ _ _
  have E0 : Ext w ((w.alloc (.cells t.cs 25)).alloc (.cells (Array.replicate t.nl (.int .i64 0)) 3)) := ((Ext.refl _).alloc _).alloc _
  generalize (w.alloc (.cells t.cs 25)).alloc (.cells (Array.replicate t.nl (.int .i64 0)) 3) = w0 at *
  rw [ints_zero] at BL
  clear hmk
  go_loopw [12] (fun i wr => ∃ (k : Nat) (L : List Int), i = .int .i64 k ∧ k ≤ t.nl ∧ L.length = t.nl ∧ Hid (∀ j, j < k → L[j]? = some (dep ns j : Int)) ∧ Ext w wr ∧ Blk wr w.heap.size 25 t.cs ∧ Blk wr (w.heap.size + 1) 3 (ints L).toArray) (fun i _ => t.nl - (intOf i).toNat)
  case atStart => exact ⟨0, List.replicate t.nl 0, rfl, by omega, List.length_replicate, hide (fun j hj => absurd hj (by omega)), E0, BT, BL⟩
  case round =>
    clear E0 BT BL
    obtain ⟨k, L, rfl, q1, hL, HV, E1, BT, BL⟩ := hrel
    have HLL := hide hL
    by_cases hk : k < t.nl
    · have hkL : k < L.length := by omega
      have hkn : k < ns.length := by have := unhide HL; omega
      have d2 := (BL.cell k).trans (show (ints L).toArray[k]? = some (.int .i64 L[k]) by simpa using ints_get hkL)
      have f2 := BL.frozen k
      have l2 := BL.lt
      have hin : (0 : Int) ≤ (k : Int) ∧ (k : Int) < (t.nl : Int) := by omega
      have cu := up_any t ns k hkn
      have hp := parN_lt ns k
      have HD := hide (dep_eq ns k)
      generalize L[k] = y0 at *
      clear hL
      go_upto_region 6 with fail
      have E2 := E1.set (p := ⟨w.heap.size + 1, k, none⟩) (by simp) (.int .i64 1)
      have BT2 := BT.far (p := ⟨w.heap.size + 1, k, none⟩) (by simp) (.int .i64 1)
      have BL2 := BL.set_ k (.int .i64 1)
      rw [ints_set] at BL2
      generalize wr.setCell _ _ = w1 at *
      clear E1 BT BL d2 f2 l2
      have c1 := BT2.cell
      have l1 := BT2.lt
      have cu := fun w h => hide (cu w h hm')
      by_cases h0 : 0 ≤ parN ns k
      · obtain ⟨p, hpp⟩ : ∃ p : Nat, parN ns k = p := ⟨(parN ns k).toNat, by omega⟩
        rw [hpp] at cu HD hp
        have hpk : p < k := by omega
        have hpI : (0 : Int) ≤ (p : Int) ∧ (p : Int) < (t.nl : Int) := by omega
        have hp0 : (0 : Int) ≤ (p : Int) := by omega
        have hdl := dep_le ns p
        have hlp : (L.set k 1)[p]? = some (dep ns p : Int) := by rw [List.getElem?_set_ne (by omega)]; exact unhide HV p hpk
        have HD2 := hide (show dep ns k = dep ns p + 1 by rw [unhide HD, depI, if_pos (by omega)]; rfl)
        have HG := hide hlp
        clear hpp h0 hp hlp
        go_wp2_with fail
        refine (unhide (cu _ (h.ext E2))).mono ?_
        rintro e w2 ⟨rfl, hx⟩
        replace E2 := E2.trans hx
        replace BT2 := BT2.ext hx
        replace BL2 := BL2.ext hx
        clear hx c1 l1
        have hkL2 : k < (L.set k 1).length := by simpa using hkL
        have dp := (BL2.cell p).trans (ints_arr (unhide HG))
        have dk := (BL2.cell k).trans (ints_arr (show (L.set k 1)[k]? = some 1 from List.getElem?_set_self hkL))
        have fk := BL2.frozen k
        have lk := BL2.lt
        obtain ⟨dv, hdv⟩ : ∃ dv, dep ns p = dv := ⟨_, rfl⟩
        rw [hdv] at dp hdl HD2
        clear hdv HG
        go_wp2_with fail
        have E3 := E2.set (p := ⟨w.heap.size + 1, k, none⟩) (by simp) (.int .i64 ((dv : Int) + 1))
        have BT3 := BT2.far (p := ⟨w.heap.size + 1, k, none⟩) (by simp) (.int .i64 ((dv : Int) + 1))
        have BL3 := BL2.set_ k (.int .i64 ((dv : Int) + 1))
        rw [ints_set] at BL3
        have HV3 := hide (show ∀ j, j < k + 1 → ((L.set k 1).set k ((dv : Int) + 1))[j]? = some (dep ns j : Int) from fun j hj => by
          by_cases hjk : j = k
          · subst hjk
            rw [List.getElem?_set_self hkL2, unhide HD2]
            simp
          · rw [List.getElem?_set_ne (by omega), List.getElem?_set_ne (by omega)]
            exact unhide HV j (by omega))
        go_roundw
        case rel => exact ⟨k + 1, (L.set k 1).set k ((dv : Int) + 1), by go_num, by omega, by rw [List.length_set, List.length_set]; exact unhide HLL, HV3, E3, BT3, BL3⟩
        case measure => simp [intOf]; omega
      · have hpp : parN ns k = -1 := by omega
        rw [hpp] at cu HD
        have HV3 := hide (show ∀ j, j < k + 1 → (L.set k 1)[j]? = some (dep ns j : Int) from fun j hj => by
          by_cases hjk : j = k
          · subst hjk
            rw [List.getElem?_set_self hkL, unhide HD, depI, if_neg (by omega)]
            rfl
          · rw [List.getElem?_set_ne (by omega)]
            exact unhide HV j (by omega))
        clear hpp h0 hp HD
        go_wp2_with fail
        refine (unhide (cu _ (h.ext E2))).mono ?_
        rintro e w2 ⟨rfl, hx⟩
        replace E2 := E2.trans hx
        replace BT2 := BT2.ext hx
        replace BL2 := BL2.ext hx
        clear hx c1 l1
        go_wp2_with fail
        go_roundw
        case rel => exact ⟨k + 1, L.set k 1, by go_num, by omega, by rw [List.length_set]; exact unhide HLL, HV3, E2, BT2, BL2⟩
        case measure => simp [intOf]; omega
    · have HO := hide (show L = depsN ns by
        refine List.ext_getElem? fun j => ?_
        by_cases hj : j < ns.length
        · rw [depsN_get hj]; exact unhide HV j (by have := unhide HL; omega)
        · rw [List.getElem?_eq_none (by have := unhide HL; omega), List.getElem?_eq_none (by rw [depsN_len]; omega)])
      clear hL
      go_wp2_with fail
      go_ret
      have hlen : (depsN ns).length = t.nl := by rw [← unhide HO]; exact unhide HLL
      refine ⟨some ⟨w.heap.size + 1, 0, none⟩, t.nl, by rw [hlen]; rfl, ?_, E1⟩
      rw [hlen]
      have := BL.rd (n := t.nl) (by rw [List.size_toArray, ints_len]; exact unhide HLL)
      rw [unhide HO] at this
      simpa using this
set_option maxRecDepth 100000 in
set_option maxHeartbeats 4000000 in
theorem refdepths_any (w : World) (h : Rd w 44 t.na t.nl (nds ns)) (hm : t.nl ≤ 1000000) :
    Calls Try.prog 25 #[.agg t.cs] w (IntsOut w (depsN ns)) := by
  have hl := h.nlen
  have hm' : t.nl ≤ maxLen := by unfold maxLen; omega
  obtain ⟨i0, hi0, hz0, hz1, hz2⟩ := info_parts int_info
  have HI := hide (And.intro hi0 (And.intro hz0 (And.intro hz1 hz2)))
  have HL := hide hl
  clear hi0 hz0 hz1 hz2 hl
  go_enter Try.func25, Try.ntmps25
  go_wp2_with fail
  have BT : Blk (w.alloc (.cells t.cs 25)) w.heap.size 25 t.cs := Blk.new _ _ _
  have E0 : Ext w (w.alloc (.cells t.cs 25)) := (Ext.refl _).alloc _
  generalize w.alloc (.cells t.cs 25) = w0 at *
  go_loopw [3, 4] (fun v i wr => ∃ (k : Nat) (A : Option Addr) (c : Nat) (l : List Int), i = .int .i64 k ∧ v = .slice A l.length c ∧ k ≤ t.nl ∧ l.length = k ∧ Hid (l = (List.range k).map (fun i => (dep ns i : Int))) ∧ Ext w wr ∧ Blk wr w.heap.size 25 t.cs ∧ wr.ownsRow (w.heap.size + 1) 3 1 (.slice A l.length c) l.length (ints l)) (fun _ i _ => t.nl - (intOf i).toNat)
  case atStart => exact ⟨0, none, 0, [], rfl, rfl, by omega, rfl, hide rfl, E0, BT, own_none _ _ _⟩
  case round =>
    clear E0 BT
    obtain ⟨k, A, c, l, rfl, rfl, q1, hll, HR, E1, BT, O1⟩ := hrel
    have c1 := BT.cell
    have l1 := BT.lt
    have HLK := hide hll
    by_cases hk : k < t.nl
    · have cu := fun w h => hide (depth_any t ns k (by have := unhide HL; omega) w h hm')
      have HS := hide (range_succ_map (fun i => (dep ns i : Int)) k)
      have hlk : l.length ≤ 1000000 := by omega
      clear hll
      obtain ⟨dv, hdv⟩ : ∃ dv, dep ns k = dv := ⟨_, rfl⟩
      rw [hdv] at cu
      have HDV := hide hdv
      clear hdv
      go_wp2_with fail
      refine (unhide (cu _ (h.ext E1))).mono ?_
      rintro e w2 ⟨rfl, hx⟩
      have E2 := E1.trans hx
      have BT2 := BT.ext hx
      have O2 := own_extI O1 hx
      have l2 := BT2.lt
      clear hx c1 l1 E1 BT O1
      go_wp2_with (first
        | (at_builtin
           refine wpList_append_rd rfl (.tmp 12) (.tmp 16) _ rfl (w.heap.size + 1) 3 i0 _ 1 8 Try.underlying36 (unhide HI).1 (unhide HI).2.1 (unhide HI).2.2.1 (unhide HI).2.2.2 rfl (by omega) _ l.length (ints l) rfl (own_extI O2 ((Ext.refl _).alloc _)) _ 1 1 [.int .i64 (dv : Int)] rfl (Rd.one _ _) (by simp [Value.oneCell']) (by simp only [maxLen]; omega) (by omega) (by simp; omega) ?_
           intro A4 c4 w4 own4 g4 at4
           have E4 := (E2.alloc (.cells #[.int .i64 (dv : Int)] 3)).grown g4 (fun j e => by have := (O2.lt j e).1; omega)
           have BT4 := (BT2.alloc (.cells #[.int .i64 (dv : Int)] 3)).grown g4 (fun e => by have := (O2.lt _ e).1; omega)))
      go_roundw
      case rel => exact ⟨k + 1, A4, c4, l ++ [(dv : Int)], by go_num, by simp, by omega, by have := unhide HLK; simp; omega, hide (by rw [unhide HS, ← unhide HR, unhide HDV]), E4, BT4, by simpa [ints_append, ints] using own4⟩
      case measure => simp [intOf]; omega
    · have HO := hide (show l = depsN ns by rw [unhide HR, depsN, show k = ns.length by have := unhide HL; omega])
      clear hll
      go_wp2_with fail
      go_ret
      rw [← unhide HO]
      exact ⟨A, c, rfl, Rd.of_own O1, E1⟩
end
end Go.Proofs.Ytnolbmfjgfojhaa
