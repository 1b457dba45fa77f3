/- Numbers as lists of digits: the product of two (walk). -/
import Derived.Test.YtahneblnbafpoaaBigF
import Derived.Laws.MakeOwn
namespace Go.Proofs.Ytahneblnbafpoaa
open Go.RowKit

theorem madeCells_bool (n : Nat) : (madeCells (Value.cells (.bool false)) n).toList = bools (List.replicate n false) := by
  apply List.ext_getElem
  · simp [madeCells, bools]
  · intro i h1 h2
    simp [madeCells, bools, Value.cells, Nat.mod_one]
/-- a slice of digits made, all of them nought -/
theorem mkb (K : Nat) (h : K ≤ 1000000) : ∃ C : Array Value, C.toList = bools (List.replicate K false) ∧ C.size = K ∧ ∀ w' : World, (Instr.makeSlice 54 (.int .i64 K) (.int .i64 K)).run Try.prog w' = .ok (.slice (some ⟨w'.heap.size, 0, none⟩) K K) (w'.alloc (.cells C 4)) := by
  obtain ⟨i0, hi0, hz0, hz1, hz2⟩ := info_parts bool_info
  refine ⟨madeCells (Value.cells (.bool false)) K, madeCells_bool K, size_madeCells _ _, fun w' => ?_⟩
  have := run_make (P := Try.prog) w' 54 4 i0 _ Try.underlying54 hi0 hz0 .i64 .i64 (K : Int) (K : Int) (by omega) (by omega) (by rw [hz2]; omega) (by omega)
  simpa [hz1] using this
theorem zp_mul {ma mb : Bool} {a b l : List Bool} (h : val l = val a * val b) : bigZ (ma != mb) l = bigZ ma a * bigZ mb b := by
  have e : (val l : Int) = (val a : Int) * (val b : Int) := by rw [h]; exact Int.natCast_mul _ _
  cases ma <;> cases mb
  · show bigZ false l = _; rw [bigZ_f, bigZ_f, bigZ_f, e]
  · show bigZ true l = _; rw [bigZ_t, bigZ_f, bigZ_t, e, Int.mul_neg]
  · show bigZ true l = _; rw [bigZ_t, bigZ_f, bigZ_t, e, Int.neg_mul]
  · show bigZ false l = _; rw [bigZ_f, bigZ_t, bigZ_t, e, Int.neg_mul_neg]

/-- what the loop of a product has come to -/
structure MulRel (w wr : World) (ga : Nat) (va vb : Array Value) (a b : List Bool) (i : Nat) : Prop where
  ext : Ext w wr
  ba : Blk wr ga 56 va
  bb : Blk wr (ga + 1) 56 vb
  bo : Blk wr (ga + 2) 56 #[.bool false, .slice none 0 0]
  o : ∃ A c l, Blk wr (ga + 3) 56 #[.bool false, .slice A l.length c] ∧ Rd wr 1 A l.length (bools l) ∧ l.length ≤ c ∧ c ≤ maxLen ∧ val l = val (a.take i) * val b ∧ l.length ≤ i + b.length + 1 ∧ ∀ b off, A = some ⟨b, off, none⟩ → ga + 4 ≤ b

set_option maxRecDepth 100000 in
set_option maxHeartbeats 8000000 in
theorem mul_any (ma mb : Bool) (A B : Option Addr) (n c k d : Nat) (a b : List Bool) (w : World) (ha : Rd w 1 A n (bools a)) (hb : Rd w 1 B k (bools b)) (hn : n ≤ 20000) (hk : k ≤ 20000) :
    Calls Try.prog 57 #[bigV ma A n c, bigV mb B k d] w (BigFr w (ZP (bigZ ma a * bigZ mb b) (n + k + 1))) := by
  obtain ⟨i0, hi0, hz0, hz1, hz2⟩ := info_parts bool_info
  have HI := hide (And.intro hi0 (And.intro hz0 (And.intro hz1 hz2)))
  have la : a.length = n := by have := ha.len; simpa [bools] using this
  have lb : b.length = k := by have := hb.len; simpa [bools] using this
  have HL := hide (And.intro la lb)
  clear la lb hi0 hz0 hz1 hz2
  go_enter Try.func57, Try.ntmps57
  go_wp2_with fail
  have Ba : Blk ((((w.alloc (.cells #[.bool ma, .slice A n c] 56)).alloc (.cells #[.bool mb, .slice B k d] 56)).alloc (.cells #[.bool false, .slice none 0 0] 56)).alloc (.cells #[.bool false, .slice none 0 0] 56)) w.heap.size 56 #[.bool ma, .slice A n c] := (((Blk.new _ _ _).alloc _).alloc _).alloc _
  have Bb : Blk ((((w.alloc (.cells #[.bool ma, .slice A n c] 56)).alloc (.cells #[.bool mb, .slice B k d] 56)).alloc (.cells #[.bool false, .slice none 0 0] 56)).alloc (.cells #[.bool false, .slice none 0 0] 56)) (w.heap.size + 1) 56 #[.bool mb, .slice B k d] := ((Blk.new1 _ _ _ _).alloc _).alloc _
  have Bo : Blk ((((w.alloc (.cells #[.bool ma, .slice A n c] 56)).alloc (.cells #[.bool mb, .slice B k d] 56)).alloc (.cells #[.bool false, .slice none 0 0] 56)).alloc (.cells #[.bool false, .slice none 0 0] 56)) (w.heap.size + 2) 56 #[.bool false, .slice none 0 0] := (Blk.new2 _ _ _ _ _).alloc _
  have Bv : Blk ((((w.alloc (.cells #[.bool ma, .slice A n c] 56)).alloc (.cells #[.bool mb, .slice B k d] 56)).alloc (.cells #[.bool false, .slice none 0 0] 56)).alloc (.cells #[.bool false, .slice none 0 0] 56)) (w.heap.size + 3) 56 #[.bool false, .slice none 0 0] := by
    have h := Blk.new (((w.alloc (.cells #[.bool ma, .slice A n c] 56)).alloc (.cells #[.bool mb, .slice B k d] 56)).alloc (.cells #[.bool false, .slice none 0 0] 56)) 56 #[.bool false, .slice none 0 0]
    simpa only [World.size_alloc] using h
  have E0 : Ext w ((((w.alloc (.cells #[.bool ma, .slice A n c] 56)).alloc (.cells #[.bool mb, .slice B k d] 56)).alloc (.cells #[.bool false, .slice none 0 0] 56)).alloc (.cells #[.bool false, .slice none 0 0] 56)) := ((((Ext.refl _).alloc _).alloc _).alloc _).alloc _
  generalize ((((w.alloc (.cells #[.bool ma, .slice A n c] 56)).alloc (.cells #[.bool mb, .slice B k d] 56)).alloc (.cells #[.bool false, .slice none 0 0] 56)).alloc (.cells #[.bool false, .slice none 0 0] 56)) = wa at *
  generalize hga : w.heap.size = ga at *
  have HGA := hide hga
  clear hga
  go_loopw [6] (fun iv wr => ∃ i : Nat, i ≤ n ∧ iv = .int .i64 i ∧ MulRel w wr ga #[.bool ma, .slice A n c] #[.bool mb, .slice B k d] a b i) (fun iv _ => n - (intOf iv).toNat)
  case atStart => exact ⟨0, Nat.zero_le _, rfl, E0, Ba, Bb, Bo, none, 0, [], Bv, Rd.nil _ _ _, Nat.le_refl _, by simp [maxLen], by simp [val], by simp, by intro b off h; cases h⟩
  case round =>
    clear Ba Bb Bo Bv E0 wa
    obtain ⟨i, hi, rfl, E0, Ba, Bb, Bo, Ao, co, lo, Bv, Ro, ko1, ko2, hV, hLo, hne⟩ := hrel
    generalize wr = W0 at *
    have da := Ba.cell
    have za := Ba.lt
    have zv := Bv.lt
    by_cases hlt : i < n
    · have hltI : (i : Int) < (n : Int) := by omega
      obtain ⟨bk, off, u, rfl, hbk, hu, hc⟩ := (ha.ext E0).get hlt
      obtain ⟨dg, hd, rfl⟩ := bools_get hu
      have hgd : a.getD i false = dg := by rw [List.getD_eq_getElem?_getD, hd]; rfl
      have HV := hide hV
      have HGD := hide hgd
      clear hu hd hV hgd
      cases dg
      · have hstep := mul_step0 (unhide HV) (unhide HGD)
        have HS := hide hstep
        clear hstep
        go_wp2_with fail
        go_roundw
        case rel => exact ⟨i + 1, by omega, by go_num, E0, Ba, Bb, Bo, Ao, co, lo, Bv, Ro, ko1, ko2, unhide HS, by omega, hne⟩
        case measure => simp [intOf]; omega
      · obtain ⟨C, hC1, hC2, hmk⟩ := mkb i (by omega)
        have HC := hide (And.intro hC1 hC2)
        have HMK := hide hmk
        have HBB := hide hb
        have HAA := hide ha
        clear hC1 hC2 hmk hb ha
        go_wp2_with fail
        refine wp_region_linI (by kernel_rfl) (fun w' => (ExtX W0 w' [(ga + 3)]) ∧ (∃ A9 n9 c9, Blk w' (ga + 3) 56 #[.bool false, .slice A9 n9 c9])) (fun ii vv ww => match ii with | 0 => vv = .pointer (some ⟨(ga + 3), 1, none⟩) | 1 => vv = .slice Ao lo.length co | 2 => vv = .int .i64 i | 3 => ∃ g, W0.heap.size ≤ g ∧ vv = .slice (some ⟨g, 0, none⟩) i i ∧ Blk ww g 4 C | 4 => vv = .pointer (some ⟨(ga + 1), 1, none⟩) | 5 => vv = .slice B k d | 6 => ∃ A0 c0, vv = .slice A0 (i + k) c0 ∧ Rd ww 1 A0 (i + k) (bools (List.replicate i false ++ b)) | 7 => ∃ A0 c0 l0, vv = .slice A0 l0.length c0 ∧ Dig W0 ww A0 c0 l0 ∧ val l0 = val lo + val (List.replicate i false ++ b) ∧ l0.length ≤ i + k + 2 | 8 => vv = .pointer (some ⟨(ga + 3), 1, none⟩) | 9 => ∃ A0 c0 l0, Blk ww (ga + 3) 56 #[.bool false, .slice A0 l0.length c0] ∧ Dig W0 ww A0 c0 l0 ∧ val l0 = val lo + val (List.replicate i false ++ b) ∧ l0.length ≤ i + k + 2 | _ => True) (fun ii => match ii with | 1 => [(0, 20)] | 3 => [(2, 22)] | 5 => [(4, 24)] | 6 => [(3, 23), (5, 25)] | 7 => [(1, 21), (6, 26)] | 9 => [(8, 28), (7, 27)] | _ => []) (fun ii => match ii with | 0 => [5] | 2 => [6] | 4 => [3] | 8 => [5] | _ => []) (fun ii => match ii with | 0 => [2, 4, 3, 5, 6] | 1 => [2, 4, 3, 5, 6] | 2 => [0, 4, 5, 1] | 3 => [0, 4, 5, 1] | 4 => [0, 2, 3, 1] | 5 => [0, 2, 3, 1] | 6 => [0, 1] | 8 => [7] | _ => []) [9] [0, 1, 0, 4, 0, 16, 60, 127, 255, 511] (fun w0q => Blk w0q (ga + 3) 56 #[.bool false, .slice Ao lo.length co]) [9] 37 rfl (by kernel_rfl) (by kernel_rfl) (⟨ExtX.start _ _, _, _, _, Bv⟩) (Bv) ?_ ?_
        · rename_i hcont; clear hcont
          refine ⟨?_, ?_, ?_, ?_, ?_, ?_, ?_, ?_, ?_, ?_, trivial⟩
          · refine stepI_plain rfl ?_
            rintro F a w1 ⟨jE, jO⟩ - ⟨t5, -⟩ iO K hK
            have t5 : a.tmps[5]? = some (.pointer (some ⟨ga + 3, 0, none⟩)) := t5
            go_simp
            exact hK _ _ ⟨jE, jO⟩ rfl (fun _ _ _ h => h) (fun _ => iO)
          · refine stepI_plain rfl ?_
            rintro F a w1 ⟨jE, jO⟩ ⟨h0, t20, -⟩ - iO K hK
            have h0 : (F 0) = .pointer (some ⟨(ga + 3), 1, none⟩) := h0
            rw [h0] at t20
            clear h0
            have c0 := iO.cell
            go_simp
            exact hK _ _ ⟨jE, jO⟩ rfl (fun _ _ _ h => h) (fun _ => iO)
          · refine stepI_plain rfl ?_
            rintro F a w1 ⟨jE, jO⟩ - ⟨t6, -⟩ iO K hK
            have t6 : a.tmps[6]? = some (.int .i64 i) := t6
            go_simp
            exact hK _ _ ⟨jE, jO⟩ rfl (fun _ _ _ h => h) (fun _ => iO)
          · refine stepI_plain rfl ?_
            rintro F a w1 ⟨jE, jO⟩ ⟨h2, t22, -⟩ - iO K hK
            have h2 : (F 2) = .int .i64 i := h2
            rw [h2] at t22
            clear h2
            have hmk := unhide HMK w1
            go_simp
            have hx : Ext w1 (w1.alloc (.cells C 4)) := (Ext.refl _).alloc _
            exact hK _ _ ⟨jE.trans hx, jO.imp fun _ ⟨n9, c9, k⟩ => ⟨n9, c9, k.ext hx⟩⟩ ⟨_, jE.size, rfl, Blk.new _ _ _⟩ (by intro jq hj uq h; have hj : jq ∈ [0, 4, 5, 1] := hj; simp only [List.mem_cons, List.not_mem_nil, or_false] at hj; rcases hj with rfl | rfl | rfl | rfl; exact h; exact h; exact h; exact h) (fun _ => iO.ext hx)
          · refine stepI_plain rfl ?_
            rintro F a w1 ⟨jE, jO⟩ - ⟨t3, -⟩ iO K hK
            have t3 : a.tmps[3]? = some (.pointer (some ⟨ga + 1, 0, none⟩)) := t3
            go_simp
            exact hK _ _ ⟨jE, jO⟩ rfl (fun _ _ _ h => h) (fun _ => iO)
          · refine stepI_plain rfl ?_
            rintro F a w1 ⟨jE, jO⟩ ⟨h4, t24, -⟩ - iO K hK
            have h4 : (F 4) = .pointer (some ⟨(ga + 1), 1, none⟩) := h4
            rw [h4] at t24
            clear h4
            have c0 := (jE.blk Bb (by simp)).cell
            go_simp
            exact hK _ _ ⟨jE, jO⟩ rfl (fun _ _ _ h => h) (fun _ => iO)
          · refine stepI_plain rfl ?_
            rintro F a w1 ⟨jE, jO⟩ ⟨h3, t23, h5, t25, -⟩ - iO K hK
            have h3 : ∃ g, W0.heap.size ≤ g ∧ (F 3) = .slice (some ⟨g, 0, none⟩) i i ∧ Blk w1 g 4 C := h3
            have h5 : (F 5) = .slice B k d := h5
            rw [h5] at t25
            clear h5
            obtain ⟨g1, hg1, e1, k1⟩ := h3
            rw [e1] at t23
            refine wp_append_rd (.tmp 23) (.tmp 25) _ rfl W0.heap.size 4 i0 _ 1 1 Try.underlying54 (unhide HI).1 (unhide HI).2.1 (unhide HI).2.2.1 (unhide HI).2.2.2 rfl (by omega) _ i (bools (List.replicate i false)) (eval_tmp t23) (by have h := k1.own (base := W0.heap.size) (n := i) hg1 (unhide HC).2 (by simp only [maxLen]; omega); rwa [(unhide HC).1] at h) B k d (bools b) (eval_tmp t25) ((unhide HBB).ext (jE.ext E0 (by have := unhide HGA; simp; omega))) (one_bools b) (by simp only [maxLen]; omega) (by omega) jE.size ?_
            intro A' c' w2 own4 g4 at4
            exact hK _ _ ⟨jE.grown g4 (fun m e => by have e : g1 = m := Option.some.inj e; omega), jO.imp fun _ ⟨n9, c9, k⟩ => ⟨n9, c9, k.keep g4 (fun e => by have e := Option.some.inj e; simp at e; omega)⟩⟩ ⟨A', c', rfl, by rw [bools_append]; exact Rd.of_own own4⟩ (by intro jq hj uq h; have hj : jq ∈ [0, 1] := hj; simp only [List.mem_cons, List.not_mem_nil, or_false] at hj; rcases hj with rfl | rfl; exact h; exact h) (fun _ => iO.keep g4 (fun e => by have e := Option.some.inj e; simp at e; omega))
          · refine stepI_plain rfl ?_
            rintro F a w1 ⟨jE, jO⟩ ⟨h1, t21, h6, t26, -⟩ - iO K hK
            have h1 : (F 1) = .slice Ao lo.length co := h1
            rw [h1] at t21
            clear h1
            have h6 : ∃ A0 c0, (F 6) = .slice A0 (i + k) c0 ∧ Rd w1 1 A0 (i + k) (bools (List.replicate i false ++ b)) := h6
            obtain ⟨A6, c6, e6, k6⟩ := h6
            rw [e6] at t26
            go_simp
            with_reducible refine (plus_any Ao A6 lo.length co (i + k) c6 lo (List.replicate i false ++ b) _ (jE.rd Ro (by intro b off e; have := hne b off e; simp; omega)) k6 (by have := (unhide HL).2; omega) (by omega)).mono ?_
            rintro e w2 ⟨A0, c0, l0, rfl, hR0, q1, q2, ⟨q3, q4⟩, hx, hfr⟩
            exact hK _ _ ⟨jE.trans hx, jO.imp fun _ ⟨n9, c9, k⟩ => ⟨n9, c9, k.ext hx⟩⟩ ⟨A0, c0, l0, rfl, ⟨hR0, q1, q2, fun b off e => Nat.le_trans jE.size (hfr b off e)⟩, q3, by rw [q4]; simp; have := (unhide HL).2; omega⟩ (fun _ hj _ _ => (List.not_mem_nil hj).elim) (fun _ => iO.ext hx)
          · refine stepI_plain rfl ?_
            rintro F a w1 ⟨jE, jO⟩ - ⟨t5, -⟩ iO K hK
            have t5 : a.tmps[5]? = some (.pointer (some ⟨ga + 3, 0, none⟩)) := t5
            go_simp
            exact hK _ _ ⟨jE, jO⟩ rfl (fun _ _ _ h => h) (fun _ => iO)
          · refine stepI_plain rfl ?_
            rintro F a w1 ⟨jE, jO⟩ ⟨h8, t28, h7, t27, -⟩ - iO K hK
            have h8 : (F 8) = .pointer (some ⟨(ga + 3), 1, none⟩) := h8
            rw [h8] at t28
            clear h8
            have h7 : ∃ A0 c0 l0, (F 7) = .slice A0 l0.length c0 ∧ Dig W0 w1 A0 c0 l0 ∧ val l0 = val lo + val (List.replicate i false ++ b) ∧ l0.length ≤ i + k + 2 := h7
            obtain ⟨A1, c1, l1, e0, hD, hZ⟩ := h7
            rw [e0] at t27
            obtain ⟨A9, n9, c9, k⟩ := jO
            have c := k.cell
            have f := k.frozen
            clear iO
            go_simp
            exact hK undef _ ⟨jE.set (by simp) _, ⟨_, _, _, k.set_ 1 _⟩⟩ ⟨A1, c1, l1, k.set_ 1 _, hD.set (by simp; omega) _, hZ⟩ (fun _ hj _ _ => (List.not_mem_nil hj).elim) (fun h => (h (by simp)).elim)
        · rintro F W9 ⟨jE, jO⟩ ⟨h9, -⟩
          have h9 : ∃ A0 c0 l0, Blk W9 (ga + 3) 56 #[.bool false, .slice A0 l0.length c0] ∧ Dig W0 W9 A0 c0 l0 ∧ val l0 = val lo + val (List.replicate i false ++ b) ∧ l0.length ≤ i + k + 2 := h9
          obtain ⟨A0, c0, l0, B1, hD, q1, q2⟩ := h9
          simp only [putL, Act.put, Nat.reduceAdd, Nat.zero_add, List.setIfInBounds_toArray, List.set_cons_succ, List.set_cons_zero]
          have hx : Ext w W9 := jE.ext E0 (by have := unhide HGA; simp; omega)
          replace Ba := jE.blk Ba (by simp)
          replace Bb := jE.blk Bb (by simp)
          replace Bo := jE.blk Bo (by simp)
          have hst := mul_step1 (unhide HV) (unhide HGD) q1
          have HS := hide hst
          clear jE jO q1 hst da
          go_wp2_with fail
          go_roundw
          case rel => exact ⟨i + 1, by omega, by go_num, hx, Ba, Bb, Bo, A0, c0, l0, B1, hD.rd, hD.le, hD.mx, unhide HS, by have := (unhide HL).2; omega, fun b off e => by have := hD.fr b off e; omega⟩
          case measure => simp [intOf]; omega
    · obtain rfl : i = n := by omega
      have hS : a.take i = a := List.take_of_length_le (by have := (unhide HL).1; omega)
      rw [hS] at hV
      have hzm := zp_mul (ma := ma) (mb := mb) hV
      obtain ⟨sg, hsg⟩ : ∃ s, (!(ma == mb)) = s := ⟨_, rfl⟩
      have hsg2 : (ma != mb) = sg := hsg
      rw [hsg2] at hzm
      have HZ := hide hzm
      have db := Bb.cell
      have zb := Bb.lt
      have dv := Bv.cell
      have fv := Bv.frozen
      clear hS hV hzm ha hb hsg2
      go_wp2_with fail
      obtain ⟨W1, hW1⟩ : ∃ W1, W1 = W0.setCell ⟨ga + 3, 0, none⟩ (.bool sg) := ⟨_, rfl⟩
      clear hsg
      rw [← hW1]
      have Bo1 : Blk W1 (ga + 2) 56 #[.bool false, .slice none 0 0] := by rw [hW1]; exact Bo.far (by simp) _
      have E1 : Ext w W1 := by rw [hW1]; exact E0.set (by have := unhide HGA; simp; omega) _
      have R1 : Rd W1 1 Ao lo.length (bools lo) := by
        rw [hW1]
        exact Ro.grown (row := some (ga + 3)) ⟨rfl, rfl, rfl, by simp [World.setCell], fun j hj hn => Below.heap_setCell W0 _ _ j (fun e => hn (congrArg some e))⟩ (fun b off e h2 => by have := hne b off e; injection h2 with h2; omega)
      clear hW1 Ba Bb Bv Bo Ro da za zv db zb dv fv E0
      refine (short_any sg Ao lo.length co lo W1 R1 (by have := (unhide HL).2; omega) ko1 ko2).mono ?_
      rintro e W2 ⟨m0, c1, l1, rfl, hR1, q1, q2, hS, hx⟩
      have Bo2 := Bo1.ext hx
      have E2 := E1.trans hx
      have d2 := Bo2.cell
      have f2 := Bo2.frozen
      have z2 := Bo2.lt
      clear Bo1 E1 hx R1
      go_wp2_with fail
      refine bodyPost_ret (results_cell1 rfl _ _ (ga + 2) 56 _ _ rfl ((Bo2.set_ 0 _).set_ 1 _) Try.underlying56 rfl (by kernel_rfl)) rfl ?_
      refine ⟨m0, Ao, c1, l1, rfl, ⟨?_, q1, q2, fun b off e => by have := hne b off e; have := unhide HGA; omega⟩, zp_of hS (by have := (unhide HL).2; omega) (unhide HZ), (E2.set (by have := unhide HGA; simp; omega) _).set (by have := unhide HGA; simp; omega) _⟩
      have hg : ∀ (W : World) (R : Rd W 1 Ao l1.length (bools l1)) (j : Nat) (v : Value), Rd (W.setCell ⟨ga + 2, j, none⟩ v) 1 Ao l1.length (bools l1) := fun W R j v =>
        R.grown (row := some (ga + 2)) ⟨rfl, rfl, rfl, by simp [World.setCell], fun j' hj hn => Below.heap_setCell W _ _ j' (fun e => hn (congrArg some e))⟩ (fun b off e h2 => by have := hne b off e; injection h2 with h2; omega)
      exact hg _ (hg _ hR1 0 _) 1 _
end Go.Proofs.Ytahneblnbafpoaa
