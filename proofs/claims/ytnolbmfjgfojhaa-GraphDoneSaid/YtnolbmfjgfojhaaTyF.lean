/- Trees: a tree of parents and kinds (walk). -/
import Derived.Test.YtnolbmfjgfojhaaWkA
import Derived.Test.YtnolbmfjgfojhaaLinN
import Derived.Test.YtnolbmfjgfojhaaTyA
namespace Go.Proofs.Ytnolbmfjgfojhaa
open Go.RowKit
def u8v (ks : List Int) : List Value := ks.map (Value.int .u8)
theorem u8v_get {ks : List Int} {i : Nat} (h : i < ks.length) : (u8v ks)[i]? = some (.int .u8 ks[i]) := by simp [u8v, h]
def rowN (ps ks : List Int) : List Nd := (ps.zip ks).map (fun x => ndK x.1 x.2)
theorem node_all : ∃ i, Try.prog.info? 47 = some i ∧ i.zero = some (.agg znd.cells.toArray) ∧ i.size = 44 ∧ i.bytes = 328 := by
  have h : (Try.prog.info? 47).map (fun i => (i.zero, i.size, i.bytes)) = some (some (.agg znd.cells.toArray), 44, 328) := by kernel_rfl
  cases hq : Try.prog.info? 47 with
  | none => rw [hq] at h; cases h
  | some i =>
    rw [hq, Option.map_some] at h
    injection h with h
    injection h with h1 h
    injection h with h2 h3
    exact ⟨i, rfl, h1, h2, h3⟩
theorem fill_one (n : Nd) : Instr.fill (fun i => some (i * 44, 44)) ((Array.range (1 * 44)).map (znd.cells.toArray[· % 44]!)) [(0, .agg n.cells.toArray)] = some (nds [n]).toArray := by
  kernel_rfl
theorem node_one (n : Nd) : ∀ u ∈ nds [n], u.oneCell' = true := by
  have h : (nds [n]).all (·.oneCell') = true := by kernel_rfl
  exact fun u hu => List.all_eq_true.1 h u hu
theorem own_far {w w' : World} {base e k : Nat} {u : Value} {m : Nat} {zs : List Value} (h : w.ownsRow base e k u m zs) (hx : Ext w w') : w'.ownsRow base e k u m zs :=
  h.kept (row := none) ⟨hx.os, hx.tape, hx.output, hx.size, fun i hi _ => hx.block i hi⟩ (by
    cases hu : u.ownBlock with
    | none => exact .inl rfl
    | some b => exact .inr (by simp))
theorem own_set {w : World} {B E k n g i : Nat} {A : Option Addr} {c : Nat} {xs : List Value} (h : w.ownsRow B E k (.slice A n c) n xs) (hg : g < B) (v : Value) : (w.setCell ⟨g, i, none⟩ v).ownsRow B E k (.slice A n c) n xs := by
  refine h.kept (grown_cell _) ?_
  cases e : Value.ownBlock (.slice A n c) with
  | none => exact .inl rfl
  | some b => exact .inr (fun e2 => by have := (h.lt b e).1; have e2 := Option.some.inj e2; omega)
theorem rowN_snoc {ps ks : List Int} {i : Nat} (h1 : i < ps.length) (h2 : i < ks.length) : rowN (ps.take (i + 1)) (ks.take (i + 1)) = rowN (ps.take i) (ks.take i) ++ [ndK ps[i] ks[i]] := by
  unfold rowN
  rw [List.take_succ_eq_append_getElem h1, List.take_succ_eq_append_getElem h2, List.zip_append (by simp; omega), List.map_append]
  rfl
theorem rowN_len (ps ks : List Int) : (rowN ps ks).length = min ps.length ks.length := by simp [rowN]
set_option maxRecDepth 100000 in
set_option maxHeartbeats 16000000 in
theorem row_any (Ap Ak : Option Addr) (n cp ck : Nat) (ps ks : List Int) (w : World) (hP : Rd w 1 Ap n (ints ps)) (hK : Rd w 1 Ak n (u8v ks)) (hn : n ≤ 100000) :
    Calls Try.prog 51 #[.slice Ap n cp, .slice Ak n ck] w fun e w' => ∃ A c, e = .returned (.agg (Tr.cs ⟨A, n, c, none, 0, 0, 0⟩)) ∧ Rd w' 44 A n (nds (rowN ps ks)) ∧ Ext w w' := by
  have hpl : ps.length = n := by have := hP.len; rw [ints_len] at this; omega
  have hkl : ks.length = n := by have := hK.len; simp [u8v] at this; omega
  have HPL := hide hpl
  have HKL := hide hkl
  clear hpl hkl
  go_enter Try.func51, Try.ntmps51
  go_upto_region 0 with fail
  go_step
  refine wpList_alloc_var rfl 25 rfl #[.slice none 0 0, .slice none 0 0, .int .i64 0] zero_tr ?_
  intro w0 B0 E0 z0
  simp only [Act.put, List.setIfInBounds_toArray, List.set_cons_succ, List.set_cons_zero]
  generalize hg : w.heap.size = g at *
  go_upto_region 1 with fail
  go_step
  refine wpList_alloc_var rfl 25 rfl #[.slice none 0 0, .slice none 0 0, .int .i64 0] zero_tr ?_
  intro w1 B1 E1 z1
  simp only [Act.put, List.setIfInBounds_toArray, List.set_cons_succ, List.set_cons_zero]
  have hg1 : w0.heap.size = g + 1 := by omega
  rw [hg1] at B1 ⊢
  replace B0 := B0.ext E1
  replace E0 := E0.trans E1
  have HG := hide hg
  clear E1 z1 hg1 z0 hg
  clear w0
  go_wp2_with fail
  obtain ⟨i0, hi0, hz0, hz1, hz2⟩ := node_all
  have HI := hide (And.intro hi0 (And.intro hz0 (And.intro hz1 hz2)))
  clear hi0 hz0 hz1 hz2
  go_loopw [6] (fun v wr => ∃ (i : Nat) (A : Option Addr) (c : Nat), v = .int .i64 i ∧ i ≤ n ∧ Ext w wr ∧ Blk wr g 25 #[.slice none 0 0, .slice none 0 0, .int .i64 0] ∧ Blk wr (g + 1) 25 #[.slice A i c, .slice none 0 0, .int .i64 0] ∧ wr.ownsRow (g + 2) 47 44 (.slice A i c) i (nds (rowN (ps.take i) (ks.take i)))) (fun v _ => n - (intOf v).toNat)
  case atStart => exact ⟨0, none, 0, rfl, by omega, E0, B0, B1, ⟨by simp [rowN, nds], .inl ⟨rfl, rfl⟩⟩⟩
  case round =>
    clear E0 B0 B1
    obtain ⟨m, A, c, rfl, q1, E0, B0, BV, OW⟩ := hrel
    by_cases hm : m < n
    · have hmp : m < ps.length := by rw [unhide HPL]; exact hm
      have hmk : m < ks.length := by rw [unhide HKL]; exact hm
      have HSN := hide (rowN_snoc hmp hmk)
      obtain ⟨bp, op, up, rfl, hbp, hup, hcp⟩ := (hP.ext E0).get hm
      obtain ⟨bk, ok, uk, rfl, hbk, huk, hck⟩ := (hK.ext E0).get hm
      rw [ints_get hmp] at hup
      rw [u8v_get hmk] at huk
      obtain rfl : _ = up := Option.some.inj hup
      obtain rfl : _ = uk := Option.some.inj huk
      have hmI : (0 : Int) ≤ (m : Int) ∧ (m : Int) < (n : Int) := by omega
      generalize ps[m] = p at *
      generalize ks[m] = kd at *
      clear hup huk
      go_upto_region 5 with fail
      refine wp_region_linV (by kernel_rfl) (fun w' => (True)) (fun ii vv ww => match ii with | 0 => vv = .pointer (some ⟨(g + 1), 0, none⟩) | 1 => vv = .slice A m c | 2 => vv = .slice (some ⟨bp, op, none⟩) n cp | 3 => vv = .int .i64 (m : Int) | 4 => vv = .pointer (some ⟨bp, op + m, none⟩) | 5 => vv = .int .i64 p | 6 => vv = .slice (some ⟨bk, ok, none⟩) n ck | 7 => vv = .int .i64 (m : Int) | 8 => vv = .pointer (some ⟨bk, ok + m, none⟩) | 9 => vv = .int .u8 kd | 10 => vv = .agg (stK kd).cells | 11 => vv = .agg (ndK p kd).cells.toArray | 12 => ∃ gq, vv = .slice (some ⟨gq, 0, none⟩) 1 1 ∧ Rd ww 44 (some ⟨gq, 0, none⟩) 1 (nds [ndK p kd]) | 13 => ∃ A' c', vv = .slice A' (m + 1) c' ∧ Ext w ww ∧ Blk ww g 25 #[.slice none 0 0, .slice none 0 0, .int .i64 0] ∧ Blk ww (g + 1) 25 #[.slice A m c, .slice none 0 0, .int .i64 0] ∧ ww.ownsRow (g + 2) 47 44 (.slice A' (m + 1) c') (m + 1) (nds (rowN (ps.take m) (ks.take m)) ++ nds [ndK p kd]) | 14 => vv = .pointer (some ⟨(g + 1), 0, none⟩) | _ => True) (fun ii => match ii with | 1 => [(0, 13)] | 4 => [(2, 15), (3, 16)] | 5 => [(4, 17)] | 8 => [(6, 19), (7, 20)] | 9 => [(8, 21)] | 10 => [(9, 22)] | 11 => [(5, 18), (10, 23)] | 12 => [(11, 24)] | 13 => [(1, 14), (12, 25)] | 15 => [(14, 27), (13, 26)] | _ => []) (fun ii => match ii with | 0 => [5] | 2 => [0] | 3 => [6] | 6 => [1] | 7 => [6] | 14 => [5] | _ => []) (fun ii => match ii with | 0 => [2, 3, 4, 6, 7, 8, 9, 5, 10, 11, 12] | 1 => [2, 3, 4, 6, 7, 8, 9, 5, 10, 11, 12] | 2 => [0, 3, 6, 7, 8, 9, 10, 1] | 3 => [0, 2, 6, 7, 8, 9, 10, 1] | 4 => [0, 6, 7, 8, 9, 10, 1] | 5 => [0, 6, 7, 8, 9, 10, 1] | 6 => [0, 2, 3, 4, 7, 5, 1] | 7 => [0, 2, 3, 4, 6, 5, 1] | 8 => [0, 2, 3, 4, 5, 1] | 9 => [0, 2, 3, 4, 5, 1] | 10 => [0, 2, 3, 4, 5, 1] | 11 => [0, 1] | 12 => [0, 1] | 14 => [13] | _ => []) [] [0, 1, 0, 0, 12, 28, 0, 0, 192, 448, 960, 2044, 4092, 8191, 16383, 32767] (fun w0q => Ext wr w0q) [13, 15] [14, 15] (fun FT wT => ∃ A' c', Ext w wT ∧ Blk wT g 25 #[.slice none 0 0, .slice none 0 0, .int .i64 0] ∧ Blk wT (g + 1) 25 #[.slice A' (m + 1) c', .slice none 0 0, .int .i64 0] ∧ wT.ownsRow (g + 2) 47 44 (.slice A' (m + 1) c') (m + 1) (nds (rowN (ps.take m) (ks.take m)) ++ nds [ndK p kd])) 15 29 rfl (by kernel_rfl) (by kernel_rfl) (.inl (by kernel_rfl)) (trivial) ((Ext.refl _).drew) ?_ ?_
      · rename_i hcont; clear hcont
        refine ⟨?_, ?_, ?_, ?_, ?_, ?_, ?_, ?_, ?_, ?_, ?_, ?_, ?_, ?_, ?_, ?_, trivial⟩
        · refine stepV_plain rfl ?_
          rintro F a w1 jE - ⟨t5, -⟩ iO K hK
          replace iO := iO (by decide)
          have t5 : a.tmps[5]? = some (.pointer (some ⟨(g + 1), 0, none⟩)) := t5
          go_simp
          exact hK _ _ jE rfl (fun _ _ _ h => h) (fun _ h => h) (fun he => absurd he (by decide))
        · refine stepV_plain rfl ?_
          rintro F a w1 jE ⟨h0, t13, -⟩ - iO K hK
          replace iO := iO (by decide)
          have h0 : (F 0) = .pointer (some ⟨(g + 1), 0, none⟩) := h0
          rw [h0] at t13
          clear h0
          have c := (BV.ext iO).cell
          go_simp
          exact hK _ _ jE rfl (fun _ _ _ h => h) (fun _ h => h) (fun he => absurd he (by decide))
        · refine stepV_plain rfl ?_
          rintro F a w1 jE - ⟨t0, -⟩ iO K hK
          replace iO := iO (by decide)
          have t0 : a.tmps[0]? = some (.slice (some ⟨bp, op, none⟩) n cp) := t0
          go_simp
          exact hK _ _ jE rfl (fun _ _ _ h => h) (fun _ h => h) (fun he => absurd he (by decide))
        · refine stepV_plain rfl ?_
          rintro F a w1 jE - ⟨t6, -⟩ iO K hK
          replace iO := iO (by decide)
          have t6 : a.tmps[6]? = some (.int .i64 (m : Int)) := t6
          go_simp
          exact hK _ _ jE rfl (fun _ _ _ h => h) (fun _ h => h) (fun he => absurd he (by decide))
        · refine stepV_plain rfl ?_
          rintro F a w1 jE ⟨h2, t15, h3, t16, -⟩ - iO K hK
          replace iO := iO (by decide)
          have h2 : (F 2) = .slice (some ⟨bp, op, none⟩) n cp := h2
          rw [h2] at t15
          clear h2
          have h3 : (F 3) = .int .i64 (m : Int) := h3
          rw [h3] at t16
          clear h3
          go_simp
          exact hK _ _ jE rfl (fun _ _ _ h => h) (fun _ h => h) (fun he => absurd he (by decide))
        · refine stepV_plain rfl ?_
          rintro F a w1 jE ⟨h4, t17, -⟩ - iO K hK
          replace iO := iO (by decide)
          have h4 : (F 4) = .pointer (some ⟨bp, op + m, none⟩) := h4
          rw [h4] at t17
          clear h4
          have c := (iO.cells.1 bp _ hbp).trans hcp
          go_simp
          exact hK _ _ jE rfl (fun _ _ _ h => h) (fun _ h => h) (fun he => absurd he (by decide))
        · refine stepV_plain rfl ?_
          rintro F a w1 jE - ⟨t1, -⟩ iO K hK
          replace iO := iO (by decide)
          have t1 : a.tmps[1]? = some (.slice (some ⟨bk, ok, none⟩) n ck) := t1
          go_simp
          exact hK _ _ jE rfl (fun _ _ _ h => h) (fun _ h => h) (fun he => absurd he (by decide))
        · refine stepV_plain rfl ?_
          rintro F a w1 jE - ⟨t6, -⟩ iO K hK
          replace iO := iO (by decide)
          have t6 : a.tmps[6]? = some (.int .i64 (m : Int)) := t6
          go_simp
          exact hK _ _ jE rfl (fun _ _ _ h => h) (fun _ h => h) (fun he => absurd he (by decide))
        · refine stepV_plain rfl ?_
          rintro F a w1 jE ⟨h6, t19, h7, t20, -⟩ - iO K hK
          replace iO := iO (by decide)
          have h6 : (F 6) = .slice (some ⟨bk, ok, none⟩) n ck := h6
          rw [h6] at t19
          clear h6
          have h7 : (F 7) = .int .i64 (m : Int) := h7
          rw [h7] at t20
          clear h7
          go_simp
          exact hK _ _ jE rfl (fun _ _ _ h => h) (fun _ h => h) (fun he => absurd he (by decide))
        · refine stepV_plain rfl ?_
          rintro F a w1 jE ⟨h8, t21, -⟩ - iO K hK
          replace iO := iO (by decide)
          have h8 : (F 8) = .pointer (some ⟨bk, ok + m, none⟩) := h8
          rw [h8] at t21
          clear h8
          have c := (iO.cells.1 bk _ hbk).trans hck
          go_simp
          exact hK _ _ jE rfl (fun _ _ _ h => h) (fun _ h => h) (fun he => absurd he (by decide))
        · refine stepV_plain rfl ?_
          rintro F a w1 jE ⟨h9, t22, -⟩ - iO K hK
          replace iO := iO (by decide)
          have h9 : (F 9) = .int .u8 kd := h9
          rw [h9] at t22
          clear h9
          refine wp_buildTo 45 _ rfl (stK kd).cells (by simp only [List.map_toArray, List.map_cons, List.map_nil]; rw [eval_tmp t22]; kernel_rfl) ?_
          exact hK _ _ jE rfl (fun _ _ _ h => h) (fun _ h => h) (fun he => absurd he (by decide))
        · refine stepV_plain rfl ?_
          rintro F a w1 jE ⟨h5, t18, h10, t23, -⟩ - iO K hK
          replace iO := iO (by decide)
          have h5 : (F 5) = .int .i64 p := h5
          rw [h5] at t18
          clear h5
          have h10 : (F 10) = .agg (stK kd).cells := h10
          rw [h10] at t23
          clear h10
          refine wp_buildTo 47 _ rfl (ndK p kd).cells.toArray (by simp only [List.map_toArray, List.map_cons, List.map_nil]; rw [eval_tmp t18, eval_tmp t23]; kernel_rfl) ?_
          exact hK _ _ jE rfl (fun _ _ _ h => h) (fun _ h => h) (fun he => absurd he (by decide))
        · refine stepV_plain rfl ?_
          rintro F a w1 jE ⟨h11, t24, -⟩ - iO K hK
          replace iO := iO (by decide)
          have h11 : (F 11) = .agg (ndK p kd).cells.toArray := h11
          rw [h11] at t24
          clear h11
          refine wp_buildSlice 22 47 1 _ rfl (nds [ndK p kd]).toArray i0 _ Try.underlying22 (unhide HI).1 (unhide HI).2.1 (by rw [(unhide HI).2.2.1]; omega) (by rw [(unhide HI).2.2.1]; omega) (by rw [(unhide HI).2.2.1]; simp only [List.map_toArray, List.map_cons, List.map_nil]; rw [eval_tmp t24]; exact fill_one _) ?_
          have hx : Ext w1 (w1.alloc (.cells (nds [ndK p kd]).toArray 47)) := (Ext.refl _).alloc _
          exact hK _ _ jE ⟨_, rfl, by have := (Blk.new w1 47 (nds [ndK p kd]).toArray).rdk (n := 1) (k := 44) (by rw [List.size_toArray, nds_len]; rfl); simpa using this⟩ (by intro jq hj uq h; have hj : jq ∈ [0, 1] := hj; simp only [List.mem_cons, List.not_mem_nil, or_false] at hj; rcases hj with rfl | rfl; exact h; exact h) (fun _ _ => iO.trans hx) (fun he => absurd he (by decide))
        · refine stepV_plain rfl ?_
          rintro F a w1 jE ⟨h1, t14, h12, t25, -⟩ - iO K hK
          replace iO := iO (by decide)
          have h1 : (F 1) = .slice A m c := h1
          rw [h1] at t14
          clear h1
          have h12 : ∃ gq, (F 12) = .slice (some ⟨gq, 0, none⟩) 1 1 ∧ Rd w1 44 (some ⟨gq, 0, none⟩) 1 (nds [ndK p kd]) := h12
          obtain ⟨gq, e12, r12⟩ := h12
          rw [e12] at t25
          have OO := own_far OW iO
          have BB0 := B0.ext iO
          have BB1 := BV.ext iO
          have EE := E0.trans iO
          refine wp_append_rd (.tmp 14) (.tmp 25) _ rfl (g + 2) 47 i0 _ 44 328 Try.underlying22 (unhide HI).1 (unhide HI).2.1 (unhide HI).2.2.1 (unhide HI).2.2.2 rfl (by omega) _ m (nds (rowN (ps.take m) (ks.take m))) (eval_tmp t14) OO _ 1 1 (nds [ndK p kd]) (eval_tmp t25) r12 (node_one _) (by simp only [maxLen]; omega) (by omega) (by have := BB1.lt; omega) ?_
          intro A' c' w2 own4 g4 at4
          have hr : ∀ q, Value.ownBlock (.slice A m c) = some q → g + 2 ≤ q := fun q e => (OO.lt q e).1
          exact hK _ _ jE ⟨A', c', rfl, EE.grown g4 (fun q e => by have := hr q e; have := unhide HG; omega), BB0.grown g4 (fun e => by have := hr _ e; omega), BB1.grown g4 (fun e => by have := hr _ e; omega), own4⟩ (fun _ hj _ _ => (List.not_mem_nil hj).elim) (fun h => (h (by simp)).elim) (fun he => absurd he (by decide))
        · refine stepV_plain rfl ?_
          rintro F a w1 jE - ⟨t5, -⟩ iO K hK
          clear iO
          have t5 : a.tmps[5]? = some (.pointer (some ⟨(g + 1), 0, none⟩)) := t5
          go_simp
          exact hK _ _ jE rfl (fun _ _ _ h => h) (fun _ h => h) (fun he => absurd he (by decide))
        · refine stepV_plain rfl ?_
          rintro F a w1 jE ⟨h14, t27, h13, t26, -⟩ - iO K hK
          clear iO
          have h14 : (F 14) = .pointer (some ⟨(g + 1), 0, none⟩) := h14
          rw [h14] at t27
          clear h14
          have h13 : ∃ A' c', (F 13) = .slice A' (m + 1) c' ∧ Ext w w1 ∧ Blk w1 g 25 #[.slice none 0 0, .slice none 0 0, .int .i64 0] ∧ Blk w1 (g + 1) 25 #[.slice A m c, .slice none 0 0, .int .i64 0] ∧ w1.ownsRow (g + 2) 47 44 (.slice A' (m + 1) c') (m + 1) (nds (rowN (ps.take m) (ks.take m)) ++ nds [ndK p kd]) := h13
          obtain ⟨A', c', e13, E13, B013, B113, O13⟩ := h13
          rw [e13] at t26
          have c := B113.cell
          have f := B113.frozen
          have l1 := B113.lt
          go_simp
          exact hK undef _ jE trivial (fun _ hj _ _ => (List.not_mem_nil hj).elim) (fun h => (h (by simp)).elim) (fun _ => ⟨A', c', E13.set (by have := unhide HG; simp; omega) _, B013.far (by simp) _, by have := B113.set_ 0 (.slice A' (m + 1) c'); simpa using this, own_set O13 (by omega) _⟩)
      · rintro F w9 jE - hT
        have hT := hT (by decide)
        obtain ⟨A', c', E5, B05, B15, O5⟩ := hT
        simp only [putL, Act.put, Nat.reduceAdd, Nat.zero_add, List.setIfInBounds_toArray, List.set_cons_succ, List.set_cons_zero]
        have c1 := B15.lt
        rw [← nds_append, ← unhide HSN] at O5
        clear E0 B0 BV OW jE hcp hck hbp hbk HSN
        go_wp2_with fail
        go_roundw
        case rel => exact ⟨m + 1, A', c', by go_num, by omega, E5, B05, B15, O5⟩
        case measure => simp [intOf]; omega
    · have hmn : m = n := by omega
      have HMN := hide hmn
      have hmI : ¬ (m : Int) < (n : Int) := by omega
      have HO := hide (show rowN (ps.take m) (ks.take m) = rowN ps ks by rw [List.take_of_length_le (by rw [unhide HPL]; omega), List.take_of_length_le (by rw [unhide HKL]; omega)])
      rw [unhide HO] at OW
      clear hmn
      go_upto_region 6 with fail
      go_step
      refine wpList_load_blk rfl 25 _ rfl (g + 1) rfl 25 #[.slice A m c, .slice none 0 0, .int .i64 0] _ BV Try.underlying25 rfl (by kernel_rfl) ?_
      simp only [Act.put, List.setIfInBounds_toArray, List.set_cons_succ, List.set_cons_zero]
      refine wpList_store_blk rfl 25 _ _ rfl g rfl #[.slice A m c, .slice none 0 0, .int .i64 0] rfl 25 #[.slice none 0 0, .slice none 0 0, .int .i64 0] B0 (by kernel_rfl) rfl (by kernel_rfl) ?_
      intro w4 B4 hgr z4
      simp only [Act.put]
      have E4 : Ext w w4 := Ext.grown E0 hgr (fun q e => by injection e with e; have := unhide HG; omega)
      have O4 : w4.ownsRow (g + 2) 47 44 (.slice A m c) m (nds (rowN ps ks)) := OW.kept hgr (by
        cases e : Value.ownBlock (.slice A m c) with
        | none => exact .inl rfl
        | some b => exact .inr (fun e2 => by have := (OW.lt b e).1; have e2 := Option.some.inj e2; omega))
      clear hgr z4 OW BV B0 E0
      go_wp2_with fail
      refine bodyPost_ret (results_cell Try.results51 _ w4 g 25 #[.slice A m c, .slice none 0 0, .int .i64 0] _ rfl B4 Try.underlying25 rfl (by kernel_rfl)) rfl ?_
      have hmn := unhide HMN
      exact ⟨A, ⟨c, by rw [hmn]⟩, by have := Rd.of_own O4; rwa [hmn] at this, E4⟩
end Go.Proofs.Ytnolbmfjgfojhaa
