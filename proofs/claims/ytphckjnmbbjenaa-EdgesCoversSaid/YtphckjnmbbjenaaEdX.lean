/- Layer 2: the reference's sums of sides, across and down (walk). -/
import Derived.Test.YtphckjnmbbjenaaEdA
import Derived.Test.YtphckjnmbbjenaaLinG
import Derived.Test.YtphckjnmbbjenaaBigG
namespace Go.Proofs.Ytphckjnmbbjenaa
open Go.RowKit

/-- what the loop of the sums across and down has come to -/
structure Across2Rel (w : World) (l : List Rc) (k : Nat) (v u : Value) (wr : World) : Prop where
  ext : Ext w wr
  o5 : ∃ A c, v = .slice A (2 * k) c ∧ wr.ownsRow w.heap.size 2 1 (.slice A (2 * k) c) (2 * k) (ints (wideL (l.take k)))
  o6 : ∃ A c, u = .slice A (2 * k) c ∧ wr.ownsRow w.heap.size 2 1 (.slice A (2 * k) c) (2 * k) (ints (highL (l.take k)))
  ne : ∀ g, v.ownBlock = some g → u.ownBlock ≠ some g
theorem ownBlock_ne {u v : Value} (h : ∀ g, v.ownBlock = some g → u.ownBlock ≠ some g) : v.ownBlock = none ∨ ¬ u.ownBlock = v.ownBlock := by
  cases hv : v.ownBlock with
  | none => exact .inl rfl
  | some g => exact .inr (h g hv)

set_option maxRecDepth 100000 in
set_option maxHeartbeats 8000000 in
theorem refacross_any (A : Option Addr) (n c : Nat) (l : List Rc) (w : World) (hr : Rd w 4 A n (rcs l)) (hok : ∀ r ∈ l, r.Ok) (hn : n ≤ 400) :
    Calls Try.prog 14 #[.slice A n c] w fun e w' => e = .returned (.tuple #[.int .i64 (cutV (lsum (wideL l))), .int .i64 (cutV (lsum (highL l))), .bool (cutB (lsum (wideL l)) || cutB (lsum (highL l)))]) ∧ Ext w w' := by
  obtain ⟨i0, hi0, hz0, hz1, hz2⟩ := info_parts i64_info
  have HI := hide (And.intro hi0 (And.intro hz0 (And.intro hz1 hz2)))
  have hl : l.length = n := by have := hr.len; rw [rcs_len] at this; omega
  have HL := hide hl
  clear hl hi0 hz0 hz1 hz2
  go_enter Try.func14, Try.ntmps14
  go_wp2_with fail
  go_loopw [5, 6, 7] (fun v u i wr => ∃ k : Nat, k ≤ n ∧ i = .int .i64 k ∧ Across2Rel w l k v u wr) (fun _ _ i _ => n - (intOf i).toNat)
  case atStart => exact ⟨0, Nat.zero_le _, rfl, Ext.refl _, ⟨_, _, rfl, World.ownsRow_nil _ _ _ _⟩, ⟨_, _, rfl, World.ownsRow_nil _ _ _ _⟩, by intro g hg; cases hg⟩
  case round =>
    obtain ⟨k, hk, rfl, hE, ⟨A5, c5, rfl, O5⟩, ⟨A6, c6, rfl, O6⟩, hne⟩ := hrel
    by_cases hlt : k < n
    · have hltI : (k : Int) < (n : Int) := by omega
      obtain ⟨b, off, r, rfl, hb, hrk, -⟩ := hr.rc hlt
      have HR := hide hrk
      obtain ⟨rx, ry, rw, rh⟩ := r
      have hcW : ∀ W : World, Ext w W → W.cell? ⟨b, off + k * 4, none⟩ = some (.int .i64 rx) ∧ W.cell? ⟨b, off + k * 4 + 1, none⟩ = some (.int .i64 ry) ∧ W.cell? ⟨b, off + k * 4 + 2, none⟩ = some (.int .i64 rw) ∧ W.cell? ⟨b, off + k * 4 + 3, none⟩ = some (.int .i64 rh) := fun W h => by
        obtain ⟨b', off', r', e, -, hrk', q0, q1, q2, q3⟩ := (hr.ext h).rc hlt
        injection e with e; injection e with e1 e2 _; subst e1 e2
        have := hrk.symm.trans hrk'
        injection this with this; subst this
        exact ⟨q0, q1, q2, q3⟩
      have HC := hide hcW
      have HNE := hide hne
      clear hrk hr hok hcW hne hb
      generalize wr = W0 at *
      generalize hgw : w.heap.size = gw at *
      have HGW := hide hgw
      clear hgw
      go_upto_region 5 with fail
      refine wp_region_linU (by kernel_rfl) (fun w' => (ExtX w w' []) ∧ (w'.ownsRow gw 2 1 (.slice A6 (2 * k) c6) (2 * k) (ints (highL (l.take k))))) (fun ii vv ww => match ii with | 0 => vv = .slice A5 (2 * k) c5 | 1 => vv = .slice (some ⟨b, off, none⟩) n c | 2 => vv = .int .i64 k | 3 => vv = .pointer (some ⟨b, off + k * 4, none⟩) | 4 => vv = .pointer (some ⟨b, off + k * 4 + 3, none⟩) | 5 => vv = .int .i64 rh | 6 => vv = .slice (some ⟨b, off, none⟩) n c | 7 => vv = .int .i64 k | 8 => vv = .pointer (some ⟨b, off + k * 4, none⟩) | 9 => vv = .pointer (some ⟨b, off + k * 4 + 1, none⟩) | 10 => vv = .int .i64 ry | 11 => ∃ g, vv = .slice (some ⟨g, 0, none⟩) 2 2 ∧ Blk ww g 2 #[.int .i64 rh, .int .i64 ry] | 12 => ∃ Aq cq, vv = .slice Aq (2 * k + 2) cq ∧ (ww.ownsRow gw 2 1 (.slice Aq (2 * k + 2) cq) (2 * k + 2) (ints (wideL (l.take k) ++ [rh, ry]))) ∧ ∀ g, Value.ownBlock (.slice Aq (2 * k + 2) cq) = some g → Value.ownBlock (.slice A6 (2 * k) c6) ≠ some g | 13 => ∃ Aq cq, vv = .slice Aq (2 * k + 2) cq ∧ (ww.ownsRow gw 2 1 (.slice Aq (2 * k + 2) cq) (2 * k + 2) (ints (wideL (l.take k) ++ [rh, ry]))) ∧ ∀ g, Value.ownBlock (.slice Aq (2 * k + 2) cq) = some g → Value.ownBlock (.slice A6 (2 * k) c6) ≠ some g | _ => True) (fun ii => match ii with | 3 => [(1, 19), (2, 20)] | 4 => [(3, 21)] | 5 => [(4, 22)] | 8 => [(6, 24), (7, 25)] | 9 => [(8, 26)] | 10 => [(9, 27)] | 11 => [(5, 23), (10, 28)] | 12 => [(0, 18), (11, 29)] | 13 => [(12, 30)] | _ => []) (fun ii => match ii with | 0 => [5] | 1 => [0] | 2 => [7] | 6 => [0] | 7 => [7] | _ => []) (fun ii => match ii with | 0 => [1, 2, 3, 4, 6, 7, 8, 9, 5, 10, 11] | 1 => [2, 6, 7, 8, 9, 10, 0] | 2 => [1, 6, 7, 8, 9, 10, 0] | 3 => [6, 7, 8, 9, 10, 0] | 4 => [6, 7, 8, 9, 10, 0] | 5 => [6, 7, 8, 9, 10, 0] | 6 => [1, 2, 3, 4, 7, 5, 0] | 7 => [1, 2, 3, 4, 6, 5, 0] | 8 => [1, 2, 3, 4, 5, 0] | 9 => [1, 2, 3, 4, 5, 0] | 10 => [1, 2, 3, 4, 5, 0] | 11 => [0] | _ => []) [13] [0, 0, 0, 6, 14, 30, 0, 0, 192, 448, 960, 2046, 4095, 8191] (fun w0q => w0q.ownsRow gw 2 1 (.slice A5 (2 * k) c5) (2 * k) (ints (wideL (l.take k)))) [12, 13] [13] (fun _ _ => True) 14 60 rfl (by kernel_rfl) (by kernel_rfl) (.inr (by decide)) (⟨⟨hE.os, hE.tape, hE.output, hE.size, fun i hi _ => hE.block i hi⟩, O6⟩) (O5) ?_ ?_
      · rename_i hcont; clear hcont
        refine ⟨?_, ?_, ?_, ?_, ?_, ?_, ?_, ?_, ?_, ?_, ?_, ?_, ?_, ?_, trivial⟩
        · refine stepU_plain rfl ?_
          rintro F a w1 ⟨jE, jO⟩ - ⟨t5, -⟩ iO K hK
          replace iO := iO (by decide)
          have t5 : a.tmps[5]? = some (.slice A5 (2 * k) c5) := t5
          go_simp
          exact hK _ _ ⟨jE, jO⟩ rfl (fun _ _ _ h => h) (fun _ => iO) (fun he => absurd he (by decide))
        · refine stepU_plain rfl ?_
          rintro F a w1 ⟨jE, jO⟩ - ⟨t0, -⟩ iO K hK
          replace iO := iO (by decide)
          have t0 : a.tmps[0]? = some (.slice (some ⟨b, off, none⟩) n c) := t0
          go_simp
          exact hK _ _ ⟨jE, jO⟩ rfl (fun _ _ _ h => h) (fun _ => iO) (fun he => absurd he (by decide))
        · refine stepU_plain rfl ?_
          rintro F a w1 ⟨jE, jO⟩ - ⟨t7, -⟩ iO K hK
          replace iO := iO (by decide)
          have t7 : a.tmps[7]? = some (.int .i64 k) := t7
          go_simp
          exact hK _ _ ⟨jE, jO⟩ rfl (fun _ _ _ h => h) (fun _ => iO) (fun he => absurd he (by decide))
        · refine stepU_plain rfl ?_
          rintro F a w1 ⟨jE, jO⟩ ⟨h1, t19, h2, t20, -⟩ - iO K hK
          replace iO := iO (by decide)
          have h1 : (F 1) = .slice (some ⟨b, off, none⟩) n c := h1
          rw [h1] at t19
          clear h1
          have h2 : (F 2) = .int .i64 k := h2
          rw [h2] at t20
          clear h2
          go_simp
          exact hK _ _ ⟨jE, jO⟩ rfl (fun _ _ _ h => h) (fun _ => iO) (fun he => absurd he (by decide))
        · refine stepU_plain rfl ?_
          rintro F a w1 ⟨jE, jO⟩ ⟨h3, t21, -⟩ - iO K hK
          replace iO := iO (by decide)
          have h3 : (F 3) = .pointer (some ⟨b, off + k * 4, none⟩) := h3
          rw [h3] at t21
          clear h3
          go_simp
          exact hK _ _ ⟨jE, jO⟩ rfl (fun _ _ _ h => h) (fun _ => iO) (fun he => absurd he (by decide))
        · refine stepU_plain rfl ?_
          rintro F a w1 ⟨jE, jO⟩ ⟨h4, t22, -⟩ - iO K hK
          replace iO := iO (by decide)
          have h4 : (F 4) = .pointer (some ⟨b, off + k * 4 + 3, none⟩) := h4
          rw [h4] at t22
          clear h4
          have hc := (unhide HC w1 (jE.ext (Ext.refl _) (by simp))).2.2.2
          go_simp
          exact hK _ _ ⟨jE, jO⟩ rfl (fun _ _ _ h => h) (fun _ => iO) (fun he => absurd he (by decide))
        · refine stepU_plain rfl ?_
          rintro F a w1 ⟨jE, jO⟩ - ⟨t0, -⟩ iO K hK
          replace iO := iO (by decide)
          have t0 : a.tmps[0]? = some (.slice (some ⟨b, off, none⟩) n c) := t0
          go_simp
          exact hK _ _ ⟨jE, jO⟩ rfl (fun _ _ _ h => h) (fun _ => iO) (fun he => absurd he (by decide))
        · refine stepU_plain rfl ?_
          rintro F a w1 ⟨jE, jO⟩ - ⟨t7, -⟩ iO K hK
          replace iO := iO (by decide)
          have t7 : a.tmps[7]? = some (.int .i64 k) := t7
          go_simp
          exact hK _ _ ⟨jE, jO⟩ rfl (fun _ _ _ h => h) (fun _ => iO) (fun he => absurd he (by decide))
        · refine stepU_plain rfl ?_
          rintro F a w1 ⟨jE, jO⟩ ⟨h6, t24, h7, t25, -⟩ - iO K hK
          replace iO := iO (by decide)
          have h6 : (F 6) = .slice (some ⟨b, off, none⟩) n c := h6
          rw [h6] at t24
          clear h6
          have h7 : (F 7) = .int .i64 k := h7
          rw [h7] at t25
          clear h7
          go_simp
          exact hK _ _ ⟨jE, jO⟩ rfl (fun _ _ _ h => h) (fun _ => iO) (fun he => absurd he (by decide))
        · refine stepU_plain rfl ?_
          rintro F a w1 ⟨jE, jO⟩ ⟨h8, t26, -⟩ - iO K hK
          replace iO := iO (by decide)
          have h8 : (F 8) = .pointer (some ⟨b, off + k * 4, none⟩) := h8
          rw [h8] at t26
          clear h8
          go_simp
          exact hK _ _ ⟨jE, jO⟩ rfl (fun _ _ _ h => h) (fun _ => iO) (fun he => absurd he (by decide))
        · refine stepU_plain rfl ?_
          rintro F a w1 ⟨jE, jO⟩ ⟨h9, t27, -⟩ - iO K hK
          replace iO := iO (by decide)
          have h9 : (F 9) = .pointer (some ⟨b, off + k * 4 + 1, none⟩) := h9
          rw [h9] at t27
          clear h9
          have hc := (unhide HC w1 (jE.ext (Ext.refl _) (by simp))).2.1
          go_simp
          exact hK _ _ ⟨jE, jO⟩ rfl (fun _ _ _ h => h) (fun _ => iO) (fun he => absurd he (by decide))
        · refine stepU_plain rfl ?_
          rintro F a w1 ⟨jE, jO⟩ ⟨h5, t23, h10, t28, -⟩ - iO K hK
          replace iO := iO (by decide)
          have h5 : (F 5) = .int .i64 rh := h5
          rw [h5] at t23
          clear h5
          have h10 : (F 10) = .int .i64 ry := h10
          rw [h10] at t28
          clear h10
          go_simp
          have hx : Ext w1 (w1.alloc (.cells #[.int .i64 rh, .int .i64 ry] 2)) := (Ext.refl _).alloc _
          exact hK _ _ ⟨jE.trans hx, jO.alloc _⟩ ⟨_, rfl, Blk.new _ _ _⟩ (by intro jq hj uq h; have hj : jq ∈ [0] := hj; simp only [List.mem_singleton] at hj; subst hj; exact h) (fun _ => iO.alloc _) (fun he => absurd he (by decide))
        · refine stepU_plain rfl ?_
          rintro F a w1 ⟨jE, jO⟩ ⟨h0, t18, h11, t29, -⟩ - iO K hK
          replace iO := iO (by decide)
          have h0 : (F 0) = .slice A5 (2 * k) c5 := h0
          rw [h0] at t18
          clear h0
          have h11 : ∃ g, (F 11) = .slice (some ⟨g, 0, none⟩) 2 2 ∧ Blk w1 g 2 #[.int .i64 rh, .int .i64 ry] := h11
          obtain ⟨g1, e1, k1⟩ := h11
          rw [e1] at t29
          refine wp_append_rd (.tmp 18) (.tmp 29) _ rfl gw 2 i0 _ 1 8 Try.underlying50 (unhide HI).1 (unhide HI).2.1 (unhide HI).2.2.1 (unhide HI).2.2.2 rfl (by omega) _ (2 * k) (ints (wideL (l.take k))) (eval_tmp t18) iO _ 2 2 [.int .i64 rh, .int .i64 ry] (eval_tmp t29) (k1.rd rfl) (by simp [Value.oneCell']) (by simp only [maxLen]; omega) (by omega) (by have := jE.size; have := unhide HGW; omega) ?_
          intro Aq cq w2 own7 g4 at7
          have s6 := fun g e => (jO.lt g e).2
          have hd : ∀ g, Value.ownBlock (.slice Aq (2 * k + 2) cq) = some g → Value.ownBlock (.slice A6 (2 * k) c6) ≠ some g := by
              intro g hg h2
              rcases at7 with h | h
              · rw [h] at hg; exact unhide HNE g hg h2
              · rw [h] at hg; cases hg; exact absurd (s6 _ h2) (Nat.lt_irrefl _)
          exact hK _ _ ⟨jE.grown g4 (fun g e => by have := (iO.lt g e).1; have := unhide HGW; omega), jO.kept g4 (by
              cases h : Value.ownBlock (.slice A6 (2 * k) c6) with
              | none => exact .inl rfl
              | some g => exact .inr (fun e => unhide HNE g e.symm h))⟩ ⟨Aq, cq, rfl, by rw [ints_app]; exact own7, hd⟩ (fun _ hj _ _ => (List.not_mem_nil hj).elim) (fun h => (h (by simp)).elim) (fun he => absurd he (by decide))
        · refine stepU_plain rfl ?_
          rintro F a w1 ⟨jE, jO⟩ ⟨h12, t30, -⟩ - iO K hK
          clear iO
          have h12 : ∃ Aq cq, (F 12) = .slice Aq (2 * k + 2) cq ∧ (w1.ownsRow gw 2 1 (.slice Aq (2 * k + 2) cq) (2 * k + 2) (ints (wideL (l.take k) ++ [rh, ry]))) ∧ ∀ g, Value.ownBlock (.slice Aq (2 * k + 2) cq) = some g → Value.ownBlock (.slice A6 (2 * k) c6) ≠ some g := h12
          obtain ⟨Aq, cq, eq7, Oq, hdq⟩ := h12
          rw [eq7] at t30
          skip
          go_simp
          exact hK _ _ ⟨jE, jO⟩ ⟨Aq, cq, rfl, Oq, hdq⟩ (fun _ hj _ _ => (List.not_mem_nil hj).elim) (fun h => (h (by simp)).elim) (fun he => absurd he (by decide))
      · rintro F W1 ⟨jE, jO⟩ ⟨h13, -⟩ -
        have h13 : ∃ Aq cq, (F 13) = .slice Aq (2 * k + 2) cq ∧ (W1.ownsRow gw 2 1 (.slice Aq (2 * k + 2) cq) (2 * k + 2) (ints (wideL (l.take k) ++ [rh, ry]))) ∧ ∀ g, Value.ownBlock (.slice Aq (2 * k + 2) cq) = some g → Value.ownBlock (.slice A6 (2 * k) c6) ≠ some g := h13
        obtain ⟨A7, c7, e7, O7, hd7⟩ := h13
        simp only [putL, Act.put, Nat.reduceAdd, Nat.zero_add, List.setIfInBounds_toArray, List.set_cons_succ, List.set_cons_zero]
        rw [e7]
        clear e7
        have HN2 := hide (fun g h1 h2 => hd7 g h2 h1 : ∀ g, Value.ownBlock (.slice A6 (2 * k) c6) = some g → Value.ownBlock (.slice A7 (2 * k + 2) c7) ≠ some g)
        clear hd7 O5 O6
        have O6 := jO
        clear jO
        go_upto_region 6 with fail
        refine wp_region_linU (by kernel_rfl) (fun w' => (ExtX w w' []) ∧ (w'.ownsRow gw 2 1 (.slice A7 (2 * k + 2) c7) (2 * k + 2) (ints (wideL (l.take k) ++ [rh, ry])))) (fun ii vv ww => match ii with | 0 => vv = .slice A6 (2 * k) c6 | 1 => vv = .slice (some ⟨b, off, none⟩) n c | 2 => vv = .int .i64 k | 3 => vv = .pointer (some ⟨b, off + k * 4, none⟩) | 4 => vv = .pointer (some ⟨b, off + k * 4, none⟩) | 5 => vv = .int .i64 rx | 6 => vv = .slice (some ⟨b, off, none⟩) n c | 7 => vv = .int .i64 k | 8 => vv = .pointer (some ⟨b, off + k * 4, none⟩) | 9 => vv = .pointer (some ⟨b, off + k * 4 + 2, none⟩) | 10 => vv = .int .i64 rw | 11 => ∃ g, vv = .slice (some ⟨g, 0, none⟩) 2 2 ∧ Blk ww g 2 #[.int .i64 rx, .int .i64 rw] | 12 => ∃ Aq cq, vv = .slice Aq (2 * k + 2) cq ∧ (ww.ownsRow gw 2 1 (.slice Aq (2 * k + 2) cq) (2 * k + 2) (ints (highL (l.take k) ++ [rx, rw]))) ∧ ∀ g, Value.ownBlock (.slice Aq (2 * k + 2) cq) = some g → Value.ownBlock (.slice A7 (2 * k + 2) c7) ≠ some g | 13 => ∃ Aq cq, vv = .slice Aq (2 * k + 2) cq ∧ (ww.ownsRow gw 2 1 (.slice Aq (2 * k + 2) cq) (2 * k + 2) (ints (highL (l.take k) ++ [rx, rw]))) ∧ ∀ g, Value.ownBlock (.slice Aq (2 * k + 2) cq) = some g → Value.ownBlock (.slice A7 (2 * k + 2) c7) ≠ some g | _ => True) (fun ii => match ii with | 3 => [(1, 32), (2, 33)] | 4 => [(3, 34)] | 5 => [(4, 35)] | 8 => [(6, 37), (7, 38)] | 9 => [(8, 39)] | 10 => [(9, 40)] | 11 => [(5, 36), (10, 41)] | 12 => [(0, 31), (11, 42)] | 13 => [(12, 43)] | _ => []) (fun ii => match ii with | 0 => [6] | 1 => [0] | 2 => [7] | 6 => [0] | 7 => [7] | _ => []) (fun ii => match ii with | 0 => [1, 2, 3, 4, 6, 7, 8, 9, 5, 10, 11] | 1 => [2, 6, 7, 8, 9, 10, 0] | 2 => [1, 6, 7, 8, 9, 10, 0] | 3 => [6, 7, 8, 9, 10, 0] | 4 => [6, 7, 8, 9, 10, 0] | 5 => [6, 7, 8, 9, 10, 0] | 6 => [1, 2, 3, 4, 7, 5, 0] | 7 => [1, 2, 3, 4, 6, 5, 0] | 8 => [1, 2, 3, 4, 5, 0] | 9 => [1, 2, 3, 4, 5, 0] | 10 => [1, 2, 3, 4, 5, 0] | 11 => [0] | _ => []) [13] [0, 0, 0, 6, 14, 30, 0, 0, 192, 448, 960, 2046, 4095, 8191] (fun w0q => w0q.ownsRow gw 2 1 (.slice A6 (2 * k) c6) (2 * k) (ints (highL (l.take k)))) [12, 13] [13] (fun _ _ => True) 14 60 rfl (by kernel_rfl) (by kernel_rfl) (.inr (by decide)) (⟨⟨jE.os, jE.tape, jE.output, jE.size, jE.block⟩, O7⟩) (O6) ?_ ?_
        · rename_i hcont; clear hcont
          refine ⟨?_, ?_, ?_, ?_, ?_, ?_, ?_, ?_, ?_, ?_, ?_, ?_, ?_, ?_, trivial⟩
          · refine stepU_plain rfl ?_
            rintro F a w1 ⟨jE, jO⟩ - ⟨t6, -⟩ iO K hK
            replace iO := iO (by decide)
            have t6 : a.tmps[6]? = some (.slice A6 (2 * k) c6) := t6
            go_simp
            exact hK _ _ ⟨jE, jO⟩ rfl (fun _ _ _ h => h) (fun _ => iO) (fun he => absurd he (by decide))
          · refine stepU_plain rfl ?_
            rintro F a w1 ⟨jE, jO⟩ - ⟨t0, -⟩ iO K hK
            replace iO := iO (by decide)
            have t0 : a.tmps[0]? = some (.slice (some ⟨b, off, none⟩) n c) := t0
            go_simp
            exact hK _ _ ⟨jE, jO⟩ rfl (fun _ _ _ h => h) (fun _ => iO) (fun he => absurd he (by decide))
          · refine stepU_plain rfl ?_
            rintro F a w1 ⟨jE, jO⟩ - ⟨t7, -⟩ iO K hK
            replace iO := iO (by decide)
            have t7 : a.tmps[7]? = some (.int .i64 k) := t7
            go_simp
            exact hK _ _ ⟨jE, jO⟩ rfl (fun _ _ _ h => h) (fun _ => iO) (fun he => absurd he (by decide))
          · refine stepU_plain rfl ?_
            rintro F a w1 ⟨jE, jO⟩ ⟨h1, t32, h2, t33, -⟩ - iO K hK
            replace iO := iO (by decide)
            have h1 : (F 1) = .slice (some ⟨b, off, none⟩) n c := h1
            rw [h1] at t32
            clear h1
            have h2 : (F 2) = .int .i64 k := h2
            rw [h2] at t33
            clear h2
            go_simp
            exact hK _ _ ⟨jE, jO⟩ rfl (fun _ _ _ h => h) (fun _ => iO) (fun he => absurd he (by decide))
          · refine stepU_plain rfl ?_
            rintro F a w1 ⟨jE, jO⟩ ⟨h3, t34, -⟩ - iO K hK
            replace iO := iO (by decide)
            have h3 : (F 3) = .pointer (some ⟨b, off + k * 4, none⟩) := h3
            rw [h3] at t34
            clear h3
            go_simp
            exact hK _ _ ⟨jE, jO⟩ rfl (fun _ _ _ h => h) (fun _ => iO) (fun he => absurd he (by decide))
          · refine stepU_plain rfl ?_
            rintro F a w1 ⟨jE, jO⟩ ⟨h4, t35, -⟩ - iO K hK
            replace iO := iO (by decide)
            have h4 : (F 4) = .pointer (some ⟨b, off + k * 4, none⟩) := h4
            rw [h4] at t35
            clear h4
            have hc := (unhide HC w1 (jE.ext (Ext.refl _) (by simp))).1
            go_simp
            exact hK _ _ ⟨jE, jO⟩ rfl (fun _ _ _ h => h) (fun _ => iO) (fun he => absurd he (by decide))
          · refine stepU_plain rfl ?_
            rintro F a w1 ⟨jE, jO⟩ - ⟨t0, -⟩ iO K hK
            replace iO := iO (by decide)
            have t0 : a.tmps[0]? = some (.slice (some ⟨b, off, none⟩) n c) := t0
            go_simp
            exact hK _ _ ⟨jE, jO⟩ rfl (fun _ _ _ h => h) (fun _ => iO) (fun he => absurd he (by decide))
          · refine stepU_plain rfl ?_
            rintro F a w1 ⟨jE, jO⟩ - ⟨t7, -⟩ iO K hK
            replace iO := iO (by decide)
            have t7 : a.tmps[7]? = some (.int .i64 k) := t7
            go_simp
            exact hK _ _ ⟨jE, jO⟩ rfl (fun _ _ _ h => h) (fun _ => iO) (fun he => absurd he (by decide))
          · refine stepU_plain rfl ?_
            rintro F a w1 ⟨jE, jO⟩ ⟨h6, t37, h7, t38, -⟩ - iO K hK
            replace iO := iO (by decide)
            have h6 : (F 6) = .slice (some ⟨b, off, none⟩) n c := h6
            rw [h6] at t37
            clear h6
            have h7 : (F 7) = .int .i64 k := h7
            rw [h7] at t38
            clear h7
            go_simp
            exact hK _ _ ⟨jE, jO⟩ rfl (fun _ _ _ h => h) (fun _ => iO) (fun he => absurd he (by decide))
          · refine stepU_plain rfl ?_
            rintro F a w1 ⟨jE, jO⟩ ⟨h8, t39, -⟩ - iO K hK
            replace iO := iO (by decide)
            have h8 : (F 8) = .pointer (some ⟨b, off + k * 4, none⟩) := h8
            rw [h8] at t39
            clear h8
            go_simp
            exact hK _ _ ⟨jE, jO⟩ rfl (fun _ _ _ h => h) (fun _ => iO) (fun he => absurd he (by decide))
          · refine stepU_plain rfl ?_
            rintro F a w1 ⟨jE, jO⟩ ⟨h9, t40, -⟩ - iO K hK
            replace iO := iO (by decide)
            have h9 : (F 9) = .pointer (some ⟨b, off + k * 4 + 2, none⟩) := h9
            rw [h9] at t40
            clear h9
            have hc := (unhide HC w1 (jE.ext (Ext.refl _) (by simp))).2.2.1
            go_simp
            exact hK _ _ ⟨jE, jO⟩ rfl (fun _ _ _ h => h) (fun _ => iO) (fun he => absurd he (by decide))
          · refine stepU_plain rfl ?_
            rintro F a w1 ⟨jE, jO⟩ ⟨h5, t36, h10, t41, -⟩ - iO K hK
            replace iO := iO (by decide)
            have h5 : (F 5) = .int .i64 rx := h5
            rw [h5] at t36
            clear h5
            have h10 : (F 10) = .int .i64 rw := h10
            rw [h10] at t41
            clear h10
            go_simp
            have hx : Ext w1 (w1.alloc (.cells #[.int .i64 rx, .int .i64 rw] 2)) := (Ext.refl _).alloc _
            exact hK _ _ ⟨jE.trans hx, jO.alloc _⟩ ⟨_, rfl, Blk.new _ _ _⟩ (by intro jq hj uq h; have hj : jq ∈ [0] := hj; simp only [List.mem_singleton] at hj; subst hj; exact h) (fun _ => iO.alloc _) (fun he => absurd he (by decide))
          · refine stepU_plain rfl ?_
            rintro F a w1 ⟨jE, jO⟩ ⟨h0, t31, h11, t42, -⟩ - iO K hK
            replace iO := iO (by decide)
            have h0 : (F 0) = .slice A6 (2 * k) c6 := h0
            rw [h0] at t31
            clear h0
            have h11 : ∃ g, (F 11) = .slice (some ⟨g, 0, none⟩) 2 2 ∧ Blk w1 g 2 #[.int .i64 rx, .int .i64 rw] := h11
            obtain ⟨g1, e1, k1⟩ := h11
            rw [e1] at t42
            refine wp_append_rd (.tmp 31) (.tmp 42) _ rfl gw 2 i0 _ 1 8 Try.underlying50 (unhide HI).1 (unhide HI).2.1 (unhide HI).2.2.1 (unhide HI).2.2.2 rfl (by omega) _ (2 * k) (ints (highL (l.take k))) (eval_tmp t31) iO _ 2 2 [.int .i64 rx, .int .i64 rw] (eval_tmp t42) (k1.rd rfl) (by simp [Value.oneCell']) (by simp only [maxLen]; omega) (by omega) (by have := jE.size; have := unhide HGW; omega) ?_
            intro Aq cq w2 own7 g4 at7
            have s6 := fun g e => (jO.lt g e).2
            have hd : ∀ g, Value.ownBlock (.slice Aq (2 * k + 2) cq) = some g → Value.ownBlock (.slice A7 (2 * k + 2) c7) ≠ some g := by
                intro g hg h2
                rcases at7 with h | h
                · rw [h] at hg; exact unhide HN2 g hg h2
                · rw [h] at hg; cases hg; exact absurd (s6 _ h2) (Nat.lt_irrefl _)
            exact hK _ _ ⟨jE.grown g4 (fun g e => by have := (iO.lt g e).1; have := unhide HGW; omega), jO.kept g4 (by
                cases h : Value.ownBlock (.slice A7 (2 * k + 2) c7) with
                | none => exact .inl rfl
                | some g => exact .inr (fun e => unhide HN2 g e.symm h))⟩ ⟨Aq, cq, rfl, by rw [ints_app]; exact own7, hd⟩ (fun _ hj _ _ => (List.not_mem_nil hj).elim) (fun h => (h (by simp)).elim) (fun he => absurd he (by decide))
          · refine stepU_plain rfl ?_
            rintro F a w1 ⟨jE, jO⟩ ⟨h12, t43, -⟩ - iO K hK
            clear iO
            have h12 : ∃ Aq cq, (F 12) = .slice Aq (2 * k + 2) cq ∧ (w1.ownsRow gw 2 1 (.slice Aq (2 * k + 2) cq) (2 * k + 2) (ints (highL (l.take k) ++ [rx, rw]))) ∧ ∀ g, Value.ownBlock (.slice Aq (2 * k + 2) cq) = some g → Value.ownBlock (.slice A7 (2 * k + 2) c7) ≠ some g := h12
            obtain ⟨Aq, cq, eq7, Oq, hdq⟩ := h12
            rw [eq7] at t43
            skip
            go_simp
            exact hK _ _ ⟨jE, jO⟩ ⟨Aq, cq, rfl, Oq, hdq⟩ (fun _ hj _ _ => (List.not_mem_nil hj).elim) (fun h => (h (by simp)).elim) (fun he => absurd he (by decide))
        · rintro F W2 ⟨jE, jO⟩ ⟨h13, -⟩ -
          have h13 : ∃ Aq cq, (F 13) = .slice Aq (2 * k + 2) cq ∧ (W2.ownsRow gw 2 1 (.slice Aq (2 * k + 2) cq) (2 * k + 2) (ints (highL (l.take k) ++ [rx, rw]))) ∧ ∀ g, Value.ownBlock (.slice Aq (2 * k + 2) cq) = some g → Value.ownBlock (.slice A7 (2 * k + 2) c7) ≠ some g := h13
          obtain ⟨A8, c8, e8, O8, hd8⟩ := h13
          simp only [putL, Act.put, Nat.reduceAdd, Nat.zero_add, List.setIfInBounds_toArray, List.set_cons_succ, List.set_cons_zero]
          rw [e8]
          clear e8
          have E2 : Ext w W2 := jE.ext (Ext.refl _) (by simp)
          have HE := hide hd8
          clear hd8
          go_wp2_with fail
          go_roundw
          case rel =>
            refine ⟨k + 1, by omega, by go_num, E2, ⟨A7, c7, rfl, ?_⟩, ⟨A8, c8, rfl, ?_⟩, fun g h1 h2 => unhide HE g h2 h1⟩
            · rw [wide_take l k _ (unhide HR), unhide HGW]; exact jO
            · rw [high_take l k _ (unhide HR), unhide HGW]; exact O8
          case measure => simp [intOf]; omega
    · obtain rfl : k = n := by omega
      have hS : l.take k = l := List.take_of_length_le (by have := unhide HL; omega)
      rw [hS] at O5 O6
      have hw : (wideL l).length = 2 * k := by have := (Rd.of_own O5).len; simpa [ints] using this
      have cw := hide (refsum_any A5 (2 * k) c5 (wideL l) wr (Rd.of_own O5) (wide_ok hok) (by omega))
      have ch := fun W (h : Ext wr W) => hide (refsum_any A6 (2 * k) c6 (highL l) W ((Rd.of_own O6).ext h) (high_ok hok) (by omega))
      obtain ⟨X, hX⟩ : ∃ X, cutV (lsum (wideL l)) = X := ⟨_, rfl⟩
      obtain ⟨Y, hY⟩ : ∃ X, cutV (lsum (highL l)) = X := ⟨_, rfl⟩
      obtain ⟨p, hp⟩ : ∃ X, cutB (lsum (wideL l)) = X := ⟨_, rfl⟩
      obtain ⟨q, hq⟩ : ∃ X, cutB (lsum (highL l)) = X := ⟨_, rfl⟩
      rw [hX, hp] at cw
      rw [hY, hq] at ch
      have HX := hide (And.intro hX (And.intro hY (And.intro hp hq)))
      clear hX hY hp hq hS O5 O6 hr hok hne hw
      go_wp2_with fail
      refine (unhide cw).mono ?_
      rintro e w2 ⟨rfl, hx⟩
      go_wp2_with fail
      refine (unhide (ch _ hx)).mono ?_
      rintro e w4 ⟨rfl, hx2⟩
      have E4 := hE.trans (hx.trans hx2)
      obtain ⟨hX, hY, hp, hq⟩ := unhide HX
      subst hX hY
      cases p
      · go_wp2_with fail
        go_ret3
        subst hq
        exact ⟨by rw [hp]; rfl, E4⟩
      · go_wp2_with fail
        go_ret3
        exact ⟨by rw [hp]; rfl, E4⟩
end Go.Proofs.Ytphckjnmbbjenaa
