/- Layer 20: how high a row is; its items' heights and tops (walks). -/
import Derived.Test.YtkkkdjkjggofkaaCrC
namespace Go.Proofs.Ytkkkdjkjggofkaa
open Go.RowKit
def tallV (I : Nat → It) (ks : List Nat) : Int := ks.foldl (fun t k => max t ((I k).high + (I k).above + (I k).below)) 0
theorem tallV_snoc (I : Nat → It) (ks : List Nat) (k : Nat) : tallV I (ks ++ [k]) = max (tallV I ks) ((I k).high + (I k).above + (I k).below) := by simp [tallV]
/-- lengths of heights -/
structure StyH (s : Sty) : Prop where
  h : s.h.k = 1 → 0 ≤ s.h.n ∧ s.h.n ≤ 1099511627776
  lo : s.minh.k = 1 → 0 ≤ s.minh.n ∧ s.minh.n ≤ 1099511627776
  hi : s.maxh.k = 1 → 0 ≤ s.maxh.n ∧ s.maxh.n ≤ 1099511627776
theorem highV_bd {s : Sty} (h : StyH s) {a : Int} : 0 ≤ highV s a ∧ highV s a ≤ max (max a 0) 1099511627776 := by
  obtain ⟨h1, h2, h3⟩ := h
  by_cases e1 : s.h.k = 1 <;> by_cases e2 : s.maxh.k = 1 <;> by_cases e3 : s.minh.k = 1
  · rw [high_1 e1 e2 e3]; have := h1 e1; have := h2 e3; have := h3 e2; omega
  · rw [high_2 e1 e2 e3]; have := h1 e1; have := h3 e2; omega
  · rw [high_3 e1 e2 e3]; have := h1 e1; have := h2 e3; omega
  · rw [high_4 e1 e2 e3]; have := h1 e1; omega
  · rw [high_5 e1 e2 e3]; have := h2 e3; have := h3 e2; omega
  · rw [high_6 e1 e2 e3]; have := h3 e2; omega
  · rw [high_7 e1 e2 e3]; have := h2 e3; omega
  · rw [high_8 e1 e2 e3]; omega
/-- what the numbers of an item are within -/
structure ItBd (x : It) : Prop where
  sh : StyH x.s
  left : -2000000000000 ≤ x.left ∧ x.left ≤ 2000000000000
  right : -2000000000000 ≤ x.right ∧ x.right ≤ 2000000000000
  wide : 0 ≤ x.wide ∧ x.wide ≤ 10000000000000
  high : 0 ≤ x.high ∧ x.high ≤ 200000000000000
  down : 0 ≤ x.down ∧ x.down ≤ 5000000000000
  above : -20000000000000 ≤ x.above ∧ x.above ≤ 20000000000000
  below : -20000000000000 ≤ x.below ∧ x.below ≤ 20000000000000
theorem tallV_bd (I : Nat → It) (ks : List Nat) (h : ∀ k ∈ ks, ItBd (I k)) : 0 ≤ tallV I ks ∧ tallV I ks ≤ 240000000000000 := by
  have : ∀ (ks : List Nat) (t : Int), (∀ k ∈ ks, ItBd (I k)) → 0 ≤ t ∧ t ≤ 240000000000000 → 0 ≤ ks.foldl (fun t k => max t ((I k).high + (I k).above + (I k).below)) t ∧ ks.foldl (fun t k => max t ((I k).high + (I k).above + (I k).below)) t ≤ 240000000000000 := by
    intro ks
    induction ks with
    | nil => intro t _ h; exact h
    | cons k ks ih =>
      intro t hb ht
      have hk := hb k (List.mem_cons_self ..)
      obtain ⟨_, _, _, _, h1, _, h2, h3⟩ := hk
      rw [List.foldl_cons]
      exact ih _ (fun q hq => hb q (List.mem_cons_of_mem _ hq)) (by omega)
  exact this ks 0 h (by omega)
theorem Rd.ptr {w : World} {A : Option Addr} {m : Nat} {g : Nat → Nat} {ks : List Nat} (h : Rd w 1 A m (ptrs g ks)) {p k : Nat} (hp : ks[p]? = some k) : ∃ b off, A = some ⟨b, off, none⟩ ∧ b < w.heap.size ∧ w.cell? ⟨b, off + p, none⟩ = some (ptrV (g k)) := by
  have hl := (List.getElem?_eq_some_iff.1 hp).1
  have hm : m = ks.length := by have := h.len; rw [ptrs_len] at this; omega
  obtain ⟨b, off, rfl, hb, hc⟩ := h.at_ (by omega)
  exact ⟨b, off, rfl, hb, hc _ _ (ptrs_get hp)⟩
theorem takeS {α : Type} {l : List α} {p : Nat} {x : α} (h : l[p]? = some x) : l.take (p + 1) = l.take p ++ [x] := by
  obtain ⟨h1, h2⟩ := List.getElem?_eq_some_iff.1 h
  rw [List.take_succ_eq_append_getElem h1, h2]
set_option maxRecDepth 100000 in
set_option maxHeartbeats 8000000 in
theorem tall_any (B n : Nat) (g : Nat → Nat) (I : Nat → It) (A : Option Addr) (m c : Nat) (ks : List Nat) (w : World) (hr : Rd w 1 A m (ptrs g ks)) (IS : Its w B g n I) (hks : ∀ k ∈ ks, k < n ∧ ItBd (I k)) (hm : m ≤ 1000) :
    Calls Try.prog 21 #[.slice A m c] w fun e w' => e = .returned (.int .i64 (tallV I ks)) ∧ Ext w w' := by
  have hml : ks.length = m := by have := hr.len; rw [ptrs_len] at this; omega
  have HML := hide hml
  have HKS := hide hks
  have htb : ∀ p, 0 ≤ tallV I (ks.take p) ∧ tallV I (ks.take p) ≤ 240000000000000 := fun p => tallV_bd I _ (fun k hk => (hks k (List.mem_of_mem_take hk)).2)
  have HTB := hide htb
  clear hml hks htb
  go_enter Try.func21, Try.ntmps21
  go_wp2_with fail
  go_loopw [3, 8] (fun v3 v8 wr => ∃ p : Nat, v3 = .int .i64 (tallV I (ks.take p)) ∧ v8 = .int .i64 p ∧ p ≤ m ∧ Ext w wr) (fun _ v8 _ => m - (intOf v8).toNat)
  case atStart => exact ⟨0, rfl, rfl, by omega, Ext.refl _⟩
  case round =>
    obtain ⟨p, rfl, rfl, p1, E⟩ := hrel
    by_cases hp : p < m
    · have hpI : (0 : Int) ≤ (p : Int) ∧ (p : Int) < (m : Int) := by omega
      have hpl : p < ks.length := by have := unhide HML; omega
      obtain ⟨k, hk⟩ : ∃ k, ks[p]? = some k := ⟨_, List.getElem?_eq_getElem hpl⟩
      obtain ⟨hkn, hbd⟩ := (unhide HKS) k (List.mem_of_getElem? hk)
      obtain ⟨b, off, hA, hb, hc⟩ := (hr.ext E).ptr hk
      have ht := (unhide HTB) p
      have HS := hide (show tallV I (ks.take (p + 1)) = max (tallV I (ks.take p)) ((I k).high + (I k).above + (I k).below) by rw [takeS hk, tallV_snoc])
      obtain ⟨-, -, -, -, h5, -, h7, h8⟩ := hbd
      have c46 := (IS.ext E).cell hkn (j := 46) (v := .int .i64 (I k).high) rfl
      have c48 := (IS.ext E).cell hkn (j := 48) (v := .int .i64 (I k).above) rfl
      have c49 := (IS.ext E).cell hkn (j := 49) (v := .int .i64 (I k).below) rfl
      have lk := (IS.ext E).lt hkn
      obtain ⟨tv, htv⟩ : ∃ tv, tallV I (ks.take p) = tv := ⟨_, rfl⟩
      obtain ⟨xh, hxh⟩ : ∃ x, (I k).high = x := ⟨_, rfl⟩
      obtain ⟨xa, hxa⟩ : ∃ x, (I k).above = x := ⟨_, rfl⟩
      obtain ⟨xb, hxb⟩ : ∃ x, (I k).below = x := ⟨_, rfl⟩
      rw [htv, hxh, hxa, hxb] at HS
      rw [htv] at ht ⊢
      rw [hxh] at h5 c46
      rw [hxa] at h7 c48
      rw [hxb] at h8 c49
      obtain ⟨mx, hmx⟩ : ∃ mx, max tv (xh + xa + xb) = mx := ⟨_, rfl⟩
      have HMX := hide hmx
      have HS2 := hide (show tallV I (ks.take (p + 1)) = mx by rw [unhide HS, hmx])
      generalize g k = gk at *
      have HA := hide hA
      clear hk hA htv hxh hxa hxb hmx HS
      go_upto_region 4 with fail
      rw [unhide HA]
      go_upto_region 5 with fail
      rw [← unhide HA]
      clear hb hc
      refine wp_region_lin (by kernel_rfl) (fun w' => (ExtX wr w' [])) (fun ii vv ww => match ii with | 0 => vv = .int .i64 tv | 1 => vv = ptrV gk | 2 => vv = .pointer (some ⟨gk, 0, none⟩) | 3 => vv = .pointer (some ⟨gk, 46, none⟩) | 4 => vv = .int .i64 xh | 5 => vv = ptrV gk | 6 => vv = .pointer (some ⟨gk, 0, none⟩) | 7 => vv = .pointer (some ⟨gk, 48, none⟩) | 8 => vv = .int .i64 xa | 9 => vv = .int .i64 (xh + xa) | 10 => vv = ptrV gk | 11 => vv = .pointer (some ⟨gk, 0, none⟩) | 12 => vv = .pointer (some ⟨gk, 49, none⟩) | 13 => vv = .int .i64 xb | 14 => vv = .int .i64 ((xh + xa) + xb) | 15 => vv = .int .i64 mx | 16 => vv = .int .i64 mx | _ => True) (fun ii => match ii with | 2 => [(1, 13)] | 3 => [(2, 14)] | 4 => [(3, 15)] | 6 => [(5, 17)] | 7 => [(6, 18)] | 8 => [(7, 19)] | 9 => [(4, 16), (8, 20)] | 11 => [(10, 22)] | 12 => [(11, 23)] | 13 => [(12, 24)] | 14 => [(9, 21), (13, 25)] | 15 => [(0, 12), (14, 26)] | 16 => [(15, 27)] | _ => []) (fun ii => match ii with | 0 => [3] | 1 => [5] | 5 => [5] | 10 => [5] | _ => []) (fun ii => match ii with | 0 => [1, 2, 3, 5, 6, 7, 4, 8, 10, 11, 12, 9, 13, 14] | 1 => [5, 6, 7, 8, 10, 11, 12, 13, 0] | 2 => [5, 6, 7, 8, 10, 11, 12, 13, 0] | 3 => [5, 6, 7, 8, 10, 11, 12, 13, 0] | 4 => [5, 6, 7, 8, 10, 11, 12, 13, 0] | 5 => [1, 2, 3, 4, 10, 11, 12, 13, 0] | 6 => [1, 2, 3, 4, 10, 11, 12, 13, 0] | 7 => [1, 2, 3, 4, 10, 11, 12, 13, 0] | 8 => [1, 2, 3, 4, 10, 11, 12, 13, 0] | 9 => [10, 11, 12, 13, 0] | 10 => [1, 2, 3, 5, 6, 7, 4, 8, 9, 0] | 11 => [1, 2, 3, 5, 6, 7, 4, 8, 9, 0] | 12 => [1, 2, 3, 5, 6, 7, 4, 8, 9, 0] | 13 => [1, 2, 3, 5, 6, 7, 4, 8, 9, 0] | 14 => [0] | _ => []) [16] [0, 0, 2, 6, 14, 0, 32, 96, 224, 510, 0, 1024, 3072, 7168, 16382, 32767, 65535] 30 rfl (by kernel_rfl) (ExtX.start _ _) ?_ ?_
      · rename_i hcont; clear hcont
        refine ⟨?_, ?_, ?_, ?_, ?_, ?_, ?_, ?_, ?_, ?_, ?_, ?_, ?_, ?_, ?_, ?_, ?_, trivial⟩
        · refine stepL_plain rfl ?_
          rintro F a w1 jE - ⟨t3, -⟩ K hK
          have t3 : a.tmps[3]? = some (.int .i64 tv) := t3
          go_simp
          exact hK _ _ jE rfl (fun _ _ _ h => h)
        · refine stepL_plain rfl ?_
          rintro F a w1 jE - ⟨t5, -⟩ K hK
          have t5 : a.tmps[5]? = some (ptrV gk) := t5
          go_simp
          exact hK _ _ jE rfl (fun _ _ _ h => h)
        · refine stepL_plain rfl ?_
          rintro F a w1 jE ⟨h1, t13, -⟩ - K hK
          have h1 : (F 1) = ptrV gk := h1
          rw [h1] at t13
          clear h1
          go_simp
          exact hK _ _ jE rfl (fun _ _ _ h => h)
        · refine stepL_plain rfl ?_
          rintro F a w1 jE ⟨h2, t14, -⟩ - K hK
          have h2 : (F 2) = .pointer (some ⟨gk, 0, none⟩) := h2
          rw [h2] at t14
          clear h2
          go_simp
          exact hK _ _ jE rfl (fun _ _ _ h => h)
        · refine stepL_plain rfl ?_
          rintro F a w1 jE ⟨h3, t15, -⟩ - K hK
          have h3 : (F 3) = .pointer (some ⟨gk, 46, none⟩) := h3
          rw [h3] at t15
          clear h3
          have c := ((jE.ext (Ext.refl _) (by simp)).cells.1 gk _ lk).trans c46
          go_simp
          exact hK _ _ jE rfl (fun _ _ _ h => h)
        · refine stepL_plain rfl ?_
          rintro F a w1 jE - ⟨t5, -⟩ K hK
          have t5 : a.tmps[5]? = some (ptrV gk) := t5
          go_simp
          exact hK _ _ jE rfl (fun _ _ _ h => h)
        · refine stepL_plain rfl ?_
          rintro F a w1 jE ⟨h5, t17, -⟩ - K hK
          have h5 : (F 5) = ptrV gk := h5
          rw [h5] at t17
          clear h5
          go_simp
          exact hK _ _ jE rfl (fun _ _ _ h => h)
        · refine stepL_plain rfl ?_
          rintro F a w1 jE ⟨h6, t18, -⟩ - K hK
          have h6 : (F 6) = .pointer (some ⟨gk, 0, none⟩) := h6
          rw [h6] at t18
          clear h6
          go_simp
          exact hK _ _ jE rfl (fun _ _ _ h => h)
        · refine stepL_plain rfl ?_
          rintro F a w1 jE ⟨h7, t19, -⟩ - K hK
          have h7 : (F 7) = .pointer (some ⟨gk, 48, none⟩) := h7
          rw [h7] at t19
          clear h7
          have c := ((jE.ext (Ext.refl _) (by simp)).cells.1 gk _ lk).trans c48
          go_simp
          exact hK _ _ jE rfl (fun _ _ _ h => h)
        · refine stepL_plain rfl ?_
          rintro F a w1 jE ⟨h4, t16, h8, t20, -⟩ - K hK
          have h4 : (F 4) = .int .i64 xh := h4
          rw [h4] at t16
          clear h4
          have h8 : (F 8) = .int .i64 xa := h8
          rw [h8] at t20
          clear h8
          have e1 : IntKind.i64.wrap (xh + xa) = (xh + xa) := IntWalk.i64_in _ (by omega)
          go_simp
          exact hK _ _ jE rfl (fun _ _ _ h => h)
        · refine stepL_plain rfl ?_
          rintro F a w1 jE - ⟨t5, -⟩ K hK
          have t5 : a.tmps[5]? = some (ptrV gk) := t5
          go_simp
          exact hK _ _ jE rfl (fun _ _ _ h => h)
        · refine stepL_plain rfl ?_
          rintro F a w1 jE ⟨h10, t22, -⟩ - K hK
          have h10 : (F 10) = ptrV gk := h10
          rw [h10] at t22
          clear h10
          go_simp
          exact hK _ _ jE rfl (fun _ _ _ h => h)
        · refine stepL_plain rfl ?_
          rintro F a w1 jE ⟨h11, t23, -⟩ - K hK
          have h11 : (F 11) = .pointer (some ⟨gk, 0, none⟩) := h11
          rw [h11] at t23
          clear h11
          go_simp
          exact hK _ _ jE rfl (fun _ _ _ h => h)
        · refine stepL_plain rfl ?_
          rintro F a w1 jE ⟨h12, t24, -⟩ - K hK
          have h12 : (F 12) = .pointer (some ⟨gk, 49, none⟩) := h12
          rw [h12] at t24
          clear h12
          have c := ((jE.ext (Ext.refl _) (by simp)).cells.1 gk _ lk).trans c49
          go_simp
          exact hK _ _ jE rfl (fun _ _ _ h => h)
        · refine stepL_plain rfl ?_
          rintro F a w1 jE ⟨h9, t21, h13, t25, -⟩ - K hK
          have h9 : (F 9) = .int .i64 (xh + xa) := h9
          rw [h9] at t21
          clear h9
          have h13 : (F 13) = .int .i64 xb := h13
          rw [h13] at t25
          clear h13
          have e1 : IntKind.i64.wrap ((xh + xa) + xb) = ((xh + xa) + xb) := IntWalk.i64_in _ (by omega)
          go_simp
          exact hK _ _ jE rfl (fun _ _ _ h => h)
        · refine stepL_plain rfl ?_
          rintro F a w1 jE ⟨h0, t12, h14, t26, -⟩ - K hK
          have h0 : (F 0) = .int .i64 tv := h0
          rw [h0] at t12
          clear h0
          have h14 : (F 14) = .int .i64 ((xh + xa) + xb) := h14
          rw [h14] at t26
          clear h14
          have e1 := unhide HMX
          go_simp
          exact hK _ _ jE rfl (fun _ _ _ h => h)
        · refine stepL_plain rfl ?_
          rintro F a w1 jE ⟨h15, t27, -⟩ - K hK
          have h15 : (F 15) = .int .i64 mx := h15
          rw [h15] at t27
          clear h15
          go_simp
          exact hK _ _ jE rfl (fun _ _ _ h => h)
      · rintro F w9 jE ⟨h16, -⟩
        have h16 : (F 16) = .int .i64 mx := h16
        have hx := jE.ext (Ext.refl _) (by simp)
        simp only [putL, Act.put, Nat.reduceAdd, Nat.zero_add, List.setIfInBounds_toArray, List.set_cons_succ, List.set_cons_zero]
        rw [h16]
        clear h16 jE c46 c48 c49 lk HMX
        replace E := E.trans hx
        clear hx
        go_wp2_with fail
        go_roundw
        case rel => exact ⟨p + 1, by rw [unhide HS2], by go_num, by omega, E⟩
        case measure => simp [intOf]; omega
    · have hpI : ¬ (p : Int) < (m : Int) := by omega
      have hpe : ks.take p = ks := List.take_of_length_le (by have := unhide HML; omega)
      rw [hpe]
      clear hpe
      go_wp2_with fail
      go_ret
      exact ⟨rfl, E⟩
end Go.Proofs.Ytkkkdjkjggofkaa
