/- Layer 20: the items of a row side by side (walk). -/
import Derived.Test.YtkkkdjkjggofkaaCrF
import Derived.Laws.EntriesVeiled
namespace Go.Proofs.Ytkkkdjkjggofkaa
open Go.RowKit
/-- what the numbers across of an item are within -/
structure ItW (x : It) : Prop where
  left : -2000000000000 ≤ x.left ∧ x.left ≤ 2000000000000
  right : -2000000000000 ≤ x.right ∧ x.right ≤ 2000000000000
  wide : 0 ≤ x.wide ∧ x.wide ≤ 10000000000000
theorem ItBd.w {x : It} (h : ItBd x) : ItW x := ⟨h.left, h.right, h.wide⟩
def sumV (I : Nat → It) (ks : List Nat) : Int := ks.foldl (fun t k => t + ((I k).left + (I k).wide + (I k).right)) 0
theorem sumV_snoc (I : Nat → It) (ks : List Nat) (k : Nat) : sumV I (ks ++ [k]) = sumV I ks + ((I k).left + (I k).wide + (I k).right) := by simp [sumV]
theorem sumV_bd (I : Nat → It) (ks : List Nat) (h : ∀ k ∈ ks, ItW (I k)) : ∀ p, p ≤ ks.length → -14000000000000 * (p : Int) ≤ sumV I (ks.take p) ∧ sumV I (ks.take p) ≤ 14000000000000 * (p : Int) := by
  intro p
  induction p with
  | zero => intro _; simp [sumV]
  | succ p ih =>
    intro hp
    have h1 := ih (by omega)
    have hk : ks[p]? = some ks[p] := List.getElem?_eq_getElem (by omega)
    obtain ⟨h2, h3, h4⟩ := h _ (List.mem_of_getElem? hk)
    rw [takeS hk, sumV_snoc]
    omega
/-- where the item k, the p-th of m in its row, stands -/
def xV (s : Sty) (c : Int) (I : Nat → It) (ks : List Nat) (m p k : Nat) : Int := sumV I (ks.take p) + (I k).left + moveV s.justify (c - sumV I ks) p m
def setX (x : It) (v : Int) : It := ⟨x.s, x.left, x.right, x.wide, x.high, x.down, x.above, x.below, v, x.y, x.st⟩
def acrN (s : Sty) (c : Int) (I : Nat → It) (ks : List Nat) (m : Nat) : Nat → Nat → It
  | 0, i => I i
  | p + 1, i => if ks[p]? = some i then setX (I i) (xV s c I ks m p i) else acrN s c I ks m p i
theorem acrN_fresh (s : Sty) (c : Int) (I : Nat → It) (ks : List Nat) (m : Nat) {i : Nat} : ∀ p, i ∉ ks.take p → acrN s c I ks m p i = I i := by
  intro p
  induction p with
  | zero => intro _; rfl
  | succ p ih =>
    intro h
    have h1 : ¬ ks[p]? = some i := fun e => h (by rw [takeS e]; simp)
    rw [acrN, if_neg h1]
    exact ih (fun hm => h (List.mem_of_mem_take (i := p) (by rw [List.take_take, Nat.min_eq_left (by omega)]; exact hm)))
theorem acrN_step {s : Sty} {c : Int} {I J : Nat → It} {ks : List Nat} {m p k : Nat} (hk : ks[p]? = some k) (h1 : ∀ i, i ≠ k → J i = acrN s c I ks m p i) (h2 : J k = setX (I k) (xV s c I ks m p k)) (i : Nat) : acrN s c I ks m (p + 1) i = J i := by
  rw [acrN]
  by_cases e : i = k
  · subst e; rw [if_pos hk, h2]
  · rw [if_neg (fun h => e (by rw [hk] at h; exact (Option.some.inj h).symm)), h1 i e]
theorem moveV_bd {j f : Int} {p n : Nat} (hf : -2000000000000000 ≤ f ∧ f ≤ 2000000000000000) (hp : p < n) (hn : n ≤ 70) : -200000000000000000 ≤ moveV j f p n ∧ moveV j f p n ≤ 200000000000000000 := by
  unfold moveV
  split
  · omega
  · split
    · omega
    · split
      · unfold betV
        split
        · omega
        · obtain ⟨q, rfl⟩ : ∃ q : Nat, f = q := ⟨f.toNat, by omega⟩
          have h1 : p * q ≤ 70 * 2000000000000000 := mul_small (by omega) (by omega)
          have h2 : ((p : Int) * (q : Int)) = ((p * q : Nat) : Int) := by simp
          rw [h2]
          have h3 : 0 ≤ ((p * q : Nat) : Int) / ((n : Int) - 1) := Int.ediv_nonneg (by omega) (by omega)
          have h4 : ((p * q : Nat) : Int) / ((n : Int) - 1) ≤ ((p * q : Nat) : Int) := Int.ediv_le_self _ (by omega)
          omega
      · omega
set_option maxRecDepth 100000 in
set_option maxHeartbeats 32000000 in
theorem across_any (s : Sty) (c : Int) (B n : Nat) (g : Nat → Nat) (I : Nat → It) (A : Option Addr) (m ca : Nat) (ks : List Nat) (w : World) (hr : Rd w 1 A m (ptrs g ks)) (hra : ∀ b off, A = some ⟨b, off, none⟩ → ∀ i, i < n → b ≠ g i) (IS : Its w B g n I)
    (hks : ∀ k ∈ ks, k < n ∧ ItW (I k)) (hnd : ks.Nodup) (hm : m ≤ 70) (hc : 0 ≤ c ∧ c ≤ 1099511627776) (hj : 0 ≤ s.justify ∧ s.justify ≤ 255) :
    Calls Try.prog 23 #[.agg s.cells, .slice A m ca, .int .i64 c] w (ItOut w B g n (acrN s c I ks m m)) := by
  have hml : ks.length = m := by have := hr.len; rw [ptrs_len] at this; omega
  have HML := hide hml
  have HKS := hide hks
  have HND := hide hnd
  have HR := hide hr
  have HRA := hide hra
  have hsb : ∀ p, p ≤ m → -1000000000000000 ≤ sumV I (ks.take p) ∧ sumV I (ks.take p) ≤ 1000000000000000 := fun p hp => by
    have := sumV_bd I ks (fun k hk => (hks k hk).2) p (by omega)
    omega
  have HSB := hide hsb
  clear hml hks hr hnd hra hsb
  go_enter Try.func23, Try.ntmps23
  go_upto_region 1 with fail
  have BS : Blk (w.alloc (.cells s.cells 28)) w.heap.size 28 s.cells := Blk.new _ _ _
  have hne : ∀ i, i < n → w.heap.size ≠ g i := fun i hi e => by have := IS.lt hi; omega
  have HNE := hide hne
  have X : ItX w (w.alloc (.cells s.cells 28)) g n := (ItX.refl _ _ _).step ((Ext.refl _).alloc _)
  replace IS := IS.ext ((Ext.refl w).alloc (.cells s.cells 28))
  generalize w.alloc (.cells s.cells 28) = w1 at *
  generalize w.heap.size = gs at *
  clear hne
  go_wp2_with fail
  go_loopw [6, 17] (fun v6 v17 wr => ∃ p : Nat, v6 = .int .i64 (c - sumV I (ks.take p)) ∧ v17 = .int .i64 p ∧ p ≤ m ∧ Ext w1 wr) (fun _ v17 _ => m - (intOf v17).toNat)
  case atStart => exact ⟨0, by simp [sumV], rfl, by omega, Ext.refl _⟩
  case round =>
    obtain ⟨p, rfl, rfl, p1, E⟩ := hrel
    by_cases hp : p < m
    · have hpI : (0 : Int) ≤ (p : Int) ∧ (p : Int) < (m : Int) := by omega
      have hpl : p < ks.length := by have := unhide HML; omega
      obtain ⟨k, hk⟩ : ∃ k, ks[p]? = some k := ⟨_, List.getElem?_eq_getElem hpl⟩
      obtain ⟨hkn, hbd⟩ := (unhide HKS) k (List.mem_of_getElem? hk)
      obtain ⟨b, off, hA, hb, hcp⟩ := ((X.step E).rd (unhide HR) (unhide HRA)).ptr hk
      have ht := (unhide HSB) p (by omega)
      have HS := hide (show sumV I (ks.take (p + 1)) = sumV I (ks.take p) + ((I k).left + (I k).wide + (I k).right) by rw [takeS hk, sumV_snoc])
      obtain ⟨h2, h3, h4⟩ := hbd
      have c43 := (IS.ext E).cell hkn (j := 43) (v := .int .i64 (I k).left) rfl
      have c44 := (IS.ext E).cell hkn (j := 44) (v := .int .i64 (I k).right) rfl
      have c45 := (IS.ext E).cell hkn (j := 45) (v := .int .i64 (I k).wide) rfl
      have lk := (IS.ext E).lt hkn
      obtain ⟨tv, htv⟩ : ∃ tv, sumV I (ks.take p) = tv := ⟨_, rfl⟩
      obtain ⟨xl, hxl⟩ : ∃ x, (I k).left = x := ⟨_, rfl⟩
      obtain ⟨xr, hxr⟩ : ∃ x, (I k).right = x := ⟨_, rfl⟩
      obtain ⟨xw, hxw⟩ : ∃ x, (I k).wide = x := ⟨_, rfl⟩
      rw [htv, hxl, hxr, hxw] at HS
      rw [htv] at ht ⊢
      rw [hxl] at h2 c43
      rw [hxr] at h3 c44
      rw [hxw] at h4 c45
      generalize g k = gk at *
      have HA := hide hA
      clear hk hA htv hxl hxr hxw
      obtain ⟨dv, hdv⟩ : ∃ dv, c - tv = dv := ⟨_, rfl⟩
      rw [hdv]
      have hdb : -2000000000000000 ≤ dv ∧ dv ≤ 2000000000000000 := by omega
      have HDV := hide hdv
      clear hdv
      go_upto_region 4 with fail
      rw [unhide HA]
      go_upto_region 5 with fail
      rw [← unhide HA]
      clear hb hcp
      refine wp_region_lin (by kernel_rfl) (fun w' => (ExtX wr w' [])) (fun ii vv ww => match ii with | 0 => vv = .int .i64 dv | 1 => vv = ptrV gk | 2 => vv = .pointer (some ⟨gk, 0, none⟩) | 3 => vv = .pointer (some ⟨gk, 43, none⟩) | 4 => vv = .int .i64 xl | 5 => vv = ptrV gk | 6 => vv = .pointer (some ⟨gk, 0, none⟩) | 7 => vv = .pointer (some ⟨gk, 45, none⟩) | 8 => vv = .int .i64 xw | 9 => vv = .int .i64 (xl + xw) | 10 => vv = ptrV gk | 11 => vv = .pointer (some ⟨gk, 0, none⟩) | 12 => vv = .pointer (some ⟨gk, 44, none⟩) | 13 => vv = .int .i64 xr | 14 => vv = .int .i64 ((xl + xw) + xr) | 15 => vv = .int .i64 (dv - ((xl + xw) + xr)) | 16 => vv = .int .i64 (dv - ((xl + xw) + xr)) | _ => True) (fun ii => match ii with | 2 => [(1, 22)] | 3 => [(2, 23)] | 4 => [(3, 24)] | 6 => [(5, 26)] | 7 => [(6, 27)] | 8 => [(7, 28)] | 9 => [(4, 25), (8, 29)] | 11 => [(10, 31)] | 12 => [(11, 32)] | 13 => [(12, 33)] | 14 => [(9, 30), (13, 34)] | 15 => [(0, 21), (14, 35)] | 16 => [(15, 36)] | _ => []) (fun ii => match ii with | 0 => [6] | 1 => [8] | 5 => [8] | 10 => [8] | _ => []) (fun ii => match ii with | 0 => [1, 2, 3, 5, 6, 7, 4, 8, 10, 11, 12, 9, 13, 14] | 1 => [5, 6, 7, 8, 10, 11, 12, 13, 0] | 2 => [5, 6, 7, 8, 10, 11, 12, 13, 0] | 3 => [5, 6, 7, 8, 10, 11, 12, 13, 0] | 4 => [5, 6, 7, 8, 10, 11, 12, 13, 0] | 5 => [1, 2, 3, 4, 10, 11, 12, 13, 0] | 6 => [1, 2, 3, 4, 10, 11, 12, 13, 0] | 7 => [1, 2, 3, 4, 10, 11, 12, 13, 0] | 8 => [1, 2, 3, 4, 10, 11, 12, 13, 0] | 9 => [10, 11, 12, 13, 0] | 10 => [1, 2, 3, 5, 6, 7, 4, 8, 9, 0] | 11 => [1, 2, 3, 5, 6, 7, 4, 8, 9, 0] | 12 => [1, 2, 3, 5, 6, 7, 4, 8, 9, 0] | 13 => [1, 2, 3, 5, 6, 7, 4, 8, 9, 0] | 14 => [0] | _ => []) [16] [0, 0, 2, 6, 14, 0, 32, 96, 224, 510, 0, 1024, 3072, 7168, 16382, 32767, 65535] 93 rfl (by kernel_rfl) (ExtX.start _ _) ?_ ?_
      · rename_i hcont; clear hcont
        refine ⟨?_, ?_, ?_, ?_, ?_, ?_, ?_, ?_, ?_, ?_, ?_, ?_, ?_, ?_, ?_, ?_, ?_, trivial⟩
        · refine stepL_plain rfl ?_
          rintro F a w1 jE - ⟨t6, -⟩ K hK
          have t6 : a.tmps[6]? = some (.int .i64 dv) := t6
          go_simp
          exact hK _ _ jE rfl (fun _ _ _ h => h)
        · refine stepL_plain rfl ?_
          rintro F a w1 jE - ⟨t8, -⟩ K hK
          have t8 : a.tmps[8]? = some (ptrV gk) := t8
          go_simp
          exact hK _ _ jE rfl (fun _ _ _ h => h)
        · refine stepL_plain rfl ?_
          rintro F a w1 jE ⟨h1, t22, -⟩ - K hK
          have h1 : (F 1) = ptrV gk := h1
          rw [h1] at t22
          clear h1
          go_simp
          exact hK _ _ jE rfl (fun _ _ _ h => h)
        · refine stepL_plain rfl ?_
          rintro F a w1 jE ⟨h2, t23, -⟩ - K hK
          have h2 : (F 2) = .pointer (some ⟨gk, 0, none⟩) := h2
          rw [h2] at t23
          clear h2
          go_simp
          exact hK _ _ jE rfl (fun _ _ _ h => h)
        · refine stepL_plain rfl ?_
          rintro F a w1 jE ⟨h3, t24, -⟩ - K hK
          have h3 : (F 3) = .pointer (some ⟨gk, 43, none⟩) := h3
          rw [h3] at t24
          clear h3
          have c := ((jE.ext (Ext.refl _) (by simp)).cells.1 gk _ lk).trans c43
          go_simp
          exact hK _ _ jE rfl (fun _ _ _ h => h)
        · refine stepL_plain rfl ?_
          rintro F a w1 jE - ⟨t8, -⟩ K hK
          have t8 : a.tmps[8]? = some (ptrV gk) := t8
          go_simp
          exact hK _ _ jE rfl (fun _ _ _ h => h)
        · refine stepL_plain rfl ?_
          rintro F a w1 jE ⟨h5, t26, -⟩ - K hK
          have h5 : (F 5) = ptrV gk := h5
          rw [h5] at t26
          clear h5
          go_simp
          exact hK _ _ jE rfl (fun _ _ _ h => h)
        · refine stepL_plain rfl ?_
          rintro F a w1 jE ⟨h6, t27, -⟩ - K hK
          have h6 : (F 6) = .pointer (some ⟨gk, 0, none⟩) := h6
          rw [h6] at t27
          clear h6
          go_simp
          exact hK _ _ jE rfl (fun _ _ _ h => h)
        · refine stepL_plain rfl ?_
          rintro F a w1 jE ⟨h7, t28, -⟩ - K hK
          have h7 : (F 7) = .pointer (some ⟨gk, 45, none⟩) := h7
          rw [h7] at t28
          clear h7
          have c := ((jE.ext (Ext.refl _) (by simp)).cells.1 gk _ lk).trans c45
          go_simp
          exact hK _ _ jE rfl (fun _ _ _ h => h)
        · refine stepL_plain rfl ?_
          rintro F a w1 jE ⟨h4, t25, h8, t29, -⟩ - K hK
          have h4 : (F 4) = .int .i64 xl := h4
          rw [h4] at t25
          clear h4
          have h8 : (F 8) = .int .i64 xw := h8
          rw [h8] at t29
          clear h8
          have e1 : IntKind.i64.wrap (xl + xw) = (xl + xw) := IntWalk.i64_in _ (by omega)
          go_simp
          exact hK _ _ jE rfl (fun _ _ _ h => h)
        · refine stepL_plain rfl ?_
          rintro F a w1 jE - ⟨t8, -⟩ K hK
          have t8 : a.tmps[8]? = some (ptrV gk) := t8
          go_simp
          exact hK _ _ jE rfl (fun _ _ _ h => h)
        · refine stepL_plain rfl ?_
          rintro F a w1 jE ⟨h10, t31, -⟩ - K hK
          have h10 : (F 10) = ptrV gk := h10
          rw [h10] at t31
          clear h10
          go_simp
          exact hK _ _ jE rfl (fun _ _ _ h => h)
        · refine stepL_plain rfl ?_
          rintro F a w1 jE ⟨h11, t32, -⟩ - K hK
          have h11 : (F 11) = .pointer (some ⟨gk, 0, none⟩) := h11
          rw [h11] at t32
          clear h11
          go_simp
          exact hK _ _ jE rfl (fun _ _ _ h => h)
        · refine stepL_plain rfl ?_
          rintro F a w1 jE ⟨h12, t33, -⟩ - K hK
          have h12 : (F 12) = .pointer (some ⟨gk, 44, none⟩) := h12
          rw [h12] at t33
          clear h12
          have c := ((jE.ext (Ext.refl _) (by simp)).cells.1 gk _ lk).trans c44
          go_simp
          exact hK _ _ jE rfl (fun _ _ _ h => h)
        · refine stepL_plain rfl ?_
          rintro F a w1 jE ⟨h9, t30, h13, t34, -⟩ - K hK
          have h9 : (F 9) = .int .i64 (xl + xw) := h9
          rw [h9] at t30
          clear h9
          have h13 : (F 13) = .int .i64 xr := h13
          rw [h13] at t34
          clear h13
          have e1 : IntKind.i64.wrap ((xl + xw) + xr) = ((xl + xw) + xr) := IntWalk.i64_in _ (by omega)
          go_simp
          exact hK _ _ jE rfl (fun _ _ _ h => h)
        · refine stepL_plain rfl ?_
          rintro F a w1 jE ⟨h0, t21, h14, t35, -⟩ - K hK
          have h0 : (F 0) = .int .i64 dv := h0
          rw [h0] at t21
          clear h0
          have h14 : (F 14) = .int .i64 ((xl + xw) + xr) := h14
          rw [h14] at t35
          clear h14
          have e1 : IntKind.i64.wrap (dv - ((xl + xw) + xr)) = (dv - ((xl + xw) + xr)) := IntWalk.i64_in _ (by omega)
          go_simp
          exact hK _ _ jE rfl (fun _ _ _ h => h)
        · refine stepL_plain rfl ?_
          rintro F a w1 jE ⟨h15, t36, -⟩ - K hK
          have h15 : (F 15) = .int .i64 (dv - ((xl + xw) + xr)) := h15
          rw [h15] at t36
          clear h15
          go_simp
          exact hK _ _ jE rfl (fun _ _ _ h => h)
      · rintro F w9 jE ⟨h16, -⟩
        have h16 : (F 16) = .int .i64 (dv - ((xl + xw) + xr)) := h16
        have hx := jE.ext (Ext.refl _) (by simp)
        simp only [putL, Act.put, Nat.reduceAdd, Nat.zero_add, List.setIfInBounds_toArray, List.set_cons_succ, List.set_cons_zero]
        rw [h16]
        clear h16 jE c43 c44 c45 lk
        replace E := E.trans hx
        clear hx
        go_wp2_with fail
        go_roundw
        case rel => exact ⟨p + 1, by rw [unhide HS, ← unhide HDV]; go_num, by go_num, by omega, E⟩
        case measure => simp [intOf]; omega
    · have hpI : ¬ (p : Int) < (m : Int) := by omega
      have hpe : ks.take p = ks := List.take_of_length_le (by have := unhide HML; omega)
      have hfb := (unhide HSB) m (by omega)
      rw [show ks.take m = ks from List.take_of_length_le (by have := unhide HML; omega)] at hfb
      rw [hpe]
      obtain ⟨fr, hfr⟩ : ∃ fr, c - sumV I ks = fr := ⟨_, rfl⟩
      rw [hfr]
      have hfb2 : -2000000000000000 ≤ fr ∧ fr ≤ 2000000000000000 := by omega
      have HFR := hide hfr
      replace X := X.step E
      replace IS := IS.ext E
      replace BS := BS.ext E
      clear hpe hfr hfb E
      have bc := BS.cell
      have bl := BS.lt
      by_cases hjc0 : s.justify = 0
      · have hj1 := hjc0
        have cM := fun (p : Nat) (hp : p < m) w => hide (show Calls Try.prog 35 #[.int .i64 fr, .int .i64 (p : Int), .int .i64 (m : Int)] w (fun e w' => e = .returned (.int .i64 (moveV s.justify fr p m)) ∧ Ext w w') from by have := mv0_any fr (p : Int) (m : Int) w; rwa [show moveV s.justify fr p m = 0 by rw [moveV, if_neg (by omega), if_neg (by omega), if_neg (by omega)]])
        go_upto_region 12 with fail
        clear bc bl hjc0 hj1
        have X1 : ItX w (wr.alloc (.cells #[.func (Fn.func 35) #[] #[], .func (Fn.func 36) #[] #[], .func (Fn.func 37) #[] #[], .func (Fn.func 38) #[] #[]] 93)) g n := X.step ((Ext.refl _).alloc _)
        have IS1 : Its (wr.alloc (.cells #[.func (Fn.func 35) #[] #[], .func (Fn.func 36) #[] #[], .func (Fn.func 37) #[] #[], .func (Fn.func 38) #[] #[]] 93)) B g n (acrN s c I ks m 0) := (IS.ext ((Ext.refl _).alloc _)).congr (fun _ _ => rfl)
        generalize (wr.alloc (.cells #[.func (Fn.func 35) #[] #[], .func (Fn.func 36) #[] #[], .func (Fn.func 37) #[] #[], .func (Fn.func 38) #[] #[]] 93)) = w2 at *
        clear X IS BS
        go_wp2_with fail
        go_loopw [11, 55] (fun v11 v55 wr => ∃ p : Nat, v11 = .int .i64 (sumV I (ks.take p)) ∧ v55 = .int .i64 p ∧ p ≤ m ∧ Its wr B g n (acrN s c I ks m p) ∧ ItX w wr g n) (fun _ v55 _ => m - (intOf v55).toNat)
        case atStart => exact ⟨0, by simp [sumV], rfl, by omega, IS1, X1⟩
        case round =>
          clear IS1 X1 hp hpI p1
          obtain ⟨p, rfl, rfl, p1, IS, X⟩ := hrel
          by_cases hp : p < m
          · have hpI : (0 : Int) ≤ (p : Int) ∧ (p : Int) < (m : Int) := by omega
            have hpl : p < ks.length := by have := unhide HML; omega
            obtain ⟨k, hk⟩ : ∃ k, ks[p]? = some k := ⟨_, List.getElem?_eq_getElem hpl⟩
            obtain ⟨hkn, hbd⟩ := (unhide HKS) k (List.mem_of_getElem? hk)
            obtain ⟨b, off, hA, hb, hcp⟩ := (X.rd (unhide HR) (unhide HRA)).ptr hk
            have ht := (unhide HSB) p (by omega)
            have hat := acrN_fresh s c I ks m p (take_fresh (unhide HND) hk)
            have HS := hide (show sumV I (ks.take (p + 1)) = sumV I (ks.take p) + ((I k).left + (I k).wide + (I k).right) by rw [takeS hk, sumV_snoc])
            obtain ⟨b2, b3, b4⟩ := hbd
            have hmb := moveV_bd (j := s.justify) hfb2 hp hm
            obtain ⟨mv, hmv⟩ : ∃ mv, moveV s.justify fr p m = mv := ⟨_, rfl⟩
            rw [hmv] at hmb
            have HMV := hide hmv
            obtain ⟨x, hx⟩ : ∃ x, I k = x := ⟨_, rfl⟩
            rw [hx] at hat b2 b3 b4 HS
            obtain ⟨gk, hgk⟩ : ∃ gk, g k = gk := ⟨_, rfl⟩
            rw [hgk] at hcp
            obtain ⟨tv, htv⟩ : ∃ tv, sumV I (ks.take p) = tv := ⟨_, rfl⟩
            obtain ⟨xl, hxl⟩ : ∃ y, x.left = y := ⟨_, rfl⟩
            obtain ⟨xr, hxr⟩ : ∃ y, x.right = y := ⟨_, rfl⟩
            obtain ⟨xw, hxw⟩ : ∃ y, x.wide = y := ⟨_, rfl⟩
            rw [htv, hxl, hxr, hxw] at HS
            rw [htv] at ht ⊢
            rw [hxl] at b2
            rw [hxr] at b3
            rw [hxw] at b4
            have HX := hide hx
            have HK := hide hk
            have HGK := hide hgk
            have HTV := hide htv
            have HXL := hide hxl
            have HXR := hide hxr
            have HXW := hide hxw
            have HA := hide hA
            have hat2 := hide hat
            have lk : gk < wr.heap.size := by rw [← hgk]; exact IS.lt hkn
            have c43 : wr.cell? ⟨gk, 43, none⟩ = some (.int .i64 xl) := by rw [← hgk, ← hxl]; exact IS.cellE hkn hat rfl
            have c50 : ∃ v, wr.cell? ⟨gk, 50, none⟩ = some v := ⟨_, by rw [← hgk]; exact IS.cellE hkn hat rfl⟩
            obtain ⟨v50, c50⟩ := c50
            have f50 : wr.frozen? ⟨gk, 50, none⟩ = false := by rw [← hgk]; exact IS.frozen hkn 50
            clear hx hk hgk htv hxl hxr hxw hA hat hmv
            go_upto_region 14 with fail
            rw [unhide HA]
            go_upto_region 15 with fail
            rw [← unhide HA]
            clear hb hcp
            refine wp_region_linT (by kernel_rfl) (fun w' => (ExtX wr w' [gk])) (fun ii vv ww => match ii with | 0 => vv = ptrV gk | 1 => vv = .int .i64 tv | 2 => vv = ptrV gk | 3 => vv = .pointer (some ⟨gk, 0, none⟩) | 4 => vv = .pointer (some ⟨gk, 43, none⟩) | 5 => vv = .int .i64 xl | 6 => vv = .int .i64 (tv + xl) | 7 => vv = .func (Fn.func 35) #[] #[] | 8 => vv = .int .i64 fr | 9 => vv = .int .i64 (p : Int) | 10 => vv = .slice A m ca | 11 => vv = .int .i64 (m : Int) | 12 => vv = .int .i64 mv | 13 => vv = .int .i64 ((tv + xl) + mv) | 14 => vv = .pointer (some ⟨gk, 0, none⟩) | 15 => vv = .pointer (some ⟨gk, 50, none⟩) | _ => True) (fun ii => match ii with | 3 => [(2, 62)] | 4 => [(3, 63)] | 5 => [(4, 64)] | 6 => [(1, 61), (5, 65)] | 11 => [(10, 70)] | 12 => [(7, 67), (8, 68), (9, 69), (11, 71)] | 13 => [(6, 66), (12, 72)] | 14 => [(0, 60)] | 15 => [(14, 74)] | 16 => [(15, 75), (13, 73)] | _ => []) (fun ii => match ii with | 0 => [13] | 1 => [11] | 2 => [13] | 7 => [10] | 8 => [6] | 9 => [12] | 10 => [1] | _ => []) (fun ii => match ii with | 0 => [2, 3, 4, 1, 5, 10, 7, 8, 9, 11, 6, 12, 13] | 1 => [2, 3, 4, 5, 10, 7, 8, 9, 11, 12, 0] | 2 => [1, 10, 7, 8, 9, 11, 12, 0] | 3 => [1, 10, 7, 8, 9, 11, 12, 0] | 4 => [1, 10, 7, 8, 9, 11, 12, 0] | 5 => [1, 10, 7, 8, 9, 11, 12, 0] | 6 => [10, 7, 8, 9, 11, 12, 0] | 7 => [2, 3, 4, 1, 5, 10, 8, 9, 11, 6, 0] | 8 => [2, 3, 4, 1, 5, 10, 7, 9, 11, 6, 0] | 9 => [2, 3, 4, 1, 5, 10, 7, 8, 11, 6, 0] | 10 => [2, 3, 4, 1, 5, 7, 8, 9, 6, 0] | 11 => [2, 3, 4, 1, 5, 7, 8, 9, 6, 0] | 12 => [2, 3, 4, 1, 5, 6, 0] | 13 => [0] | 14 => [13] | 15 => [13] | _ => []) [] [0, 0, 0, 4, 12, 28, 62, 0, 0, 0, 0, 1024, 3968, 8190, 16383, 32767, 65535] (fun w0q => Ext wr w0q) [16] (fun FT wT => ∃ J, (∀ i, i ≠ k → J i = acrN s c I ks m p i) ∧ J k = (setX x (tv + xl + mv)) ∧ Its wT B g n J ∧ ItX w wT g n) 16 93 rfl (by kernel_rfl) (by kernel_rfl) (.inl (by kernel_rfl)) ((ExtX.start _ _)) ((Ext.refl _).drew) ?_ ?_
            · rename_i hcont; clear hcont
              refine ⟨?_, ?_, ?_, ?_, ?_, ?_, ?_, ?_, ?_, ?_, ?_, ?_, ?_, ?_, ?_, ?_, ?_, trivial⟩
              · refine stepT_plain rfl ?_
                rintro F a w1 jE - ⟨t13, -⟩ iO K hK
                have t13 : a.tmps[13]? = some (ptrV gk) := t13
                go_simp
                exact hK _ _ jE rfl (fun _ _ _ h => h) (fun _ => by first | exact iO | rfl) (fun he => absurd he (by decide))
              · refine stepT_plain rfl ?_
                rintro F a w1 jE - ⟨t11, -⟩ iO K hK
                have t11 : a.tmps[11]? = some (.int .i64 tv) := t11
                go_simp
                exact hK _ _ jE rfl (fun _ _ _ h => h) (fun _ => by first | exact iO | rfl) (fun he => absurd he (by decide))
              · refine stepT_plain rfl ?_
                rintro F a w1 jE - ⟨t13, -⟩ iO K hK
                have t13 : a.tmps[13]? = some (ptrV gk) := t13
                go_simp
                exact hK _ _ jE rfl (fun _ _ _ h => h) (fun _ => by first | exact iO | rfl) (fun he => absurd he (by decide))
              · refine stepT_plain rfl ?_
                rintro F a w1 jE ⟨h2, t62, -⟩ - iO K hK
                have h2 : (F 2) = ptrV gk := h2
                rw [h2] at t62
                clear h2
                go_simp
                exact hK _ _ jE rfl (fun _ _ _ h => h) (fun _ => by first | exact iO | rfl) (fun he => absurd he (by decide))
              · refine stepT_plain rfl ?_
                rintro F a w1 jE ⟨h3, t63, -⟩ - iO K hK
                have h3 : (F 3) = .pointer (some ⟨gk, 0, none⟩) := h3
                rw [h3] at t63
                clear h3
                go_simp
                exact hK _ _ jE rfl (fun _ _ _ h => h) (fun _ => by first | exact iO | rfl) (fun he => absurd he (by decide))
              · refine stepT_plain rfl ?_
                rintro F a w1 jE ⟨h4, t64, -⟩ - iO K hK
                have h4 : (F 4) = .pointer (some ⟨gk, 43, none⟩) := h4
                rw [h4] at t64
                clear h4
                have c := (iO.cells.1 gk _ lk).trans c43
                go_simp
                exact hK _ _ jE rfl (fun _ _ _ h => h) (fun _ => by first | exact iO | rfl) (fun he => absurd he (by decide))
              · refine stepT_plain rfl ?_
                rintro F a w1 jE ⟨h1, t61, h5, t65, -⟩ - iO K hK
                have h1 : (F 1) = .int .i64 tv := h1
                rw [h1] at t61
                clear h1
                have h5 : (F 5) = .int .i64 xl := h5
                rw [h5] at t65
                clear h5
                have e1 : IntKind.i64.wrap (tv + xl) = (tv + xl) := IntWalk.i64_in _ (by omega)
                go_simp
                exact hK _ _ jE rfl (fun _ _ _ h => h) (fun _ => by first | exact iO | rfl) (fun he => absurd he (by decide))
              · refine stepT_plain rfl ?_
                rintro F a w1 jE - ⟨t10, -⟩ iO K hK
                have t10 : a.tmps[10]? = some (.func (Fn.func 35) #[] #[]) := t10
                go_simp
                exact hK _ _ jE rfl (fun _ _ _ h => h) (fun _ => by first | exact iO | rfl) (fun he => absurd he (by decide))
              · refine stepT_plain rfl ?_
                rintro F a w1 jE - ⟨t6, -⟩ iO K hK
                have t6 : a.tmps[6]? = some (.int .i64 fr) := t6
                go_simp
                exact hK _ _ jE rfl (fun _ _ _ h => h) (fun _ => by first | exact iO | rfl) (fun he => absurd he (by decide))
              · refine stepT_plain rfl ?_
                rintro F a w1 jE - ⟨t12, -⟩ iO K hK
                have t12 : a.tmps[12]? = some (.int .i64 (p : Int)) := t12
                go_simp
                exact hK _ _ jE rfl (fun _ _ _ h => h) (fun _ => by first | exact iO | rfl) (fun he => absurd he (by decide))
              · refine stepT_plain rfl ?_
                rintro F a w1 jE - ⟨t1, -⟩ iO K hK
                have t1 : a.tmps[1]? = some (.slice A m ca) := t1
                go_simp
                exact hK _ _ jE rfl (fun _ _ _ h => h) (fun _ => by first | exact iO | rfl) (fun he => absurd he (by decide))
              · refine stepT_plain rfl ?_
                rintro F a w1 jE ⟨h10, t70, -⟩ - iO K hK
                have h10 : (F 10) = .slice A m ca := h10
                rw [h10] at t70
                clear h10
                go_simp
                exact hK _ _ jE rfl (fun _ _ _ h => h) (fun _ => by first | exact iO | rfl) (fun he => absurd he (by decide))
              · refine stepT_plain rfl ?_
                rintro F a w1 jE ⟨h7, t67, h8, t68, h9, t69, h11, t71, -⟩ - iO K hK
                have h7 : (F 7) = .func (Fn.func 35) #[] #[] := h7
                rw [h7] at t67
                clear h7
                have h8 : (F 8) = .int .i64 fr := h8
                rw [h8] at t68
                clear h8
                have h9 : (F 9) = .int .i64 (p : Int) := h9
                rw [h9] at t69
                clear h9
                have h11 : (F 11) = .int .i64 (m : Int) := h11
                rw [h11] at t71
                clear h11
                go_simp
                with_reducible refine (unhide (cM p hp _)).mono ?_
                rintro e w2 ⟨rfl, hx⟩
                rw [unhide HMV]
                exact hK _ _ (jE.trans hx) rfl (by intro jq hj uq h; have hj : jq ∈ [2, 3, 4, 1, 5, 6, 0] := hj; simp only [List.mem_cons, List.not_mem_nil, or_false] at hj; rcases hj with rfl | rfl | rfl | rfl | rfl | rfl | rfl; exact h; exact h; exact h; exact h; exact h; exact h; exact h) (fun _ => iO.trans hx) (fun he => absurd he (by decide))
              · refine stepT_plain rfl ?_
                rintro F a w1 jE ⟨h6, t66, h12, t72, -⟩ - iO K hK
                have h6 : (F 6) = .int .i64 (tv + xl) := h6
                rw [h6] at t66
                clear h6
                have h12 : (F 12) = .int .i64 mv := h12
                rw [h12] at t72
                clear h12
                have e1 : IntKind.i64.wrap ((tv + xl) + mv) = ((tv + xl) + mv) := IntWalk.i64_in _ (by omega)
                go_simp
                exact hK _ _ jE rfl (fun _ _ _ h => h) (fun _ => by first | exact iO | rfl) (fun he => absurd he (by decide))
              · refine stepT_plain rfl ?_
                rintro F a w1 jE ⟨h0, t60, -⟩ - iO K hK
                have h0 : (F 0) = ptrV gk := h0
                rw [h0] at t60
                clear h0
                go_simp
                exact hK _ _ jE rfl (fun _ _ _ h => h) (fun _ => by first | exact iO | rfl) (fun he => absurd he (by decide))
              · refine stepT_plain rfl ?_
                rintro F a w1 jE ⟨h14, t74, -⟩ - iO K hK
                have h14 : (F 14) = .pointer (some ⟨gk, 0, none⟩) := h14
                rw [h14] at t74
                clear h14
                go_simp
                exact hK _ _ jE rfl (fun _ _ _ h => h) (fun _ => by first | exact iO | rfl) (fun he => absurd he (by decide))
              · refine stepT_plain rfl ?_
                rintro F a w1 jE ⟨h15, t75, h13, t73, -⟩ - iO K hK
                have h15 : (F 15) = .pointer (some ⟨gk, 50, none⟩) := h15
                rw [h15] at t75
                clear h15
                have h13 : (F 13) = .int .i64 ((tv + xl) + mv) := h13
                rw [h13] at t73
                clear h13
                have c := (iO.cells.1 gk _ lk).trans c50
                have f := (iO.cells.2 gk _ lk).trans f50
                go_simp
                obtain ⟨J, q1, q2, q3⟩ := (IS.ext iO).putE (v := .int .i64 (tv + xl + mv)) (j := 50) hkn (unhide hat2) (t := (setX x (tv + xl + mv))) rfl
                have X3 := (X.step iO).set (j := 50) hkn (.int .i64 (tv + xl + mv))
                rw [unhide HGK] at q3 X3
                exact hK undef _ (jE.set (by simp) _) trivial (fun _ hj _ _ => (List.not_mem_nil hj).elim) (fun h => (h (by simp)).elim) (fun _ => ⟨J, q1, q2, q3, X3⟩)
            · rintro F w7 jE - hT
              obtain ⟨J, J1, J2, JS, X⟩ := hT (by decide)
              simp only [putL, Act.put, Nat.reduceAdd, Nat.zero_add, List.setIfInBounds_toArray, List.set_cons_succ, List.set_cons_zero]
              have HJ1 := hide J1
              have HJ2 := hide J2
              have lk7 : gk < w7.heap.size := by rw [← unhide HGK]; exact JS.lt hkn
              have c43 : w7.cell? ⟨gk, 43, none⟩ = some (.int .i64 xl) := by rw [← unhide HGK, ← unhide HXL]; exact JS.cellE hkn (unhide HJ2) rfl
              have c44 : w7.cell? ⟨gk, 44, none⟩ = some (.int .i64 xr) := by rw [← unhide HGK, ← unhide HXR]; exact JS.cellE hkn (unhide HJ2) rfl
              have c45 : w7.cell? ⟨gk, 45, none⟩ = some (.int .i64 xw) := by rw [← unhide HGK, ← unhide HXW]; exact JS.cellE hkn (unhide HJ2) rfl
              clear jE hT J1 J2 IS c50 f50 lk
              go_upto_region 16 with fail
              refine wp_region_lin (by kernel_rfl) (fun w' => (ExtX w7 w' [])) (fun ii vv ww => match ii with | 0 => vv = .int .i64 tv | 1 => vv = ptrV gk | 2 => vv = .pointer (some ⟨gk, 0, none⟩) | 3 => vv = .pointer (some ⟨gk, 43, none⟩) | 4 => vv = .int .i64 xl | 5 => vv = ptrV gk | 6 => vv = .pointer (some ⟨gk, 0, none⟩) | 7 => vv = .pointer (some ⟨gk, 45, none⟩) | 8 => vv = .int .i64 xw | 9 => vv = .int .i64 (xl + xw) | 10 => vv = ptrV gk | 11 => vv = .pointer (some ⟨gk, 0, none⟩) | 12 => vv = .pointer (some ⟨gk, 44, none⟩) | 13 => vv = .int .i64 xr | 14 => vv = .int .i64 ((xl + xw) + xr) | 15 => vv = .int .i64 (tv + ((xl + xw) + xr)) | 16 => vv = .int .i64 (tv + ((xl + xw) + xr)) | _ => True) (fun ii => match ii with | 2 => [(1, 77)] | 3 => [(2, 78)] | 4 => [(3, 79)] | 6 => [(5, 81)] | 7 => [(6, 82)] | 8 => [(7, 83)] | 9 => [(4, 80), (8, 84)] | 11 => [(10, 86)] | 12 => [(11, 87)] | 13 => [(12, 88)] | 14 => [(9, 85), (13, 89)] | 15 => [(0, 76), (14, 90)] | 16 => [(15, 91)] | _ => []) (fun ii => match ii with | 0 => [11] | 1 => [13] | 5 => [13] | 10 => [13] | _ => []) (fun ii => match ii with | 0 => [1, 2, 3, 5, 6, 7, 4, 8, 10, 11, 12, 9, 13, 14] | 1 => [5, 6, 7, 8, 10, 11, 12, 13, 0] | 2 => [5, 6, 7, 8, 10, 11, 12, 13, 0] | 3 => [5, 6, 7, 8, 10, 11, 12, 13, 0] | 4 => [5, 6, 7, 8, 10, 11, 12, 13, 0] | 5 => [1, 2, 3, 4, 10, 11, 12, 13, 0] | 6 => [1, 2, 3, 4, 10, 11, 12, 13, 0] | 7 => [1, 2, 3, 4, 10, 11, 12, 13, 0] | 8 => [1, 2, 3, 4, 10, 11, 12, 13, 0] | 9 => [10, 11, 12, 13, 0] | 10 => [1, 2, 3, 5, 6, 7, 4, 8, 9, 0] | 11 => [1, 2, 3, 5, 6, 7, 4, 8, 9, 0] | 12 => [1, 2, 3, 5, 6, 7, 4, 8, 9, 0] | 13 => [1, 2, 3, 5, 6, 7, 4, 8, 9, 0] | 14 => [0] | _ => []) [16] [0, 0, 2, 6, 14, 0, 32, 96, 224, 510, 0, 1024, 3072, 7168, 16382, 32767, 65535] 93 rfl (by kernel_rfl) (ExtX.start _ _) ?_ ?_
              · rename_i hcont; clear hcont
                refine ⟨?_, ?_, ?_, ?_, ?_, ?_, ?_, ?_, ?_, ?_, ?_, ?_, ?_, ?_, ?_, ?_, ?_, trivial⟩
                · refine stepL_plain rfl ?_
                  rintro F a w1 jE - ⟨t11, -⟩ K hK
                  have t11 : a.tmps[11]? = some (.int .i64 tv) := t11
                  go_simp
                  exact hK _ _ jE rfl (fun _ _ _ h => h)
                · refine stepL_plain rfl ?_
                  rintro F a w1 jE - ⟨t13, -⟩ K hK
                  have t13 : a.tmps[13]? = some (ptrV gk) := t13
                  go_simp
                  exact hK _ _ jE rfl (fun _ _ _ h => h)
                · refine stepL_plain rfl ?_
                  rintro F a w1 jE ⟨h1, t77, -⟩ - K hK
                  have h1 : (F 1) = ptrV gk := h1
                  rw [h1] at t77
                  clear h1
                  go_simp
                  exact hK _ _ jE rfl (fun _ _ _ h => h)
                · refine stepL_plain rfl ?_
                  rintro F a w1 jE ⟨h2, t78, -⟩ - K hK
                  have h2 : (F 2) = .pointer (some ⟨gk, 0, none⟩) := h2
                  rw [h2] at t78
                  clear h2
                  go_simp
                  exact hK _ _ jE rfl (fun _ _ _ h => h)
                · refine stepL_plain rfl ?_
                  rintro F a w1 jE ⟨h3, t79, -⟩ - K hK
                  have h3 : (F 3) = .pointer (some ⟨gk, 43, none⟩) := h3
                  rw [h3] at t79
                  clear h3
                  have c := ((jE.ext (Ext.refl _) (by simp)).cells.1 gk _ lk7).trans c43
                  go_simp
                  exact hK _ _ jE rfl (fun _ _ _ h => h)
                · refine stepL_plain rfl ?_
                  rintro F a w1 jE - ⟨t13, -⟩ K hK
                  have t13 : a.tmps[13]? = some (ptrV gk) := t13
                  go_simp
                  exact hK _ _ jE rfl (fun _ _ _ h => h)
                · refine stepL_plain rfl ?_
                  rintro F a w1 jE ⟨h5, t81, -⟩ - K hK
                  have h5 : (F 5) = ptrV gk := h5
                  rw [h5] at t81
                  clear h5
                  go_simp
                  exact hK _ _ jE rfl (fun _ _ _ h => h)
                · refine stepL_plain rfl ?_
                  rintro F a w1 jE ⟨h6, t82, -⟩ - K hK
                  have h6 : (F 6) = .pointer (some ⟨gk, 0, none⟩) := h6
                  rw [h6] at t82
                  clear h6
                  go_simp
                  exact hK _ _ jE rfl (fun _ _ _ h => h)
                · refine stepL_plain rfl ?_
                  rintro F a w1 jE ⟨h7, t83, -⟩ - K hK
                  have h7 : (F 7) = .pointer (some ⟨gk, 45, none⟩) := h7
                  rw [h7] at t83
                  clear h7
                  have c := ((jE.ext (Ext.refl _) (by simp)).cells.1 gk _ lk7).trans c45
                  go_simp
                  exact hK _ _ jE rfl (fun _ _ _ h => h)
                · refine stepL_plain rfl ?_
                  rintro F a w1 jE ⟨h4, t80, h8, t84, -⟩ - K hK
                  have h4 : (F 4) = .int .i64 xl := h4
                  rw [h4] at t80
                  clear h4
                  have h8 : (F 8) = .int .i64 xw := h8
                  rw [h8] at t84
                  clear h8
                  have e1 : IntKind.i64.wrap (xl + xw) = (xl + xw) := IntWalk.i64_in _ (by omega)
                  go_simp
                  exact hK _ _ jE rfl (fun _ _ _ h => h)
                · refine stepL_plain rfl ?_
                  rintro F a w1 jE - ⟨t13, -⟩ K hK
                  have t13 : a.tmps[13]? = some (ptrV gk) := t13
                  go_simp
                  exact hK _ _ jE rfl (fun _ _ _ h => h)
                · refine stepL_plain rfl ?_
                  rintro F a w1 jE ⟨h10, t86, -⟩ - K hK
                  have h10 : (F 10) = ptrV gk := h10
                  rw [h10] at t86
                  clear h10
                  go_simp
                  exact hK _ _ jE rfl (fun _ _ _ h => h)
                · refine stepL_plain rfl ?_
                  rintro F a w1 jE ⟨h11, t87, -⟩ - K hK
                  have h11 : (F 11) = .pointer (some ⟨gk, 0, none⟩) := h11
                  rw [h11] at t87
                  clear h11
                  go_simp
                  exact hK _ _ jE rfl (fun _ _ _ h => h)
                · refine stepL_plain rfl ?_
                  rintro F a w1 jE ⟨h12, t88, -⟩ - K hK
                  have h12 : (F 12) = .pointer (some ⟨gk, 44, none⟩) := h12
                  rw [h12] at t88
                  clear h12
                  have c := ((jE.ext (Ext.refl _) (by simp)).cells.1 gk _ lk7).trans c44
                  go_simp
                  exact hK _ _ jE rfl (fun _ _ _ h => h)
                · refine stepL_plain rfl ?_
                  rintro F a w1 jE ⟨h9, t85, h13, t89, -⟩ - K hK
                  have h9 : (F 9) = .int .i64 (xl + xw) := h9
                  rw [h9] at t85
                  clear h9
                  have h13 : (F 13) = .int .i64 xr := h13
                  rw [h13] at t89
                  clear h13
                  have e1 : IntKind.i64.wrap ((xl + xw) + xr) = ((xl + xw) + xr) := IntWalk.i64_in _ (by omega)
                  go_simp
                  exact hK _ _ jE rfl (fun _ _ _ h => h)
                · refine stepL_plain rfl ?_
                  rintro F a w1 jE ⟨h0, t76, h14, t90, -⟩ - K hK
                  have h0 : (F 0) = .int .i64 tv := h0
                  rw [h0] at t76
                  clear h0
                  have h14 : (F 14) = .int .i64 ((xl + xw) + xr) := h14
                  rw [h14] at t90
                  clear h14
                  have e1 : IntKind.i64.wrap (tv + ((xl + xw) + xr)) = (tv + ((xl + xw) + xr)) := IntWalk.i64_in _ (by omega)
                  go_simp
                  exact hK _ _ jE rfl (fun _ _ _ h => h)
                · refine stepL_plain rfl ?_
                  rintro F a w1 jE ⟨h15, t91, -⟩ - K hK
                  have h15 : (F 15) = .int .i64 (tv + ((xl + xw) + xr)) := h15
                  rw [h15] at t91
                  clear h15
                  go_simp
                  exact hK _ _ jE rfl (fun _ _ _ h => h)
              · rintro F w9 jE ⟨h16, -⟩
                have h16 : (F 16) = .int .i64 (tv + ((xl + xw) + xr)) := h16
                have hx := jE.ext (Ext.refl _) (by simp)
                simp only [putL, Act.put, Nat.reduceAdd, Nat.zero_add, List.setIfInBounds_toArray, List.set_cons_succ, List.set_cons_zero]
                rw [h16]
                clear h16 jE c43 c44 c45 lk7
                replace JS := JS.ext hx
                replace X := X.step hx
                clear hx
                go_wp2_with fail
                go_roundw
                case rel => exact ⟨p + 1, by rw [unhide HS], by go_num, by omega, JS.congr (fun i _ => acrN_step (unhide HK) (unhide HJ1) (by rw [unhide HX, unhide HJ2]; show setX x _ = setX x _; rw [xV, unhide HX, unhide HTV, unhide HFR, unhide HMV, unhide HXL]) i), X⟩
                case measure => simp [intOf]; omega
          · have hpI : ¬ (p : Int) < (m : Int) := by omega
            have hpe : p = m := by omega
            have HPE := hide hpe
            clear hpe
            go_wp2_with fail
            go_end0
            exact ⟨rfl, by have e := unhide HPE; rw [e] at IS; exact IS, X⟩
      · skip
        by_cases hjc1 : s.justify = 1
        · have hj1 := hjc1
          have cM := fun (p : Nat) (hp : p < m) w => hide (show Calls Try.prog 36 #[.int .i64 fr, .int .i64 (p : Int), .int .i64 (m : Int)] w (fun e w' => e = .returned (.int .i64 (moveV s.justify fr p m)) ∧ Ext w w') from by have := mv1_any fr (p : Int) (m : Int) w; rwa [show moveV s.justify fr p m = fr by rw [moveV, if_pos hj1]])
          go_upto_region 12 with fail
          clear bc bl hjc1 hj1
          have X1 : ItX w (wr.alloc (.cells #[.func (Fn.func 35) #[] #[], .func (Fn.func 36) #[] #[], .func (Fn.func 37) #[] #[], .func (Fn.func 38) #[] #[]] 93)) g n := X.step ((Ext.refl _).alloc _)
          have IS1 : Its (wr.alloc (.cells #[.func (Fn.func 35) #[] #[], .func (Fn.func 36) #[] #[], .func (Fn.func 37) #[] #[], .func (Fn.func 38) #[] #[]] 93)) B g n (acrN s c I ks m 0) := (IS.ext ((Ext.refl _).alloc _)).congr (fun _ _ => rfl)
          generalize (wr.alloc (.cells #[.func (Fn.func 35) #[] #[], .func (Fn.func 36) #[] #[], .func (Fn.func 37) #[] #[], .func (Fn.func 38) #[] #[]] 93)) = w2 at *
          clear X IS BS
          go_wp2_with fail
          go_loopw [11, 55] (fun v11 v55 wr => ∃ p : Nat, v11 = .int .i64 (sumV I (ks.take p)) ∧ v55 = .int .i64 p ∧ p ≤ m ∧ Its wr B g n (acrN s c I ks m p) ∧ ItX w wr g n) (fun _ v55 _ => m - (intOf v55).toNat)
          case atStart => exact ⟨0, by simp [sumV], rfl, by omega, IS1, X1⟩
          case round =>
            clear IS1 X1 hp hpI p1
            obtain ⟨p, rfl, rfl, p1, IS, X⟩ := hrel
            by_cases hp : p < m
            · have hpI : (0 : Int) ≤ (p : Int) ∧ (p : Int) < (m : Int) := by omega
              have hpl : p < ks.length := by have := unhide HML; omega
              obtain ⟨k, hk⟩ : ∃ k, ks[p]? = some k := ⟨_, List.getElem?_eq_getElem hpl⟩
              obtain ⟨hkn, hbd⟩ := (unhide HKS) k (List.mem_of_getElem? hk)
              obtain ⟨b, off, hA, hb, hcp⟩ := (X.rd (unhide HR) (unhide HRA)).ptr hk
              have ht := (unhide HSB) p (by omega)
              have hat := acrN_fresh s c I ks m p (take_fresh (unhide HND) hk)
              have HS := hide (show sumV I (ks.take (p + 1)) = sumV I (ks.take p) + ((I k).left + (I k).wide + (I k).right) by rw [takeS hk, sumV_snoc])
              obtain ⟨b2, b3, b4⟩ := hbd
              have hmb := moveV_bd (j := s.justify) hfb2 hp hm
              obtain ⟨mv, hmv⟩ : ∃ mv, moveV s.justify fr p m = mv := ⟨_, rfl⟩
              rw [hmv] at hmb
              have HMV := hide hmv
              obtain ⟨x, hx⟩ : ∃ x, I k = x := ⟨_, rfl⟩
              rw [hx] at hat b2 b3 b4 HS
              obtain ⟨gk, hgk⟩ : ∃ gk, g k = gk := ⟨_, rfl⟩
              rw [hgk] at hcp
              obtain ⟨tv, htv⟩ : ∃ tv, sumV I (ks.take p) = tv := ⟨_, rfl⟩
              obtain ⟨xl, hxl⟩ : ∃ y, x.left = y := ⟨_, rfl⟩
              obtain ⟨xr, hxr⟩ : ∃ y, x.right = y := ⟨_, rfl⟩
              obtain ⟨xw, hxw⟩ : ∃ y, x.wide = y := ⟨_, rfl⟩
              rw [htv, hxl, hxr, hxw] at HS
              rw [htv] at ht ⊢
              rw [hxl] at b2
              rw [hxr] at b3
              rw [hxw] at b4
              have HX := hide hx
              have HK := hide hk
              have HGK := hide hgk
              have HTV := hide htv
              have HXL := hide hxl
              have HXR := hide hxr
              have HXW := hide hxw
              have HA := hide hA
              have hat2 := hide hat
              have lk : gk < wr.heap.size := by rw [← hgk]; exact IS.lt hkn
              have c43 : wr.cell? ⟨gk, 43, none⟩ = some (.int .i64 xl) := by rw [← hgk, ← hxl]; exact IS.cellE hkn hat rfl
              have c50 : ∃ v, wr.cell? ⟨gk, 50, none⟩ = some v := ⟨_, by rw [← hgk]; exact IS.cellE hkn hat rfl⟩
              obtain ⟨v50, c50⟩ := c50
              have f50 : wr.frozen? ⟨gk, 50, none⟩ = false := by rw [← hgk]; exact IS.frozen hkn 50
              clear hx hk hgk htv hxl hxr hxw hA hat hmv
              go_upto_region 14 with fail
              rw [unhide HA]
              go_upto_region 15 with fail
              rw [← unhide HA]
              clear hb hcp
              refine wp_region_linT (by kernel_rfl) (fun w' => (ExtX wr w' [gk])) (fun ii vv ww => match ii with | 0 => vv = ptrV gk | 1 => vv = .int .i64 tv | 2 => vv = ptrV gk | 3 => vv = .pointer (some ⟨gk, 0, none⟩) | 4 => vv = .pointer (some ⟨gk, 43, none⟩) | 5 => vv = .int .i64 xl | 6 => vv = .int .i64 (tv + xl) | 7 => vv = .func (Fn.func 36) #[] #[] | 8 => vv = .int .i64 fr | 9 => vv = .int .i64 (p : Int) | 10 => vv = .slice A m ca | 11 => vv = .int .i64 (m : Int) | 12 => vv = .int .i64 mv | 13 => vv = .int .i64 ((tv + xl) + mv) | 14 => vv = .pointer (some ⟨gk, 0, none⟩) | 15 => vv = .pointer (some ⟨gk, 50, none⟩) | _ => True) (fun ii => match ii with | 3 => [(2, 62)] | 4 => [(3, 63)] | 5 => [(4, 64)] | 6 => [(1, 61), (5, 65)] | 11 => [(10, 70)] | 12 => [(7, 67), (8, 68), (9, 69), (11, 71)] | 13 => [(6, 66), (12, 72)] | 14 => [(0, 60)] | 15 => [(14, 74)] | 16 => [(15, 75), (13, 73)] | _ => []) (fun ii => match ii with | 0 => [13] | 1 => [11] | 2 => [13] | 7 => [10] | 8 => [6] | 9 => [12] | 10 => [1] | _ => []) (fun ii => match ii with | 0 => [2, 3, 4, 1, 5, 10, 7, 8, 9, 11, 6, 12, 13] | 1 => [2, 3, 4, 5, 10, 7, 8, 9, 11, 12, 0] | 2 => [1, 10, 7, 8, 9, 11, 12, 0] | 3 => [1, 10, 7, 8, 9, 11, 12, 0] | 4 => [1, 10, 7, 8, 9, 11, 12, 0] | 5 => [1, 10, 7, 8, 9, 11, 12, 0] | 6 => [10, 7, 8, 9, 11, 12, 0] | 7 => [2, 3, 4, 1, 5, 10, 8, 9, 11, 6, 0] | 8 => [2, 3, 4, 1, 5, 10, 7, 9, 11, 6, 0] | 9 => [2, 3, 4, 1, 5, 10, 7, 8, 11, 6, 0] | 10 => [2, 3, 4, 1, 5, 7, 8, 9, 6, 0] | 11 => [2, 3, 4, 1, 5, 7, 8, 9, 6, 0] | 12 => [2, 3, 4, 1, 5, 6, 0] | 13 => [0] | 14 => [13] | 15 => [13] | _ => []) [] [0, 0, 0, 4, 12, 28, 62, 0, 0, 0, 0, 1024, 3968, 8190, 16383, 32767, 65535] (fun w0q => Ext wr w0q) [16] (fun FT wT => ∃ J, (∀ i, i ≠ k → J i = acrN s c I ks m p i) ∧ J k = (setX x (tv + xl + mv)) ∧ Its wT B g n J ∧ ItX w wT g n) 16 93 rfl (by kernel_rfl) (by kernel_rfl) (.inl (by kernel_rfl)) ((ExtX.start _ _)) ((Ext.refl _).drew) ?_ ?_
              · rename_i hcont; clear hcont
                refine ⟨?_, ?_, ?_, ?_, ?_, ?_, ?_, ?_, ?_, ?_, ?_, ?_, ?_, ?_, ?_, ?_, ?_, trivial⟩
                · refine stepT_plain rfl ?_
                  rintro F a w1 jE - ⟨t13, -⟩ iO K hK
                  have t13 : a.tmps[13]? = some (ptrV gk) := t13
                  go_simp
                  exact hK _ _ jE rfl (fun _ _ _ h => h) (fun _ => by first | exact iO | rfl) (fun he => absurd he (by decide))
                · refine stepT_plain rfl ?_
                  rintro F a w1 jE - ⟨t11, -⟩ iO K hK
                  have t11 : a.tmps[11]? = some (.int .i64 tv) := t11
                  go_simp
                  exact hK _ _ jE rfl (fun _ _ _ h => h) (fun _ => by first | exact iO | rfl) (fun he => absurd he (by decide))
                · refine stepT_plain rfl ?_
                  rintro F a w1 jE - ⟨t13, -⟩ iO K hK
                  have t13 : a.tmps[13]? = some (ptrV gk) := t13
                  go_simp
                  exact hK _ _ jE rfl (fun _ _ _ h => h) (fun _ => by first | exact iO | rfl) (fun he => absurd he (by decide))
                · refine stepT_plain rfl ?_
                  rintro F a w1 jE ⟨h2, t62, -⟩ - iO K hK
                  have h2 : (F 2) = ptrV gk := h2
                  rw [h2] at t62
                  clear h2
                  go_simp
                  exact hK _ _ jE rfl (fun _ _ _ h => h) (fun _ => by first | exact iO | rfl) (fun he => absurd he (by decide))
                · refine stepT_plain rfl ?_
                  rintro F a w1 jE ⟨h3, t63, -⟩ - iO K hK
                  have h3 : (F 3) = .pointer (some ⟨gk, 0, none⟩) := h3
                  rw [h3] at t63
                  clear h3
                  go_simp
                  exact hK _ _ jE rfl (fun _ _ _ h => h) (fun _ => by first | exact iO | rfl) (fun he => absurd he (by decide))
                · refine stepT_plain rfl ?_
                  rintro F a w1 jE ⟨h4, t64, -⟩ - iO K hK
                  have h4 : (F 4) = .pointer (some ⟨gk, 43, none⟩) := h4
                  rw [h4] at t64
                  clear h4
                  have c := (iO.cells.1 gk _ lk).trans c43
                  go_simp
                  exact hK _ _ jE rfl (fun _ _ _ h => h) (fun _ => by first | exact iO | rfl) (fun he => absurd he (by decide))
                · refine stepT_plain rfl ?_
                  rintro F a w1 jE ⟨h1, t61, h5, t65, -⟩ - iO K hK
                  have h1 : (F 1) = .int .i64 tv := h1
                  rw [h1] at t61
                  clear h1
                  have h5 : (F 5) = .int .i64 xl := h5
                  rw [h5] at t65
                  clear h5
                  have e1 : IntKind.i64.wrap (tv + xl) = (tv + xl) := IntWalk.i64_in _ (by omega)
                  go_simp
                  exact hK _ _ jE rfl (fun _ _ _ h => h) (fun _ => by first | exact iO | rfl) (fun he => absurd he (by decide))
                · refine stepT_plain rfl ?_
                  rintro F a w1 jE - ⟨t10, -⟩ iO K hK
                  have t10 : a.tmps[10]? = some (.func (Fn.func 36) #[] #[]) := t10
                  go_simp
                  exact hK _ _ jE rfl (fun _ _ _ h => h) (fun _ => by first | exact iO | rfl) (fun he => absurd he (by decide))
                · refine stepT_plain rfl ?_
                  rintro F a w1 jE - ⟨t6, -⟩ iO K hK
                  have t6 : a.tmps[6]? = some (.int .i64 fr) := t6
                  go_simp
                  exact hK _ _ jE rfl (fun _ _ _ h => h) (fun _ => by first | exact iO | rfl) (fun he => absurd he (by decide))
                · refine stepT_plain rfl ?_
                  rintro F a w1 jE - ⟨t12, -⟩ iO K hK
                  have t12 : a.tmps[12]? = some (.int .i64 (p : Int)) := t12
                  go_simp
                  exact hK _ _ jE rfl (fun _ _ _ h => h) (fun _ => by first | exact iO | rfl) (fun he => absurd he (by decide))
                · refine stepT_plain rfl ?_
                  rintro F a w1 jE - ⟨t1, -⟩ iO K hK
                  have t1 : a.tmps[1]? = some (.slice A m ca) := t1
                  go_simp
                  exact hK _ _ jE rfl (fun _ _ _ h => h) (fun _ => by first | exact iO | rfl) (fun he => absurd he (by decide))
                · refine stepT_plain rfl ?_
                  rintro F a w1 jE ⟨h10, t70, -⟩ - iO K hK
                  have h10 : (F 10) = .slice A m ca := h10
                  rw [h10] at t70
                  clear h10
                  go_simp
                  exact hK _ _ jE rfl (fun _ _ _ h => h) (fun _ => by first | exact iO | rfl) (fun he => absurd he (by decide))
                · refine stepT_plain rfl ?_
                  rintro F a w1 jE ⟨h7, t67, h8, t68, h9, t69, h11, t71, -⟩ - iO K hK
                  have h7 : (F 7) = .func (Fn.func 36) #[] #[] := h7
                  rw [h7] at t67
                  clear h7
                  have h8 : (F 8) = .int .i64 fr := h8
                  rw [h8] at t68
                  clear h8
                  have h9 : (F 9) = .int .i64 (p : Int) := h9
                  rw [h9] at t69
                  clear h9
                  have h11 : (F 11) = .int .i64 (m : Int) := h11
                  rw [h11] at t71
                  clear h11
                  go_simp
                  with_reducible refine (unhide (cM p hp _)).mono ?_
                  rintro e w2 ⟨rfl, hx⟩
                  rw [unhide HMV]
                  exact hK _ _ (jE.trans hx) rfl (by intro jq hj uq h; have hj : jq ∈ [2, 3, 4, 1, 5, 6, 0] := hj; simp only [List.mem_cons, List.not_mem_nil, or_false] at hj; rcases hj with rfl | rfl | rfl | rfl | rfl | rfl | rfl; exact h; exact h; exact h; exact h; exact h; exact h; exact h) (fun _ => iO.trans hx) (fun he => absurd he (by decide))
                · refine stepT_plain rfl ?_
                  rintro F a w1 jE ⟨h6, t66, h12, t72, -⟩ - iO K hK
                  have h6 : (F 6) = .int .i64 (tv + xl) := h6
                  rw [h6] at t66
                  clear h6
                  have h12 : (F 12) = .int .i64 mv := h12
                  rw [h12] at t72
                  clear h12
                  have e1 : IntKind.i64.wrap ((tv + xl) + mv) = ((tv + xl) + mv) := IntWalk.i64_in _ (by omega)
                  go_simp
                  exact hK _ _ jE rfl (fun _ _ _ h => h) (fun _ => by first | exact iO | rfl) (fun he => absurd he (by decide))
                · refine stepT_plain rfl ?_
                  rintro F a w1 jE ⟨h0, t60, -⟩ - iO K hK
                  have h0 : (F 0) = ptrV gk := h0
                  rw [h0] at t60
                  clear h0
                  go_simp
                  exact hK _ _ jE rfl (fun _ _ _ h => h) (fun _ => by first | exact iO | rfl) (fun he => absurd he (by decide))
                · refine stepT_plain rfl ?_
                  rintro F a w1 jE ⟨h14, t74, -⟩ - iO K hK
                  have h14 : (F 14) = .pointer (some ⟨gk, 0, none⟩) := h14
                  rw [h14] at t74
                  clear h14
                  go_simp
                  exact hK _ _ jE rfl (fun _ _ _ h => h) (fun _ => by first | exact iO | rfl) (fun he => absurd he (by decide))
                · refine stepT_plain rfl ?_
                  rintro F a w1 jE ⟨h15, t75, h13, t73, -⟩ - iO K hK
                  have h15 : (F 15) = .pointer (some ⟨gk, 50, none⟩) := h15
                  rw [h15] at t75
                  clear h15
                  have h13 : (F 13) = .int .i64 ((tv + xl) + mv) := h13
                  rw [h13] at t73
                  clear h13
                  have c := (iO.cells.1 gk _ lk).trans c50
                  have f := (iO.cells.2 gk _ lk).trans f50
                  go_simp
                  obtain ⟨J, q1, q2, q3⟩ := (IS.ext iO).putE (v := .int .i64 (tv + xl + mv)) (j := 50) hkn (unhide hat2) (t := (setX x (tv + xl + mv))) rfl
                  have X3 := (X.step iO).set (j := 50) hkn (.int .i64 (tv + xl + mv))
                  rw [unhide HGK] at q3 X3
                  exact hK undef _ (jE.set (by simp) _) trivial (fun _ hj _ _ => (List.not_mem_nil hj).elim) (fun h => (h (by simp)).elim) (fun _ => ⟨J, q1, q2, q3, X3⟩)
              · rintro F w7 jE - hT
                obtain ⟨J, J1, J2, JS, X⟩ := hT (by decide)
                simp only [putL, Act.put, Nat.reduceAdd, Nat.zero_add, List.setIfInBounds_toArray, List.set_cons_succ, List.set_cons_zero]
                have HJ1 := hide J1
                have HJ2 := hide J2
                have lk7 : gk < w7.heap.size := by rw [← unhide HGK]; exact JS.lt hkn
                have c43 : w7.cell? ⟨gk, 43, none⟩ = some (.int .i64 xl) := by rw [← unhide HGK, ← unhide HXL]; exact JS.cellE hkn (unhide HJ2) rfl
                have c44 : w7.cell? ⟨gk, 44, none⟩ = some (.int .i64 xr) := by rw [← unhide HGK, ← unhide HXR]; exact JS.cellE hkn (unhide HJ2) rfl
                have c45 : w7.cell? ⟨gk, 45, none⟩ = some (.int .i64 xw) := by rw [← unhide HGK, ← unhide HXW]; exact JS.cellE hkn (unhide HJ2) rfl
                clear jE hT J1 J2 IS c50 f50 lk
                go_upto_region 16 with fail
                refine wp_region_lin (by kernel_rfl) (fun w' => (ExtX w7 w' [])) (fun ii vv ww => match ii with | 0 => vv = .int .i64 tv | 1 => vv = ptrV gk | 2 => vv = .pointer (some ⟨gk, 0, none⟩) | 3 => vv = .pointer (some ⟨gk, 43, none⟩) | 4 => vv = .int .i64 xl | 5 => vv = ptrV gk | 6 => vv = .pointer (some ⟨gk, 0, none⟩) | 7 => vv = .pointer (some ⟨gk, 45, none⟩) | 8 => vv = .int .i64 xw | 9 => vv = .int .i64 (xl + xw) | 10 => vv = ptrV gk | 11 => vv = .pointer (some ⟨gk, 0, none⟩) | 12 => vv = .pointer (some ⟨gk, 44, none⟩) | 13 => vv = .int .i64 xr | 14 => vv = .int .i64 ((xl + xw) + xr) | 15 => vv = .int .i64 (tv + ((xl + xw) + xr)) | 16 => vv = .int .i64 (tv + ((xl + xw) + xr)) | _ => True) (fun ii => match ii with | 2 => [(1, 77)] | 3 => [(2, 78)] | 4 => [(3, 79)] | 6 => [(5, 81)] | 7 => [(6, 82)] | 8 => [(7, 83)] | 9 => [(4, 80), (8, 84)] | 11 => [(10, 86)] | 12 => [(11, 87)] | 13 => [(12, 88)] | 14 => [(9, 85), (13, 89)] | 15 => [(0, 76), (14, 90)] | 16 => [(15, 91)] | _ => []) (fun ii => match ii with | 0 => [11] | 1 => [13] | 5 => [13] | 10 => [13] | _ => []) (fun ii => match ii with | 0 => [1, 2, 3, 5, 6, 7, 4, 8, 10, 11, 12, 9, 13, 14] | 1 => [5, 6, 7, 8, 10, 11, 12, 13, 0] | 2 => [5, 6, 7, 8, 10, 11, 12, 13, 0] | 3 => [5, 6, 7, 8, 10, 11, 12, 13, 0] | 4 => [5, 6, 7, 8, 10, 11, 12, 13, 0] | 5 => [1, 2, 3, 4, 10, 11, 12, 13, 0] | 6 => [1, 2, 3, 4, 10, 11, 12, 13, 0] | 7 => [1, 2, 3, 4, 10, 11, 12, 13, 0] | 8 => [1, 2, 3, 4, 10, 11, 12, 13, 0] | 9 => [10, 11, 12, 13, 0] | 10 => [1, 2, 3, 5, 6, 7, 4, 8, 9, 0] | 11 => [1, 2, 3, 5, 6, 7, 4, 8, 9, 0] | 12 => [1, 2, 3, 5, 6, 7, 4, 8, 9, 0] | 13 => [1, 2, 3, 5, 6, 7, 4, 8, 9, 0] | 14 => [0] | _ => []) [16] [0, 0, 2, 6, 14, 0, 32, 96, 224, 510, 0, 1024, 3072, 7168, 16382, 32767, 65535] 93 rfl (by kernel_rfl) (ExtX.start _ _) ?_ ?_
                · rename_i hcont; clear hcont
                  refine ⟨?_, ?_, ?_, ?_, ?_, ?_, ?_, ?_, ?_, ?_, ?_, ?_, ?_, ?_, ?_, ?_, ?_, trivial⟩
                  · refine stepL_plain rfl ?_
                    rintro F a w1 jE - ⟨t11, -⟩ K hK
                    have t11 : a.tmps[11]? = some (.int .i64 tv) := t11
                    go_simp
                    exact hK _ _ jE rfl (fun _ _ _ h => h)
                  · refine stepL_plain rfl ?_
                    rintro F a w1 jE - ⟨t13, -⟩ K hK
                    have t13 : a.tmps[13]? = some (ptrV gk) := t13
                    go_simp
                    exact hK _ _ jE rfl (fun _ _ _ h => h)
                  · refine stepL_plain rfl ?_
                    rintro F a w1 jE ⟨h1, t77, -⟩ - K hK
                    have h1 : (F 1) = ptrV gk := h1
                    rw [h1] at t77
                    clear h1
                    go_simp
                    exact hK _ _ jE rfl (fun _ _ _ h => h)
                  · refine stepL_plain rfl ?_
                    rintro F a w1 jE ⟨h2, t78, -⟩ - K hK
                    have h2 : (F 2) = .pointer (some ⟨gk, 0, none⟩) := h2
                    rw [h2] at t78
                    clear h2
                    go_simp
                    exact hK _ _ jE rfl (fun _ _ _ h => h)
                  · refine stepL_plain rfl ?_
                    rintro F a w1 jE ⟨h3, t79, -⟩ - K hK
                    have h3 : (F 3) = .pointer (some ⟨gk, 43, none⟩) := h3
                    rw [h3] at t79
                    clear h3
                    have c := ((jE.ext (Ext.refl _) (by simp)).cells.1 gk _ lk7).trans c43
                    go_simp
                    exact hK _ _ jE rfl (fun _ _ _ h => h)
                  · refine stepL_plain rfl ?_
                    rintro F a w1 jE - ⟨t13, -⟩ K hK
                    have t13 : a.tmps[13]? = some (ptrV gk) := t13
                    go_simp
                    exact hK _ _ jE rfl (fun _ _ _ h => h)
                  · refine stepL_plain rfl ?_
                    rintro F a w1 jE ⟨h5, t81, -⟩ - K hK
                    have h5 : (F 5) = ptrV gk := h5
                    rw [h5] at t81
                    clear h5
                    go_simp
                    exact hK _ _ jE rfl (fun _ _ _ h => h)
                  · refine stepL_plain rfl ?_
                    rintro F a w1 jE ⟨h6, t82, -⟩ - K hK
                    have h6 : (F 6) = .pointer (some ⟨gk, 0, none⟩) := h6
                    rw [h6] at t82
                    clear h6
                    go_simp
                    exact hK _ _ jE rfl (fun _ _ _ h => h)
                  · refine stepL_plain rfl ?_
                    rintro F a w1 jE ⟨h7, t83, -⟩ - K hK
                    have h7 : (F 7) = .pointer (some ⟨gk, 45, none⟩) := h7
                    rw [h7] at t83
                    clear h7
                    have c := ((jE.ext (Ext.refl _) (by simp)).cells.1 gk _ lk7).trans c45
                    go_simp
                    exact hK _ _ jE rfl (fun _ _ _ h => h)
                  · refine stepL_plain rfl ?_
                    rintro F a w1 jE ⟨h4, t80, h8, t84, -⟩ - K hK
                    have h4 : (F 4) = .int .i64 xl := h4
                    rw [h4] at t80
                    clear h4
                    have h8 : (F 8) = .int .i64 xw := h8
                    rw [h8] at t84
                    clear h8
                    have e1 : IntKind.i64.wrap (xl + xw) = (xl + xw) := IntWalk.i64_in _ (by omega)
                    go_simp
                    exact hK _ _ jE rfl (fun _ _ _ h => h)
                  · refine stepL_plain rfl ?_
                    rintro F a w1 jE - ⟨t13, -⟩ K hK
                    have t13 : a.tmps[13]? = some (ptrV gk) := t13
                    go_simp
                    exact hK _ _ jE rfl (fun _ _ _ h => h)
                  · refine stepL_plain rfl ?_
                    rintro F a w1 jE ⟨h10, t86, -⟩ - K hK
                    have h10 : (F 10) = ptrV gk := h10
                    rw [h10] at t86
                    clear h10
                    go_simp
                    exact hK _ _ jE rfl (fun _ _ _ h => h)
                  · refine stepL_plain rfl ?_
                    rintro F a w1 jE ⟨h11, t87, -⟩ - K hK
                    have h11 : (F 11) = .pointer (some ⟨gk, 0, none⟩) := h11
                    rw [h11] at t87
                    clear h11
                    go_simp
                    exact hK _ _ jE rfl (fun _ _ _ h => h)
                  · refine stepL_plain rfl ?_
                    rintro F a w1 jE ⟨h12, t88, -⟩ - K hK
                    have h12 : (F 12) = .pointer (some ⟨gk, 44, none⟩) := h12
                    rw [h12] at t88
                    clear h12
                    have c := ((jE.ext (Ext.refl _) (by simp)).cells.1 gk _ lk7).trans c44
                    go_simp
                    exact hK _ _ jE rfl (fun _ _ _ h => h)
                  · refine stepL_plain rfl ?_
                    rintro F a w1 jE ⟨h9, t85, h13, t89, -⟩ - K hK
                    have h9 : (F 9) = .int .i64 (xl + xw) := h9
                    rw [h9] at t85
                    clear h9
                    have h13 : (F 13) = .int .i64 xr := h13
                    rw [h13] at t89
                    clear h13
                    have e1 : IntKind.i64.wrap ((xl + xw) + xr) = ((xl + xw) + xr) := IntWalk.i64_in _ (by omega)
                    go_simp
                    exact hK _ _ jE rfl (fun _ _ _ h => h)
                  · refine stepL_plain rfl ?_
                    rintro F a w1 jE ⟨h0, t76, h14, t90, -⟩ - K hK
                    have h0 : (F 0) = .int .i64 tv := h0
                    rw [h0] at t76
                    clear h0
                    have h14 : (F 14) = .int .i64 ((xl + xw) + xr) := h14
                    rw [h14] at t90
                    clear h14
                    have e1 : IntKind.i64.wrap (tv + ((xl + xw) + xr)) = (tv + ((xl + xw) + xr)) := IntWalk.i64_in _ (by omega)
                    go_simp
                    exact hK _ _ jE rfl (fun _ _ _ h => h)
                  · refine stepL_plain rfl ?_
                    rintro F a w1 jE ⟨h15, t91, -⟩ - K hK
                    have h15 : (F 15) = .int .i64 (tv + ((xl + xw) + xr)) := h15
                    rw [h15] at t91
                    clear h15
                    go_simp
                    exact hK _ _ jE rfl (fun _ _ _ h => h)
                · rintro F w9 jE ⟨h16, -⟩
                  have h16 : (F 16) = .int .i64 (tv + ((xl + xw) + xr)) := h16
                  have hx := jE.ext (Ext.refl _) (by simp)
                  simp only [putL, Act.put, Nat.reduceAdd, Nat.zero_add, List.setIfInBounds_toArray, List.set_cons_succ, List.set_cons_zero]
                  rw [h16]
                  clear h16 jE c43 c44 c45 lk7
                  replace JS := JS.ext hx
                  replace X := X.step hx
                  clear hx
                  go_wp2_with fail
                  go_roundw
                  case rel => exact ⟨p + 1, by rw [unhide HS], by go_num, by omega, JS.congr (fun i _ => acrN_step (unhide HK) (unhide HJ1) (by rw [unhide HX, unhide HJ2]; show setX x _ = setX x _; rw [xV, unhide HX, unhide HTV, unhide HFR, unhide HMV, unhide HXL]) i), X⟩
                  case measure => simp [intOf]; omega
            · have hpI : ¬ (p : Int) < (m : Int) := by omega
              have hpe : p = m := by omega
              have HPE := hide hpe
              clear hpe
              go_wp2_with fail
              go_end0
              exact ⟨rfl, by have e := unhide HPE; rw [e] at IS; exact IS, X⟩
        · skip
          by_cases hjc2 : s.justify = 2
          · have hj1 := hjc2
            have cM := fun (p : Nat) (hp : p < m) w => hide (show Calls Try.prog 37 #[.int .i64 fr, .int .i64 (p : Int), .int .i64 (m : Int)] w (fun e w' => e = .returned (.int .i64 (moveV s.justify fr p m)) ∧ Ext w w') from by have := mv2_any fr (p : Int) (m : Int) w; rwa [show moveV s.justify fr p m = fr / 2 by rw [moveV, if_neg (by omega), if_pos hj1]])
            go_upto_region 12 with fail
            clear bc bl hjc2 hj1
            have X1 : ItX w (wr.alloc (.cells #[.func (Fn.func 35) #[] #[], .func (Fn.func 36) #[] #[], .func (Fn.func 37) #[] #[], .func (Fn.func 38) #[] #[]] 93)) g n := X.step ((Ext.refl _).alloc _)
            have IS1 : Its (wr.alloc (.cells #[.func (Fn.func 35) #[] #[], .func (Fn.func 36) #[] #[], .func (Fn.func 37) #[] #[], .func (Fn.func 38) #[] #[]] 93)) B g n (acrN s c I ks m 0) := (IS.ext ((Ext.refl _).alloc _)).congr (fun _ _ => rfl)
            generalize (wr.alloc (.cells #[.func (Fn.func 35) #[] #[], .func (Fn.func 36) #[] #[], .func (Fn.func 37) #[] #[], .func (Fn.func 38) #[] #[]] 93)) = w2 at *
            clear X IS BS
            go_wp2_with fail
            go_loopw [11, 55] (fun v11 v55 wr => ∃ p : Nat, v11 = .int .i64 (sumV I (ks.take p)) ∧ v55 = .int .i64 p ∧ p ≤ m ∧ Its wr B g n (acrN s c I ks m p) ∧ ItX w wr g n) (fun _ v55 _ => m - (intOf v55).toNat)
            case atStart => exact ⟨0, by simp [sumV], rfl, by omega, IS1, X1⟩
            case round =>
              clear IS1 X1 hp hpI p1
              obtain ⟨p, rfl, rfl, p1, IS, X⟩ := hrel
              by_cases hp : p < m
              · have hpI : (0 : Int) ≤ (p : Int) ∧ (p : Int) < (m : Int) := by omega
                have hpl : p < ks.length := by have := unhide HML; omega
                obtain ⟨k, hk⟩ : ∃ k, ks[p]? = some k := ⟨_, List.getElem?_eq_getElem hpl⟩
                obtain ⟨hkn, hbd⟩ := (unhide HKS) k (List.mem_of_getElem? hk)
                obtain ⟨b, off, hA, hb, hcp⟩ := (X.rd (unhide HR) (unhide HRA)).ptr hk
                have ht := (unhide HSB) p (by omega)
                have hat := acrN_fresh s c I ks m p (take_fresh (unhide HND) hk)
                have HS := hide (show sumV I (ks.take (p + 1)) = sumV I (ks.take p) + ((I k).left + (I k).wide + (I k).right) by rw [takeS hk, sumV_snoc])
                obtain ⟨b2, b3, b4⟩ := hbd
                have hmb := moveV_bd (j := s.justify) hfb2 hp hm
                obtain ⟨mv, hmv⟩ : ∃ mv, moveV s.justify fr p m = mv := ⟨_, rfl⟩
                rw [hmv] at hmb
                have HMV := hide hmv
                obtain ⟨x, hx⟩ : ∃ x, I k = x := ⟨_, rfl⟩
                rw [hx] at hat b2 b3 b4 HS
                obtain ⟨gk, hgk⟩ : ∃ gk, g k = gk := ⟨_, rfl⟩
                rw [hgk] at hcp
                obtain ⟨tv, htv⟩ : ∃ tv, sumV I (ks.take p) = tv := ⟨_, rfl⟩
                obtain ⟨xl, hxl⟩ : ∃ y, x.left = y := ⟨_, rfl⟩
                obtain ⟨xr, hxr⟩ : ∃ y, x.right = y := ⟨_, rfl⟩
                obtain ⟨xw, hxw⟩ : ∃ y, x.wide = y := ⟨_, rfl⟩
                rw [htv, hxl, hxr, hxw] at HS
                rw [htv] at ht ⊢
                rw [hxl] at b2
                rw [hxr] at b3
                rw [hxw] at b4
                have HX := hide hx
                have HK := hide hk
                have HGK := hide hgk
                have HTV := hide htv
                have HXL := hide hxl
                have HXR := hide hxr
                have HXW := hide hxw
                have HA := hide hA
                have hat2 := hide hat
                have lk : gk < wr.heap.size := by rw [← hgk]; exact IS.lt hkn
                have c43 : wr.cell? ⟨gk, 43, none⟩ = some (.int .i64 xl) := by rw [← hgk, ← hxl]; exact IS.cellE hkn hat rfl
                have c50 : ∃ v, wr.cell? ⟨gk, 50, none⟩ = some v := ⟨_, by rw [← hgk]; exact IS.cellE hkn hat rfl⟩
                obtain ⟨v50, c50⟩ := c50
                have f50 : wr.frozen? ⟨gk, 50, none⟩ = false := by rw [← hgk]; exact IS.frozen hkn 50
                clear hx hk hgk htv hxl hxr hxw hA hat hmv
                go_upto_region 14 with fail
                rw [unhide HA]
                go_upto_region 15 with fail
                rw [← unhide HA]
                clear hb hcp
                refine wp_region_linT (by kernel_rfl) (fun w' => (ExtX wr w' [gk])) (fun ii vv ww => match ii with | 0 => vv = ptrV gk | 1 => vv = .int .i64 tv | 2 => vv = ptrV gk | 3 => vv = .pointer (some ⟨gk, 0, none⟩) | 4 => vv = .pointer (some ⟨gk, 43, none⟩) | 5 => vv = .int .i64 xl | 6 => vv = .int .i64 (tv + xl) | 7 => vv = .func (Fn.func 37) #[] #[] | 8 => vv = .int .i64 fr | 9 => vv = .int .i64 (p : Int) | 10 => vv = .slice A m ca | 11 => vv = .int .i64 (m : Int) | 12 => vv = .int .i64 mv | 13 => vv = .int .i64 ((tv + xl) + mv) | 14 => vv = .pointer (some ⟨gk, 0, none⟩) | 15 => vv = .pointer (some ⟨gk, 50, none⟩) | _ => True) (fun ii => match ii with | 3 => [(2, 62)] | 4 => [(3, 63)] | 5 => [(4, 64)] | 6 => [(1, 61), (5, 65)] | 11 => [(10, 70)] | 12 => [(7, 67), (8, 68), (9, 69), (11, 71)] | 13 => [(6, 66), (12, 72)] | 14 => [(0, 60)] | 15 => [(14, 74)] | 16 => [(15, 75), (13, 73)] | _ => []) (fun ii => match ii with | 0 => [13] | 1 => [11] | 2 => [13] | 7 => [10] | 8 => [6] | 9 => [12] | 10 => [1] | _ => []) (fun ii => match ii with | 0 => [2, 3, 4, 1, 5, 10, 7, 8, 9, 11, 6, 12, 13] | 1 => [2, 3, 4, 5, 10, 7, 8, 9, 11, 12, 0] | 2 => [1, 10, 7, 8, 9, 11, 12, 0] | 3 => [1, 10, 7, 8, 9, 11, 12, 0] | 4 => [1, 10, 7, 8, 9, 11, 12, 0] | 5 => [1, 10, 7, 8, 9, 11, 12, 0] | 6 => [10, 7, 8, 9, 11, 12, 0] | 7 => [2, 3, 4, 1, 5, 10, 8, 9, 11, 6, 0] | 8 => [2, 3, 4, 1, 5, 10, 7, 9, 11, 6, 0] | 9 => [2, 3, 4, 1, 5, 10, 7, 8, 11, 6, 0] | 10 => [2, 3, 4, 1, 5, 7, 8, 9, 6, 0] | 11 => [2, 3, 4, 1, 5, 7, 8, 9, 6, 0] | 12 => [2, 3, 4, 1, 5, 6, 0] | 13 => [0] | 14 => [13] | 15 => [13] | _ => []) [] [0, 0, 0, 4, 12, 28, 62, 0, 0, 0, 0, 1024, 3968, 8190, 16383, 32767, 65535] (fun w0q => Ext wr w0q) [16] (fun FT wT => ∃ J, (∀ i, i ≠ k → J i = acrN s c I ks m p i) ∧ J k = (setX x (tv + xl + mv)) ∧ Its wT B g n J ∧ ItX w wT g n) 16 93 rfl (by kernel_rfl) (by kernel_rfl) (.inl (by kernel_rfl)) ((ExtX.start _ _)) ((Ext.refl _).drew) ?_ ?_
                · rename_i hcont; clear hcont
                  refine ⟨?_, ?_, ?_, ?_, ?_, ?_, ?_, ?_, ?_, ?_, ?_, ?_, ?_, ?_, ?_, ?_, ?_, trivial⟩
                  · refine stepT_plain rfl ?_
                    rintro F a w1 jE - ⟨t13, -⟩ iO K hK
                    have t13 : a.tmps[13]? = some (ptrV gk) := t13
                    go_simp
                    exact hK _ _ jE rfl (fun _ _ _ h => h) (fun _ => by first | exact iO | rfl) (fun he => absurd he (by decide))
                  · refine stepT_plain rfl ?_
                    rintro F a w1 jE - ⟨t11, -⟩ iO K hK
                    have t11 : a.tmps[11]? = some (.int .i64 tv) := t11
                    go_simp
                    exact hK _ _ jE rfl (fun _ _ _ h => h) (fun _ => by first | exact iO | rfl) (fun he => absurd he (by decide))
                  · refine stepT_plain rfl ?_
                    rintro F a w1 jE - ⟨t13, -⟩ iO K hK
                    have t13 : a.tmps[13]? = some (ptrV gk) := t13
                    go_simp
                    exact hK _ _ jE rfl (fun _ _ _ h => h) (fun _ => by first | exact iO | rfl) (fun he => absurd he (by decide))
                  · refine stepT_plain rfl ?_
                    rintro F a w1 jE ⟨h2, t62, -⟩ - iO K hK
                    have h2 : (F 2) = ptrV gk := h2
                    rw [h2] at t62
                    clear h2
                    go_simp
                    exact hK _ _ jE rfl (fun _ _ _ h => h) (fun _ => by first | exact iO | rfl) (fun he => absurd he (by decide))
                  · refine stepT_plain rfl ?_
                    rintro F a w1 jE ⟨h3, t63, -⟩ - iO K hK
                    have h3 : (F 3) = .pointer (some ⟨gk, 0, none⟩) := h3
                    rw [h3] at t63
                    clear h3
                    go_simp
                    exact hK _ _ jE rfl (fun _ _ _ h => h) (fun _ => by first | exact iO | rfl) (fun he => absurd he (by decide))
                  · refine stepT_plain rfl ?_
                    rintro F a w1 jE ⟨h4, t64, -⟩ - iO K hK
                    have h4 : (F 4) = .pointer (some ⟨gk, 43, none⟩) := h4
                    rw [h4] at t64
                    clear h4
                    have c := (iO.cells.1 gk _ lk).trans c43
                    go_simp
                    exact hK _ _ jE rfl (fun _ _ _ h => h) (fun _ => by first | exact iO | rfl) (fun he => absurd he (by decide))
                  · refine stepT_plain rfl ?_
                    rintro F a w1 jE ⟨h1, t61, h5, t65, -⟩ - iO K hK
                    have h1 : (F 1) = .int .i64 tv := h1
                    rw [h1] at t61
                    clear h1
                    have h5 : (F 5) = .int .i64 xl := h5
                    rw [h5] at t65
                    clear h5
                    have e1 : IntKind.i64.wrap (tv + xl) = (tv + xl) := IntWalk.i64_in _ (by omega)
                    go_simp
                    exact hK _ _ jE rfl (fun _ _ _ h => h) (fun _ => by first | exact iO | rfl) (fun he => absurd he (by decide))
                  · refine stepT_plain rfl ?_
                    rintro F a w1 jE - ⟨t10, -⟩ iO K hK
                    have t10 : a.tmps[10]? = some (.func (Fn.func 37) #[] #[]) := t10
                    go_simp
                    exact hK _ _ jE rfl (fun _ _ _ h => h) (fun _ => by first | exact iO | rfl) (fun he => absurd he (by decide))
                  · refine stepT_plain rfl ?_
                    rintro F a w1 jE - ⟨t6, -⟩ iO K hK
                    have t6 : a.tmps[6]? = some (.int .i64 fr) := t6
                    go_simp
                    exact hK _ _ jE rfl (fun _ _ _ h => h) (fun _ => by first | exact iO | rfl) (fun he => absurd he (by decide))
                  · refine stepT_plain rfl ?_
                    rintro F a w1 jE - ⟨t12, -⟩ iO K hK
                    have t12 : a.tmps[12]? = some (.int .i64 (p : Int)) := t12
                    go_simp
                    exact hK _ _ jE rfl (fun _ _ _ h => h) (fun _ => by first | exact iO | rfl) (fun he => absurd he (by decide))
                  · refine stepT_plain rfl ?_
                    rintro F a w1 jE - ⟨t1, -⟩ iO K hK
                    have t1 : a.tmps[1]? = some (.slice A m ca) := t1
                    go_simp
                    exact hK _ _ jE rfl (fun _ _ _ h => h) (fun _ => by first | exact iO | rfl) (fun he => absurd he (by decide))
                  · refine stepT_plain rfl ?_
                    rintro F a w1 jE ⟨h10, t70, -⟩ - iO K hK
                    have h10 : (F 10) = .slice A m ca := h10
                    rw [h10] at t70
                    clear h10
                    go_simp
                    exact hK _ _ jE rfl (fun _ _ _ h => h) (fun _ => by first | exact iO | rfl) (fun he => absurd he (by decide))
                  · refine stepT_plain rfl ?_
                    rintro F a w1 jE ⟨h7, t67, h8, t68, h9, t69, h11, t71, -⟩ - iO K hK
                    have h7 : (F 7) = .func (Fn.func 37) #[] #[] := h7
                    rw [h7] at t67
                    clear h7
                    have h8 : (F 8) = .int .i64 fr := h8
                    rw [h8] at t68
                    clear h8
                    have h9 : (F 9) = .int .i64 (p : Int) := h9
                    rw [h9] at t69
                    clear h9
                    have h11 : (F 11) = .int .i64 (m : Int) := h11
                    rw [h11] at t71
                    clear h11
                    go_simp
                    with_reducible refine (unhide (cM p hp _)).mono ?_
                    rintro e w2 ⟨rfl, hx⟩
                    rw [unhide HMV]
                    exact hK _ _ (jE.trans hx) rfl (by intro jq hj uq h; have hj : jq ∈ [2, 3, 4, 1, 5, 6, 0] := hj; simp only [List.mem_cons, List.not_mem_nil, or_false] at hj; rcases hj with rfl | rfl | rfl | rfl | rfl | rfl | rfl; exact h; exact h; exact h; exact h; exact h; exact h; exact h) (fun _ => iO.trans hx) (fun he => absurd he (by decide))
                  · refine stepT_plain rfl ?_
                    rintro F a w1 jE ⟨h6, t66, h12, t72, -⟩ - iO K hK
                    have h6 : (F 6) = .int .i64 (tv + xl) := h6
                    rw [h6] at t66
                    clear h6
                    have h12 : (F 12) = .int .i64 mv := h12
                    rw [h12] at t72
                    clear h12
                    have e1 : IntKind.i64.wrap ((tv + xl) + mv) = ((tv + xl) + mv) := IntWalk.i64_in _ (by omega)
                    go_simp
                    exact hK _ _ jE rfl (fun _ _ _ h => h) (fun _ => by first | exact iO | rfl) (fun he => absurd he (by decide))
                  · refine stepT_plain rfl ?_
                    rintro F a w1 jE ⟨h0, t60, -⟩ - iO K hK
                    have h0 : (F 0) = ptrV gk := h0
                    rw [h0] at t60
                    clear h0
                    go_simp
                    exact hK _ _ jE rfl (fun _ _ _ h => h) (fun _ => by first | exact iO | rfl) (fun he => absurd he (by decide))
                  · refine stepT_plain rfl ?_
                    rintro F a w1 jE ⟨h14, t74, -⟩ - iO K hK
                    have h14 : (F 14) = .pointer (some ⟨gk, 0, none⟩) := h14
                    rw [h14] at t74
                    clear h14
                    go_simp
                    exact hK _ _ jE rfl (fun _ _ _ h => h) (fun _ => by first | exact iO | rfl) (fun he => absurd he (by decide))
                  · refine stepT_plain rfl ?_
                    rintro F a w1 jE ⟨h15, t75, h13, t73, -⟩ - iO K hK
                    have h15 : (F 15) = .pointer (some ⟨gk, 50, none⟩) := h15
                    rw [h15] at t75
                    clear h15
                    have h13 : (F 13) = .int .i64 ((tv + xl) + mv) := h13
                    rw [h13] at t73
                    clear h13
                    have c := (iO.cells.1 gk _ lk).trans c50
                    have f := (iO.cells.2 gk _ lk).trans f50
                    go_simp
                    obtain ⟨J, q1, q2, q3⟩ := (IS.ext iO).putE (v := .int .i64 (tv + xl + mv)) (j := 50) hkn (unhide hat2) (t := (setX x (tv + xl + mv))) rfl
                    have X3 := (X.step iO).set (j := 50) hkn (.int .i64 (tv + xl + mv))
                    rw [unhide HGK] at q3 X3
                    exact hK undef _ (jE.set (by simp) _) trivial (fun _ hj _ _ => (List.not_mem_nil hj).elim) (fun h => (h (by simp)).elim) (fun _ => ⟨J, q1, q2, q3, X3⟩)
                · rintro F w7 jE - hT
                  obtain ⟨J, J1, J2, JS, X⟩ := hT (by decide)
                  simp only [putL, Act.put, Nat.reduceAdd, Nat.zero_add, List.setIfInBounds_toArray, List.set_cons_succ, List.set_cons_zero]
                  have HJ1 := hide J1
                  have HJ2 := hide J2
                  have lk7 : gk < w7.heap.size := by rw [← unhide HGK]; exact JS.lt hkn
                  have c43 : w7.cell? ⟨gk, 43, none⟩ = some (.int .i64 xl) := by rw [← unhide HGK, ← unhide HXL]; exact JS.cellE hkn (unhide HJ2) rfl
                  have c44 : w7.cell? ⟨gk, 44, none⟩ = some (.int .i64 xr) := by rw [← unhide HGK, ← unhide HXR]; exact JS.cellE hkn (unhide HJ2) rfl
                  have c45 : w7.cell? ⟨gk, 45, none⟩ = some (.int .i64 xw) := by rw [← unhide HGK, ← unhide HXW]; exact JS.cellE hkn (unhide HJ2) rfl
                  clear jE hT J1 J2 IS c50 f50 lk
                  go_upto_region 16 with fail
                  refine wp_region_lin (by kernel_rfl) (fun w' => (ExtX w7 w' [])) (fun ii vv ww => match ii with | 0 => vv = .int .i64 tv | 1 => vv = ptrV gk | 2 => vv = .pointer (some ⟨gk, 0, none⟩) | 3 => vv = .pointer (some ⟨gk, 43, none⟩) | 4 => vv = .int .i64 xl | 5 => vv = ptrV gk | 6 => vv = .pointer (some ⟨gk, 0, none⟩) | 7 => vv = .pointer (some ⟨gk, 45, none⟩) | 8 => vv = .int .i64 xw | 9 => vv = .int .i64 (xl + xw) | 10 => vv = ptrV gk | 11 => vv = .pointer (some ⟨gk, 0, none⟩) | 12 => vv = .pointer (some ⟨gk, 44, none⟩) | 13 => vv = .int .i64 xr | 14 => vv = .int .i64 ((xl + xw) + xr) | 15 => vv = .int .i64 (tv + ((xl + xw) + xr)) | 16 => vv = .int .i64 (tv + ((xl + xw) + xr)) | _ => True) (fun ii => match ii with | 2 => [(1, 77)] | 3 => [(2, 78)] | 4 => [(3, 79)] | 6 => [(5, 81)] | 7 => [(6, 82)] | 8 => [(7, 83)] | 9 => [(4, 80), (8, 84)] | 11 => [(10, 86)] | 12 => [(11, 87)] | 13 => [(12, 88)] | 14 => [(9, 85), (13, 89)] | 15 => [(0, 76), (14, 90)] | 16 => [(15, 91)] | _ => []) (fun ii => match ii with | 0 => [11] | 1 => [13] | 5 => [13] | 10 => [13] | _ => []) (fun ii => match ii with | 0 => [1, 2, 3, 5, 6, 7, 4, 8, 10, 11, 12, 9, 13, 14] | 1 => [5, 6, 7, 8, 10, 11, 12, 13, 0] | 2 => [5, 6, 7, 8, 10, 11, 12, 13, 0] | 3 => [5, 6, 7, 8, 10, 11, 12, 13, 0] | 4 => [5, 6, 7, 8, 10, 11, 12, 13, 0] | 5 => [1, 2, 3, 4, 10, 11, 12, 13, 0] | 6 => [1, 2, 3, 4, 10, 11, 12, 13, 0] | 7 => [1, 2, 3, 4, 10, 11, 12, 13, 0] | 8 => [1, 2, 3, 4, 10, 11, 12, 13, 0] | 9 => [10, 11, 12, 13, 0] | 10 => [1, 2, 3, 5, 6, 7, 4, 8, 9, 0] | 11 => [1, 2, 3, 5, 6, 7, 4, 8, 9, 0] | 12 => [1, 2, 3, 5, 6, 7, 4, 8, 9, 0] | 13 => [1, 2, 3, 5, 6, 7, 4, 8, 9, 0] | 14 => [0] | _ => []) [16] [0, 0, 2, 6, 14, 0, 32, 96, 224, 510, 0, 1024, 3072, 7168, 16382, 32767, 65535] 93 rfl (by kernel_rfl) (ExtX.start _ _) ?_ ?_
                  · rename_i hcont; clear hcont
                    refine ⟨?_, ?_, ?_, ?_, ?_, ?_, ?_, ?_, ?_, ?_, ?_, ?_, ?_, ?_, ?_, ?_, ?_, trivial⟩
                    · refine stepL_plain rfl ?_
                      rintro F a w1 jE - ⟨t11, -⟩ K hK
                      have t11 : a.tmps[11]? = some (.int .i64 tv) := t11
                      go_simp
                      exact hK _ _ jE rfl (fun _ _ _ h => h)
                    · refine stepL_plain rfl ?_
                      rintro F a w1 jE - ⟨t13, -⟩ K hK
                      have t13 : a.tmps[13]? = some (ptrV gk) := t13
                      go_simp
                      exact hK _ _ jE rfl (fun _ _ _ h => h)
                    · refine stepL_plain rfl ?_
                      rintro F a w1 jE ⟨h1, t77, -⟩ - K hK
                      have h1 : (F 1) = ptrV gk := h1
                      rw [h1] at t77
                      clear h1
                      go_simp
                      exact hK _ _ jE rfl (fun _ _ _ h => h)
                    · refine stepL_plain rfl ?_
                      rintro F a w1 jE ⟨h2, t78, -⟩ - K hK
                      have h2 : (F 2) = .pointer (some ⟨gk, 0, none⟩) := h2
                      rw [h2] at t78
                      clear h2
                      go_simp
                      exact hK _ _ jE rfl (fun _ _ _ h => h)
                    · refine stepL_plain rfl ?_
                      rintro F a w1 jE ⟨h3, t79, -⟩ - K hK
                      have h3 : (F 3) = .pointer (some ⟨gk, 43, none⟩) := h3
                      rw [h3] at t79
                      clear h3
                      have c := ((jE.ext (Ext.refl _) (by simp)).cells.1 gk _ lk7).trans c43
                      go_simp
                      exact hK _ _ jE rfl (fun _ _ _ h => h)
                    · refine stepL_plain rfl ?_
                      rintro F a w1 jE - ⟨t13, -⟩ K hK
                      have t13 : a.tmps[13]? = some (ptrV gk) := t13
                      go_simp
                      exact hK _ _ jE rfl (fun _ _ _ h => h)
                    · refine stepL_plain rfl ?_
                      rintro F a w1 jE ⟨h5, t81, -⟩ - K hK
                      have h5 : (F 5) = ptrV gk := h5
                      rw [h5] at t81
                      clear h5
                      go_simp
                      exact hK _ _ jE rfl (fun _ _ _ h => h)
                    · refine stepL_plain rfl ?_
                      rintro F a w1 jE ⟨h6, t82, -⟩ - K hK
                      have h6 : (F 6) = .pointer (some ⟨gk, 0, none⟩) := h6
                      rw [h6] at t82
                      clear h6
                      go_simp
                      exact hK _ _ jE rfl (fun _ _ _ h => h)
                    · refine stepL_plain rfl ?_
                      rintro F a w1 jE ⟨h7, t83, -⟩ - K hK
                      have h7 : (F 7) = .pointer (some ⟨gk, 45, none⟩) := h7
                      rw [h7] at t83
                      clear h7
                      have c := ((jE.ext (Ext.refl _) (by simp)).cells.1 gk _ lk7).trans c45
                      go_simp
                      exact hK _ _ jE rfl (fun _ _ _ h => h)
                    · refine stepL_plain rfl ?_
                      rintro F a w1 jE ⟨h4, t80, h8, t84, -⟩ - K hK
                      have h4 : (F 4) = .int .i64 xl := h4
                      rw [h4] at t80
                      clear h4
                      have h8 : (F 8) = .int .i64 xw := h8
                      rw [h8] at t84
                      clear h8
                      have e1 : IntKind.i64.wrap (xl + xw) = (xl + xw) := IntWalk.i64_in _ (by omega)
                      go_simp
                      exact hK _ _ jE rfl (fun _ _ _ h => h)
                    · refine stepL_plain rfl ?_
                      rintro F a w1 jE - ⟨t13, -⟩ K hK
                      have t13 : a.tmps[13]? = some (ptrV gk) := t13
                      go_simp
                      exact hK _ _ jE rfl (fun _ _ _ h => h)
                    · refine stepL_plain rfl ?_
                      rintro F a w1 jE ⟨h10, t86, -⟩ - K hK
                      have h10 : (F 10) = ptrV gk := h10
                      rw [h10] at t86
                      clear h10
                      go_simp
                      exact hK _ _ jE rfl (fun _ _ _ h => h)
                    · refine stepL_plain rfl ?_
                      rintro F a w1 jE ⟨h11, t87, -⟩ - K hK
                      have h11 : (F 11) = .pointer (some ⟨gk, 0, none⟩) := h11
                      rw [h11] at t87
                      clear h11
                      go_simp
                      exact hK _ _ jE rfl (fun _ _ _ h => h)
                    · refine stepL_plain rfl ?_
                      rintro F a w1 jE ⟨h12, t88, -⟩ - K hK
                      have h12 : (F 12) = .pointer (some ⟨gk, 44, none⟩) := h12
                      rw [h12] at t88
                      clear h12
                      have c := ((jE.ext (Ext.refl _) (by simp)).cells.1 gk _ lk7).trans c44
                      go_simp
                      exact hK _ _ jE rfl (fun _ _ _ h => h)
                    · refine stepL_plain rfl ?_
                      rintro F a w1 jE ⟨h9, t85, h13, t89, -⟩ - K hK
                      have h9 : (F 9) = .int .i64 (xl + xw) := h9
                      rw [h9] at t85
                      clear h9
                      have h13 : (F 13) = .int .i64 xr := h13
                      rw [h13] at t89
                      clear h13
                      have e1 : IntKind.i64.wrap ((xl + xw) + xr) = ((xl + xw) + xr) := IntWalk.i64_in _ (by omega)
                      go_simp
                      exact hK _ _ jE rfl (fun _ _ _ h => h)
                    · refine stepL_plain rfl ?_
                      rintro F a w1 jE ⟨h0, t76, h14, t90, -⟩ - K hK
                      have h0 : (F 0) = .int .i64 tv := h0
                      rw [h0] at t76
                      clear h0
                      have h14 : (F 14) = .int .i64 ((xl + xw) + xr) := h14
                      rw [h14] at t90
                      clear h14
                      have e1 : IntKind.i64.wrap (tv + ((xl + xw) + xr)) = (tv + ((xl + xw) + xr)) := IntWalk.i64_in _ (by omega)
                      go_simp
                      exact hK _ _ jE rfl (fun _ _ _ h => h)
                    · refine stepL_plain rfl ?_
                      rintro F a w1 jE ⟨h15, t91, -⟩ - K hK
                      have h15 : (F 15) = .int .i64 (tv + ((xl + xw) + xr)) := h15
                      rw [h15] at t91
                      clear h15
                      go_simp
                      exact hK _ _ jE rfl (fun _ _ _ h => h)
                  · rintro F w9 jE ⟨h16, -⟩
                    have h16 : (F 16) = .int .i64 (tv + ((xl + xw) + xr)) := h16
                    have hx := jE.ext (Ext.refl _) (by simp)
                    simp only [putL, Act.put, Nat.reduceAdd, Nat.zero_add, List.setIfInBounds_toArray, List.set_cons_succ, List.set_cons_zero]
                    rw [h16]
                    clear h16 jE c43 c44 c45 lk7
                    replace JS := JS.ext hx
                    replace X := X.step hx
                    clear hx
                    go_wp2_with fail
                    go_roundw
                    case rel => exact ⟨p + 1, by rw [unhide HS], by go_num, by omega, JS.congr (fun i _ => acrN_step (unhide HK) (unhide HJ1) (by rw [unhide HX, unhide HJ2]; show setX x _ = setX x _; rw [xV, unhide HX, unhide HTV, unhide HFR, unhide HMV, unhide HXL]) i), X⟩
                    case measure => simp [intOf]; omega
              · have hpI : ¬ (p : Int) < (m : Int) := by omega
                have hpe : p = m := by omega
                have HPE := hide hpe
                clear hpe
                go_wp2_with fail
                go_end0
                exact ⟨rfl, by have e := unhide HPE; rw [e] at IS; exact IS, X⟩
          · skip
            by_cases hjc3 : s.justify = 3
            · have hj1 := hjc3
              have cM := fun (p : Nat) (hp : p < m) w => hide (show Calls Try.prog 38 #[.int .i64 fr, .int .i64 (p : Int), .int .i64 (m : Int)] w (fun e w' => e = .returned (.int .i64 (moveV s.justify fr p m)) ∧ Ext w w') from by have := mv3_any fr p m (by omega) hp hm w; rwa [show moveV s.justify fr p m = betV fr p m by rw [moveV, if_neg (by omega), if_neg (by omega), if_pos hj1]])
              go_upto_region 12 with fail
              clear bc bl hjc3 hj1
              have X1 : ItX w (wr.alloc (.cells #[.func (Fn.func 35) #[] #[], .func (Fn.func 36) #[] #[], .func (Fn.func 37) #[] #[], .func (Fn.func 38) #[] #[]] 93)) g n := X.step ((Ext.refl _).alloc _)
              have IS1 : Its (wr.alloc (.cells #[.func (Fn.func 35) #[] #[], .func (Fn.func 36) #[] #[], .func (Fn.func 37) #[] #[], .func (Fn.func 38) #[] #[]] 93)) B g n (acrN s c I ks m 0) := (IS.ext ((Ext.refl _).alloc _)).congr (fun _ _ => rfl)
              generalize (wr.alloc (.cells #[.func (Fn.func 35) #[] #[], .func (Fn.func 36) #[] #[], .func (Fn.func 37) #[] #[], .func (Fn.func 38) #[] #[]] 93)) = w2 at *
              clear X IS BS
              go_wp2_with fail
              go_loopw [11, 55] (fun v11 v55 wr => ∃ p : Nat, v11 = .int .i64 (sumV I (ks.take p)) ∧ v55 = .int .i64 p ∧ p ≤ m ∧ Its wr B g n (acrN s c I ks m p) ∧ ItX w wr g n) (fun _ v55 _ => m - (intOf v55).toNat)
              case atStart => exact ⟨0, by simp [sumV], rfl, by omega, IS1, X1⟩
              case round =>
                clear IS1 X1 hp hpI p1
                obtain ⟨p, rfl, rfl, p1, IS, X⟩ := hrel
                by_cases hp : p < m
                · have hpI : (0 : Int) ≤ (p : Int) ∧ (p : Int) < (m : Int) := by omega
                  have hpl : p < ks.length := by have := unhide HML; omega
                  obtain ⟨k, hk⟩ : ∃ k, ks[p]? = some k := ⟨_, List.getElem?_eq_getElem hpl⟩
                  obtain ⟨hkn, hbd⟩ := (unhide HKS) k (List.mem_of_getElem? hk)
                  obtain ⟨b, off, hA, hb, hcp⟩ := (X.rd (unhide HR) (unhide HRA)).ptr hk
                  have ht := (unhide HSB) p (by omega)
                  have hat := acrN_fresh s c I ks m p (take_fresh (unhide HND) hk)
                  have HS := hide (show sumV I (ks.take (p + 1)) = sumV I (ks.take p) + ((I k).left + (I k).wide + (I k).right) by rw [takeS hk, sumV_snoc])
                  obtain ⟨b2, b3, b4⟩ := hbd
                  have hmb := moveV_bd (j := s.justify) hfb2 hp hm
                  obtain ⟨mv, hmv⟩ : ∃ mv, moveV s.justify fr p m = mv := ⟨_, rfl⟩
                  rw [hmv] at hmb
                  have HMV := hide hmv
                  obtain ⟨x, hx⟩ : ∃ x, I k = x := ⟨_, rfl⟩
                  rw [hx] at hat b2 b3 b4 HS
                  obtain ⟨gk, hgk⟩ : ∃ gk, g k = gk := ⟨_, rfl⟩
                  rw [hgk] at hcp
                  obtain ⟨tv, htv⟩ : ∃ tv, sumV I (ks.take p) = tv := ⟨_, rfl⟩
                  obtain ⟨xl, hxl⟩ : ∃ y, x.left = y := ⟨_, rfl⟩
                  obtain ⟨xr, hxr⟩ : ∃ y, x.right = y := ⟨_, rfl⟩
                  obtain ⟨xw, hxw⟩ : ∃ y, x.wide = y := ⟨_, rfl⟩
                  rw [htv, hxl, hxr, hxw] at HS
                  rw [htv] at ht ⊢
                  rw [hxl] at b2
                  rw [hxr] at b3
                  rw [hxw] at b4
                  have HX := hide hx
                  have HK := hide hk
                  have HGK := hide hgk
                  have HTV := hide htv
                  have HXL := hide hxl
                  have HXR := hide hxr
                  have HXW := hide hxw
                  have HA := hide hA
                  have hat2 := hide hat
                  have lk : gk < wr.heap.size := by rw [← hgk]; exact IS.lt hkn
                  have c43 : wr.cell? ⟨gk, 43, none⟩ = some (.int .i64 xl) := by rw [← hgk, ← hxl]; exact IS.cellE hkn hat rfl
                  have c50 : ∃ v, wr.cell? ⟨gk, 50, none⟩ = some v := ⟨_, by rw [← hgk]; exact IS.cellE hkn hat rfl⟩
                  obtain ⟨v50, c50⟩ := c50
                  have f50 : wr.frozen? ⟨gk, 50, none⟩ = false := by rw [← hgk]; exact IS.frozen hkn 50
                  clear hx hk hgk htv hxl hxr hxw hA hat hmv
                  go_upto_region 14 with fail
                  rw [unhide HA]
                  go_upto_region 15 with fail
                  rw [← unhide HA]
                  clear hb hcp
                  refine wp_region_linT (by kernel_rfl) (fun w' => (ExtX wr w' [gk])) (fun ii vv ww => match ii with | 0 => vv = ptrV gk | 1 => vv = .int .i64 tv | 2 => vv = ptrV gk | 3 => vv = .pointer (some ⟨gk, 0, none⟩) | 4 => vv = .pointer (some ⟨gk, 43, none⟩) | 5 => vv = .int .i64 xl | 6 => vv = .int .i64 (tv + xl) | 7 => vv = .func (Fn.func 38) #[] #[] | 8 => vv = .int .i64 fr | 9 => vv = .int .i64 (p : Int) | 10 => vv = .slice A m ca | 11 => vv = .int .i64 (m : Int) | 12 => vv = .int .i64 mv | 13 => vv = .int .i64 ((tv + xl) + mv) | 14 => vv = .pointer (some ⟨gk, 0, none⟩) | 15 => vv = .pointer (some ⟨gk, 50, none⟩) | _ => True) (fun ii => match ii with | 3 => [(2, 62)] | 4 => [(3, 63)] | 5 => [(4, 64)] | 6 => [(1, 61), (5, 65)] | 11 => [(10, 70)] | 12 => [(7, 67), (8, 68), (9, 69), (11, 71)] | 13 => [(6, 66), (12, 72)] | 14 => [(0, 60)] | 15 => [(14, 74)] | 16 => [(15, 75), (13, 73)] | _ => []) (fun ii => match ii with | 0 => [13] | 1 => [11] | 2 => [13] | 7 => [10] | 8 => [6] | 9 => [12] | 10 => [1] | _ => []) (fun ii => match ii with | 0 => [2, 3, 4, 1, 5, 10, 7, 8, 9, 11, 6, 12, 13] | 1 => [2, 3, 4, 5, 10, 7, 8, 9, 11, 12, 0] | 2 => [1, 10, 7, 8, 9, 11, 12, 0] | 3 => [1, 10, 7, 8, 9, 11, 12, 0] | 4 => [1, 10, 7, 8, 9, 11, 12, 0] | 5 => [1, 10, 7, 8, 9, 11, 12, 0] | 6 => [10, 7, 8, 9, 11, 12, 0] | 7 => [2, 3, 4, 1, 5, 10, 8, 9, 11, 6, 0] | 8 => [2, 3, 4, 1, 5, 10, 7, 9, 11, 6, 0] | 9 => [2, 3, 4, 1, 5, 10, 7, 8, 11, 6, 0] | 10 => [2, 3, 4, 1, 5, 7, 8, 9, 6, 0] | 11 => [2, 3, 4, 1, 5, 7, 8, 9, 6, 0] | 12 => [2, 3, 4, 1, 5, 6, 0] | 13 => [0] | 14 => [13] | 15 => [13] | _ => []) [] [0, 0, 0, 4, 12, 28, 62, 0, 0, 0, 0, 1024, 3968, 8190, 16383, 32767, 65535] (fun w0q => Ext wr w0q) [16] (fun FT wT => ∃ J, (∀ i, i ≠ k → J i = acrN s c I ks m p i) ∧ J k = (setX x (tv + xl + mv)) ∧ Its wT B g n J ∧ ItX w wT g n) 16 93 rfl (by kernel_rfl) (by kernel_rfl) (.inl (by kernel_rfl)) ((ExtX.start _ _)) ((Ext.refl _).drew) ?_ ?_
                  · rename_i hcont; clear hcont
                    refine ⟨?_, ?_, ?_, ?_, ?_, ?_, ?_, ?_, ?_, ?_, ?_, ?_, ?_, ?_, ?_, ?_, ?_, trivial⟩
                    · refine stepT_plain rfl ?_
                      rintro F a w1 jE - ⟨t13, -⟩ iO K hK
                      have t13 : a.tmps[13]? = some (ptrV gk) := t13
                      go_simp
                      exact hK _ _ jE rfl (fun _ _ _ h => h) (fun _ => by first | exact iO | rfl) (fun he => absurd he (by decide))
                    · refine stepT_plain rfl ?_
                      rintro F a w1 jE - ⟨t11, -⟩ iO K hK
                      have t11 : a.tmps[11]? = some (.int .i64 tv) := t11
                      go_simp
                      exact hK _ _ jE rfl (fun _ _ _ h => h) (fun _ => by first | exact iO | rfl) (fun he => absurd he (by decide))
                    · refine stepT_plain rfl ?_
                      rintro F a w1 jE - ⟨t13, -⟩ iO K hK
                      have t13 : a.tmps[13]? = some (ptrV gk) := t13
                      go_simp
                      exact hK _ _ jE rfl (fun _ _ _ h => h) (fun _ => by first | exact iO | rfl) (fun he => absurd he (by decide))
                    · refine stepT_plain rfl ?_
                      rintro F a w1 jE ⟨h2, t62, -⟩ - iO K hK
                      have h2 : (F 2) = ptrV gk := h2
                      rw [h2] at t62
                      clear h2
                      go_simp
                      exact hK _ _ jE rfl (fun _ _ _ h => h) (fun _ => by first | exact iO | rfl) (fun he => absurd he (by decide))
                    · refine stepT_plain rfl ?_
                      rintro F a w1 jE ⟨h3, t63, -⟩ - iO K hK
                      have h3 : (F 3) = .pointer (some ⟨gk, 0, none⟩) := h3
                      rw [h3] at t63
                      clear h3
                      go_simp
                      exact hK _ _ jE rfl (fun _ _ _ h => h) (fun _ => by first | exact iO | rfl) (fun he => absurd he (by decide))
                    · refine stepT_plain rfl ?_
                      rintro F a w1 jE ⟨h4, t64, -⟩ - iO K hK
                      have h4 : (F 4) = .pointer (some ⟨gk, 43, none⟩) := h4
                      rw [h4] at t64
                      clear h4
                      have c := (iO.cells.1 gk _ lk).trans c43
                      go_simp
                      exact hK _ _ jE rfl (fun _ _ _ h => h) (fun _ => by first | exact iO | rfl) (fun he => absurd he (by decide))
                    · refine stepT_plain rfl ?_
                      rintro F a w1 jE ⟨h1, t61, h5, t65, -⟩ - iO K hK
                      have h1 : (F 1) = .int .i64 tv := h1
                      rw [h1] at t61
                      clear h1
                      have h5 : (F 5) = .int .i64 xl := h5
                      rw [h5] at t65
                      clear h5
                      have e1 : IntKind.i64.wrap (tv + xl) = (tv + xl) := IntWalk.i64_in _ (by omega)
                      go_simp
                      exact hK _ _ jE rfl (fun _ _ _ h => h) (fun _ => by first | exact iO | rfl) (fun he => absurd he (by decide))
                    · refine stepT_plain rfl ?_
                      rintro F a w1 jE - ⟨t10, -⟩ iO K hK
                      have t10 : a.tmps[10]? = some (.func (Fn.func 38) #[] #[]) := t10
                      go_simp
                      exact hK _ _ jE rfl (fun _ _ _ h => h) (fun _ => by first | exact iO | rfl) (fun he => absurd he (by decide))
                    · refine stepT_plain rfl ?_
                      rintro F a w1 jE - ⟨t6, -⟩ iO K hK
                      have t6 : a.tmps[6]? = some (.int .i64 fr) := t6
                      go_simp
                      exact hK _ _ jE rfl (fun _ _ _ h => h) (fun _ => by first | exact iO | rfl) (fun he => absurd he (by decide))
                    · refine stepT_plain rfl ?_
                      rintro F a w1 jE - ⟨t12, -⟩ iO K hK
                      have t12 : a.tmps[12]? = some (.int .i64 (p : Int)) := t12
                      go_simp
                      exact hK _ _ jE rfl (fun _ _ _ h => h) (fun _ => by first | exact iO | rfl) (fun he => absurd he (by decide))
                    · refine stepT_plain rfl ?_
                      rintro F a w1 jE - ⟨t1, -⟩ iO K hK
                      have t1 : a.tmps[1]? = some (.slice A m ca) := t1
                      go_simp
                      exact hK _ _ jE rfl (fun _ _ _ h => h) (fun _ => by first | exact iO | rfl) (fun he => absurd he (by decide))
                    · refine stepT_plain rfl ?_
                      rintro F a w1 jE ⟨h10, t70, -⟩ - iO K hK
                      have h10 : (F 10) = .slice A m ca := h10
                      rw [h10] at t70
                      clear h10
                      go_simp
                      exact hK _ _ jE rfl (fun _ _ _ h => h) (fun _ => by first | exact iO | rfl) (fun he => absurd he (by decide))
                    · refine stepT_plain rfl ?_
                      rintro F a w1 jE ⟨h7, t67, h8, t68, h9, t69, h11, t71, -⟩ - iO K hK
                      have h7 : (F 7) = .func (Fn.func 38) #[] #[] := h7
                      rw [h7] at t67
                      clear h7
                      have h8 : (F 8) = .int .i64 fr := h8
                      rw [h8] at t68
                      clear h8
                      have h9 : (F 9) = .int .i64 (p : Int) := h9
                      rw [h9] at t69
                      clear h9
                      have h11 : (F 11) = .int .i64 (m : Int) := h11
                      rw [h11] at t71
                      clear h11
                      go_simp
                      with_reducible refine (unhide (cM p hp _)).mono ?_
                      rintro e w2 ⟨rfl, hx⟩
                      rw [unhide HMV]
                      exact hK _ _ (jE.trans hx) rfl (by intro jq hj uq h; have hj : jq ∈ [2, 3, 4, 1, 5, 6, 0] := hj; simp only [List.mem_cons, List.not_mem_nil, or_false] at hj; rcases hj with rfl | rfl | rfl | rfl | rfl | rfl | rfl; exact h; exact h; exact h; exact h; exact h; exact h; exact h) (fun _ => iO.trans hx) (fun he => absurd he (by decide))
                    · refine stepT_plain rfl ?_
                      rintro F a w1 jE ⟨h6, t66, h12, t72, -⟩ - iO K hK
                      have h6 : (F 6) = .int .i64 (tv + xl) := h6
                      rw [h6] at t66
                      clear h6
                      have h12 : (F 12) = .int .i64 mv := h12
                      rw [h12] at t72
                      clear h12
                      have e1 : IntKind.i64.wrap ((tv + xl) + mv) = ((tv + xl) + mv) := IntWalk.i64_in _ (by omega)
                      go_simp
                      exact hK _ _ jE rfl (fun _ _ _ h => h) (fun _ => by first | exact iO | rfl) (fun he => absurd he (by decide))
                    · refine stepT_plain rfl ?_
                      rintro F a w1 jE ⟨h0, t60, -⟩ - iO K hK
                      have h0 : (F 0) = ptrV gk := h0
                      rw [h0] at t60
                      clear h0
                      go_simp
                      exact hK _ _ jE rfl (fun _ _ _ h => h) (fun _ => by first | exact iO | rfl) (fun he => absurd he (by decide))
                    · refine stepT_plain rfl ?_
                      rintro F a w1 jE ⟨h14, t74, -⟩ - iO K hK
                      have h14 : (F 14) = .pointer (some ⟨gk, 0, none⟩) := h14
                      rw [h14] at t74
                      clear h14
                      go_simp
                      exact hK _ _ jE rfl (fun _ _ _ h => h) (fun _ => by first | exact iO | rfl) (fun he => absurd he (by decide))
                    · refine stepT_plain rfl ?_
                      rintro F a w1 jE ⟨h15, t75, h13, t73, -⟩ - iO K hK
                      have h15 : (F 15) = .pointer (some ⟨gk, 50, none⟩) := h15
                      rw [h15] at t75
                      clear h15
                      have h13 : (F 13) = .int .i64 ((tv + xl) + mv) := h13
                      rw [h13] at t73
                      clear h13
                      have c := (iO.cells.1 gk _ lk).trans c50
                      have f := (iO.cells.2 gk _ lk).trans f50
                      go_simp
                      obtain ⟨J, q1, q2, q3⟩ := (IS.ext iO).putE (v := .int .i64 (tv + xl + mv)) (j := 50) hkn (unhide hat2) (t := (setX x (tv + xl + mv))) rfl
                      have X3 := (X.step iO).set (j := 50) hkn (.int .i64 (tv + xl + mv))
                      rw [unhide HGK] at q3 X3
                      exact hK undef _ (jE.set (by simp) _) trivial (fun _ hj _ _ => (List.not_mem_nil hj).elim) (fun h => (h (by simp)).elim) (fun _ => ⟨J, q1, q2, q3, X3⟩)
                  · rintro F w7 jE - hT
                    obtain ⟨J, J1, J2, JS, X⟩ := hT (by decide)
                    simp only [putL, Act.put, Nat.reduceAdd, Nat.zero_add, List.setIfInBounds_toArray, List.set_cons_succ, List.set_cons_zero]
                    have HJ1 := hide J1
                    have HJ2 := hide J2
                    have lk7 : gk < w7.heap.size := by rw [← unhide HGK]; exact JS.lt hkn
                    have c43 : w7.cell? ⟨gk, 43, none⟩ = some (.int .i64 xl) := by rw [← unhide HGK, ← unhide HXL]; exact JS.cellE hkn (unhide HJ2) rfl
                    have c44 : w7.cell? ⟨gk, 44, none⟩ = some (.int .i64 xr) := by rw [← unhide HGK, ← unhide HXR]; exact JS.cellE hkn (unhide HJ2) rfl
                    have c45 : w7.cell? ⟨gk, 45, none⟩ = some (.int .i64 xw) := by rw [← unhide HGK, ← unhide HXW]; exact JS.cellE hkn (unhide HJ2) rfl
                    clear jE hT J1 J2 IS c50 f50 lk
                    go_upto_region 16 with fail
                    refine wp_region_lin (by kernel_rfl) (fun w' => (ExtX w7 w' [])) (fun ii vv ww => match ii with | 0 => vv = .int .i64 tv | 1 => vv = ptrV gk | 2 => vv = .pointer (some ⟨gk, 0, none⟩) | 3 => vv = .pointer (some ⟨gk, 43, none⟩) | 4 => vv = .int .i64 xl | 5 => vv = ptrV gk | 6 => vv = .pointer (some ⟨gk, 0, none⟩) | 7 => vv = .pointer (some ⟨gk, 45, none⟩) | 8 => vv = .int .i64 xw | 9 => vv = .int .i64 (xl + xw) | 10 => vv = ptrV gk | 11 => vv = .pointer (some ⟨gk, 0, none⟩) | 12 => vv = .pointer (some ⟨gk, 44, none⟩) | 13 => vv = .int .i64 xr | 14 => vv = .int .i64 ((xl + xw) + xr) | 15 => vv = .int .i64 (tv + ((xl + xw) + xr)) | 16 => vv = .int .i64 (tv + ((xl + xw) + xr)) | _ => True) (fun ii => match ii with | 2 => [(1, 77)] | 3 => [(2, 78)] | 4 => [(3, 79)] | 6 => [(5, 81)] | 7 => [(6, 82)] | 8 => [(7, 83)] | 9 => [(4, 80), (8, 84)] | 11 => [(10, 86)] | 12 => [(11, 87)] | 13 => [(12, 88)] | 14 => [(9, 85), (13, 89)] | 15 => [(0, 76), (14, 90)] | 16 => [(15, 91)] | _ => []) (fun ii => match ii with | 0 => [11] | 1 => [13] | 5 => [13] | 10 => [13] | _ => []) (fun ii => match ii with | 0 => [1, 2, 3, 5, 6, 7, 4, 8, 10, 11, 12, 9, 13, 14] | 1 => [5, 6, 7, 8, 10, 11, 12, 13, 0] | 2 => [5, 6, 7, 8, 10, 11, 12, 13, 0] | 3 => [5, 6, 7, 8, 10, 11, 12, 13, 0] | 4 => [5, 6, 7, 8, 10, 11, 12, 13, 0] | 5 => [1, 2, 3, 4, 10, 11, 12, 13, 0] | 6 => [1, 2, 3, 4, 10, 11, 12, 13, 0] | 7 => [1, 2, 3, 4, 10, 11, 12, 13, 0] | 8 => [1, 2, 3, 4, 10, 11, 12, 13, 0] | 9 => [10, 11, 12, 13, 0] | 10 => [1, 2, 3, 5, 6, 7, 4, 8, 9, 0] | 11 => [1, 2, 3, 5, 6, 7, 4, 8, 9, 0] | 12 => [1, 2, 3, 5, 6, 7, 4, 8, 9, 0] | 13 => [1, 2, 3, 5, 6, 7, 4, 8, 9, 0] | 14 => [0] | _ => []) [16] [0, 0, 2, 6, 14, 0, 32, 96, 224, 510, 0, 1024, 3072, 7168, 16382, 32767, 65535] 93 rfl (by kernel_rfl) (ExtX.start _ _) ?_ ?_
                    · rename_i hcont; clear hcont
                      refine ⟨?_, ?_, ?_, ?_, ?_, ?_, ?_, ?_, ?_, ?_, ?_, ?_, ?_, ?_, ?_, ?_, ?_, trivial⟩
                      · refine stepL_plain rfl ?_
                        rintro F a w1 jE - ⟨t11, -⟩ K hK
                        have t11 : a.tmps[11]? = some (.int .i64 tv) := t11
                        go_simp
                        exact hK _ _ jE rfl (fun _ _ _ h => h)
                      · refine stepL_plain rfl ?_
                        rintro F a w1 jE - ⟨t13, -⟩ K hK
                        have t13 : a.tmps[13]? = some (ptrV gk) := t13
                        go_simp
                        exact hK _ _ jE rfl (fun _ _ _ h => h)
                      · refine stepL_plain rfl ?_
                        rintro F a w1 jE ⟨h1, t77, -⟩ - K hK
                        have h1 : (F 1) = ptrV gk := h1
                        rw [h1] at t77
                        clear h1
                        go_simp
                        exact hK _ _ jE rfl (fun _ _ _ h => h)
                      · refine stepL_plain rfl ?_
                        rintro F a w1 jE ⟨h2, t78, -⟩ - K hK
                        have h2 : (F 2) = .pointer (some ⟨gk, 0, none⟩) := h2
                        rw [h2] at t78
                        clear h2
                        go_simp
                        exact hK _ _ jE rfl (fun _ _ _ h => h)
                      · refine stepL_plain rfl ?_
                        rintro F a w1 jE ⟨h3, t79, -⟩ - K hK
                        have h3 : (F 3) = .pointer (some ⟨gk, 43, none⟩) := h3
                        rw [h3] at t79
                        clear h3
                        have c := ((jE.ext (Ext.refl _) (by simp)).cells.1 gk _ lk7).trans c43
                        go_simp
                        exact hK _ _ jE rfl (fun _ _ _ h => h)
                      · refine stepL_plain rfl ?_
                        rintro F a w1 jE - ⟨t13, -⟩ K hK
                        have t13 : a.tmps[13]? = some (ptrV gk) := t13
                        go_simp
                        exact hK _ _ jE rfl (fun _ _ _ h => h)
                      · refine stepL_plain rfl ?_
                        rintro F a w1 jE ⟨h5, t81, -⟩ - K hK
                        have h5 : (F 5) = ptrV gk := h5
                        rw [h5] at t81
                        clear h5
                        go_simp
                        exact hK _ _ jE rfl (fun _ _ _ h => h)
                      · refine stepL_plain rfl ?_
                        rintro F a w1 jE ⟨h6, t82, -⟩ - K hK
                        have h6 : (F 6) = .pointer (some ⟨gk, 0, none⟩) := h6
                        rw [h6] at t82
                        clear h6
                        go_simp
                        exact hK _ _ jE rfl (fun _ _ _ h => h)
                      · refine stepL_plain rfl ?_
                        rintro F a w1 jE ⟨h7, t83, -⟩ - K hK
                        have h7 : (F 7) = .pointer (some ⟨gk, 45, none⟩) := h7
                        rw [h7] at t83
                        clear h7
                        have c := ((jE.ext (Ext.refl _) (by simp)).cells.1 gk _ lk7).trans c45
                        go_simp
                        exact hK _ _ jE rfl (fun _ _ _ h => h)
                      · refine stepL_plain rfl ?_
                        rintro F a w1 jE ⟨h4, t80, h8, t84, -⟩ - K hK
                        have h4 : (F 4) = .int .i64 xl := h4
                        rw [h4] at t80
                        clear h4
                        have h8 : (F 8) = .int .i64 xw := h8
                        rw [h8] at t84
                        clear h8
                        have e1 : IntKind.i64.wrap (xl + xw) = (xl + xw) := IntWalk.i64_in _ (by omega)
                        go_simp
                        exact hK _ _ jE rfl (fun _ _ _ h => h)
                      · refine stepL_plain rfl ?_
                        rintro F a w1 jE - ⟨t13, -⟩ K hK
                        have t13 : a.tmps[13]? = some (ptrV gk) := t13
                        go_simp
                        exact hK _ _ jE rfl (fun _ _ _ h => h)
                      · refine stepL_plain rfl ?_
                        rintro F a w1 jE ⟨h10, t86, -⟩ - K hK
                        have h10 : (F 10) = ptrV gk := h10
                        rw [h10] at t86
                        clear h10
                        go_simp
                        exact hK _ _ jE rfl (fun _ _ _ h => h)
                      · refine stepL_plain rfl ?_
                        rintro F a w1 jE ⟨h11, t87, -⟩ - K hK
                        have h11 : (F 11) = .pointer (some ⟨gk, 0, none⟩) := h11
                        rw [h11] at t87
                        clear h11
                        go_simp
                        exact hK _ _ jE rfl (fun _ _ _ h => h)
                      · refine stepL_plain rfl ?_
                        rintro F a w1 jE ⟨h12, t88, -⟩ - K hK
                        have h12 : (F 12) = .pointer (some ⟨gk, 44, none⟩) := h12
                        rw [h12] at t88
                        clear h12
                        have c := ((jE.ext (Ext.refl _) (by simp)).cells.1 gk _ lk7).trans c44
                        go_simp
                        exact hK _ _ jE rfl (fun _ _ _ h => h)
                      · refine stepL_plain rfl ?_
                        rintro F a w1 jE ⟨h9, t85, h13, t89, -⟩ - K hK
                        have h9 : (F 9) = .int .i64 (xl + xw) := h9
                        rw [h9] at t85
                        clear h9
                        have h13 : (F 13) = .int .i64 xr := h13
                        rw [h13] at t89
                        clear h13
                        have e1 : IntKind.i64.wrap ((xl + xw) + xr) = ((xl + xw) + xr) := IntWalk.i64_in _ (by omega)
                        go_simp
                        exact hK _ _ jE rfl (fun _ _ _ h => h)
                      · refine stepL_plain rfl ?_
                        rintro F a w1 jE ⟨h0, t76, h14, t90, -⟩ - K hK
                        have h0 : (F 0) = .int .i64 tv := h0
                        rw [h0] at t76
                        clear h0
                        have h14 : (F 14) = .int .i64 ((xl + xw) + xr) := h14
                        rw [h14] at t90
                        clear h14
                        have e1 : IntKind.i64.wrap (tv + ((xl + xw) + xr)) = (tv + ((xl + xw) + xr)) := IntWalk.i64_in _ (by omega)
                        go_simp
                        exact hK _ _ jE rfl (fun _ _ _ h => h)
                      · refine stepL_plain rfl ?_
                        rintro F a w1 jE ⟨h15, t91, -⟩ - K hK
                        have h15 : (F 15) = .int .i64 (tv + ((xl + xw) + xr)) := h15
                        rw [h15] at t91
                        clear h15
                        go_simp
                        exact hK _ _ jE rfl (fun _ _ _ h => h)
                    · rintro F w9 jE ⟨h16, -⟩
                      have h16 : (F 16) = .int .i64 (tv + ((xl + xw) + xr)) := h16
                      have hx := jE.ext (Ext.refl _) (by simp)
                      simp only [putL, Act.put, Nat.reduceAdd, Nat.zero_add, List.setIfInBounds_toArray, List.set_cons_succ, List.set_cons_zero]
                      rw [h16]
                      clear h16 jE c43 c44 c45 lk7
                      replace JS := JS.ext hx
                      replace X := X.step hx
                      clear hx
                      go_wp2_with fail
                      go_roundw
                      case rel => exact ⟨p + 1, by rw [unhide HS], by go_num, by omega, JS.congr (fun i _ => acrN_step (unhide HK) (unhide HJ1) (by rw [unhide HX, unhide HJ2]; show setX x _ = setX x _; rw [xV, unhide HX, unhide HTV, unhide HFR, unhide HMV, unhide HXL]) i), X⟩
                      case measure => simp [intOf]; omega
                · have hpI : ¬ (p : Int) < (m : Int) := by omega
                  have hpe : p = m := by omega
                  have HPE := hide hpe
                  clear hpe
                  go_wp2_with fail
                  go_end0
                  exact ⟨rfl, by have e := unhide HPE; rw [e] at IS; exact IS, X⟩
            · skip
              have hj4 : 4 ≤ s.justify := by omega
              have hj5 : decide (s.justify < 4) = false := decide_eq_false (by omega)
              have cM := fun (p : Nat) (hp : p < m) w => hide (show Calls Try.prog 35 #[.int .i64 fr, .int .i64 (p : Int), .int .i64 (m : Int)] w (fun e w' => e = .returned (.int .i64 (moveV s.justify fr p m)) ∧ Ext w w') from by have := mv0_any fr (p : Int) (m : Int) w; rwa [show moveV s.justify fr p m = 0 by rw [moveV, if_neg (by omega), if_neg (by omega), if_neg (by omega)]])
              go_upto_region 12 with fail
              clear bc bl hjc0 hjc1 hjc2 hjc3 hj4 hj5
              have X1 : ItX w (wr.alloc (.cells #[.func (Fn.func 35) #[] #[], .func (Fn.func 36) #[] #[], .func (Fn.func 37) #[] #[], .func (Fn.func 38) #[] #[]] 93)) g n := X.step ((Ext.refl _).alloc _)
              have IS1 : Its (wr.alloc (.cells #[.func (Fn.func 35) #[] #[], .func (Fn.func 36) #[] #[], .func (Fn.func 37) #[] #[], .func (Fn.func 38) #[] #[]] 93)) B g n (acrN s c I ks m 0) := (IS.ext ((Ext.refl _).alloc _)).congr (fun _ _ => rfl)
              generalize (wr.alloc (.cells #[.func (Fn.func 35) #[] #[], .func (Fn.func 36) #[] #[], .func (Fn.func 37) #[] #[], .func (Fn.func 38) #[] #[]] 93)) = w2 at *
              clear X IS BS
              go_wp2_with fail
              go_loopw [11, 55] (fun v11 v55 wr => ∃ p : Nat, v11 = .int .i64 (sumV I (ks.take p)) ∧ v55 = .int .i64 p ∧ p ≤ m ∧ Its wr B g n (acrN s c I ks m p) ∧ ItX w wr g n) (fun _ v55 _ => m - (intOf v55).toNat)
              case atStart => exact ⟨0, by simp [sumV], rfl, by omega, IS1, X1⟩
              case round =>
                clear IS1 X1 hp hpI p1
                obtain ⟨p, rfl, rfl, p1, IS, X⟩ := hrel
                by_cases hp : p < m
                · have hpI : (0 : Int) ≤ (p : Int) ∧ (p : Int) < (m : Int) := by omega
                  have hpl : p < ks.length := by have := unhide HML; omega
                  obtain ⟨k, hk⟩ : ∃ k, ks[p]? = some k := ⟨_, List.getElem?_eq_getElem hpl⟩
                  obtain ⟨hkn, hbd⟩ := (unhide HKS) k (List.mem_of_getElem? hk)
                  obtain ⟨b, off, hA, hb, hcp⟩ := (X.rd (unhide HR) (unhide HRA)).ptr hk
                  have ht := (unhide HSB) p (by omega)
                  have hat := acrN_fresh s c I ks m p (take_fresh (unhide HND) hk)
                  have HS := hide (show sumV I (ks.take (p + 1)) = sumV I (ks.take p) + ((I k).left + (I k).wide + (I k).right) by rw [takeS hk, sumV_snoc])
                  obtain ⟨b2, b3, b4⟩ := hbd
                  have hmb := moveV_bd (j := s.justify) hfb2 hp hm
                  obtain ⟨mv, hmv⟩ : ∃ mv, moveV s.justify fr p m = mv := ⟨_, rfl⟩
                  rw [hmv] at hmb
                  have HMV := hide hmv
                  obtain ⟨x, hx⟩ : ∃ x, I k = x := ⟨_, rfl⟩
                  rw [hx] at hat b2 b3 b4 HS
                  obtain ⟨gk, hgk⟩ : ∃ gk, g k = gk := ⟨_, rfl⟩
                  rw [hgk] at hcp
                  obtain ⟨tv, htv⟩ : ∃ tv, sumV I (ks.take p) = tv := ⟨_, rfl⟩
                  obtain ⟨xl, hxl⟩ : ∃ y, x.left = y := ⟨_, rfl⟩
                  obtain ⟨xr, hxr⟩ : ∃ y, x.right = y := ⟨_, rfl⟩
                  obtain ⟨xw, hxw⟩ : ∃ y, x.wide = y := ⟨_, rfl⟩
                  rw [htv, hxl, hxr, hxw] at HS
                  rw [htv] at ht ⊢
                  rw [hxl] at b2
                  rw [hxr] at b3
                  rw [hxw] at b4
                  have HX := hide hx
                  have HK := hide hk
                  have HGK := hide hgk
                  have HTV := hide htv
                  have HXL := hide hxl
                  have HXR := hide hxr
                  have HXW := hide hxw
                  have HA := hide hA
                  have hat2 := hide hat
                  have lk : gk < wr.heap.size := by rw [← hgk]; exact IS.lt hkn
                  have c43 : wr.cell? ⟨gk, 43, none⟩ = some (.int .i64 xl) := by rw [← hgk, ← hxl]; exact IS.cellE hkn hat rfl
                  have c50 : ∃ v, wr.cell? ⟨gk, 50, none⟩ = some v := ⟨_, by rw [← hgk]; exact IS.cellE hkn hat rfl⟩
                  obtain ⟨v50, c50⟩ := c50
                  have f50 : wr.frozen? ⟨gk, 50, none⟩ = false := by rw [← hgk]; exact IS.frozen hkn 50
                  clear hx hk hgk htv hxl hxr hxw hA hat hmv
                  go_upto_region 14 with fail
                  rw [unhide HA]
                  go_upto_region 15 with fail
                  rw [← unhide HA]
                  clear hb hcp
                  refine wp_region_linT (by kernel_rfl) (fun w' => (ExtX wr w' [gk])) (fun ii vv ww => match ii with | 0 => vv = ptrV gk | 1 => vv = .int .i64 tv | 2 => vv = ptrV gk | 3 => vv = .pointer (some ⟨gk, 0, none⟩) | 4 => vv = .pointer (some ⟨gk, 43, none⟩) | 5 => vv = .int .i64 xl | 6 => vv = .int .i64 (tv + xl) | 7 => vv = .func (Fn.func 35) #[] #[] | 8 => vv = .int .i64 fr | 9 => vv = .int .i64 (p : Int) | 10 => vv = .slice A m ca | 11 => vv = .int .i64 (m : Int) | 12 => vv = .int .i64 mv | 13 => vv = .int .i64 ((tv + xl) + mv) | 14 => vv = .pointer (some ⟨gk, 0, none⟩) | 15 => vv = .pointer (some ⟨gk, 50, none⟩) | _ => True) (fun ii => match ii with | 3 => [(2, 62)] | 4 => [(3, 63)] | 5 => [(4, 64)] | 6 => [(1, 61), (5, 65)] | 11 => [(10, 70)] | 12 => [(7, 67), (8, 68), (9, 69), (11, 71)] | 13 => [(6, 66), (12, 72)] | 14 => [(0, 60)] | 15 => [(14, 74)] | 16 => [(15, 75), (13, 73)] | _ => []) (fun ii => match ii with | 0 => [13] | 1 => [11] | 2 => [13] | 7 => [10] | 8 => [6] | 9 => [12] | 10 => [1] | _ => []) (fun ii => match ii with | 0 => [2, 3, 4, 1, 5, 10, 7, 8, 9, 11, 6, 12, 13] | 1 => [2, 3, 4, 5, 10, 7, 8, 9, 11, 12, 0] | 2 => [1, 10, 7, 8, 9, 11, 12, 0] | 3 => [1, 10, 7, 8, 9, 11, 12, 0] | 4 => [1, 10, 7, 8, 9, 11, 12, 0] | 5 => [1, 10, 7, 8, 9, 11, 12, 0] | 6 => [10, 7, 8, 9, 11, 12, 0] | 7 => [2, 3, 4, 1, 5, 10, 8, 9, 11, 6, 0] | 8 => [2, 3, 4, 1, 5, 10, 7, 9, 11, 6, 0] | 9 => [2, 3, 4, 1, 5, 10, 7, 8, 11, 6, 0] | 10 => [2, 3, 4, 1, 5, 7, 8, 9, 6, 0] | 11 => [2, 3, 4, 1, 5, 7, 8, 9, 6, 0] | 12 => [2, 3, 4, 1, 5, 6, 0] | 13 => [0] | 14 => [13] | 15 => [13] | _ => []) [] [0, 0, 0, 4, 12, 28, 62, 0, 0, 0, 0, 1024, 3968, 8190, 16383, 32767, 65535] (fun w0q => Ext wr w0q) [16] (fun FT wT => ∃ J, (∀ i, i ≠ k → J i = acrN s c I ks m p i) ∧ J k = (setX x (tv + xl + mv)) ∧ Its wT B g n J ∧ ItX w wT g n) 16 93 rfl (by kernel_rfl) (by kernel_rfl) (.inl (by kernel_rfl)) ((ExtX.start _ _)) ((Ext.refl _).drew) ?_ ?_
                  · rename_i hcont; clear hcont
                    refine ⟨?_, ?_, ?_, ?_, ?_, ?_, ?_, ?_, ?_, ?_, ?_, ?_, ?_, ?_, ?_, ?_, ?_, trivial⟩
                    · refine stepT_plain rfl ?_
                      rintro F a w1 jE - ⟨t13, -⟩ iO K hK
                      have t13 : a.tmps[13]? = some (ptrV gk) := t13
                      go_simp
                      exact hK _ _ jE rfl (fun _ _ _ h => h) (fun _ => by first | exact iO | rfl) (fun he => absurd he (by decide))
                    · refine stepT_plain rfl ?_
                      rintro F a w1 jE - ⟨t11, -⟩ iO K hK
                      have t11 : a.tmps[11]? = some (.int .i64 tv) := t11
                      go_simp
                      exact hK _ _ jE rfl (fun _ _ _ h => h) (fun _ => by first | exact iO | rfl) (fun he => absurd he (by decide))
                    · refine stepT_plain rfl ?_
                      rintro F a w1 jE - ⟨t13, -⟩ iO K hK
                      have t13 : a.tmps[13]? = some (ptrV gk) := t13
                      go_simp
                      exact hK _ _ jE rfl (fun _ _ _ h => h) (fun _ => by first | exact iO | rfl) (fun he => absurd he (by decide))
                    · refine stepT_plain rfl ?_
                      rintro F a w1 jE ⟨h2, t62, -⟩ - iO K hK
                      have h2 : (F 2) = ptrV gk := h2
                      rw [h2] at t62
                      clear h2
                      go_simp
                      exact hK _ _ jE rfl (fun _ _ _ h => h) (fun _ => by first | exact iO | rfl) (fun he => absurd he (by decide))
                    · refine stepT_plain rfl ?_
                      rintro F a w1 jE ⟨h3, t63, -⟩ - iO K hK
                      have h3 : (F 3) = .pointer (some ⟨gk, 0, none⟩) := h3
                      rw [h3] at t63
                      clear h3
                      go_simp
                      exact hK _ _ jE rfl (fun _ _ _ h => h) (fun _ => by first | exact iO | rfl) (fun he => absurd he (by decide))
                    · refine stepT_plain rfl ?_
                      rintro F a w1 jE ⟨h4, t64, -⟩ - iO K hK
                      have h4 : (F 4) = .pointer (some ⟨gk, 43, none⟩) := h4
                      rw [h4] at t64
                      clear h4
                      have c := (iO.cells.1 gk _ lk).trans c43
                      go_simp
                      exact hK _ _ jE rfl (fun _ _ _ h => h) (fun _ => by first | exact iO | rfl) (fun he => absurd he (by decide))
                    · refine stepT_plain rfl ?_
                      rintro F a w1 jE ⟨h1, t61, h5, t65, -⟩ - iO K hK
                      have h1 : (F 1) = .int .i64 tv := h1
                      rw [h1] at t61
                      clear h1
                      have h5 : (F 5) = .int .i64 xl := h5
                      rw [h5] at t65
                      clear h5
                      have e1 : IntKind.i64.wrap (tv + xl) = (tv + xl) := IntWalk.i64_in _ (by omega)
                      go_simp
                      exact hK _ _ jE rfl (fun _ _ _ h => h) (fun _ => by first | exact iO | rfl) (fun he => absurd he (by decide))
                    · refine stepT_plain rfl ?_
                      rintro F a w1 jE - ⟨t10, -⟩ iO K hK
                      have t10 : a.tmps[10]? = some (.func (Fn.func 35) #[] #[]) := t10
                      go_simp
                      exact hK _ _ jE rfl (fun _ _ _ h => h) (fun _ => by first | exact iO | rfl) (fun he => absurd he (by decide))
                    · refine stepT_plain rfl ?_
                      rintro F a w1 jE - ⟨t6, -⟩ iO K hK
                      have t6 : a.tmps[6]? = some (.int .i64 fr) := t6
                      go_simp
                      exact hK _ _ jE rfl (fun _ _ _ h => h) (fun _ => by first | exact iO | rfl) (fun he => absurd he (by decide))
                    · refine stepT_plain rfl ?_
                      rintro F a w1 jE - ⟨t12, -⟩ iO K hK
                      have t12 : a.tmps[12]? = some (.int .i64 (p : Int)) := t12
                      go_simp
                      exact hK _ _ jE rfl (fun _ _ _ h => h) (fun _ => by first | exact iO | rfl) (fun he => absurd he (by decide))
                    · refine stepT_plain rfl ?_
                      rintro F a w1 jE - ⟨t1, -⟩ iO K hK
                      have t1 : a.tmps[1]? = some (.slice A m ca) := t1
                      go_simp
                      exact hK _ _ jE rfl (fun _ _ _ h => h) (fun _ => by first | exact iO | rfl) (fun he => absurd he (by decide))
                    · refine stepT_plain rfl ?_
                      rintro F a w1 jE ⟨h10, t70, -⟩ - iO K hK
                      have h10 : (F 10) = .slice A m ca := h10
                      rw [h10] at t70
                      clear h10
                      go_simp
                      exact hK _ _ jE rfl (fun _ _ _ h => h) (fun _ => by first | exact iO | rfl) (fun he => absurd he (by decide))
                    · refine stepT_plain rfl ?_
                      rintro F a w1 jE ⟨h7, t67, h8, t68, h9, t69, h11, t71, -⟩ - iO K hK
                      have h7 : (F 7) = .func (Fn.func 35) #[] #[] := h7
                      rw [h7] at t67
                      clear h7
                      have h8 : (F 8) = .int .i64 fr := h8
                      rw [h8] at t68
                      clear h8
                      have h9 : (F 9) = .int .i64 (p : Int) := h9
                      rw [h9] at t69
                      clear h9
                      have h11 : (F 11) = .int .i64 (m : Int) := h11
                      rw [h11] at t71
                      clear h11
                      go_simp
                      with_reducible refine (unhide (cM p hp _)).mono ?_
                      rintro e w2 ⟨rfl, hx⟩
                      rw [unhide HMV]
                      exact hK _ _ (jE.trans hx) rfl (by intro jq hj uq h; have hj : jq ∈ [2, 3, 4, 1, 5, 6, 0] := hj; simp only [List.mem_cons, List.not_mem_nil, or_false] at hj; rcases hj with rfl | rfl | rfl | rfl | rfl | rfl | rfl; exact h; exact h; exact h; exact h; exact h; exact h; exact h) (fun _ => iO.trans hx) (fun he => absurd he (by decide))
                    · refine stepT_plain rfl ?_
                      rintro F a w1 jE ⟨h6, t66, h12, t72, -⟩ - iO K hK
                      have h6 : (F 6) = .int .i64 (tv + xl) := h6
                      rw [h6] at t66
                      clear h6
                      have h12 : (F 12) = .int .i64 mv := h12
                      rw [h12] at t72
                      clear h12
                      have e1 : IntKind.i64.wrap ((tv + xl) + mv) = ((tv + xl) + mv) := IntWalk.i64_in _ (by omega)
                      go_simp
                      exact hK _ _ jE rfl (fun _ _ _ h => h) (fun _ => by first | exact iO | rfl) (fun he => absurd he (by decide))
                    · refine stepT_plain rfl ?_
                      rintro F a w1 jE ⟨h0, t60, -⟩ - iO K hK
                      have h0 : (F 0) = ptrV gk := h0
                      rw [h0] at t60
                      clear h0
                      go_simp
                      exact hK _ _ jE rfl (fun _ _ _ h => h) (fun _ => by first | exact iO | rfl) (fun he => absurd he (by decide))
                    · refine stepT_plain rfl ?_
                      rintro F a w1 jE ⟨h14, t74, -⟩ - iO K hK
                      have h14 : (F 14) = .pointer (some ⟨gk, 0, none⟩) := h14
                      rw [h14] at t74
                      clear h14
                      go_simp
                      exact hK _ _ jE rfl (fun _ _ _ h => h) (fun _ => by first | exact iO | rfl) (fun he => absurd he (by decide))
                    · refine stepT_plain rfl ?_
                      rintro F a w1 jE ⟨h15, t75, h13, t73, -⟩ - iO K hK
                      have h15 : (F 15) = .pointer (some ⟨gk, 50, none⟩) := h15
                      rw [h15] at t75
                      clear h15
                      have h13 : (F 13) = .int .i64 ((tv + xl) + mv) := h13
                      rw [h13] at t73
                      clear h13
                      have c := (iO.cells.1 gk _ lk).trans c50
                      have f := (iO.cells.2 gk _ lk).trans f50
                      go_simp
                      obtain ⟨J, q1, q2, q3⟩ := (IS.ext iO).putE (v := .int .i64 (tv + xl + mv)) (j := 50) hkn (unhide hat2) (t := (setX x (tv + xl + mv))) rfl
                      have X3 := (X.step iO).set (j := 50) hkn (.int .i64 (tv + xl + mv))
                      rw [unhide HGK] at q3 X3
                      exact hK undef _ (jE.set (by simp) _) trivial (fun _ hj _ _ => (List.not_mem_nil hj).elim) (fun h => (h (by simp)).elim) (fun _ => ⟨J, q1, q2, q3, X3⟩)
                  · rintro F w7 jE - hT
                    obtain ⟨J, J1, J2, JS, X⟩ := hT (by decide)
                    simp only [putL, Act.put, Nat.reduceAdd, Nat.zero_add, List.setIfInBounds_toArray, List.set_cons_succ, List.set_cons_zero]
                    have HJ1 := hide J1
                    have HJ2 := hide J2
                    have lk7 : gk < w7.heap.size := by rw [← unhide HGK]; exact JS.lt hkn
                    have c43 : w7.cell? ⟨gk, 43, none⟩ = some (.int .i64 xl) := by rw [← unhide HGK, ← unhide HXL]; exact JS.cellE hkn (unhide HJ2) rfl
                    have c44 : w7.cell? ⟨gk, 44, none⟩ = some (.int .i64 xr) := by rw [← unhide HGK, ← unhide HXR]; exact JS.cellE hkn (unhide HJ2) rfl
                    have c45 : w7.cell? ⟨gk, 45, none⟩ = some (.int .i64 xw) := by rw [← unhide HGK, ← unhide HXW]; exact JS.cellE hkn (unhide HJ2) rfl
                    clear jE hT J1 J2 IS c50 f50 lk
                    go_upto_region 16 with fail
                    refine wp_region_lin (by kernel_rfl) (fun w' => (ExtX w7 w' [])) (fun ii vv ww => match ii with | 0 => vv = .int .i64 tv | 1 => vv = ptrV gk | 2 => vv = .pointer (some ⟨gk, 0, none⟩) | 3 => vv = .pointer (some ⟨gk, 43, none⟩) | 4 => vv = .int .i64 xl | 5 => vv = ptrV gk | 6 => vv = .pointer (some ⟨gk, 0, none⟩) | 7 => vv = .pointer (some ⟨gk, 45, none⟩) | 8 => vv = .int .i64 xw | 9 => vv = .int .i64 (xl + xw) | 10 => vv = ptrV gk | 11 => vv = .pointer (some ⟨gk, 0, none⟩) | 12 => vv = .pointer (some ⟨gk, 44, none⟩) | 13 => vv = .int .i64 xr | 14 => vv = .int .i64 ((xl + xw) + xr) | 15 => vv = .int .i64 (tv + ((xl + xw) + xr)) | 16 => vv = .int .i64 (tv + ((xl + xw) + xr)) | _ => True) (fun ii => match ii with | 2 => [(1, 77)] | 3 => [(2, 78)] | 4 => [(3, 79)] | 6 => [(5, 81)] | 7 => [(6, 82)] | 8 => [(7, 83)] | 9 => [(4, 80), (8, 84)] | 11 => [(10, 86)] | 12 => [(11, 87)] | 13 => [(12, 88)] | 14 => [(9, 85), (13, 89)] | 15 => [(0, 76), (14, 90)] | 16 => [(15, 91)] | _ => []) (fun ii => match ii with | 0 => [11] | 1 => [13] | 5 => [13] | 10 => [13] | _ => []) (fun ii => match ii with | 0 => [1, 2, 3, 5, 6, 7, 4, 8, 10, 11, 12, 9, 13, 14] | 1 => [5, 6, 7, 8, 10, 11, 12, 13, 0] | 2 => [5, 6, 7, 8, 10, 11, 12, 13, 0] | 3 => [5, 6, 7, 8, 10, 11, 12, 13, 0] | 4 => [5, 6, 7, 8, 10, 11, 12, 13, 0] | 5 => [1, 2, 3, 4, 10, 11, 12, 13, 0] | 6 => [1, 2, 3, 4, 10, 11, 12, 13, 0] | 7 => [1, 2, 3, 4, 10, 11, 12, 13, 0] | 8 => [1, 2, 3, 4, 10, 11, 12, 13, 0] | 9 => [10, 11, 12, 13, 0] | 10 => [1, 2, 3, 5, 6, 7, 4, 8, 9, 0] | 11 => [1, 2, 3, 5, 6, 7, 4, 8, 9, 0] | 12 => [1, 2, 3, 5, 6, 7, 4, 8, 9, 0] | 13 => [1, 2, 3, 5, 6, 7, 4, 8, 9, 0] | 14 => [0] | _ => []) [16] [0, 0, 2, 6, 14, 0, 32, 96, 224, 510, 0, 1024, 3072, 7168, 16382, 32767, 65535] 93 rfl (by kernel_rfl) (ExtX.start _ _) ?_ ?_
                    · rename_i hcont; clear hcont
                      refine ⟨?_, ?_, ?_, ?_, ?_, ?_, ?_, ?_, ?_, ?_, ?_, ?_, ?_, ?_, ?_, ?_, ?_, trivial⟩
                      · refine stepL_plain rfl ?_
                        rintro F a w1 jE - ⟨t11, -⟩ K hK
                        have t11 : a.tmps[11]? = some (.int .i64 tv) := t11
                        go_simp
                        exact hK _ _ jE rfl (fun _ _ _ h => h)
                      · refine stepL_plain rfl ?_
                        rintro F a w1 jE - ⟨t13, -⟩ K hK
                        have t13 : a.tmps[13]? = some (ptrV gk) := t13
                        go_simp
                        exact hK _ _ jE rfl (fun _ _ _ h => h)
                      · refine stepL_plain rfl ?_
                        rintro F a w1 jE ⟨h1, t77, -⟩ - K hK
                        have h1 : (F 1) = ptrV gk := h1
                        rw [h1] at t77
                        clear h1
                        go_simp
                        exact hK _ _ jE rfl (fun _ _ _ h => h)
                      · refine stepL_plain rfl ?_
                        rintro F a w1 jE ⟨h2, t78, -⟩ - K hK
                        have h2 : (F 2) = .pointer (some ⟨gk, 0, none⟩) := h2
                        rw [h2] at t78
                        clear h2
                        go_simp
                        exact hK _ _ jE rfl (fun _ _ _ h => h)
                      · refine stepL_plain rfl ?_
                        rintro F a w1 jE ⟨h3, t79, -⟩ - K hK
                        have h3 : (F 3) = .pointer (some ⟨gk, 43, none⟩) := h3
                        rw [h3] at t79
                        clear h3
                        have c := ((jE.ext (Ext.refl _) (by simp)).cells.1 gk _ lk7).trans c43
                        go_simp
                        exact hK _ _ jE rfl (fun _ _ _ h => h)
                      · refine stepL_plain rfl ?_
                        rintro F a w1 jE - ⟨t13, -⟩ K hK
                        have t13 : a.tmps[13]? = some (ptrV gk) := t13
                        go_simp
                        exact hK _ _ jE rfl (fun _ _ _ h => h)
                      · refine stepL_plain rfl ?_
                        rintro F a w1 jE ⟨h5, t81, -⟩ - K hK
                        have h5 : (F 5) = ptrV gk := h5
                        rw [h5] at t81
                        clear h5
                        go_simp
                        exact hK _ _ jE rfl (fun _ _ _ h => h)
                      · refine stepL_plain rfl ?_
                        rintro F a w1 jE ⟨h6, t82, -⟩ - K hK
                        have h6 : (F 6) = .pointer (some ⟨gk, 0, none⟩) := h6
                        rw [h6] at t82
                        clear h6
                        go_simp
                        exact hK _ _ jE rfl (fun _ _ _ h => h)
                      · refine stepL_plain rfl ?_
                        rintro F a w1 jE ⟨h7, t83, -⟩ - K hK
                        have h7 : (F 7) = .pointer (some ⟨gk, 45, none⟩) := h7
                        rw [h7] at t83
                        clear h7
                        have c := ((jE.ext (Ext.refl _) (by simp)).cells.1 gk _ lk7).trans c45
                        go_simp
                        exact hK _ _ jE rfl (fun _ _ _ h => h)
                      · refine stepL_plain rfl ?_
                        rintro F a w1 jE ⟨h4, t80, h8, t84, -⟩ - K hK
                        have h4 : (F 4) = .int .i64 xl := h4
                        rw [h4] at t80
                        clear h4
                        have h8 : (F 8) = .int .i64 xw := h8
                        rw [h8] at t84
                        clear h8
                        have e1 : IntKind.i64.wrap (xl + xw) = (xl + xw) := IntWalk.i64_in _ (by omega)
                        go_simp
                        exact hK _ _ jE rfl (fun _ _ _ h => h)
                      · refine stepL_plain rfl ?_
                        rintro F a w1 jE - ⟨t13, -⟩ K hK
                        have t13 : a.tmps[13]? = some (ptrV gk) := t13
                        go_simp
                        exact hK _ _ jE rfl (fun _ _ _ h => h)
                      · refine stepL_plain rfl ?_
                        rintro F a w1 jE ⟨h10, t86, -⟩ - K hK
                        have h10 : (F 10) = ptrV gk := h10
                        rw [h10] at t86
                        clear h10
                        go_simp
                        exact hK _ _ jE rfl (fun _ _ _ h => h)
                      · refine stepL_plain rfl ?_
                        rintro F a w1 jE ⟨h11, t87, -⟩ - K hK
                        have h11 : (F 11) = .pointer (some ⟨gk, 0, none⟩) := h11
                        rw [h11] at t87
                        clear h11
                        go_simp
                        exact hK _ _ jE rfl (fun _ _ _ h => h)
                      · refine stepL_plain rfl ?_
                        rintro F a w1 jE ⟨h12, t88, -⟩ - K hK
                        have h12 : (F 12) = .pointer (some ⟨gk, 44, none⟩) := h12
                        rw [h12] at t88
                        clear h12
                        have c := ((jE.ext (Ext.refl _) (by simp)).cells.1 gk _ lk7).trans c44
                        go_simp
                        exact hK _ _ jE rfl (fun _ _ _ h => h)
                      · refine stepL_plain rfl ?_
                        rintro F a w1 jE ⟨h9, t85, h13, t89, -⟩ - K hK
                        have h9 : (F 9) = .int .i64 (xl + xw) := h9
                        rw [h9] at t85
                        clear h9
                        have h13 : (F 13) = .int .i64 xr := h13
                        rw [h13] at t89
                        clear h13
                        have e1 : IntKind.i64.wrap ((xl + xw) + xr) = ((xl + xw) + xr) := IntWalk.i64_in _ (by omega)
                        go_simp
                        exact hK _ _ jE rfl (fun _ _ _ h => h)
                      · refine stepL_plain rfl ?_
                        rintro F a w1 jE ⟨h0, t76, h14, t90, -⟩ - K hK
                        have h0 : (F 0) = .int .i64 tv := h0
                        rw [h0] at t76
                        clear h0
                        have h14 : (F 14) = .int .i64 ((xl + xw) + xr) := h14
                        rw [h14] at t90
                        clear h14
                        have e1 : IntKind.i64.wrap (tv + ((xl + xw) + xr)) = (tv + ((xl + xw) + xr)) := IntWalk.i64_in _ (by omega)
                        go_simp
                        exact hK _ _ jE rfl (fun _ _ _ h => h)
                      · refine stepL_plain rfl ?_
                        rintro F a w1 jE ⟨h15, t91, -⟩ - K hK
                        have h15 : (F 15) = .int .i64 (tv + ((xl + xw) + xr)) := h15
                        rw [h15] at t91
                        clear h15
                        go_simp
                        exact hK _ _ jE rfl (fun _ _ _ h => h)
                    · rintro F w9 jE ⟨h16, -⟩
                      have h16 : (F 16) = .int .i64 (tv + ((xl + xw) + xr)) := h16
                      have hx := jE.ext (Ext.refl _) (by simp)
                      simp only [putL, Act.put, Nat.reduceAdd, Nat.zero_add, List.setIfInBounds_toArray, List.set_cons_succ, List.set_cons_zero]
                      rw [h16]
                      clear h16 jE c43 c44 c45 lk7
                      replace JS := JS.ext hx
                      replace X := X.step hx
                      clear hx
                      go_wp2_with fail
                      go_roundw
                      case rel => exact ⟨p + 1, by rw [unhide HS], by go_num, by omega, JS.congr (fun i _ => acrN_step (unhide HK) (unhide HJ1) (by rw [unhide HX, unhide HJ2]; show setX x _ = setX x _; rw [xV, unhide HX, unhide HTV, unhide HFR, unhide HMV, unhide HXL]) i), X⟩
                      case measure => simp [intOf]; omega
                · have hpI : ¬ (p : Int) < (m : Int) := by omega
                  have hpe : p = m := by omega
                  have HPE := hide hpe
                  clear hpe
                  go_wp2_with fail
                  go_end0
                  exact ⟨rfl, by have e := unhide HPE; rw [e] at IS; exact IS, X⟩
end Go.Proofs.Ytkkkdjkjggofkaa
