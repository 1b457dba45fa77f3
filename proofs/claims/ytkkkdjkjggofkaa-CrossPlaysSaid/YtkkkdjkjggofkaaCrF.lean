/- Layer 20: a row's items get their heights and tops (walk). -/
import Derived.Test.YtkkkdjkjggofkaaCrE
namespace Go.Proofs.Ytkkkdjkjggofkaa
open Go.RowKit
/-- a call that writes but items -/
def ItOut (w : World) (B : Nat) (g : Nat → Nat) (n : Nat) (J : Nat → It) (e : Ending) (w' : World) : Prop := e = .returned (.tuple #[]) ∧ Its w' B g n J ∧ ItX w w' g n
set_option maxRecDepth 100000 in
set_option maxHeartbeats 16000000 in
theorem down_any (s : Sty) (top h : Int) (B n : Nat) (g : Nat → Nat) (I : Nat → It) (A : Option Addr) (m c : Nat) (ks : List Nat) (w : World) (hr : Rd w 1 A m (ptrs g ks)) (hra : ∀ b off, A = some ⟨b, off, none⟩ → ∀ i, i < n → b ≠ g i) (IS : Its w B g n I)
    (hks : ∀ k ∈ ks, k < n ∧ ItBd (I k)) (hnd : ks.Nodup) (hm : m ≤ 1000) (hh : 0 ≤ h ∧ h ≤ 240000000000000) (htop : -100000000000000000 ≤ top ∧ top ≤ 100000000000000000) :
    Calls Try.prog 22 #[.agg s.cells, .slice A m c, .int .i64 top, .int .i64 h] w (ItOut w B g n (downN s top h I ks m)) := by
  have hml : ks.length = m := by have := hr.len; rw [ptrs_len] at this; omega
  have HML := hide hml
  have HKS := hide hks
  have HND := hide hnd
  have HR := hide hr
  have HRA := hide hra
  clear hml hks hr hnd hra
  go_enter Try.func22, Try.ntmps22
  go_upto_region 1 with fail
  have BS : Blk (w.alloc (.cells s.cells 28)) w.heap.size 28 s.cells := Blk.new _ _ _
  have hne : ∀ i, i < n → w.heap.size ≠ g i := fun i hi e => by have := IS.lt hi; omega
  have HNE := hide hne
  have X : ItX w (w.alloc (.cells s.cells 28)) g n := (ItX.refl _ _ _).step ((Ext.refl _).alloc _)
  have IS0 : Its (w.alloc (.cells s.cells 28)) B g n (downN s top h I ks 0) := (IS.ext ((Ext.refl _).alloc _)).congr (fun i _ => downN_0 s top h I ks i)
  generalize w.alloc (.cells s.cells 28) = w1 at *
  generalize w.heap.size = gs at *
  clear hne IS
  go_wp2_with fail
  go_loopw [13] (fun v wr => ∃ p : Nat, v = .int .i64 p ∧ p ≤ m ∧ Its wr B g n (downN s top h I ks p) ∧ Blk wr gs 28 s.cells ∧ ItX w wr g n) (fun v _ => m - (intOf v).toNat)
  case atStart => exact ⟨0, rfl, by omega, IS0, BS, X⟩
  case round =>
    clear IS0 BS X
    obtain ⟨p, rfl, p1, IS, BS, X⟩ := hrel
    by_cases hp : p < m
    · have hpI : (0 : Int) ≤ (p : Int) ∧ (p : Int) < (m : Int) := by omega
      have hpl : p < ks.length := by have := unhide HML; omega
      obtain ⟨k, hk⟩ : ∃ k, ks[p]? = some k := ⟨_, List.getElem?_eq_getElem hpl⟩
      obtain ⟨hkn, hbd⟩ := (unhide HKS) k (List.mem_of_getElem? hk)
      obtain ⟨b, off, hA, hb, hc⟩ := (X.rd (unhide HR) (unhide HRA)).ptr hk
      have hat := downN_at (s := s) (top := top) (h := h) (I := I) (unhide HND) hk
      have hnb := newH_bd (s := s) hbd hh
      obtain ⟨x, hx⟩ : ∃ x, I k = x := ⟨_, rfl⟩
      rw [hx] at hat hbd hnb
      have HX := hide hx
      have HK := hide hk
      obtain ⟨gk, hgk⟩ : ∃ gk, g k = gk := ⟨_, rfl⟩
      have HGK := hide hgk
      rw [hgk] at hc
      have hsk : gs ≠ gk := by rw [← hgk]; exact (unhide HNE) k hkn
      obtain ⟨xs, xl, xr, xw, xh, xd, xa, xb, xx, xy, xst⟩ := x
      obtain ⟨-, -, -, -, h5, h6, h7, h8⟩ := hbd
      simp only at h5 h6 h7 h8
      have HA := hide hA
      obtain ⟨nh, hnh⟩ : ∃ nh, newH s h ⟨xs, xl, xr, xw, xh, xd, xa, xb, xx, xy, xst⟩ = nh := ⟨_, rfl⟩
      rw [hnh] at hnb
      have HNH := hide hnh
      have hnh2 := hide hat
      have lk : gk < wr.heap.size := by rw [← hgk]; exact IS.lt hkn
      have cst : ∀ j v, (styC xs)[j]? = some v → wr.cell? ⟨gk, j, none⟩ = some v := fun j v hv => by rw [← hgk]; exact IS.cellE hkn hat (It.sty _ hv)
      have ckind : wr.cell? ⟨gk, 6, none⟩ = some (.int .u8 xs.h.k) := cst 6 _ rfl
      have CST := hide cst
      clear hk hx hgk hA hnh hat cst
      have bc := BS.cell
      have bl := BS.lt
      go_upto_region 3 with fail
      rw [unhide HA]
      go_upto_region 4 with fail
      rw [← unhide HA]
      clear hb hc
      by_cases hst : s.items = 3 ∧ xs.h.k = 0
      · obtain ⟨e1, e2⟩ := hst
        have hnh3 : highV xs (max (h - xa - xb - xd) 0) + xd = nh := by
          rw [← unhide HNH, newH, if_pos ⟨e1, e2⟩]
        go_upto_region 5 with fail
        have c48 : wr.cell? ⟨gk, 48, none⟩ = some (.int .i64 xa) := by rw [← unhide HGK]; exact IS.cellE hkn (unhide hnh2) rfl
        have c49 : wr.cell? ⟨gk, 49, none⟩ = some (.int .i64 xb) := by rw [← unhide HGK]; exact IS.cellE hkn (unhide hnh2) rfl
        have c47 : wr.cell? ⟨gk, 47, none⟩ = some (.int .i64 xd) := by rw [← unhide HGK]; exact IS.cellE hkn (unhide hnh2) rfl
        have c46 : wr.cell? ⟨gk, 46, none⟩ = some (.int .i64 xh) := by rw [← unhide HGK]; exact IS.cellE hkn (unhide hnh2) rfl
        have f46 : wr.frozen? ⟨gk, 46, none⟩ = false := by rw [← unhide HGK]; exact IS.frozen hkn 46
        obtain ⟨mx, hmx⟩ : ∃ mx, max (h - xa - xb - xd) 0 = mx := ⟨_, rfl⟩
        rw [hmx] at hnh3
        obtain ⟨hv, hhv⟩ : ∃ hv, highV xs mx = hv := ⟨_, rfl⟩
        rw [hhv] at hnh3
        have HMX := hide hmx
        have HHV := hide hhv
        have HNV := hide hnh3
        have hvb : -10000000000000 ≤ hv ∧ hv ≤ 290000000000000 := by omega
        clear hmx hhv hnh3 e1 e2 bc bl ckind
        refine wp_region_linT (by kernel_rfl) (fun w' => (ExtX wr w' [gk])) (fun ii vv ww => match ii with | 0 => vv = ptrV gk | 1 => vv = ptrV gk | 2 => vv = .pointer (some ⟨gk, 0, none⟩) | 3 => vv = .pointer (some ⟨gk, 0, none⟩) | 4 => vv = .agg xs.cells | 5 => vv = .int .i64 h | 6 => vv = ptrV gk | 7 => vv = .pointer (some ⟨gk, 0, none⟩) | 8 => vv = .pointer (some ⟨gk, 48, none⟩) | 9 => vv = .int .i64 xa | 10 => vv = .int .i64 (h - xa) | 11 => vv = ptrV gk | 12 => vv = .pointer (some ⟨gk, 0, none⟩) | 13 => vv = .pointer (some ⟨gk, 49, none⟩) | 14 => vv = .int .i64 xb | 15 => vv = .int .i64 ((h - xa) - xb) | 16 => vv = ptrV gk | 17 => vv = .pointer (some ⟨gk, 0, none⟩) | 18 => vv = .pointer (some ⟨gk, 47, none⟩) | 19 => vv = .int .i64 xd | 20 => vv = .int .i64 (((h - xa) - xb) - xd) | 21 => vv = .int .i64 mx | 22 => vv = .int .i64 hv | 23 => vv = ptrV gk | 24 => vv = .pointer (some ⟨gk, 0, none⟩) | 25 => vv = .pointer (some ⟨gk, 47, none⟩) | 26 => vv = .int .i64 xd | 27 => vv = .int .i64 nh | 28 => vv = .pointer (some ⟨gk, 0, none⟩) | 29 => vv = .pointer (some ⟨gk, 46, none⟩) | _ => True) (fun ii => match ii with | 2 => [(1, 30)] | 3 => [(2, 31)] | 4 => [(3, 32)] | 7 => [(6, 35)] | 8 => [(7, 36)] | 9 => [(8, 37)] | 10 => [(5, 34), (9, 38)] | 12 => [(11, 40)] | 13 => [(12, 41)] | 14 => [(13, 42)] | 15 => [(10, 39), (14, 43)] | 17 => [(16, 45)] | 18 => [(17, 46)] | 19 => [(18, 47)] | 20 => [(15, 44), (19, 48)] | 21 => [(20, 49)] | 22 => [(4, 33), (21, 50)] | 24 => [(23, 52)] | 25 => [(24, 53)] | 26 => [(25, 54)] | 27 => [(22, 51), (26, 55)] | 28 => [(0, 29)] | 29 => [(28, 57)] | 30 => [(29, 58), (27, 56)] | _ => []) (fun ii => match ii with | 0 => [9] | 1 => [9] | 5 => [3] | 6 => [9] | 11 => [9] | 16 => [9] | 23 => [9] | _ => []) (fun ii => match ii with | 0 => [1, 2, 3, 6, 7, 8, 5, 9, 11, 12, 13, 10, 14, 16, 17, 18, 15, 19, 20, 4, 21, 23, 24, 25, 22, 26, 27] | 1 => [6, 7, 8, 5, 9, 11, 12, 13, 10, 14, 16, 17, 18, 15, 19, 20, 21, 23, 24, 25, 26, 0] | 2 => [6, 7, 8, 5, 9, 11, 12, 13, 10, 14, 16, 17, 18, 15, 19, 20, 21, 23, 24, 25, 26, 0] | 3 => [6, 7, 8, 5, 9, 11, 12, 13, 10, 14, 16, 17, 18, 15, 19, 20, 21, 23, 24, 25, 26, 0] | 4 => [6, 7, 8, 5, 9, 11, 12, 13, 10, 14, 16, 17, 18, 15, 19, 20, 21, 23, 24, 25, 26, 0] | 5 => [1, 2, 3, 6, 7, 8, 9, 11, 12, 13, 14, 16, 17, 18, 19, 4, 23, 24, 25, 26, 0] | 6 => [1, 2, 3, 5, 11, 12, 13, 14, 16, 17, 18, 19, 4, 23, 24, 25, 26, 0] | 7 => [1, 2, 3, 5, 11, 12, 13, 14, 16, 17, 18, 19, 4, 23, 24, 25, 26, 0] | 8 => [1, 2, 3, 5, 11, 12, 13, 14, 16, 17, 18, 19, 4, 23, 24, 25, 26, 0] | 9 => [1, 2, 3, 5, 11, 12, 13, 14, 16, 17, 18, 19, 4, 23, 24, 25, 26, 0] | 10 => [1, 2, 3, 11, 12, 13, 14, 16, 17, 18, 19, 4, 23, 24, 25, 26, 0] | 11 => [1, 2, 3, 6, 7, 8, 5, 9, 10, 16, 17, 18, 19, 4, 23, 24, 25, 26, 0] | 12 => [1, 2, 3, 6, 7, 8, 5, 9, 10, 16, 17, 18, 19, 4, 23, 24, 25, 26, 0] | 13 => [1, 2, 3, 6, 7, 8, 5, 9, 10, 16, 17, 18, 19, 4, 23, 24, 25, 26, 0] | 14 => [1, 2, 3, 6, 7, 8, 5, 9, 10, 16, 17, 18, 19, 4, 23, 24, 25, 26, 0] | 15 => [1, 2, 3, 16, 17, 18, 19, 4, 23, 24, 25, 26, 0] | 16 => [1, 2, 3, 6, 7, 8, 5, 9, 11, 12, 13, 10, 14, 15, 4, 23, 24, 25, 26, 0] | 17 => [1, 2, 3, 6, 7, 8, 5, 9, 11, 12, 13, 10, 14, 15, 4, 23, 24, 25, 26, 0] | 18 => [1, 2, 3, 6, 7, 8, 5, 9, 11, 12, 13, 10, 14, 15, 4, 23, 24, 25, 26, 0] | 19 => [1, 2, 3, 6, 7, 8, 5, 9, 11, 12, 13, 10, 14, 15, 4, 23, 24, 25, 26, 0] | 20 => [1, 2, 3, 4, 23, 24, 25, 26, 0] | 21 => [1, 2, 3, 4, 23, 24, 25, 26, 0] | 22 => [23, 24, 25, 26, 0] | 23 => [1, 2, 3, 6, 7, 8, 5, 9, 11, 12, 13, 10, 14, 16, 17, 18, 15, 19, 20, 4, 21, 22, 0] | 24 => [1, 2, 3, 6, 7, 8, 5, 9, 11, 12, 13, 10, 14, 16, 17, 18, 15, 19, 20, 4, 21, 22, 0] | 25 => [1, 2, 3, 6, 7, 8, 5, 9, 11, 12, 13, 10, 14, 16, 17, 18, 15, 19, 20, 4, 21, 22, 0] | 26 => [1, 2, 3, 6, 7, 8, 5, 9, 11, 12, 13, 10, 14, 16, 17, 18, 15, 19, 20, 4, 21, 22, 0] | 27 => [0] | 28 => [27] | 29 => [27] | _ => []) [] [0, 0, 2, 6, 14, 0, 0, 64, 192, 448, 992, 0, 2048, 6144, 14336, 32736, 0, 65536, 196608, 458752, 1048544, 2097120, 4194302, 0, 8388608, 25165824, 58720256, 134217726, 268435455, 536870911, 1073741823] (fun w0q => Ext wr w0q) [30] (fun FT wT => ∃ J, (∀ i, i ≠ k → J i = downN s top h I ks p i) ∧ J k = (⟨xs, xl, xr, xw, nh, xd, xa, xb, xx, xy, xst⟩ : It) ∧ Its wT B g n J ∧ ItX w wT g n ∧ Blk wT gs 28 s.cells) 30 108 rfl (by kernel_rfl) (by kernel_rfl) (.inl (by kernel_rfl)) (ExtX.start _ _) ((Ext.refl _).drew) ?_ ?_
        · rename_i hcont; clear hcont
          refine ⟨?_, ?_, ?_, ?_, ?_, ?_, ?_, ?_, ?_, ?_, ?_, ?_, ?_, ?_, ?_, ?_, ?_, ?_, ?_, ?_, ?_, ?_, ?_, ?_, ?_, ?_, ?_, ?_, ?_, ?_, ?_, trivial⟩
          · refine stepT_plain rfl ?_
            rintro F a w1 jE - ⟨t9, -⟩ iO K hK
            have t9 : a.tmps[9]? = some (ptrV gk) := t9
            go_simp
            exact hK _ _ jE rfl (fun _ _ _ h => h) (fun _ => by first | exact iO | rfl) (fun he => absurd he (by decide))
          · refine stepT_plain rfl ?_
            rintro F a w1 jE - ⟨t9, -⟩ iO K hK
            have t9 : a.tmps[9]? = some (ptrV gk) := t9
            go_simp
            exact hK _ _ jE rfl (fun _ _ _ h => h) (fun _ => by first | exact iO | rfl) (fun he => absurd he (by decide))
          · refine stepT_plain rfl ?_
            rintro F a w1 jE ⟨h1, t30, -⟩ - iO K hK
            have h1 : (F 1) = ptrV gk := h1
            rw [h1] at t30
            clear h1
            go_simp
            exact hK _ _ jE rfl (fun _ _ _ h => h) (fun _ => by first | exact iO | rfl) (fun he => absurd he (by decide))
          · refine stepT_plain rfl ?_
            rintro F a w1 jE ⟨h2, t31, -⟩ - iO K hK
            have h2 : (F 2) = .pointer (some ⟨gk, 0, none⟩) := h2
            rw [h2] at t31
            clear h2
            go_simp
            exact hK _ _ jE rfl (fun _ _ _ h => h) (fun _ => by first | exact iO | rfl) (fun he => absurd he (by decide))
          · refine stepT_plain rfl ?_
            rintro F a w1 jE ⟨h3, t32, -⟩ - iO K hK
            have h3 : (F 3) = .pointer (some ⟨gk, 0, none⟩) := h3
            rw [h3] at t32
            clear h3
            refine wp_load_mid 28 _ rfl gk 0 (eval_tmp t32) (styC xs) _ (fun j v hv => by rw [Nat.zero_add]; exact (iO.cells.1 gk _ lk).trans ((unhide CST) j v hv)) Try.underlying28 rfl (info_style xs) ?_
            exact hK _ _ jE rfl (fun _ _ _ h => h) (fun _ => by first | exact iO | rfl) (fun he => absurd he (by decide))
          · refine stepT_plain rfl ?_
            rintro F a w1 jE - ⟨t3, -⟩ iO K hK
            have t3 : a.tmps[3]? = some (.int .i64 h) := t3
            go_simp
            exact hK _ _ jE rfl (fun _ _ _ h => h) (fun _ => by first | exact iO | rfl) (fun he => absurd he (by decide))
          · refine stepT_plain rfl ?_
            rintro F a w1 jE - ⟨t9, -⟩ iO K hK
            have t9 : a.tmps[9]? = some (ptrV gk) := t9
            go_simp
            exact hK _ _ jE rfl (fun _ _ _ h => h) (fun _ => by first | exact iO | rfl) (fun he => absurd he (by decide))
          · refine stepT_plain rfl ?_
            rintro F a w1 jE ⟨h6, t35, -⟩ - iO K hK
            have h6 : (F 6) = ptrV gk := h6
            rw [h6] at t35
            clear h6
            go_simp
            exact hK _ _ jE rfl (fun _ _ _ h => h) (fun _ => by first | exact iO | rfl) (fun he => absurd he (by decide))
          · refine stepT_plain rfl ?_
            rintro F a w1 jE ⟨h7, t36, -⟩ - iO K hK
            have h7 : (F 7) = .pointer (some ⟨gk, 0, none⟩) := h7
            rw [h7] at t36
            clear h7
            go_simp
            exact hK _ _ jE rfl (fun _ _ _ h => h) (fun _ => by first | exact iO | rfl) (fun he => absurd he (by decide))
          · refine stepT_plain rfl ?_
            rintro F a w1 jE ⟨h8, t37, -⟩ - iO K hK
            have h8 : (F 8) = .pointer (some ⟨gk, 48, none⟩) := h8
            rw [h8] at t37
            clear h8
            have c := (iO.cells.1 gk _ lk).trans c48
            go_simp
            exact hK _ _ jE rfl (fun _ _ _ h => h) (fun _ => by first | exact iO | rfl) (fun he => absurd he (by decide))
          · refine stepT_plain rfl ?_
            rintro F a w1 jE ⟨h5, t34, h9, t38, -⟩ - iO K hK
            have h5 : (F 5) = .int .i64 h := h5
            rw [h5] at t34
            clear h5
            have h9 : (F 9) = .int .i64 xa := h9
            rw [h9] at t38
            clear h9
            have e1 : IntKind.i64.wrap (h - xa) = (h - xa) := IntWalk.i64_in _ (by omega)
            go_simp
            exact hK _ _ jE rfl (fun _ _ _ h => h) (fun _ => by first | exact iO | rfl) (fun he => absurd he (by decide))
          · refine stepT_plain rfl ?_
            rintro F a w1 jE - ⟨t9, -⟩ iO K hK
            have t9 : a.tmps[9]? = some (ptrV gk) := t9
            go_simp
            exact hK _ _ jE rfl (fun _ _ _ h => h) (fun _ => by first | exact iO | rfl) (fun he => absurd he (by decide))
          · refine stepT_plain rfl ?_
            rintro F a w1 jE ⟨h11, t40, -⟩ - iO K hK
            have h11 : (F 11) = ptrV gk := h11
            rw [h11] at t40
            clear h11
            go_simp
            exact hK _ _ jE rfl (fun _ _ _ h => h) (fun _ => by first | exact iO | rfl) (fun he => absurd he (by decide))
          · refine stepT_plain rfl ?_
            rintro F a w1 jE ⟨h12, t41, -⟩ - iO K hK
            have h12 : (F 12) = .pointer (some ⟨gk, 0, none⟩) := h12
            rw [h12] at t41
            clear h12
            go_simp
            exact hK _ _ jE rfl (fun _ _ _ h => h) (fun _ => by first | exact iO | rfl) (fun he => absurd he (by decide))
          · refine stepT_plain rfl ?_
            rintro F a w1 jE ⟨h13, t42, -⟩ - iO K hK
            have h13 : (F 13) = .pointer (some ⟨gk, 49, none⟩) := h13
            rw [h13] at t42
            clear h13
            have c := (iO.cells.1 gk _ lk).trans c49
            go_simp
            exact hK _ _ jE rfl (fun _ _ _ h => h) (fun _ => by first | exact iO | rfl) (fun he => absurd he (by decide))
          · refine stepT_plain rfl ?_
            rintro F a w1 jE ⟨h10, t39, h14, t43, -⟩ - iO K hK
            have h10 : (F 10) = .int .i64 (h - xa) := h10
            rw [h10] at t39
            clear h10
            have h14 : (F 14) = .int .i64 xb := h14
            rw [h14] at t43
            clear h14
            have e1 : IntKind.i64.wrap ((h - xa) - xb) = ((h - xa) - xb) := IntWalk.i64_in _ (by omega)
            go_simp
            exact hK _ _ jE rfl (fun _ _ _ h => h) (fun _ => by first | exact iO | rfl) (fun he => absurd he (by decide))
          · refine stepT_plain rfl ?_
            rintro F a w1 jE - ⟨t9, -⟩ iO K hK
            have t9 : a.tmps[9]? = some (ptrV gk) := t9
            go_simp
            exact hK _ _ jE rfl (fun _ _ _ h => h) (fun _ => by first | exact iO | rfl) (fun he => absurd he (by decide))
          · refine stepT_plain rfl ?_
            rintro F a w1 jE ⟨h16, t45, -⟩ - iO K hK
            have h16 : (F 16) = ptrV gk := h16
            rw [h16] at t45
            clear h16
            go_simp
            exact hK _ _ jE rfl (fun _ _ _ h => h) (fun _ => by first | exact iO | rfl) (fun he => absurd he (by decide))
          · refine stepT_plain rfl ?_
            rintro F a w1 jE ⟨h17, t46, -⟩ - iO K hK
            have h17 : (F 17) = .pointer (some ⟨gk, 0, none⟩) := h17
            rw [h17] at t46
            clear h17
            go_simp
            exact hK _ _ jE rfl (fun _ _ _ h => h) (fun _ => by first | exact iO | rfl) (fun he => absurd he (by decide))
          · refine stepT_plain rfl ?_
            rintro F a w1 jE ⟨h18, t47, -⟩ - iO K hK
            have h18 : (F 18) = .pointer (some ⟨gk, 47, none⟩) := h18
            rw [h18] at t47
            clear h18
            have c := (iO.cells.1 gk _ lk).trans c47
            go_simp
            exact hK _ _ jE rfl (fun _ _ _ h => h) (fun _ => by first | exact iO | rfl) (fun he => absurd he (by decide))
          · refine stepT_plain rfl ?_
            rintro F a w1 jE ⟨h15, t44, h19, t48, -⟩ - iO K hK
            have h15 : (F 15) = .int .i64 ((h - xa) - xb) := h15
            rw [h15] at t44
            clear h15
            have h19 : (F 19) = .int .i64 xd := h19
            rw [h19] at t48
            clear h19
            have e1 : IntKind.i64.wrap (((h - xa) - xb) - xd) = (((h - xa) - xb) - xd) := IntWalk.i64_in _ (by omega)
            go_simp
            exact hK _ _ jE rfl (fun _ _ _ h => h) (fun _ => by first | exact iO | rfl) (fun he => absurd he (by decide))
          · refine stepT_plain rfl ?_
            rintro F a w1 jE ⟨h20, t49, -⟩ - iO K hK
            have h20 : (F 20) = .int .i64 (((h - xa) - xb) - xd) := h20
            rw [h20] at t49
            clear h20
            have e1 := unhide HMX
            go_simp
            exact hK _ _ jE rfl (fun _ _ _ h => h) (fun _ => by first | exact iO | rfl) (fun he => absurd he (by decide))
          · refine stepT_plain rfl ?_
            rintro F a w1 jE ⟨h4, t33, h21, t50, -⟩ - iO K hK
            have h4 : (F 4) = .agg xs.cells := h4
            rw [h4] at t33
            clear h4
            have h21 : (F 21) = .int .i64 mx := h21
            rw [h21] at t50
            clear h21
            go_simp
            with_reducible refine (high_any xs mx _).mono ?_
            rintro e w2 ⟨rfl, hx⟩
            rw [unhide HHV]
            exact hK _ _ (jE.trans hx) rfl (by intro jq hj uq h; have hj : jq ∈ [23, 24, 25, 26, 0] := hj; simp only [List.mem_cons, List.not_mem_nil, or_false] at hj; rcases hj with rfl | rfl | rfl | rfl | rfl; exact h; exact h; exact h; exact h; exact h) (fun _ => iO.trans hx) (fun he => absurd he (by decide))
          · refine stepT_plain rfl ?_
            rintro F a w1 jE - ⟨t9, -⟩ iO K hK
            have t9 : a.tmps[9]? = some (ptrV gk) := t9
            go_simp
            exact hK _ _ jE rfl (fun _ _ _ h => h) (fun _ => by first | exact iO | rfl) (fun he => absurd he (by decide))
          · refine stepT_plain rfl ?_
            rintro F a w1 jE ⟨h23, t52, -⟩ - iO K hK
            have h23 : (F 23) = ptrV gk := h23
            rw [h23] at t52
            clear h23
            go_simp
            exact hK _ _ jE rfl (fun _ _ _ h => h) (fun _ => by first | exact iO | rfl) (fun he => absurd he (by decide))
          · refine stepT_plain rfl ?_
            rintro F a w1 jE ⟨h24, t53, -⟩ - iO K hK
            have h24 : (F 24) = .pointer (some ⟨gk, 0, none⟩) := h24
            rw [h24] at t53
            clear h24
            go_simp
            exact hK _ _ jE rfl (fun _ _ _ h => h) (fun _ => by first | exact iO | rfl) (fun he => absurd he (by decide))
          · refine stepT_plain rfl ?_
            rintro F a w1 jE ⟨h25, t54, -⟩ - iO K hK
            have h25 : (F 25) = .pointer (some ⟨gk, 47, none⟩) := h25
            rw [h25] at t54
            clear h25
            have c := (iO.cells.1 gk _ lk).trans c47
            go_simp
            exact hK _ _ jE rfl (fun _ _ _ h => h) (fun _ => by first | exact iO | rfl) (fun he => absurd he (by decide))
          · refine stepT_plain rfl ?_
            rintro F a w1 jE ⟨h22, t51, h26, t55, -⟩ - iO K hK
            have h22 : (F 22) = .int .i64 hv := h22
            rw [h22] at t51
            clear h22
            have h26 : (F 26) = .int .i64 xd := h26
            rw [h26] at t55
            clear h26
            have e1 : IntKind.i64.wrap (hv + xd) = nh := by rw [IntWalk.i64_in _ (by omega)]; exact unhide HNV
            go_simp
            exact hK _ _ jE rfl (fun _ _ _ h => h) (fun _ => by first | exact iO | rfl) (fun he => absurd he (by decide))
          · refine stepT_plain rfl ?_
            rintro F a w1 jE ⟨h0, t29, -⟩ - iO K hK
            have h0 : (F 0) = ptrV gk := h0
            rw [h0] at t29
            clear h0
            go_simp
            exact hK _ _ jE rfl (fun _ _ _ h => h) (fun _ => by first | exact iO | rfl) (fun he => absurd he (by decide))
          · refine stepT_plain rfl ?_
            rintro F a w1 jE ⟨h28, t57, -⟩ - iO K hK
            have h28 : (F 28) = .pointer (some ⟨gk, 0, none⟩) := h28
            rw [h28] at t57
            clear h28
            go_simp
            exact hK _ _ jE rfl (fun _ _ _ h => h) (fun _ => by first | exact iO | rfl) (fun he => absurd he (by decide))
          · refine stepT_plain rfl ?_
            rintro F a w1 jE ⟨h29, t58, h27, t56, -⟩ - iO K hK
            have h29 : (F 29) = .pointer (some ⟨gk, 46, none⟩) := h29
            rw [h29] at t58
            clear h29
            have h27 : (F 27) = .int .i64 nh := h27
            rw [h27] at t56
            clear h27
            have c := (iO.cells.1 gk _ lk).trans c46
            have f := (iO.cells.2 gk _ lk).trans f46
            go_simp
            obtain ⟨J, q1, q2, q3⟩ := (IS.ext iO).putE (v := .int .i64 nh) (j := 46) hkn (unhide hnh2) (t := ⟨xs, xl, xr, xw, nh, xd, xa, xb, xx, xy, xst⟩) rfl
            have X3 := (X.step iO).set (j := 46) hkn (.int .i64 nh)
            have B3 := (BS.ext iO).far (p := ⟨g k, 46, none⟩) (show gs ≠ g k from (unhide HNE) k hkn) (.int .i64 nh)
            rw [unhide HGK] at q3 X3 B3
            exact hK undef _ (jE.set (by simp) _) trivial (fun _ hj _ _ => (List.not_mem_nil hj).elim) (fun h => (h (by simp)).elim) (fun _ => ⟨J, q1, q2, q3, X3, B3⟩)
        · rintro F w7 jE - hT
          obtain ⟨J, J1, J2, JS, X, BS⟩ := hT (by decide)
          simp only [putL, Act.put, Nat.reduceAdd, Nat.zero_add, List.setIfInBounds_toArray, List.set_cons_succ, List.set_cons_zero]
          have HJ1 := hide J1
          have HJ2 := hide J2
          have lk : gk < w7.heap.size := by rw [← unhide HGK]; exact JS.lt hkn
          clear jE hT J1 J2 IS c46 c47 c48 c49 f46 HMX HHV HNV hvb
          go_upto_region 6 with fail
          have c46 : w7.cell? ⟨gk, 46, none⟩ = some (.int .i64 nh) := by rw [← unhide HGK]; exact JS.cellE hkn (unhide HJ2) rfl
          have c48 : w7.cell? ⟨gk, 48, none⟩ = some (.int .i64 xa) := by rw [← unhide HGK]; exact JS.cellE hkn (unhide HJ2) rfl
          have c49 : w7.cell? ⟨gk, 49, none⟩ = some (.int .i64 xb) := by rw [← unhide HGK]; exact JS.cellE hkn (unhide HJ2) rfl
          have c51 : w7.cell? ⟨gk, 51, none⟩ = some (.int .i64 xy) := by rw [← unhide HGK]; exact JS.cellE hkn (unhide HJ2) rfl
          have f51 : w7.frozen? ⟨gk, 51, none⟩ = false := by rw [← unhide HGK]; exact JS.frozen hkn 51
          refine wp_region_lin (by kernel_rfl) (fun w' => (ExtX w7 w' [])) (fun ii vv ww => match ii with | 0 => vv = .int .i64 h | 1 => vv = ptrV gk | 2 => vv = .pointer (some ⟨gk, 0, none⟩) | 3 => vv = .pointer (some ⟨gk, 46, none⟩) | 4 => vv = .int .i64 nh | 5 => vv = .int .i64 (h - nh) | 6 => vv = ptrV gk | 7 => vv = .pointer (some ⟨gk, 0, none⟩) | 8 => vv = .pointer (some ⟨gk, 48, none⟩) | 9 => vv = .int .i64 xa | 10 => vv = .int .i64 ((h - nh) - xa) | 11 => vv = ptrV gk | 12 => vv = .pointer (some ⟨gk, 0, none⟩) | 13 => vv = .pointer (some ⟨gk, 49, none⟩) | 14 => vv = .int .i64 xb | 15 => vv = .int .i64 (((h - nh) - xa) - xb) | 16 => vv = .int .i64 (((h - nh) - xa) - xb) | _ => True) (fun ii => match ii with | 2 => [(1, 60)] | 3 => [(2, 61)] | 4 => [(3, 62)] | 5 => [(0, 59), (4, 63)] | 7 => [(6, 65)] | 8 => [(7, 66)] | 9 => [(8, 67)] | 10 => [(5, 64), (9, 68)] | 12 => [(11, 70)] | 13 => [(12, 71)] | 14 => [(13, 72)] | 15 => [(10, 69), (14, 73)] | 16 => [(15, 74)] | _ => []) (fun ii => match ii with | 0 => [3] | 1 => [9] | 6 => [9] | 11 => [9] | _ => []) (fun ii => match ii with | 0 => [1, 2, 3, 4, 6, 7, 8, 9, 11, 12, 13, 14] | 1 => [0, 6, 7, 8, 9, 11, 12, 13, 14] | 2 => [0, 6, 7, 8, 9, 11, 12, 13, 14] | 3 => [0, 6, 7, 8, 9, 11, 12, 13, 14] | 4 => [0, 6, 7, 8, 9, 11, 12, 13, 14] | 5 => [6, 7, 8, 9, 11, 12, 13, 14] | 6 => [1, 2, 3, 0, 4, 5, 11, 12, 13, 14] | 7 => [1, 2, 3, 0, 4, 5, 11, 12, 13, 14] | 8 => [1, 2, 3, 0, 4, 5, 11, 12, 13, 14] | 9 => [1, 2, 3, 0, 4, 5, 11, 12, 13, 14] | 10 => [11, 12, 13, 14] | 11 => [1, 2, 3, 0, 4, 6, 7, 8, 5, 9, 10] | 12 => [1, 2, 3, 0, 4, 6, 7, 8, 5, 9, 10] | 13 => [1, 2, 3, 0, 4, 6, 7, 8, 5, 9, 10] | 14 => [1, 2, 3, 0, 4, 6, 7, 8, 5, 9, 10] | _ => []) [16] [0, 0, 2, 6, 14, 31, 0, 64, 192, 448, 1023, 0, 2048, 6144, 14336, 32767, 65535] 108 rfl (by kernel_rfl) (ExtX.start _ _) ?_ ?_
          · rename_i hcont; clear hcont
            refine ⟨?_, ?_, ?_, ?_, ?_, ?_, ?_, ?_, ?_, ?_, ?_, ?_, ?_, ?_, ?_, ?_, ?_, trivial⟩
            · refine stepL_plain rfl ?_
              rintro F a w1 jE - ⟨t3, -⟩ K hK
              have t3 : a.tmps[3]? = some (.int .i64 h) := t3
              go_simp
              exact hK _ _ jE rfl (fun _ _ _ h => h)
            · refine stepL_plain rfl ?_
              rintro F a w1 jE - ⟨t9, -⟩ K hK
              have t9 : a.tmps[9]? = some (ptrV gk) := t9
              go_simp
              exact hK _ _ jE rfl (fun _ _ _ h => h)
            · refine stepL_plain rfl ?_
              rintro F a w1 jE ⟨h1, t60, -⟩ - K hK
              have h1 : (F 1) = ptrV gk := h1
              rw [h1] at t60
              clear h1
              go_simp
              exact hK _ _ jE rfl (fun _ _ _ h => h)
            · refine stepL_plain rfl ?_
              rintro F a w1 jE ⟨h2, t61, -⟩ - K hK
              have h2 : (F 2) = .pointer (some ⟨gk, 0, none⟩) := h2
              rw [h2] at t61
              clear h2
              go_simp
              exact hK _ _ jE rfl (fun _ _ _ h => h)
            · refine stepL_plain rfl ?_
              rintro F a w1 jE ⟨h3, t62, -⟩ - K hK
              have h3 : (F 3) = .pointer (some ⟨gk, 46, none⟩) := h3
              rw [h3] at t62
              clear h3
              have c := ((jE.ext (Ext.refl _) (by simp)).cells.1 gk _ lk).trans c46
              go_simp
              exact hK _ _ jE rfl (fun _ _ _ h => h)
            · refine stepL_plain rfl ?_
              rintro F a w1 jE ⟨h0, t59, h4, t63, -⟩ - K hK
              have h0 : (F 0) = .int .i64 h := h0
              rw [h0] at t59
              clear h0
              have h4 : (F 4) = .int .i64 nh := h4
              rw [h4] at t63
              clear h4
              have e1 : IntKind.i64.wrap (h - nh) = (h - nh) := IntWalk.i64_in _ (by omega)
              go_simp
              exact hK _ _ jE rfl (fun _ _ _ h => h)
            · refine stepL_plain rfl ?_
              rintro F a w1 jE - ⟨t9, -⟩ K hK
              have t9 : a.tmps[9]? = some (ptrV gk) := t9
              go_simp
              exact hK _ _ jE rfl (fun _ _ _ h => h)
            · refine stepL_plain rfl ?_
              rintro F a w1 jE ⟨h6, t65, -⟩ - K hK
              have h6 : (F 6) = ptrV gk := h6
              rw [h6] at t65
              clear h6
              go_simp
              exact hK _ _ jE rfl (fun _ _ _ h => h)
            · refine stepL_plain rfl ?_
              rintro F a w1 jE ⟨h7, t66, -⟩ - K hK
              have h7 : (F 7) = .pointer (some ⟨gk, 0, none⟩) := h7
              rw [h7] at t66
              clear h7
              go_simp
              exact hK _ _ jE rfl (fun _ _ _ h => h)
            · refine stepL_plain rfl ?_
              rintro F a w1 jE ⟨h8, t67, -⟩ - K hK
              have h8 : (F 8) = .pointer (some ⟨gk, 48, none⟩) := h8
              rw [h8] at t67
              clear h8
              have c := ((jE.ext (Ext.refl _) (by simp)).cells.1 gk _ lk).trans c48
              go_simp
              exact hK _ _ jE rfl (fun _ _ _ h => h)
            · refine stepL_plain rfl ?_
              rintro F a w1 jE ⟨h5, t64, h9, t68, -⟩ - K hK
              have h5 : (F 5) = .int .i64 (h - nh) := h5
              rw [h5] at t64
              clear h5
              have h9 : (F 9) = .int .i64 xa := h9
              rw [h9] at t68
              clear h9
              have e1 : IntKind.i64.wrap ((h - nh) - xa) = ((h - nh) - xa) := IntWalk.i64_in _ (by omega)
              go_simp
              exact hK _ _ jE rfl (fun _ _ _ h => h)
            · refine stepL_plain rfl ?_
              rintro F a w1 jE - ⟨t9, -⟩ K hK
              have t9 : a.tmps[9]? = some (ptrV gk) := t9
              go_simp
              exact hK _ _ jE rfl (fun _ _ _ h => h)
            · refine stepL_plain rfl ?_
              rintro F a w1 jE ⟨h11, t70, -⟩ - K hK
              have h11 : (F 11) = ptrV gk := h11
              rw [h11] at t70
              clear h11
              go_simp
              exact hK _ _ jE rfl (fun _ _ _ h => h)
            · refine stepL_plain rfl ?_
              rintro F a w1 jE ⟨h12, t71, -⟩ - K hK
              have h12 : (F 12) = .pointer (some ⟨gk, 0, none⟩) := h12
              rw [h12] at t71
              clear h12
              go_simp
              exact hK _ _ jE rfl (fun _ _ _ h => h)
            · refine stepL_plain rfl ?_
              rintro F a w1 jE ⟨h13, t72, -⟩ - K hK
              have h13 : (F 13) = .pointer (some ⟨gk, 49, none⟩) := h13
              rw [h13] at t72
              clear h13
              have c := ((jE.ext (Ext.refl _) (by simp)).cells.1 gk _ lk).trans c49
              go_simp
              exact hK _ _ jE rfl (fun _ _ _ h => h)
            · refine stepL_plain rfl ?_
              rintro F a w1 jE ⟨h10, t69, h14, t73, -⟩ - K hK
              have h10 : (F 10) = .int .i64 ((h - nh) - xa) := h10
              rw [h10] at t69
              clear h10
              have h14 : (F 14) = .int .i64 xb := h14
              rw [h14] at t73
              clear h14
              have e1 : IntKind.i64.wrap (((h - nh) - xa) - xb) = (((h - nh) - xa) - xb) := IntWalk.i64_in _ (by omega)
              go_simp
              exact hK _ _ jE rfl (fun _ _ _ h => h)
            · refine stepL_plain rfl ?_
              rintro F a w1 jE ⟨h15, t74, -⟩ - K hK
              have h15 : (F 15) = .int .i64 (((h - nh) - xa) - xb) := h15
              rw [h15] at t74
              clear h15
              go_simp
              exact hK _ _ jE rfl (fun _ _ _ h => h)
          · rintro F w9 jE ⟨h16, -⟩
            have h16 : (F 16) = .int .i64 (((h - nh) - xa) - xb) := h16
            have hx := jE.ext (Ext.refl _) (by simp)
            simp only [putL, Act.put, Nat.reduceAdd, Nat.zero_add, List.setIfInBounds_toArray, List.set_cons_succ, List.set_cons_zero]
            rw [h16]
            clear h16 jE
            replace JS := JS.ext hx
            replace X := X.step hx
            replace BS := BS.ext hx
            replace c48 := (hx.cells.1 gk _ lk).trans c48
            replace c51 := (hx.cells.1 gk _ lk).trans c51
            replace f51 := (hx.cells.2 gk _ lk).trans f51
            replace lk := Nat.lt_of_lt_of_le lk hx.size
            clear hx c46 c49
            obtain ⟨lf, hlf⟩ : ∃ lf, (((h - nh) - xa) - xb) = lf := ⟨_, rfl⟩
            rw [hlf]
            have hlb : -400000000000000 ≤ lf ∧ lf ≤ 400000000000000 := by omega
            have HLF := hide hlf
            clear hlf
            go_upto_region 8 with fail
            clear c48 c51 f51
            obtain ⟨J', K1, K2, KS⟩ := JS.putE (v := .int .i64 (top + xa)) (j := 51) hkn (unhide HJ2) (t := (⟨xs, xl, xr, xw, nh, xd, xa, xb, xx, top + xa, xst⟩ : It)) rfl
            have X2 := X.set (j := 51) hkn (.int .i64 (top + xa))
            have BS2 := BS.far (p := ⟨g k, 51, none⟩) (show gs ≠ g k from (unhide HNE) k hkn) (.int .i64 (top + xa))
            rw [unhide HGK] at KS X2 BS2
            clear JS X BS
            generalize w9.setCell ⟨gk, 51, none⟩ (.int .i64 (top + xa)) = w8 at *
            have lk8 : gk < w8.heap.size := by rw [← unhide HGK]; exact KS.lt hkn
            have c51 : w8.cell? ⟨gk, 51, none⟩ = some (.int .i64 (top + xa)) := by rw [← unhide HGK]; exact KS.cellE hkn K2 rfl
            have f51 : w8.frozen? ⟨gk, 51, none⟩ = false := by rw [← unhide HGK]; exact KS.frozen hkn 51
            have HK1 := hide K1
            have HK2 := hide K2
            clear K1 K2
            have bc := BS2.cell
            have bl := BS2.lt
            have FIN : ∀ (w' : World) (J'' : Nat → It), (∀ i, i ≠ k → J'' i = J' i) → J'' k = downI s top h (I k) → Its w' B g n J'' → Its w' B g n (downN s top h I ks (p + 1)) := fun w' J'' q1 q2 q3 => q3.congr (fun i _ => downN_step (unhide HK) (fun i hi => (q1 i hi).trans (((unhide HK1) i hi).trans ((unhide HJ1) i hi))) q2 i)
            by_cases i1 : s.items = 1
            · have HY := hide (show downI s top h (I k) = (⟨xs, xl, xr, xw, nh, xd, xa, xb, xx, top + xa + lf, xst⟩ : It) by rw [unhide HX, downI, unhide HNH, yV, leftV, unhide HNH, if_pos i1]; simp only [unhide HLF])
              go_wp2_with fail
              go_roundw
              case rel =>
                obtain ⟨J3, q1, q2, q3⟩ := KS.putE (v := .int .i64 (top + xa + lf)) (j := 51) hkn (unhide HK2) (t := (⟨xs, xl, xr, xw, nh, xd, xa, xb, xx, top + xa + lf, xst⟩ : It)) rfl
                have X3 := X2.set (j := 51) hkn (.int .i64 (top + xa + lf))
                have B3 := BS2.far (p := ⟨g k, 51, none⟩) (show gs ≠ g k from (unhide HNE) k hkn) (.int .i64 (top + xa + lf))
                rw [unhide HGK] at q3 X3 B3
                exact ⟨p + 1, by go_num, by omega, FIN _ J3 q1 (q2.trans (unhide HY).symm) q3, B3, X3⟩
              case measure => simp [intOf]; omega
            · by_cases i2 : s.items = 2
              · have HY := hide (show downI s top h (I k) = (⟨xs, xl, xr, xw, nh, xd, xa, xb, xx, top + xa + lf / 2, xst⟩ : It) by rw [unhide HX, downI, unhide HNH, yV, leftV, unhide HNH, if_neg i1, if_pos i2]; simp only [unhide HLF])
                go_wp2_with fail
                go_roundw
                case rel =>
                  obtain ⟨J3, q1, q2, q3⟩ := KS.putE (v := .int .i64 (top + xa + lf / 2)) (j := 51) hkn (unhide HK2) (t := (⟨xs, xl, xr, xw, nh, xd, xa, xb, xx, top + xa + lf / 2, xst⟩ : It)) rfl
                  have X3 := X2.set (j := 51) hkn (.int .i64 (top + xa + lf / 2))
                  have B3 := BS2.far (p := ⟨g k, 51, none⟩) (show gs ≠ g k from (unhide HNE) k hkn) (.int .i64 (top + xa + lf / 2))
                  rw [unhide HGK] at q3 X3 B3
                  exact ⟨p + 1, by go_num, by omega, FIN _ J3 q1 (q2.trans (unhide HY).symm) q3, B3, X3⟩
                case measure => simp [intOf]; omega
              · have HY := hide (show downI s top h (I k) = (⟨xs, xl, xr, xw, nh, xd, xa, xb, xx, top + xa, xst⟩ : It) by rw [unhide HX, downI, unhide HNH, yV, leftV, unhide HNH, if_neg i1, if_neg i2, Int.add_zero])
                go_wp2_with fail
                go_roundw
                case rel => exact ⟨p + 1, by go_num, by omega, FIN _ J' (fun _ _ => rfl) ((unhide HK2).trans (unhide HY).symm) KS, BS2, X2⟩
                case measure => simp [intOf]; omega
      · have hnh3 : xh = nh := by
          rw [← unhide HNH, newH, if_neg hst]
        have hd1 : s.items = 3 → (xs.h.k == 0) = false := fun e => by
          have : ¬ xs.h.k = 0 := fun e2 => hst ⟨e, e2⟩
          simpa using this
        subst hnh3
        obtain ⟨J, J1, J2, JS⟩ : ∃ J, (∀ i, i ≠ k → J i = downN s top h I ks p i) ∧ J k = (⟨xs, xl, xr, xw, xh, xd, xa, xb, xx, xy, xst⟩ : It) ∧ Its wr B g n J := ⟨_, fun _ _ => rfl, unhide hnh2, IS⟩
        have HJ1 := hide J1
        have HJ2 := hide J2
        clear J1 J2 IS
        by_cases he3 : s.items = 3
        · have he4 := hd1 he3
          go_upto_region 6 with fail
          clear he4 hd1 hst bc bl ckind he3
          have c46 : wr.cell? ⟨gk, 46, none⟩ = some (.int .i64 xh) := by rw [← unhide HGK]; exact JS.cellE hkn (unhide HJ2) rfl
          have c48 : wr.cell? ⟨gk, 48, none⟩ = some (.int .i64 xa) := by rw [← unhide HGK]; exact JS.cellE hkn (unhide HJ2) rfl
          have c49 : wr.cell? ⟨gk, 49, none⟩ = some (.int .i64 xb) := by rw [← unhide HGK]; exact JS.cellE hkn (unhide HJ2) rfl
          have c51 : wr.cell? ⟨gk, 51, none⟩ = some (.int .i64 xy) := by rw [← unhide HGK]; exact JS.cellE hkn (unhide HJ2) rfl
          have f51 : wr.frozen? ⟨gk, 51, none⟩ = false := by rw [← unhide HGK]; exact JS.frozen hkn 51
          refine wp_region_lin (by kernel_rfl) (fun w' => (ExtX wr w' [])) (fun ii vv ww => match ii with | 0 => vv = .int .i64 h | 1 => vv = ptrV gk | 2 => vv = .pointer (some ⟨gk, 0, none⟩) | 3 => vv = .pointer (some ⟨gk, 46, none⟩) | 4 => vv = .int .i64 xh | 5 => vv = .int .i64 (h - xh) | 6 => vv = ptrV gk | 7 => vv = .pointer (some ⟨gk, 0, none⟩) | 8 => vv = .pointer (some ⟨gk, 48, none⟩) | 9 => vv = .int .i64 xa | 10 => vv = .int .i64 ((h - xh) - xa) | 11 => vv = ptrV gk | 12 => vv = .pointer (some ⟨gk, 0, none⟩) | 13 => vv = .pointer (some ⟨gk, 49, none⟩) | 14 => vv = .int .i64 xb | 15 => vv = .int .i64 (((h - xh) - xa) - xb) | 16 => vv = .int .i64 (((h - xh) - xa) - xb) | _ => True) (fun ii => match ii with | 2 => [(1, 60)] | 3 => [(2, 61)] | 4 => [(3, 62)] | 5 => [(0, 59), (4, 63)] | 7 => [(6, 65)] | 8 => [(7, 66)] | 9 => [(8, 67)] | 10 => [(5, 64), (9, 68)] | 12 => [(11, 70)] | 13 => [(12, 71)] | 14 => [(13, 72)] | 15 => [(10, 69), (14, 73)] | 16 => [(15, 74)] | _ => []) (fun ii => match ii with | 0 => [3] | 1 => [9] | 6 => [9] | 11 => [9] | _ => []) (fun ii => match ii with | 0 => [1, 2, 3, 4, 6, 7, 8, 9, 11, 12, 13, 14] | 1 => [0, 6, 7, 8, 9, 11, 12, 13, 14] | 2 => [0, 6, 7, 8, 9, 11, 12, 13, 14] | 3 => [0, 6, 7, 8, 9, 11, 12, 13, 14] | 4 => [0, 6, 7, 8, 9, 11, 12, 13, 14] | 5 => [6, 7, 8, 9, 11, 12, 13, 14] | 6 => [1, 2, 3, 0, 4, 5, 11, 12, 13, 14] | 7 => [1, 2, 3, 0, 4, 5, 11, 12, 13, 14] | 8 => [1, 2, 3, 0, 4, 5, 11, 12, 13, 14] | 9 => [1, 2, 3, 0, 4, 5, 11, 12, 13, 14] | 10 => [11, 12, 13, 14] | 11 => [1, 2, 3, 0, 4, 6, 7, 8, 5, 9, 10] | 12 => [1, 2, 3, 0, 4, 6, 7, 8, 5, 9, 10] | 13 => [1, 2, 3, 0, 4, 6, 7, 8, 5, 9, 10] | 14 => [1, 2, 3, 0, 4, 6, 7, 8, 5, 9, 10] | _ => []) [16] [0, 0, 2, 6, 14, 31, 0, 64, 192, 448, 1023, 0, 2048, 6144, 14336, 32767, 65535] 108 rfl (by kernel_rfl) (ExtX.start _ _) ?_ ?_
          · rename_i hcont; clear hcont
            refine ⟨?_, ?_, ?_, ?_, ?_, ?_, ?_, ?_, ?_, ?_, ?_, ?_, ?_, ?_, ?_, ?_, ?_, trivial⟩
            · refine stepL_plain rfl ?_
              rintro F a w1 jE - ⟨t3, -⟩ K hK
              have t3 : a.tmps[3]? = some (.int .i64 h) := t3
              go_simp
              exact hK _ _ jE rfl (fun _ _ _ h => h)
            · refine stepL_plain rfl ?_
              rintro F a w1 jE - ⟨t9, -⟩ K hK
              have t9 : a.tmps[9]? = some (ptrV gk) := t9
              go_simp
              exact hK _ _ jE rfl (fun _ _ _ h => h)
            · refine stepL_plain rfl ?_
              rintro F a w1 jE ⟨h1, t60, -⟩ - K hK
              have h1 : (F 1) = ptrV gk := h1
              rw [h1] at t60
              clear h1
              go_simp
              exact hK _ _ jE rfl (fun _ _ _ h => h)
            · refine stepL_plain rfl ?_
              rintro F a w1 jE ⟨h2, t61, -⟩ - K hK
              have h2 : (F 2) = .pointer (some ⟨gk, 0, none⟩) := h2
              rw [h2] at t61
              clear h2
              go_simp
              exact hK _ _ jE rfl (fun _ _ _ h => h)
            · refine stepL_plain rfl ?_
              rintro F a w1 jE ⟨h3, t62, -⟩ - K hK
              have h3 : (F 3) = .pointer (some ⟨gk, 46, none⟩) := h3
              rw [h3] at t62
              clear h3
              have c := ((jE.ext (Ext.refl _) (by simp)).cells.1 gk _ lk).trans c46
              go_simp
              exact hK _ _ jE rfl (fun _ _ _ h => h)
            · refine stepL_plain rfl ?_
              rintro F a w1 jE ⟨h0, t59, h4, t63, -⟩ - K hK
              have h0 : (F 0) = .int .i64 h := h0
              rw [h0] at t59
              clear h0
              have h4 : (F 4) = .int .i64 xh := h4
              rw [h4] at t63
              clear h4
              have e1 : IntKind.i64.wrap (h - xh) = (h - xh) := IntWalk.i64_in _ (by omega)
              go_simp
              exact hK _ _ jE rfl (fun _ _ _ h => h)
            · refine stepL_plain rfl ?_
              rintro F a w1 jE - ⟨t9, -⟩ K hK
              have t9 : a.tmps[9]? = some (ptrV gk) := t9
              go_simp
              exact hK _ _ jE rfl (fun _ _ _ h => h)
            · refine stepL_plain rfl ?_
              rintro F a w1 jE ⟨h6, t65, -⟩ - K hK
              have h6 : (F 6) = ptrV gk := h6
              rw [h6] at t65
              clear h6
              go_simp
              exact hK _ _ jE rfl (fun _ _ _ h => h)
            · refine stepL_plain rfl ?_
              rintro F a w1 jE ⟨h7, t66, -⟩ - K hK
              have h7 : (F 7) = .pointer (some ⟨gk, 0, none⟩) := h7
              rw [h7] at t66
              clear h7
              go_simp
              exact hK _ _ jE rfl (fun _ _ _ h => h)
            · refine stepL_plain rfl ?_
              rintro F a w1 jE ⟨h8, t67, -⟩ - K hK
              have h8 : (F 8) = .pointer (some ⟨gk, 48, none⟩) := h8
              rw [h8] at t67
              clear h8
              have c := ((jE.ext (Ext.refl _) (by simp)).cells.1 gk _ lk).trans c48
              go_simp
              exact hK _ _ jE rfl (fun _ _ _ h => h)
            · refine stepL_plain rfl ?_
              rintro F a w1 jE ⟨h5, t64, h9, t68, -⟩ - K hK
              have h5 : (F 5) = .int .i64 (h - xh) := h5
              rw [h5] at t64
              clear h5
              have h9 : (F 9) = .int .i64 xa := h9
              rw [h9] at t68
              clear h9
              have e1 : IntKind.i64.wrap ((h - xh) - xa) = ((h - xh) - xa) := IntWalk.i64_in _ (by omega)
              go_simp
              exact hK _ _ jE rfl (fun _ _ _ h => h)
            · refine stepL_plain rfl ?_
              rintro F a w1 jE - ⟨t9, -⟩ K hK
              have t9 : a.tmps[9]? = some (ptrV gk) := t9
              go_simp
              exact hK _ _ jE rfl (fun _ _ _ h => h)
            · refine stepL_plain rfl ?_
              rintro F a w1 jE ⟨h11, t70, -⟩ - K hK
              have h11 : (F 11) = ptrV gk := h11
              rw [h11] at t70
              clear h11
              go_simp
              exact hK _ _ jE rfl (fun _ _ _ h => h)
            · refine stepL_plain rfl ?_
              rintro F a w1 jE ⟨h12, t71, -⟩ - K hK
              have h12 : (F 12) = .pointer (some ⟨gk, 0, none⟩) := h12
              rw [h12] at t71
              clear h12
              go_simp
              exact hK _ _ jE rfl (fun _ _ _ h => h)
            · refine stepL_plain rfl ?_
              rintro F a w1 jE ⟨h13, t72, -⟩ - K hK
              have h13 : (F 13) = .pointer (some ⟨gk, 49, none⟩) := h13
              rw [h13] at t72
              clear h13
              have c := ((jE.ext (Ext.refl _) (by simp)).cells.1 gk _ lk).trans c49
              go_simp
              exact hK _ _ jE rfl (fun _ _ _ h => h)
            · refine stepL_plain rfl ?_
              rintro F a w1 jE ⟨h10, t69, h14, t73, -⟩ - K hK
              have h10 : (F 10) = .int .i64 ((h - xh) - xa) := h10
              rw [h10] at t69
              clear h10
              have h14 : (F 14) = .int .i64 xb := h14
              rw [h14] at t73
              clear h14
              have e1 : IntKind.i64.wrap (((h - xh) - xa) - xb) = (((h - xh) - xa) - xb) := IntWalk.i64_in _ (by omega)
              go_simp
              exact hK _ _ jE rfl (fun _ _ _ h => h)
            · refine stepL_plain rfl ?_
              rintro F a w1 jE ⟨h15, t74, -⟩ - K hK
              have h15 : (F 15) = .int .i64 (((h - xh) - xa) - xb) := h15
              rw [h15] at t74
              clear h15
              go_simp
              exact hK _ _ jE rfl (fun _ _ _ h => h)
          · rintro F w9 jE ⟨h16, -⟩
            have h16 : (F 16) = .int .i64 (((h - xh) - xa) - xb) := h16
            have hx := jE.ext (Ext.refl _) (by simp)
            simp only [putL, Act.put, Nat.reduceAdd, Nat.zero_add, List.setIfInBounds_toArray, List.set_cons_succ, List.set_cons_zero]
            rw [h16]
            clear h16 jE
            replace JS := JS.ext hx
            replace X := X.step hx
            replace BS := BS.ext hx
            replace c48 := (hx.cells.1 gk _ lk).trans c48
            replace c51 := (hx.cells.1 gk _ lk).trans c51
            replace f51 := (hx.cells.2 gk _ lk).trans f51
            replace lk := Nat.lt_of_lt_of_le lk hx.size
            clear hx c46 c49
            obtain ⟨lf, hlf⟩ : ∃ lf, (((h - xh) - xa) - xb) = lf := ⟨_, rfl⟩
            rw [hlf]
            have hlb : -400000000000000 ≤ lf ∧ lf ≤ 400000000000000 := by omega
            have HLF := hide hlf
            clear hlf
            go_upto_region 8 with fail
            clear c48 c51 f51
            obtain ⟨J', K1, K2, KS⟩ := JS.putE (v := .int .i64 (top + xa)) (j := 51) hkn (unhide HJ2) (t := (⟨xs, xl, xr, xw, xh, xd, xa, xb, xx, top + xa, xst⟩ : It)) rfl
            have X2 := X.set (j := 51) hkn (.int .i64 (top + xa))
            have BS2 := BS.far (p := ⟨g k, 51, none⟩) (show gs ≠ g k from (unhide HNE) k hkn) (.int .i64 (top + xa))
            rw [unhide HGK] at KS X2 BS2
            clear JS X BS
            generalize w9.setCell ⟨gk, 51, none⟩ (.int .i64 (top + xa)) = w8 at *
            have lk8 : gk < w8.heap.size := by rw [← unhide HGK]; exact KS.lt hkn
            have c51 : w8.cell? ⟨gk, 51, none⟩ = some (.int .i64 (top + xa)) := by rw [← unhide HGK]; exact KS.cellE hkn K2 rfl
            have f51 : w8.frozen? ⟨gk, 51, none⟩ = false := by rw [← unhide HGK]; exact KS.frozen hkn 51
            have HK1 := hide K1
            have HK2 := hide K2
            clear K1 K2
            have bc := BS2.cell
            have bl := BS2.lt
            have FIN : ∀ (w' : World) (J'' : Nat → It), (∀ i, i ≠ k → J'' i = J' i) → J'' k = downI s top h (I k) → Its w' B g n J'' → Its w' B g n (downN s top h I ks (p + 1)) := fun w' J'' q1 q2 q3 => q3.congr (fun i _ => downN_step (unhide HK) (fun i hi => (q1 i hi).trans (((unhide HK1) i hi).trans ((unhide HJ1) i hi))) q2 i)
            by_cases i1 : s.items = 1
            · have HY := hide (show downI s top h (I k) = (⟨xs, xl, xr, xw, xh, xd, xa, xb, xx, top + xa + lf, xst⟩ : It) by rw [unhide HX, downI, unhide HNH, yV, leftV, unhide HNH, if_pos i1]; simp only [unhide HLF])
              go_wp2_with fail
              go_roundw
              case rel =>
                obtain ⟨J3, q1, q2, q3⟩ := KS.putE (v := .int .i64 (top + xa + lf)) (j := 51) hkn (unhide HK2) (t := (⟨xs, xl, xr, xw, xh, xd, xa, xb, xx, top + xa + lf, xst⟩ : It)) rfl
                have X3 := X2.set (j := 51) hkn (.int .i64 (top + xa + lf))
                have B3 := BS2.far (p := ⟨g k, 51, none⟩) (show gs ≠ g k from (unhide HNE) k hkn) (.int .i64 (top + xa + lf))
                rw [unhide HGK] at q3 X3 B3
                exact ⟨p + 1, by go_num, by omega, FIN _ J3 q1 (q2.trans (unhide HY).symm) q3, B3, X3⟩
              case measure => simp [intOf]; omega
            · by_cases i2 : s.items = 2
              · have HY := hide (show downI s top h (I k) = (⟨xs, xl, xr, xw, xh, xd, xa, xb, xx, top + xa + lf / 2, xst⟩ : It) by rw [unhide HX, downI, unhide HNH, yV, leftV, unhide HNH, if_neg i1, if_pos i2]; simp only [unhide HLF])
                go_wp2_with fail
                go_roundw
                case rel =>
                  obtain ⟨J3, q1, q2, q3⟩ := KS.putE (v := .int .i64 (top + xa + lf / 2)) (j := 51) hkn (unhide HK2) (t := (⟨xs, xl, xr, xw, xh, xd, xa, xb, xx, top + xa + lf / 2, xst⟩ : It)) rfl
                  have X3 := X2.set (j := 51) hkn (.int .i64 (top + xa + lf / 2))
                  have B3 := BS2.far (p := ⟨g k, 51, none⟩) (show gs ≠ g k from (unhide HNE) k hkn) (.int .i64 (top + xa + lf / 2))
                  rw [unhide HGK] at q3 X3 B3
                  exact ⟨p + 1, by go_num, by omega, FIN _ J3 q1 (q2.trans (unhide HY).symm) q3, B3, X3⟩
                case measure => simp [intOf]; omega
              · have HY := hide (show downI s top h (I k) = (⟨xs, xl, xr, xw, xh, xd, xa, xb, xx, top + xa, xst⟩ : It) by rw [unhide HX, downI, unhide HNH, yV, leftV, unhide HNH, if_neg i1, if_neg i2, Int.add_zero])
                go_wp2_with fail
                go_roundw
                case rel => exact ⟨p + 1, by go_num, by omega, FIN _ J' (fun _ _ => rfl) ((unhide HK2).trans (unhide HY).symm) KS, BS2, X2⟩
                case measure => simp [intOf]; omega
        · clear hd1 hst
          go_upto_region 6 with fail
          clear bc bl ckind
          have c46 : wr.cell? ⟨gk, 46, none⟩ = some (.int .i64 xh) := by rw [← unhide HGK]; exact JS.cellE hkn (unhide HJ2) rfl
          have c48 : wr.cell? ⟨gk, 48, none⟩ = some (.int .i64 xa) := by rw [← unhide HGK]; exact JS.cellE hkn (unhide HJ2) rfl
          have c49 : wr.cell? ⟨gk, 49, none⟩ = some (.int .i64 xb) := by rw [← unhide HGK]; exact JS.cellE hkn (unhide HJ2) rfl
          have c51 : wr.cell? ⟨gk, 51, none⟩ = some (.int .i64 xy) := by rw [← unhide HGK]; exact JS.cellE hkn (unhide HJ2) rfl
          have f51 : wr.frozen? ⟨gk, 51, none⟩ = false := by rw [← unhide HGK]; exact JS.frozen hkn 51
          refine wp_region_lin (by kernel_rfl) (fun w' => (ExtX wr w' [])) (fun ii vv ww => match ii with | 0 => vv = .int .i64 h | 1 => vv = ptrV gk | 2 => vv = .pointer (some ⟨gk, 0, none⟩) | 3 => vv = .pointer (some ⟨gk, 46, none⟩) | 4 => vv = .int .i64 xh | 5 => vv = .int .i64 (h - xh) | 6 => vv = ptrV gk | 7 => vv = .pointer (some ⟨gk, 0, none⟩) | 8 => vv = .pointer (some ⟨gk, 48, none⟩) | 9 => vv = .int .i64 xa | 10 => vv = .int .i64 ((h - xh) - xa) | 11 => vv = ptrV gk | 12 => vv = .pointer (some ⟨gk, 0, none⟩) | 13 => vv = .pointer (some ⟨gk, 49, none⟩) | 14 => vv = .int .i64 xb | 15 => vv = .int .i64 (((h - xh) - xa) - xb) | 16 => vv = .int .i64 (((h - xh) - xa) - xb) | _ => True) (fun ii => match ii with | 2 => [(1, 60)] | 3 => [(2, 61)] | 4 => [(3, 62)] | 5 => [(0, 59), (4, 63)] | 7 => [(6, 65)] | 8 => [(7, 66)] | 9 => [(8, 67)] | 10 => [(5, 64), (9, 68)] | 12 => [(11, 70)] | 13 => [(12, 71)] | 14 => [(13, 72)] | 15 => [(10, 69), (14, 73)] | 16 => [(15, 74)] | _ => []) (fun ii => match ii with | 0 => [3] | 1 => [9] | 6 => [9] | 11 => [9] | _ => []) (fun ii => match ii with | 0 => [1, 2, 3, 4, 6, 7, 8, 9, 11, 12, 13, 14] | 1 => [0, 6, 7, 8, 9, 11, 12, 13, 14] | 2 => [0, 6, 7, 8, 9, 11, 12, 13, 14] | 3 => [0, 6, 7, 8, 9, 11, 12, 13, 14] | 4 => [0, 6, 7, 8, 9, 11, 12, 13, 14] | 5 => [6, 7, 8, 9, 11, 12, 13, 14] | 6 => [1, 2, 3, 0, 4, 5, 11, 12, 13, 14] | 7 => [1, 2, 3, 0, 4, 5, 11, 12, 13, 14] | 8 => [1, 2, 3, 0, 4, 5, 11, 12, 13, 14] | 9 => [1, 2, 3, 0, 4, 5, 11, 12, 13, 14] | 10 => [11, 12, 13, 14] | 11 => [1, 2, 3, 0, 4, 6, 7, 8, 5, 9, 10] | 12 => [1, 2, 3, 0, 4, 6, 7, 8, 5, 9, 10] | 13 => [1, 2, 3, 0, 4, 6, 7, 8, 5, 9, 10] | 14 => [1, 2, 3, 0, 4, 6, 7, 8, 5, 9, 10] | _ => []) [16] [0, 0, 2, 6, 14, 31, 0, 64, 192, 448, 1023, 0, 2048, 6144, 14336, 32767, 65535] 108 rfl (by kernel_rfl) (ExtX.start _ _) ?_ ?_
          · rename_i hcont; clear hcont
            refine ⟨?_, ?_, ?_, ?_, ?_, ?_, ?_, ?_, ?_, ?_, ?_, ?_, ?_, ?_, ?_, ?_, ?_, trivial⟩
            · refine stepL_plain rfl ?_
              rintro F a w1 jE - ⟨t3, -⟩ K hK
              have t3 : a.tmps[3]? = some (.int .i64 h) := t3
              go_simp
              exact hK _ _ jE rfl (fun _ _ _ h => h)
            · refine stepL_plain rfl ?_
              rintro F a w1 jE - ⟨t9, -⟩ K hK
              have t9 : a.tmps[9]? = some (ptrV gk) := t9
              go_simp
              exact hK _ _ jE rfl (fun _ _ _ h => h)
            · refine stepL_plain rfl ?_
              rintro F a w1 jE ⟨h1, t60, -⟩ - K hK
              have h1 : (F 1) = ptrV gk := h1
              rw [h1] at t60
              clear h1
              go_simp
              exact hK _ _ jE rfl (fun _ _ _ h => h)
            · refine stepL_plain rfl ?_
              rintro F a w1 jE ⟨h2, t61, -⟩ - K hK
              have h2 : (F 2) = .pointer (some ⟨gk, 0, none⟩) := h2
              rw [h2] at t61
              clear h2
              go_simp
              exact hK _ _ jE rfl (fun _ _ _ h => h)
            · refine stepL_plain rfl ?_
              rintro F a w1 jE ⟨h3, t62, -⟩ - K hK
              have h3 : (F 3) = .pointer (some ⟨gk, 46, none⟩) := h3
              rw [h3] at t62
              clear h3
              have c := ((jE.ext (Ext.refl _) (by simp)).cells.1 gk _ lk).trans c46
              go_simp
              exact hK _ _ jE rfl (fun _ _ _ h => h)
            · refine stepL_plain rfl ?_
              rintro F a w1 jE ⟨h0, t59, h4, t63, -⟩ - K hK
              have h0 : (F 0) = .int .i64 h := h0
              rw [h0] at t59
              clear h0
              have h4 : (F 4) = .int .i64 xh := h4
              rw [h4] at t63
              clear h4
              have e1 : IntKind.i64.wrap (h - xh) = (h - xh) := IntWalk.i64_in _ (by omega)
              go_simp
              exact hK _ _ jE rfl (fun _ _ _ h => h)
            · refine stepL_plain rfl ?_
              rintro F a w1 jE - ⟨t9, -⟩ K hK
              have t9 : a.tmps[9]? = some (ptrV gk) := t9
              go_simp
              exact hK _ _ jE rfl (fun _ _ _ h => h)
            · refine stepL_plain rfl ?_
              rintro F a w1 jE ⟨h6, t65, -⟩ - K hK
              have h6 : (F 6) = ptrV gk := h6
              rw [h6] at t65
              clear h6
              go_simp
              exact hK _ _ jE rfl (fun _ _ _ h => h)
            · refine stepL_plain rfl ?_
              rintro F a w1 jE ⟨h7, t66, -⟩ - K hK
              have h7 : (F 7) = .pointer (some ⟨gk, 0, none⟩) := h7
              rw [h7] at t66
              clear h7
              go_simp
              exact hK _ _ jE rfl (fun _ _ _ h => h)
            · refine stepL_plain rfl ?_
              rintro F a w1 jE ⟨h8, t67, -⟩ - K hK
              have h8 : (F 8) = .pointer (some ⟨gk, 48, none⟩) := h8
              rw [h8] at t67
              clear h8
              have c := ((jE.ext (Ext.refl _) (by simp)).cells.1 gk _ lk).trans c48
              go_simp
              exact hK _ _ jE rfl (fun _ _ _ h => h)
            · refine stepL_plain rfl ?_
              rintro F a w1 jE ⟨h5, t64, h9, t68, -⟩ - K hK
              have h5 : (F 5) = .int .i64 (h - xh) := h5
              rw [h5] at t64
              clear h5
              have h9 : (F 9) = .int .i64 xa := h9
              rw [h9] at t68
              clear h9
              have e1 : IntKind.i64.wrap ((h - xh) - xa) = ((h - xh) - xa) := IntWalk.i64_in _ (by omega)
              go_simp
              exact hK _ _ jE rfl (fun _ _ _ h => h)
            · refine stepL_plain rfl ?_
              rintro F a w1 jE - ⟨t9, -⟩ K hK
              have t9 : a.tmps[9]? = some (ptrV gk) := t9
              go_simp
              exact hK _ _ jE rfl (fun _ _ _ h => h)
            · refine stepL_plain rfl ?_
              rintro F a w1 jE ⟨h11, t70, -⟩ - K hK
              have h11 : (F 11) = ptrV gk := h11
              rw [h11] at t70
              clear h11
              go_simp
              exact hK _ _ jE rfl (fun _ _ _ h => h)
            · refine stepL_plain rfl ?_
              rintro F a w1 jE ⟨h12, t71, -⟩ - K hK
              have h12 : (F 12) = .pointer (some ⟨gk, 0, none⟩) := h12
              rw [h12] at t71
              clear h12
              go_simp
              exact hK _ _ jE rfl (fun _ _ _ h => h)
            · refine stepL_plain rfl ?_
              rintro F a w1 jE ⟨h13, t72, -⟩ - K hK
              have h13 : (F 13) = .pointer (some ⟨gk, 49, none⟩) := h13
              rw [h13] at t72
              clear h13
              have c := ((jE.ext (Ext.refl _) (by simp)).cells.1 gk _ lk).trans c49
              go_simp
              exact hK _ _ jE rfl (fun _ _ _ h => h)
            · refine stepL_plain rfl ?_
              rintro F a w1 jE ⟨h10, t69, h14, t73, -⟩ - K hK
              have h10 : (F 10) = .int .i64 ((h - xh) - xa) := h10
              rw [h10] at t69
              clear h10
              have h14 : (F 14) = .int .i64 xb := h14
              rw [h14] at t73
              clear h14
              have e1 : IntKind.i64.wrap (((h - xh) - xa) - xb) = (((h - xh) - xa) - xb) := IntWalk.i64_in _ (by omega)
              go_simp
              exact hK _ _ jE rfl (fun _ _ _ h => h)
            · refine stepL_plain rfl ?_
              rintro F a w1 jE ⟨h15, t74, -⟩ - K hK
              have h15 : (F 15) = .int .i64 (((h - xh) - xa) - xb) := h15
              rw [h15] at t74
              clear h15
              go_simp
              exact hK _ _ jE rfl (fun _ _ _ h => h)
          · rintro F w9 jE ⟨h16, -⟩
            have h16 : (F 16) = .int .i64 (((h - xh) - xa) - xb) := h16
            have hx := jE.ext (Ext.refl _) (by simp)
            simp only [putL, Act.put, Nat.reduceAdd, Nat.zero_add, List.setIfInBounds_toArray, List.set_cons_succ, List.set_cons_zero]
            rw [h16]
            clear h16 jE
            replace JS := JS.ext hx
            replace X := X.step hx
            replace BS := BS.ext hx
            replace c48 := (hx.cells.1 gk _ lk).trans c48
            replace c51 := (hx.cells.1 gk _ lk).trans c51
            replace f51 := (hx.cells.2 gk _ lk).trans f51
            replace lk := Nat.lt_of_lt_of_le lk hx.size
            clear hx c46 c49
            obtain ⟨lf, hlf⟩ : ∃ lf, (((h - xh) - xa) - xb) = lf := ⟨_, rfl⟩
            rw [hlf]
            have hlb : -400000000000000 ≤ lf ∧ lf ≤ 400000000000000 := by omega
            have HLF := hide hlf
            clear hlf
            go_upto_region 8 with fail
            clear c48 c51 f51
            obtain ⟨J', K1, K2, KS⟩ := JS.putE (v := .int .i64 (top + xa)) (j := 51) hkn (unhide HJ2) (t := (⟨xs, xl, xr, xw, xh, xd, xa, xb, xx, top + xa, xst⟩ : It)) rfl
            have X2 := X.set (j := 51) hkn (.int .i64 (top + xa))
            have BS2 := BS.far (p := ⟨g k, 51, none⟩) (show gs ≠ g k from (unhide HNE) k hkn) (.int .i64 (top + xa))
            rw [unhide HGK] at KS X2 BS2
            clear JS X BS
            generalize w9.setCell ⟨gk, 51, none⟩ (.int .i64 (top + xa)) = w8 at *
            have lk8 : gk < w8.heap.size := by rw [← unhide HGK]; exact KS.lt hkn
            have c51 : w8.cell? ⟨gk, 51, none⟩ = some (.int .i64 (top + xa)) := by rw [← unhide HGK]; exact KS.cellE hkn K2 rfl
            have f51 : w8.frozen? ⟨gk, 51, none⟩ = false := by rw [← unhide HGK]; exact KS.frozen hkn 51
            have HK1 := hide K1
            have HK2 := hide K2
            clear K1 K2
            have bc := BS2.cell
            have bl := BS2.lt
            have FIN : ∀ (w' : World) (J'' : Nat → It), (∀ i, i ≠ k → J'' i = J' i) → J'' k = downI s top h (I k) → Its w' B g n J'' → Its w' B g n (downN s top h I ks (p + 1)) := fun w' J'' q1 q2 q3 => q3.congr (fun i _ => downN_step (unhide HK) (fun i hi => (q1 i hi).trans (((unhide HK1) i hi).trans ((unhide HJ1) i hi))) q2 i)
            by_cases i1 : s.items = 1
            · have HY := hide (show downI s top h (I k) = (⟨xs, xl, xr, xw, xh, xd, xa, xb, xx, top + xa + lf, xst⟩ : It) by rw [unhide HX, downI, unhide HNH, yV, leftV, unhide HNH, if_pos i1]; simp only [unhide HLF])
              go_wp2_with fail
              go_roundw
              case rel =>
                obtain ⟨J3, q1, q2, q3⟩ := KS.putE (v := .int .i64 (top + xa + lf)) (j := 51) hkn (unhide HK2) (t := (⟨xs, xl, xr, xw, xh, xd, xa, xb, xx, top + xa + lf, xst⟩ : It)) rfl
                have X3 := X2.set (j := 51) hkn (.int .i64 (top + xa + lf))
                have B3 := BS2.far (p := ⟨g k, 51, none⟩) (show gs ≠ g k from (unhide HNE) k hkn) (.int .i64 (top + xa + lf))
                rw [unhide HGK] at q3 X3 B3
                exact ⟨p + 1, by go_num, by omega, FIN _ J3 q1 (q2.trans (unhide HY).symm) q3, B3, X3⟩
              case measure => simp [intOf]; omega
            · by_cases i2 : s.items = 2
              · have HY := hide (show downI s top h (I k) = (⟨xs, xl, xr, xw, xh, xd, xa, xb, xx, top + xa + lf / 2, xst⟩ : It) by rw [unhide HX, downI, unhide HNH, yV, leftV, unhide HNH, if_neg i1, if_pos i2]; simp only [unhide HLF])
                go_wp2_with fail
                go_roundw
                case rel =>
                  obtain ⟨J3, q1, q2, q3⟩ := KS.putE (v := .int .i64 (top + xa + lf / 2)) (j := 51) hkn (unhide HK2) (t := (⟨xs, xl, xr, xw, xh, xd, xa, xb, xx, top + xa + lf / 2, xst⟩ : It)) rfl
                  have X3 := X2.set (j := 51) hkn (.int .i64 (top + xa + lf / 2))
                  have B3 := BS2.far (p := ⟨g k, 51, none⟩) (show gs ≠ g k from (unhide HNE) k hkn) (.int .i64 (top + xa + lf / 2))
                  rw [unhide HGK] at q3 X3 B3
                  exact ⟨p + 1, by go_num, by omega, FIN _ J3 q1 (q2.trans (unhide HY).symm) q3, B3, X3⟩
                case measure => simp [intOf]; omega
              · have HY := hide (show downI s top h (I k) = (⟨xs, xl, xr, xw, xh, xd, xa, xb, xx, top + xa, xst⟩ : It) by rw [unhide HX, downI, unhide HNH, yV, leftV, unhide HNH, if_neg i1, if_neg i2, Int.add_zero])
                go_wp2_with fail
                go_roundw
                case rel => exact ⟨p + 1, by go_num, by omega, FIN _ J' (fun _ _ => rfl) ((unhide HK2).trans (unhide HY).symm) KS, BS2, X2⟩
                case measure => simp [intOf]; omega
    · have hpI : ¬ (p : Int) < (m : Int) := by omega
      have hpe : p = m := by omega
      have HPE := hide hpe
      clear hpe
      go_wp2_with fail
      go_end0
      exact ⟨rfl, by rw [← unhide HPE]; exact IS, X⟩
end Go.Proofs.Ytkkkdjkjggofkaa
