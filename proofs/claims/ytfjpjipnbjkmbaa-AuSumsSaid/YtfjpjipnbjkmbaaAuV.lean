/- Layer 1: the law on sums (walk). -/
import Derived.Test.YtfjpjipnbjkmbaaAuW
import Derived.Test.YtfjpjipnbjkmbaaBigG
import Derived.Test.YtfjpjipnbjkmbaaLaw
namespace Go.Proofs.Ytfjpjipnbjkmbaa
open Go.RowKit

theorem i64_info : (Try.prog.info? 2).map (fun i => (i.zero, i.size, i.bytes)) = some (some (.int .i64 0), 1, 8) := by kernel_rfl
theorem one_ints (zs : List Int) : ∀ u ∈ ints zs, u.oneCell' = true := by
  intro u hu
  obtain ⟨z, _, rfl⟩ := List.mem_map.1 hu
  rfl

set_option maxRecDepth 100000 in
set_option maxHeartbeats 4000000 in
theorem law_sums (A : Option Addr) (n c : Nat) (zs : List Int) (w : World) (hz : Rd w 1 A n (ints zs)) (iz : I64s zs) (hn : n ≤ 4611686018427387000) :
    Calls Try.prog 4 #[.slice A n c] w fun e w' => e = .returned (.bool true) ∧ Ext w w' := by
  obtain ⟨i0, hi0, hz0, hz1, hz2⟩ := info_parts i64_info
  by_cases hb : 300 < n
  · have hb' : (300 : Int) < (n : Int) := by omega
    clear hi0 hz0 hz1 hz2
    go_enter Try.func4, Try.ntmps4
    go_wp2_with fail
    refine (works_any _).mono ?_
    rintro e w1 ⟨rfl, hx⟩
    go_wp2_with fail
    go_ret
    exact ⟨rfl, hx⟩
  · have hb' : (n : Int) ≤ 300 := by omega
    have HI := hide (And.intro hi0 (And.intro hz0 (And.intro hz1 hz2)))
    clear hi0 hz0 hz1 hz2 hb
    go_enter Try.func4, Try.ntmps4
    go_wp2_with (first
      | (at_builtin
         refine wpList_append_rd rfl (.tmp 13) (.tmp 14) _ rfl w.heap.size 2 i0 _ 1 8 Try.underlying32 (unhide HI).1 (unhide HI).2.1 (unhide HI).2.2.1 (unhide HI).2.2.2 rfl (by omega) _ 0 [] rfl (World.ownsRow_made w _ 0 (Nat.le_refl _) (by simp [maxLen]) rfl) A n c (ints zs) rfl (hz.alloc _) (one_ints zs) (by simp only [maxLen]; omega) (by omega) (by simp) ?_
         intro A1 c1 w1 own1 g1 at1
         simp only [Nat.zero_add, List.nil_append] at own1 at1
         have E1 : Ext w w1 := Ext.own ((Ext.refl w).alloc _) (World.ownsRow_made (e := 2) (size := 1) w #[] 0 (Nat.le_refl _) (by simp [maxLen]) rfl) g1))
    have R1 : Rd w1 1 A1 n (ints zs) := Rd.of_own own1
    have Z1 := hz.ext E1
    have cs := hide (au_sum A1 n c1 zs w1 R1 iz hn)
    have cr := fun W (h : Ext w1 W) => hide (refsum_any A n c zs W (Z1.ext h) iz (by omega))
    generalize cutV (lsum zs) = X at *
    generalize cutB (lsum zs) = p at *
    clear own1 g1 at1 iz hz
    refine (unhide cs).mono ?_
    rintro e w2 ⟨rfl, hx2⟩
    go_wp2_with fail
    refine (unhide (cr _ hx2)).mono ?_
    rintro e w3 ⟨rfl, hx3⟩
    have R3 := (R1.ext hx2).ext hx3
    have Z3 := (Z1.ext hx2).ext hx3
    have E3 := (E1.trans hx2).trans hx3
    clear R1 Z1 cs cr E1 hx2 hx3
    go_wp2_with fail
    go_loopw [8] (fun i wr => ∃ k : Nat, k ≤ n ∧ i = .int .i64 k ∧ Ext w3 wr) (fun i _ => n - (intOf i).toNat)
    case atStart => exact ⟨0, Nat.zero_le _, rfl, Ext.refl _⟩
    case round =>
      obtain ⟨k, hk, rfl, hE⟩ := hrel
      by_cases hlt : k < n
      · have hltI : (k : Int) < (n : Int) := by omega
        obtain ⟨b, off, z, rfl, hbl, hzk, hc⟩ := ints_cell (R3.ext hE) hlt
        obtain ⟨b2, off2, z2, rfl, hbl2, hzk2, hc2⟩ := ints_cell (Z3.ext hE) hlt
        have hzz : z2 = z := by rw [hzk] at hzk2; injection hzk2 with h; exact h.symm
        subst hzz
        have HC := hide (And.intro hc hc2)
        clear hzk hzk2 R3 Z3 hc hc2
        go_wp2_with fail
        refine wp_region_lin (by kernel_rfl) (fun w' => (ExtX wr w' [])) (fun ii vv ww => match ii with | 0 => vv = .slice (some ⟨b, off, none⟩) n c1 | 1 => vv = .int .i64 k | 2 => vv = .pointer (some ⟨b, off + k, none⟩) | 3 => vv = .int .i64 z2 | 4 => vv = .slice (some ⟨b2, off2, none⟩) n c | 5 => vv = .int .i64 k | 6 => vv = .pointer (some ⟨b2, off2 + k, none⟩) | 7 => vv = .int .i64 z2 | 8 => vv = .bool false | _ => True) (fun ii => match ii with | 2 => [(0, 32), (1, 33)] | 3 => [(2, 34)] | 6 => [(4, 36), (5, 37)] | 7 => [(6, 38)] | 8 => [(3, 35), (7, 39)] | _ => []) (fun ii => match ii with | 0 => [3] | 1 => [8] | 4 => [0] | 5 => [8] | _ => []) (fun ii => match ii with | 0 => [1, 4, 5, 6, 7] | 1 => [0, 4, 5, 6, 7] | 2 => [4, 5, 6, 7] | 3 => [4, 5, 6, 7] | 4 => [0, 1, 2, 5, 3] | 5 => [0, 1, 2, 4, 3] | 6 => [0, 1, 2, 3] | 7 => [0, 1, 2, 3] | _ => []) [8] [0, 0, 3, 7, 0, 0, 48, 112, 255] 52 rfl (by kernel_rfl) (ExtX.start _ _) ?_ ?_
        · rename_i hcont; clear hcont
          refine ⟨?_, ?_, ?_, ?_, ?_, ?_, ?_, ?_, ?_, trivial⟩
          · refine stepL_plain rfl ?_
            rintro F a w1 jE - ⟨t3, -⟩ K hK
            have t3 : a.tmps[3]? = some (.slice (some ⟨b, off, none⟩) n c1) := t3
            go_simp
            exact hK _ _ jE rfl (fun _ _ _ h => h)
          · refine stepL_plain rfl ?_
            rintro F a w1 jE - ⟨t8, -⟩ K hK
            have t8 : a.tmps[8]? = some (.int .i64 k) := t8
            go_simp
            exact hK _ _ jE rfl (fun _ _ _ h => h)
          · refine stepL_plain rfl ?_
            rintro F a w1 jE ⟨h0, t32, h1, t33, -⟩ - K hK
            have h0 : (F 0) = .slice (some ⟨b, off, none⟩) n c1 := h0
            rw [h0] at t32
            clear h0
            have h1 : (F 1) = .int .i64 k := h1
            rw [h1] at t33
            clear h1
            go_simp
            exact hK _ _ jE rfl (fun _ _ _ h => h)
          · refine stepL_plain rfl ?_
            rintro F a w1 jE ⟨h2, t34, -⟩ - K hK
            have h2 : (F 2) = .pointer (some ⟨b, off + k, none⟩) := h2
            rw [h2] at t34
            clear h2
            have c0 := ((jE.ext (Ext.refl _) (by simp)).cells.1 b (off + k) hbl).trans (unhide HC).1
            go_simp
            exact hK _ _ jE rfl (fun _ _ _ h => h)
          · refine stepL_plain rfl ?_
            rintro F a w1 jE - ⟨t0, -⟩ K hK
            have t0 : a.tmps[0]? = some (.slice (some ⟨b2, off2, none⟩) n c) := t0
            go_simp
            exact hK _ _ jE rfl (fun _ _ _ h => h)
          · refine stepL_plain rfl ?_
            rintro F a w1 jE - ⟨t8, -⟩ K hK
            have t8 : a.tmps[8]? = some (.int .i64 k) := t8
            go_simp
            exact hK _ _ jE rfl (fun _ _ _ h => h)
          · refine stepL_plain rfl ?_
            rintro F a w1 jE ⟨h4, t36, h5, t37, -⟩ - K hK
            have h4 : (F 4) = .slice (some ⟨b2, off2, none⟩) n c := h4
            rw [h4] at t36
            clear h4
            have h5 : (F 5) = .int .i64 k := h5
            rw [h5] at t37
            clear h5
            go_simp
            exact hK _ _ jE rfl (fun _ _ _ h => h)
          · refine stepL_plain rfl ?_
            rintro F a w1 jE ⟨h6, t38, -⟩ - K hK
            have h6 : (F 6) = .pointer (some ⟨b2, off2 + k, none⟩) := h6
            rw [h6] at t38
            clear h6
            have c0 := ((jE.ext (Ext.refl _) (by simp)).cells.1 b2 (off2 + k) hbl2).trans (unhide HC).2
            go_simp
            exact hK _ _ jE rfl (fun _ _ _ h => h)
          · refine stepL_plain rfl ?_
            rintro F a w1 jE ⟨h3, t35, h7, t39, -⟩ - K hK
            have h3 : (F 3) = .int .i64 z2 := h3
            rw [h3] at t35
            clear h3
            have h7 : (F 7) = .int .i64 z2 := h7
            rw [h7] at t39
            clear h7
            go_simp
            exact hK _ _ jE rfl (fun _ _ _ h => h)
        · rintro F W9 jE ⟨h8, -⟩
          have h8 : (F 8) = .bool false := h8
          simp only [putL, Act.put, Nat.reduceAdd, Nat.zero_add, List.setIfInBounds_toArray, List.set_cons_succ, List.set_cons_zero]
          rw [h8]
          clear h8
          have hx : Ext w3 W9 := hE.trans (jE.ext (Ext.refl _) (by simp))
          clear jE
          go_wp2_with fail
          go_roundw
          case rel => exact ⟨k + 1, by omega, by go_num, hx⟩
          case measure => simp [intOf]; omega
      · have hge : (n : Int) ≤ (k : Int) := by omega
        have e1 : (X == X) = true := by simp
        have e2 : (p == p) = true := by simp
        clear R3 Z3
        go_wp2_with fail
        refine (works_any _).mono ?_
        rintro e w5 ⟨rfl, hx⟩
        go_wp2_with fail
        go_ret
        exact ⟨rfl, (E3.trans hE).trans hx⟩
end Go.Proofs.Ytfjpjipnbjkmbaa
