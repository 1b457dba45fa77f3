/- Graphs: up and down the tree, the program's (walks). -/
import Derived.Test.YtnolbmfjgfojhaaGrB
namespace Go.Proofs.Ytnolbmfjgfojhaa
open Go.RowKit
theorem RdR.rowHeld {wk : World} {C b off n : Nat} {L : Nat → List Int} (h : RdR wk C (some ⟨b, off, none⟩) n L) {i : Nat} (hi : i < n) :
    ∃ Ai ci, ∀ w : World, (wk.heap.size ≤ w.heap.size ∧ ∀ q, C ≤ q → q < wk.heap.size → w.heap[q]? = wk.heap[q]?) → b < w.heap.size ∧ w.cell? ⟨b, off + i, none⟩ = some (.slice Ai (L i).length ci) ∧ Rd w 1 Ai (L i).length (ints (L i)) := by
  obtain ⟨b', off', Ai, ci, e, hB, hb, hc, hr, hf⟩ := h.at_ i hi
  injection e with e
  injection e with e1 e2
  subst e1 e2
  refine ⟨Ai, ci, fun w hm => ⟨Nat.lt_of_lt_of_le hb hm.1, (World.cell?_of_block (hm.2 b hB hb)).trans hc, ⟨hr.len, fun h0 => ?_⟩⟩⟩
  obtain ⟨b', off', he, hb', hc'⟩ := hr.at_ h0
  exact ⟨b', off', he, Nat.lt_of_lt_of_le hb' hm.1, fun j u hu => (World.cell?_of_block (hm.2 b' (hf b' off' he) hb')).trans (hc' j u hu)⟩
set_option maxRecDepth 100000 in
set_option maxHeartbeats 4000000 in
theorem upl_any (t : Tr) (ns : List Nd) (hm : t.nl ≤ 900) (hpos : 0 < t.nl) (w0 w : World) (h : Rd w0 44 t.na t.nl (nds ns)) (gt : Nat) (BT : Blk w0 gt 25 t.cs) (B gc ga gb : Nat)
    (G : GSt w0 w w B w.heap.size w.heap.size gc ga gb t.nl (wL [] t.nl) (fun _ => []) (List.replicate t.nl (.slice none 0 0))) :
    Calls Try.prog 69 #[.func (.func 75) #[] #[.pointer (some ⟨gc, 0, none⟩)], .pointer (some ⟨gt, 0, none⟩)] w
      fun e w' => e = .returned (.tuple #[]) ∧ ∃ wk C D vs', GSt w0 wk w' B C D gc ga gb t.nl (wL (ofE (kidsN ns t.nl) t.nl) t.nl) (nE (ofE (kidsN ns t.nl) t.nl)) vs' := by
  have ck := hide (kids_any t ns w (h.ext G.ext) (by omega))
  have c0 := (BT.ext G.ext).cell
  have l0 := (BT.ext G.ext).lt
  have HC := hide (show ∀ args w, (callFunc 75 args).run Try.prog w = .ok (.enter 75 args) w from fun _ _ => by kernel_rfl)
  go_enter Try.func69, Try.ntmps69
  go_wp2_with fail
  refine (unhide ck).mono ?_
  rintro e wk ⟨Ak, rfl, RK, hx⟩
  have G1 := G.hold hx (fun i v hv => by rw [(List.mem_replicate.1 (List.mem_of_getElem? hv)).2]; rfl)
  obtain ⟨bk, ok, -, -, hAk, -⟩ := RK.at_ 0 hpos
  subst hAk
  have hKb : ∀ j, (kidsN ns t.nl j).length ≤ t.nl := fun j => kidsN_len _ _ _
  clear ck c0 l0 G hx
  generalize w.heap.size = C at *
  go_wp2_with fail
  go_loopw [10] (fun v wr => ∃ (j : Nat) (vs : List Value), v = .int .i64 j ∧ j ≤ t.nl ∧ GSt w0 wk wr B C wk.heap.size gc ga gb t.nl (wL (ofE (kidsN ns t.nl) j) t.nl) (nE (ofE (kidsN ns t.nl) j)) vs) (fun v _ => t.nl - (intOf v).toNat)
  case atStart => exact ⟨0, _, rfl, by omega, G1⟩
  case round =>
    clear G1
    obtain ⟨j, vs, rfl, q1, G2⟩ := hrel
    by_cases hj : j < t.nl
    · obtain ⟨Ai, ci, hrow⟩ := RK.rowHeld hj
      obtain ⟨KL, hKL⟩ : ∃ KL, (kidsN ns t.nl j).length = KL := ⟨_, rfl⟩
      rw [hKL] at hrow
      obtain ⟨hb1, hc1, -⟩ := hrow _ G2.mid
      have hKL2 : KL ≤ t.nl := by rw [← hKL]; exact hKb j
      have HKL := hide hKL
      have hin : (0 : Int) ≤ (j : Int) ∧ (j : Int) < (t.nl : Int) := by omega
      clear hKL
      go_wp2_with fail
      clear hc1 hb1
      go_loopw [17] (fun v wr => ∃ (q : Nat) (vs : List Value), v = .int .i64 q ∧ q ≤ KL ∧ GSt w0 wk wr B C wk.heap.size gc ga gb t.nl (wL (ofT (kidsN ns t.nl) j q) t.nl) (nE (ofT (kidsN ns t.nl) j q)) vs) (fun v _ => KL - (intOf v).toNat)
      case atStart => exact ⟨0, _, rfl, by omega, by rw [ofT_0]; exact G2⟩
      case round =>
        clear G2
        obtain ⟨q, vs2, rfl, q2, G3⟩ := hrel
        by_cases hq : q < KL
        · obtain ⟨x, hx⟩ : ∃ x, (kidsN ns t.nl j)[q]? = some x := ⟨_, List.getElem?_eq_getElem (by rw [unhide HKL]; exact hq)⟩
          obtain ⟨z, rfl, hz⟩ := kids_lt hx
          have HS := hide (ofT_snoc (kidsN ns t.nl) hx)
          obtain ⟨-, -, hr1⟩ := hrow _ G3.mid
          obtain ⟨bi, oi, hAi, hb2, hc2⟩ := hr1.intIn hx
          subst hAi
          have ce := hide (edge_any (i := j) (p := z) G3 (by omega) (by omega) (ofT_bd hKb hm q1 q))
          rw [← unhide HS] at ce
          have hcf := unhide HC
          clear hx hr1
          go_wp2_with fail
          refine (unhide ce).mono ?_
          rintro e w2 ⟨rfl, vs3, G4⟩
          clear ce hc2 hcf
          go_wp2_with fail
          go_roundw
          case rel => exact ⟨q + 1, vs3, by go_num, by omega, G4⟩
          case measure => simp [intOf]; omega
        · obtain rfl : q = KL := by omega
          go_wp2_with fail
          go_roundw
          case rel => exact ⟨j + 1, vs2, by go_num, by omega, by rw [ofE_succ, unhide HKL]; exact G3⟩
          case measure => simp [intOf]; omega
    · have hje : j = t.nl := by omega
      have G3 : GSt w0 wk wr B C wk.heap.size gc ga gb t.nl (wL (ofE (kidsN ns t.nl) t.nl) t.nl) (nE (ofE (kidsN ns t.nl) t.nl)) vs := by rw [hje] at G2; exact G2
      clear hje G2
      go_wp2_with fail
      go_end0
      exact ⟨rfl, wk, C, wk.heap.size, vs, G3⟩
set_option maxRecDepth 100000 in
set_option maxHeartbeats 4000000 in
theorem downl_any (t : Tr) (ns : List Nd) (hm : t.nl ≤ 900) (hpos : 0 < t.nl) (w0 w : World) (h : Rd w0 44 t.na t.nl (nds ns)) (gt : Nat) (BT : Blk w0 gt 25 t.cs) (B gc ga gb : Nat)
    (G : GSt w0 w w B w.heap.size w.heap.size gc ga gb t.nl (wL [] t.nl) (fun _ => []) (List.replicate t.nl (.slice none 0 0))) :
    Calls Try.prog 70 #[.func (.func 75) #[] #[.pointer (some ⟨gc, 0, none⟩)], .pointer (some ⟨gt, 0, none⟩)] w
      fun e w' => e = .returned (.tuple #[]) ∧ ∃ wk C D vs', GSt w0 wk w' B C D gc ga gb t.nl (wL (doE (kidsN ns t.nl) t.nl) t.nl) (nE (doE (kidsN ns t.nl) t.nl)) vs' := by
  have ck := hide (kids_any t ns w (h.ext G.ext) (by omega))
  have c0 := (BT.ext G.ext).cell
  have l0 := (BT.ext G.ext).lt
  have HC := hide (show ∀ args w, (callFunc 75 args).run Try.prog w = .ok (.enter 75 args) w from fun _ _ => by kernel_rfl)
  go_enter Try.func70, Try.ntmps70
  go_wp2_with fail
  refine (unhide ck).mono ?_
  rintro e wk ⟨Ak, rfl, RK, hx⟩
  have G1 := G.hold hx (fun i v hv => by rw [(List.mem_replicate.1 (List.mem_of_getElem? hv)).2]; rfl)
  obtain ⟨bk, ok, -, -, hAk, -⟩ := RK.at_ 0 hpos
  subst hAk
  have hKb : ∀ j, (kidsN ns t.nl j).length ≤ t.nl := fun j => kidsN_len _ _ _
  clear ck c0 l0 G hx
  generalize w.heap.size = C at *
  go_wp2_with fail
  go_loopw [10] (fun v wr => ∃ (j : Nat) (vs : List Value), v = .int .i64 j ∧ j ≤ t.nl ∧ GSt w0 wk wr B C wk.heap.size gc ga gb t.nl (wL (doE (kidsN ns t.nl) j) t.nl) (nE (doE (kidsN ns t.nl) j)) vs) (fun v _ => t.nl - (intOf v).toNat)
  case atStart => exact ⟨0, _, rfl, by omega, G1⟩
  case round =>
    clear G1
    obtain ⟨j, vs, rfl, q1, G2⟩ := hrel
    by_cases hj : j < t.nl
    · obtain ⟨Ai, ci, hrow⟩ := RK.rowHeld hj
      obtain ⟨KL, hKL⟩ : ∃ KL, (kidsN ns t.nl j).length = KL := ⟨_, rfl⟩
      rw [hKL] at hrow
      obtain ⟨hb1, hc1, -⟩ := hrow _ G2.mid
      have hKL2 : KL ≤ t.nl := by rw [← hKL]; exact hKb j
      have HKL := hide hKL
      have hin : (0 : Int) ≤ (j : Int) ∧ (j : Int) < (t.nl : Int) := by omega
      clear hKL
      go_wp2_with fail
      clear hc1 hb1
      go_loopw [17] (fun v wr => ∃ (q : Nat) (vs : List Value), v = .int .i64 q ∧ q ≤ KL ∧ GSt w0 wk wr B C wk.heap.size gc ga gb t.nl (wL (doT (kidsN ns t.nl) j q) t.nl) (nE (doT (kidsN ns t.nl) j q)) vs) (fun v _ => KL - (intOf v).toNat)
      case atStart => exact ⟨0, _, rfl, by omega, by rw [doT_0]; exact G2⟩
      case round =>
        clear G2
        obtain ⟨q, vs2, rfl, q2, G3⟩ := hrel
        by_cases hq : q < KL
        · obtain ⟨x, hx⟩ : ∃ x, (kidsN ns t.nl j)[q]? = some x := ⟨_, List.getElem?_eq_getElem (by rw [unhide HKL]; exact hq)⟩
          obtain ⟨z, rfl, hz⟩ := kids_lt hx
          have HS := hide (doT_snoc (kidsN ns t.nl) hx)
          obtain ⟨-, -, hr1⟩ := hrow _ G3.mid
          obtain ⟨bi, oi, hAi, hb2, hc2⟩ := hr1.intIn hx
          subst hAi
          have ce := hide (edge_any (i := z) (p := j) G3 (by omega) (by omega) (doT_bd hKb hm q1 q))
          rw [← unhide HS] at ce
          have hcf := unhide HC
          clear hx hr1
          go_wp2_with fail
          refine (unhide ce).mono ?_
          rintro e w2 ⟨rfl, vs3, G4⟩
          clear ce hc2 hcf
          go_wp2_with fail
          go_roundw
          case rel => exact ⟨q + 1, vs3, by go_num, by omega, G4⟩
          case measure => simp [intOf]; omega
        · obtain rfl : q = KL := by omega
          go_wp2_with fail
          go_roundw
          case rel => exact ⟨j + 1, vs2, by go_num, by omega, by rw [doE_succ, unhide HKL]; exact G3⟩
          case measure => simp [intOf]; omega
    · have hje : j = t.nl := by omega
      have G3 : GSt w0 wk wr B C wk.heap.size gc ga gb t.nl (wL (doE (kidsN ns t.nl) t.nl) t.nl) (nE (doE (kidsN ns t.nl) t.nl)) vs := by rw [hje] at G2; exact G2
      clear hje G2
      go_wp2_with fail
      go_end0
      exact ⟨rfl, wk, C, wk.heap.size, vs, G3⟩
set_option maxRecDepth 100000 in
set_option maxHeartbeats 4000000 in
theorem up_graph (t : Tr) (ns : List Nd) (hm : t.nl ≤ 900) (hpos : 0 < t.nl) (w : World) (h : Rd w 44 t.na t.nl (nds ns)) :
    Calls Try.prog 46 #[.agg t.cs] w (GOut w t.nl (ofE (kidsN ns t.nl) t.nl)) := by
  have cl := fun gt w1 (hx : Ext w w1) (BT : Blk w1 gt 25 t.cs) => hide (laid_any 69 #[.pointer (some ⟨gt, 0, none⟩)] t.nl (by omega) (ofE (kidsN ns t.nl) t.nl) w1 (fun _ _ => by kernel_rfl)
    (fun w0 w2 B gc ga gb h0 G => upl_any t ns hm hpos w0 w2 (h.ext (hx.trans h0)) gt (BT.ext h0) B gc ga gb G))
  go_enter Try.func46, Try.ntmps46
  go_upto_region 1 with fail
  have BT : Blk ((w.alloc (.cells t.cs 25)).alloc (.cells #[.slice none 0 0, .slice none 0 0] 55)) w.heap.size 25 t.cs := (Blk.new _ _ _).alloc _
  have B0 : Blk ((w.alloc (.cells t.cs 25)).alloc (.cells #[.slice none 0 0, .slice none 0 0] 55)) (w.heap.size + 1) 55 #[.slice none 0 0, .slice none 0 0] := by
    have h := Blk.new (w.alloc (.cells t.cs 25)) 55 #[.slice none 0 0, .slice none 0 0]
    rw [World.size_alloc] at h
    exact h
  have E0 : Ext w ((w.alloc (.cells t.cs 25)).alloc (.cells #[.slice none 0 0, .slice none 0 0] 55)) := ((Ext.refl _).alloc _).alloc _
  have hs0 : ((w.alloc (.cells t.cs 25)).alloc (.cells #[.slice none 0 0, .slice none 0 0] 55)).heap.size = w.heap.size + 1 + 1 := by simp
  generalize (w.alloc (.cells t.cs 25)).alloc (.cells #[.slice none 0 0, .slice none 0 0] 55) = w1 at *
  generalize hg : w.heap.size = g at *
  have HS := hide hs0
  have HG := hide hg
  clear hs0 hg
  have c1 := BT.cell
  have l1 := BT.lt
  go_wp2_with fail
  refine (unhide (cl _ _ E0 BT)).mono ?_
  rintro e w2 ⟨A, A', rfl, R1, R2, hA, hx⟩
  have B2 := B0.ext hx
  have c2 := B2.cell
  have f2 := B2.frozen
  have l2 := B2.lt
  have E2 := E0.trans hx
  clear cl c1 l1 B0 E0 hx BT
  go_wp2_with fail
  refine bodyPost_ret (results_cellG Try.results46 _ _ (g + 1) 55 _ _ rfl ((B2.set_ 0 _).set_ 1 _) Try.underlying55 rfl (by kernel_rfl)) rfl ?_
  have hb1 := unhide HG
  have hb2 := unhide HS
  have X : ExtX w2 ((w2.setCell ⟨g + 1, 0, none⟩ (.slice A t.nl t.nl)).setCell ⟨g + 1, 1, none⟩ (.slice A' t.nl t.nl)) [g + 1] := ((ExtX.refl w2 [g + 1]).set (by simp) _).set (by simp) _
  refine ⟨A, A', rfl, X.rd R1 (fun b off e hm => ?_), (R2.past X (fun q hq => ?_)).mono ?_, fun b off e => ?_, X.ext E2 (fun q hq => ?_)⟩
  · have hm := List.mem_singleton.1 hm
    have := hA b off e
    omega
  · rw [List.mem_singleton.1 hq]; omega
  · omega
  · have := hA b off e
    omega
  · rw [List.mem_singleton.1 hq]; omega
set_option maxRecDepth 100000 in
set_option maxHeartbeats 4000000 in
theorem down_graph (t : Tr) (ns : List Nd) (hm : t.nl ≤ 900) (hpos : 0 < t.nl) (w : World) (h : Rd w 44 t.na t.nl (nds ns)) :
    Calls Try.prog 48 #[.agg t.cs] w (GOut w t.nl (doE (kidsN ns t.nl) t.nl)) := by
  have cl := fun gt w1 (hx : Ext w w1) (BT : Blk w1 gt 25 t.cs) => hide (laid_any 70 #[.pointer (some ⟨gt, 0, none⟩)] t.nl (by omega) (doE (kidsN ns t.nl) t.nl) w1 (fun _ _ => by kernel_rfl)
    (fun w0 w2 B gc ga gb h0 G => downl_any t ns hm hpos w0 w2 (h.ext (hx.trans h0)) gt (BT.ext h0) B gc ga gb G))
  go_enter Try.func48, Try.ntmps48
  go_upto_region 1 with fail
  have BT : Blk ((w.alloc (.cells t.cs 25)).alloc (.cells #[.slice none 0 0, .slice none 0 0] 55)) w.heap.size 25 t.cs := (Blk.new _ _ _).alloc _
  have B0 : Blk ((w.alloc (.cells t.cs 25)).alloc (.cells #[.slice none 0 0, .slice none 0 0] 55)) (w.heap.size + 1) 55 #[.slice none 0 0, .slice none 0 0] := by
    have h := Blk.new (w.alloc (.cells t.cs 25)) 55 #[.slice none 0 0, .slice none 0 0]
    rw [World.size_alloc] at h
    exact h
  have E0 : Ext w ((w.alloc (.cells t.cs 25)).alloc (.cells #[.slice none 0 0, .slice none 0 0] 55)) := ((Ext.refl _).alloc _).alloc _
  have hs0 : ((w.alloc (.cells t.cs 25)).alloc (.cells #[.slice none 0 0, .slice none 0 0] 55)).heap.size = w.heap.size + 1 + 1 := by simp
  generalize (w.alloc (.cells t.cs 25)).alloc (.cells #[.slice none 0 0, .slice none 0 0] 55) = w1 at *
  generalize hg : w.heap.size = g at *
  have HS := hide hs0
  have HG := hide hg
  clear hs0 hg
  have c1 := BT.cell
  have l1 := BT.lt
  go_wp2_with fail
  refine (unhide (cl _ _ E0 BT)).mono ?_
  rintro e w2 ⟨A, A', rfl, R1, R2, hA, hx⟩
  have B2 := B0.ext hx
  have c2 := B2.cell
  have f2 := B2.frozen
  have l2 := B2.lt
  have E2 := E0.trans hx
  clear cl c1 l1 B0 E0 hx BT
  go_wp2_with fail
  refine bodyPost_ret (results_cellG Try.results48 _ _ (g + 1) 55 _ _ rfl ((B2.set_ 0 _).set_ 1 _) Try.underlying55 rfl (by kernel_rfl)) rfl ?_
  have hb1 := unhide HG
  have hb2 := unhide HS
  have X : ExtX w2 ((w2.setCell ⟨g + 1, 0, none⟩ (.slice A t.nl t.nl)).setCell ⟨g + 1, 1, none⟩ (.slice A' t.nl t.nl)) [g + 1] := ((ExtX.refl w2 [g + 1]).set (by simp) _).set (by simp) _
  refine ⟨A, A', rfl, X.rd R1 (fun b off e hm => ?_), (R2.past X (fun q hq => ?_)).mono ?_, fun b off e => ?_, X.ext E2 (fun q hq => ?_)⟩
  · have hm := List.mem_singleton.1 hm
    have := hA b off e
    omega
  · rw [List.mem_singleton.1 hq]; omega
  · omega
  · have := hA b off e
    omega
  · rw [List.mem_singleton.1 hq]; omega
end Go.Proofs.Ytnolbmfjgfojhaa
