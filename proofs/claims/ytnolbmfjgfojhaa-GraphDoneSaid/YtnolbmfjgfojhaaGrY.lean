/- Graphs: the law GraphEnds (walk). -/
import Derived.Test.YtnolbmfjgfojhaaGrK
namespace Go.Proofs.Ytnolbmfjgfojhaa
open Go.RowKit
/-- a graph laid open -/
structure GLit (w : World) (a p b o n : Nat) (f : Nat → Int) (N : Nat → List Int) : Prop where
  wt : ∀ i, i < n → a < w.heap.size ∧ w.cell? ⟨a, p + i, none⟩ = some (.int .i64 (f i))
  row : ∀ i, i < n → ∃ Ai ci, b < w.heap.size ∧ w.cell? ⟨b, o + i, none⟩ = some (.slice Ai (N i).length ci) ∧ Rd w 1 Ai (N i).length (ints (N i))
theorem GLit.ext {w w' : World} {a p b o n : Nat} {f : Nat → Int} {N : Nat → List Int} (h : GLit w a p b o n f N) (hx : Ext w w') : GLit w' a p b o n f N :=
  ⟨fun i hi => ⟨Nat.lt_of_lt_of_le (h.wt i hi).1 hx.size, (hx.cells.1 a _ (h.wt i hi).1).trans (h.wt i hi).2⟩, fun i hi => by
    obtain ⟨Ai, ci, h1, h2, h3⟩ := h.row i hi
    exact ⟨Ai, ci, Nat.lt_of_lt_of_le h1 hx.size, (hx.cells.1 b _ h1).trans h2, h3.ext hx⟩⟩
theorem GLit.of {w : World} {A A' : Option Addr} {n : Nat} {f : Nat → Int} {N : Nat → List Int} (ha : Rd w 1 A n (ints ((List.range n).map f))) (hb : RdR w 0 A' n N) (hn : 0 < n) : ∃ a p b o, A = some ⟨a, p, none⟩ ∧ A' = some ⟨b, o, none⟩ ∧ GLit w a p b o n f N := by
  obtain ⟨b, o, rfl⟩ := hb.addr hn
  obtain ⟨a, p, rfl, h1, h2⟩ := ha.at_ hn
  exact ⟨a, p, b, o, rfl, rfl, fun i hi => ⟨h1, h2 i _ (by simp [ints, hi])⟩, fun i hi => hb.rowIn hi⟩
theorem GAt.lit {w : World} {v : Value} {n : Nat} {f : Nat → Int} {N : Nat → List Int} (h : GAt w v n f N) (hn : 0 < n) : ∃ a p b o, v = .agg #[.slice (some ⟨a, p, none⟩) n n, .slice (some ⟨b, o, none⟩) n n] ∧ GLit w a p b o n f N := by
  obtain ⟨A, A', rfl, ha, hb⟩ := h
  obtain ⟨a, p, b, o, rfl, rfl, hg⟩ := GLit.of ha hb hn
  exact ⟨a, p, b, o, rfl, hg⟩
theorem row_min_par {ns : List Nd} (h : TOk ns) {i : Nat} (hi : i < ns.length) : (rowP (parN ns) i).length = min i 1 := by
  have hp := h.parN hi
  by_cases h0 : i = 0
  · subst h0
    rw [rowP_not (by rw [hp, h.par0]; omega)]; rfl
  · obtain ⟨p, h1, _⟩ := h.par (by omega) hi
    rw [rowP_of (by rw [hp, h1]; omega)]
    simp; omega
theorem row_min_Q {ns : List Nd} (h : TOk ns) {i : Nat} (hi : i < (rootsN ns ns.length).length) : (rowP (isQ ns) i).length = min i 1 := by
  rcases isQ_spec h hi with ⟨h1, h2, _⟩ | ⟨q, o, h1, h2, _⟩
  · subst h1
    rw [rowP_not (by omega)]; rfl
  · rw [rowP_of (by omega)]
    simp; omega
section
variable (t : Tr) (ns : List Nd) (av : List Int)
set_option maxRecDepth 100000 in
set_option maxHeartbeats 16000000 in
theorem law_grEnds (w : World) (h : TrIn w t ns av) (hm : t.nl ≤ maxLen) (ha : t.al ≤ maxLen) :
    Calls Try.prog 14 #[.agg t.cs] w fun e w' => e = .returned (.bool true) ∧ Ext w w' := by
  have cm := fun w h => hide (small_any t ns av w h hm ha)
  go_enter Try.func14, Try.ntmps14
  go_wp2_with fail
  refine (unhide (cm _ (h.ext ((Ext.refl _).alloc _)))).mono ?_
  rintro e w1 ⟨q, rfl, hq, hx⟩
  have BT : Blk w1 w.heap.size 25 t.cs := (Blk.new _ _ _).ext hx
  have E1 : Ext w w1 := ((Ext.refl _).alloc _).trans hx
  have HQ := hide hq
  have BTc := BT.cell
  have BTl := BT.lt
  clear hx cm hq
  cases q
  · go_wp2_with fail
    refine (works26_any _).mono ?_
    rintro e w2 ⟨rfl, hx⟩
    go_wp2_with fail
    go_ret
    exact ⟨rfl, E1.trans hx⟩
  obtain ⟨hn, hck⟩ := unhide HQ rfl
  have hT := TOk.of (by omega) hck
  have hl := h.nodes.nlen
  have hnl : t.nl ≤ 300 := by omega
  have hN := h.nodes
  have hpos : 0 < t.nl := by have := hT.pos; omega
  obtain ⟨m, hmm⟩ : ∃ m, (rootsN ns ns.length).length = m := ⟨_, rfl⟩
  have hm1 : m ≤ 300 := by have := rootsN_len ns ns.length; omega
  have hm0 : 0 < m := by have := roots_pos hT; omega
  have HPM := fun i (hi : i < t.nl) => row_min_par hT (i := i) (by omega)
  have HQM := fun i (hi : i < m) => row_min_Q hT (i := i) (by omega)
  have cU := fun w h => hide (up_at t ns (by omega) hpos w h)
  have cD := fun w h => hide (down_at t ns (by omega) hpos w h)
  have cI := fun w h => hide (isles_is t ns hT (by omega) w h)
  have cK := fun w h => hide (refkids_any t ns w h (by omega))
  have cW := fun w => hide (works26_any w)
  rw [hmm] at cI
  replace hN := hN.ext E1
  clear HQ hn hck hm ha hl h hT hmm
  generalize hg : w.heap.size = g at *
  clear hg
  go_wp2_with fail
  refine (unhide (cU _ hN)).mono ?_
  rintro e w2 ⟨⟨v, rfl, hv⟩, hx⟩
  obtain ⟨a1, p1, b1, o1, rfl, G1⟩ := hv.lit hpos
  clear hv cU
  clear BTc BTl
  replace hN := hN.ext hx
  replace BT := BT.ext hx
  replace E1 := E1.trans hx
  clear hx
  go_upto_region 4 with fail
  have hx : Ext w2 (w2.alloc (.cells #[.slice (some ⟨a1, p1, none⟩) t.nl t.nl, .slice (some ⟨b1, o1, none⟩) t.nl t.nl] 55)) := (Ext.refl _).alloc _
  have B1 : Blk (w2.alloc (.cells #[.slice (some ⟨a1, p1, none⟩) t.nl t.nl, .slice (some ⟨b1, o1, none⟩) t.nl t.nl] 55)) w2.heap.size 55 #[.slice (some ⟨a1, p1, none⟩) t.nl t.nl, .slice (some ⟨b1, o1, none⟩) t.nl t.nl] := Blk.new _ _ _
  replace hN := hN.ext hx
  replace G1 := G1.ext hx
  replace BT := BT.ext hx
  replace E1 := E1.trans hx
  clear hx
  generalize w2.heap.size = g1 at *
  generalize w2.alloc (.cells #[.slice (some ⟨a1, p1, none⟩) t.nl t.nl, .slice (some ⟨b1, o1, none⟩) t.nl t.nl] 55) = w3 at *
  have BTc := BT.cell
  have BTl := BT.lt
  have B1c := B1.cell
  have B1l := B1.lt
  go_wp2_with fail
  refine (unhide (cD _ hN)).mono ?_
  rintro e w4 ⟨⟨v, rfl, hv⟩, hx⟩
  obtain ⟨a2, p2, b2, o2, rfl, G2⟩ := hv.lit hpos
  clear hv cD
  clear BTc BTl B1c B1l
  replace hN := hN.ext hx
  replace G1 := G1.ext hx
  replace BT := BT.ext hx
  replace B1 := B1.ext hx
  replace E1 := E1.trans hx
  clear hx
  go_upto_region 5 with fail
  have hx : Ext w4 (w4.alloc (.cells #[.slice (some ⟨a2, p2, none⟩) t.nl t.nl, .slice (some ⟨b2, o2, none⟩) t.nl t.nl] 55)) := (Ext.refl _).alloc _
  have B2 : Blk (w4.alloc (.cells #[.slice (some ⟨a2, p2, none⟩) t.nl t.nl, .slice (some ⟨b2, o2, none⟩) t.nl t.nl] 55)) w4.heap.size 55 #[.slice (some ⟨a2, p2, none⟩) t.nl t.nl, .slice (some ⟨b2, o2, none⟩) t.nl t.nl] := Blk.new _ _ _
  replace hN := hN.ext hx
  replace G1 := G1.ext hx
  replace G2 := G2.ext hx
  replace BT := BT.ext hx
  replace B1 := B1.ext hx
  replace E1 := E1.trans hx
  clear hx
  generalize w4.heap.size = g2 at *
  generalize w4.alloc (.cells #[.slice (some ⟨a2, p2, none⟩) t.nl t.nl, .slice (some ⟨b2, o2, none⟩) t.nl t.nl] 55) = w5 at *
  have BTc := BT.cell
  have BTl := BT.lt
  have B1c := B1.cell
  have B1l := B1.lt
  have B2c := B2.cell
  have B2l := B2.lt
  go_wp2_with fail
  refine (unhide (cI _ hN)).mono ?_
  rintro e w6 ⟨A3, A3', R3, c3, rfl, q1, q2, -, hx⟩
  obtain ⟨a3, p3, b3, o3, rfl, rfl, G3⟩ := GLit.of q1 q2 hm0
  clear q1 q2 cI
  clear BTc BTl B1c B1l B2c B2l
  replace hN := hN.ext hx
  replace G1 := G1.ext hx
  replace G2 := G2.ext hx
  replace BT := BT.ext hx
  replace B1 := B1.ext hx
  replace B2 := B2.ext hx
  replace E1 := E1.trans hx
  clear hx
  go_upto_region 6 with fail
  have hx : Ext w6 (w6.alloc (.cells #[.slice (some ⟨a3, p3, none⟩) m m, .slice (some ⟨b3, o3, none⟩) m m] 55)) := (Ext.refl _).alloc _
  have B3 : Blk (w6.alloc (.cells #[.slice (some ⟨a3, p3, none⟩) m m, .slice (some ⟨b3, o3, none⟩) m m] 55)) w6.heap.size 55 #[.slice (some ⟨a3, p3, none⟩) m m, .slice (some ⟨b3, o3, none⟩) m m] := Blk.new _ _ _
  replace hN := hN.ext hx
  replace G1 := G1.ext hx
  replace G2 := G2.ext hx
  replace G3 := G3.ext hx
  replace BT := BT.ext hx
  replace B1 := B1.ext hx
  replace B2 := B2.ext hx
  replace E1 := E1.trans hx
  clear hx
  generalize w6.heap.size = g3 at *
  generalize w6.alloc (.cells #[.slice (some ⟨a3, p3, none⟩) m m, .slice (some ⟨b3, o3, none⟩) m m] 55) = w7 at *
  have BTc := BT.cell
  have BTl := BT.lt
  have B1c := B1.cell
  have B1l := B1.lt
  have B2c := B2.cell
  have B2l := B2.lt
  have B3c := B3.cell
  have B3l := B3.lt
  go_upto_region 9 with fail
  go_wp2_with fail
  refine (unhide (cK _ hN)).mono ?_
  rintro e w8 ⟨Ak, rfl, RK, hx⟩
  obtain ⟨bk, ok, rfl⟩ := RK.addr hpos
  clear cK
  clear BTc BTl B1c B1l B2c B2l B3c B3l
  replace hN := hN.ext hx
  replace G1 := G1.ext hx
  replace G2 := G2.ext hx
  replace G3 := G3.ext hx
  replace BT := BT.ext hx
  replace B1 := B1.ext hx
  replace B2 := B2.ext hx
  replace B3 := B3.ext hx
  replace E1 := E1.trans hx
  clear hx
  have HPM2 := hide HPM
  have HQM2 := hide HQM
  clear HPM HQM
  go_wp2_with fail
  go_loopw [9] (fun v wr => ∃ i : Nat, v = .int .i64 i ∧ i ≤ t.nl ∧ Ext w8 wr) (fun v _ => t.nl - (intOf v).toNat)
  case atStart => exact ⟨0, rfl, by omega, Ext.refl _⟩
  case round =>
    obtain ⟨i, rfl, q1, E2⟩ := hrel
    by_cases hi : i < t.nl
    · have hiI : (0 : Int) ≤ (i : Int) ∧ (i : Int) < (t.nl : Int) := by omega
      obtain ⟨x1, y1⟩ := (G1.ext E2).wt i hi
      obtain ⟨x2, y2⟩ := (G2.ext E2).wt i hi
      obtain ⟨R1, k1, x3, y3, -⟩ := (G1.ext E2).row i hi
      obtain ⟨R2, k2, x4, y4, -⟩ := (G2.ext E2).row i hi
      obtain ⟨RA, ka, x5, y5, -⟩ := (RK.ext E2).rowIn hi
      have C1 := B1.ext E2
      have C2 := B2.ext E2
      have hpm := unhide HPM2 i hi
      rw [fD, hpm] at y2
      rw [hpm] at y3
      obtain ⟨KL, hKL⟩ : ∃ KL, (kidsP (parN ns) t.nl i).length = KL := ⟨_, rfl⟩
      rw [fU, hKL] at y1
      rw [hKL] at y4
      rw [kidsN_P, hKL] at y5
      obtain ⟨mi, hmi⟩ : ∃ mi, min i 1 = mi := ⟨_, rfl⟩
      rw [hmi] at y2 y3
      have HMI := hide (show min (i : Int) 1 = (mi : Int) by omega)
      clear hpm hKL hmi
      go_upto_region 13 with fail
      refine wp_region_lin (by kernel_rfl) (fun w' => (ExtX wr w' [])) (fun ii vv ww => match ii with | 0 => vv = .pointer (some ⟨g1, 1, none⟩) | 1 => vv = .slice (some ⟨b1, o1, none⟩) t.nl t.nl | 2 => vv = .int .i64 (i : Int) | 3 => vv = .pointer (some ⟨b1, o1 + i, none⟩) | 4 => vv = .slice R1 mi k1 | 5 => vv = .int .i64 ((mi : Nat) : Int) | 6 => vv = .int .i64 (i : Int) | 7 => vv = .int .i64 (mi : Int) | 8 => vv = .bool false | 9 => vv = .bool false | 10 => vv = .pointer (some ⟨g2, 0, none⟩) | 11 => vv = .slice (some ⟨a2, p2, none⟩) t.nl t.nl | 12 => vv = .int .i64 (i : Int) | 13 => vv = .pointer (some ⟨a2, p2 + i, none⟩) | 14 => vv = .int .i64 ((mi : Nat) : Int) | 15 => vv = .int .i64 (i : Int) | 16 => vv = .int .i64 (mi : Int) | 17 => vv = .bool false | 18 => vv = .bool false | 19 => vv = .bool false | 20 => vv = .pointer (some ⟨g1, 0, none⟩) | 21 => vv = .slice (some ⟨a1, p1, none⟩) t.nl t.nl | 22 => vv = .int .i64 (i : Int) | 23 => vv = .pointer (some ⟨a1, p1 + i, none⟩) | 24 => vv = .int .i64 ((KL : Nat) : Int) | 25 => vv = .slice (some ⟨bk, ok, none⟩) t.nl t.nl | 26 => vv = .int .i64 (i : Int) | 27 => vv = .pointer (some ⟨bk, ok + i, none⟩) | 28 => vv = .slice RA KL ka | 29 => vv = .int .i64 ((KL : Nat) : Int) | 30 => vv = .bool false | 31 => vv = .bool false | 32 => vv = .bool false | 33 => vv = .pointer (some ⟨g2, 1, none⟩) | 34 => vv = .slice (some ⟨b2, o2, none⟩) t.nl t.nl | 35 => vv = .int .i64 (i : Int) | 36 => vv = .pointer (some ⟨b2, o2 + i, none⟩) | 37 => vv = .slice R2 KL k2 | 38 => vv = .int .i64 ((KL : Nat) : Int) | 39 => vv = .slice (some ⟨bk, ok, none⟩) t.nl t.nl | 40 => vv = .int .i64 (i : Int) | 41 => vv = .pointer (some ⟨bk, ok + i, none⟩) | 42 => vv = .slice RA KL ka | 43 => vv = .int .i64 ((KL : Nat) : Int) | 44 => vv = .bool false | 45 => vv = .bool false | _ => True) (fun ii => match ii with | 1 => [(0, 76)] | 3 => [(1, 77), (2, 78)] | 4 => [(3, 79)] | 5 => [(4, 80)] | 7 => [(6, 82)] | 8 => [(5, 81), (7, 83)] | 9 => [(8, 84)] | 10 => [(9, 85)] | 11 => [(10, 86), (9, 85)] | 12 => [(9, 85)] | 13 => [(11, 87), (12, 88), (9, 85)] | 14 => [(13, 89), (9, 85)] | 15 => [(9, 85)] | 16 => [(15, 91), (9, 85)] | 17 => [(14, 90), (16, 92), (9, 85)] | 18 => [(9, 85), (17, 93)] | 19 => [(18, 94)] | 20 => [(19, 95)] | 21 => [(20, 96), (19, 95)] | 22 => [(19, 95)] | 23 => [(21, 97), (22, 98), (19, 95)] | 24 => [(23, 99), (19, 95)] | 25 => [(19, 95)] | 26 => [(19, 95)] | 27 => [(25, 101), (26, 102), (19, 95)] | 28 => [(27, 103), (19, 95)] | 29 => [(28, 104), (19, 95)] | 30 => [(24, 100), (29, 105), (19, 95)] | 31 => [(19, 95), (30, 106)] | 32 => [(31, 107)] | 33 => [(32, 108)] | 34 => [(33, 109), (32, 108)] | 35 => [(32, 108)] | 36 => [(34, 110), (35, 111), (32, 108)] | 37 => [(36, 112), (32, 108)] | 38 => [(37, 113), (32, 108)] | 39 => [(32, 108)] | 40 => [(32, 108)] | 41 => [(39, 115), (40, 116), (32, 108)] | 42 => [(41, 117), (32, 108)] | 43 => [(42, 118), (32, 108)] | 44 => [(38, 114), (43, 119), (32, 108)] | 45 => [(32, 108), (44, 120)] | _ => []) (fun ii => match ii with | 0 => [3] | 2 => [9] | 6 => [9] | 10 => [4] | 12 => [9] | 15 => [9] | 20 => [3] | 22 => [9] | 25 => [8] | 26 => [9] | 33 => [4] | 35 => [9] | 39 => [8] | 40 => [9] | _ => []) (fun ii => match ii with | 0 => [2, 6, 7] | 1 => [2, 6, 7] | 2 => [0, 1, 6, 7] | 3 => [6, 7] | 4 => [6, 7] | 5 => [6, 7] | 6 => [0, 1, 2, 3, 4, 5] | 7 => [0, 1, 2, 3, 4, 5] | 10 => [9, 12, 15, 16] | 11 => [9, 12, 15, 16] | 12 => [9, 10, 11, 15, 16] | 13 => [9, 15, 16] | 14 => [9, 15, 16] | 15 => [9, 10, 11, 12, 13, 14] | 16 => [9, 10, 11, 12, 13, 14] | 17 => [9] | 20 => [19, 22, 25, 26, 27, 28, 29] | 21 => [19, 22, 25, 26, 27, 28, 29] | 22 => [19, 20, 21, 25, 26, 27, 28, 29] | 23 => [19, 25, 26, 27, 28, 29] | 24 => [19, 25, 26, 27, 28, 29] | 25 => [19, 20, 21, 22, 23, 26, 24] | 26 => [19, 20, 21, 22, 23, 25, 24] | 27 => [19, 20, 21, 22, 23, 24] | 28 => [19, 20, 21, 22, 23, 24] | 29 => [19, 20, 21, 22, 23, 24] | 30 => [19] | 33 => [32, 35, 39, 40, 41, 42, 43] | 34 => [32, 35, 39, 40, 41, 42, 43] | 35 => [32, 33, 34, 39, 40, 41, 42, 43] | 36 => [32, 39, 40, 41, 42, 43] | 37 => [32, 39, 40, 41, 42, 43] | 38 => [32, 39, 40, 41, 42, 43] | 39 => [32, 33, 34, 35, 36, 37, 40, 38] | 40 => [32, 33, 34, 35, 36, 37, 39, 38] | 41 => [32, 33, 34, 35, 36, 37, 38] | 42 => [32, 33, 34, 35, 36, 37, 38] | 43 => [32, 33, 34, 35, 36, 37, 38] | 44 => [32] | _ => []) [45] [0, 1, 0, 7, 15, 31, 0, 64, 255, 511, 1023, 2047, 1023, 8191, 16383, 1023, 33791, 131071, 262143, 524287, 1048575, 2097151, 1048575, 8388607, 16777215, 1048575, 1048575, 101711871, 235929599, 504365055, 1073741823, 2147483647, 4294967295, 8589934591, 17179869183, 8589934591, 68719476735, 137438953471, 274877906943, 8589934591, 8589934591, 1657857376255, 3856880631807, 8254927142911, 17592186044415, 35184372088831] 138 rfl (by kernel_rfl) (ExtX.start _ _) ?_ ?_
      · rename_i hcont; clear hcont
        refine ⟨?_, ?_, ?_, ?_, ?_, ?_, ?_, ?_, ?_, ?_, ?_, ?_, ?_, ?_, ?_, ?_, ?_, ?_, ?_, ?_, ?_, ?_, ?_, ?_, ?_, ?_, ?_, ?_, ?_, ?_, ?_, ?_, ?_, ?_, ?_, ?_, ?_, ?_, ?_, ?_, ?_, ?_, ?_, ?_, ?_, ?_, trivial⟩
        · refine stepL_plain rfl ?_
          rintro F a w1 jE - ⟨t3, -⟩ K hK
          have t3 : a.tmps[3]? = some (.pointer (some ⟨g1, 0, none⟩)) := t3
          go_simp
          exact hK _ _ jE rfl (fun _ _ _ h => h)
        · refine stepL_plain rfl ?_
          rintro F a w1 jE ⟨h0, t76, -⟩ - K hK
          have h0 : (F 0) = .pointer (some ⟨g1, 1, none⟩) := h0
          rw [h0] at t76
          clear h0
          have c := (jE.blk C1 (by simp)).cell
          go_simp
          exact hK _ _ jE rfl (fun _ _ _ h => h)
        · refine stepL_plain rfl ?_
          rintro F a w1 jE - ⟨t9, -⟩ K hK
          have t9 : a.tmps[9]? = some (.int .i64 (i : Int)) := t9
          go_simp
          exact hK _ _ jE rfl (fun _ _ _ h => h)
        · refine stepL_plain rfl ?_
          rintro F a w1 jE ⟨h1, t77, h2, t78, -⟩ - K hK
          have h1 : (F 1) = .slice (some ⟨b1, o1, none⟩) t.nl t.nl := h1
          rw [h1] at t77
          clear h1
          have h2 : (F 2) = .int .i64 (i : Int) := h2
          rw [h2] at t78
          clear h2
          go_simp
          exact hK _ _ jE rfl (fun _ _ _ h => h)
        · refine stepL_plain rfl ?_
          rintro F a w1 jE ⟨h3, t79, -⟩ - K hK
          have h3 : (F 3) = .pointer (some ⟨b1, o1 + i, none⟩) := h3
          rw [h3] at t79
          clear h3
          have c := ((jE.ext (Ext.refl _) (by simp)).cells.1 b1 _ x3).trans y3
          go_simp
          exact hK _ _ jE rfl (fun _ _ _ h => h)
        · refine stepL_plain rfl ?_
          rintro F a w1 jE ⟨h4, t80, -⟩ - K hK
          have h4 : (F 4) = .slice R1 mi k1 := h4
          rw [h4] at t80
          clear h4
          go_simp
          exact hK _ _ jE rfl (fun _ _ _ h => h)
        · refine stepL_plain rfl ?_
          rintro F a w1 jE - ⟨t9, -⟩ K hK
          have t9 : a.tmps[9]? = some (.int .i64 (i : Int)) := t9
          go_simp
          exact hK _ _ jE rfl (fun _ _ _ h => h)
        · refine stepL_plain rfl ?_
          rintro F a w1 jE ⟨h6, t82, -⟩ - K hK
          have h6 : (F 6) = .int .i64 (i : Int) := h6
          rw [h6] at t82
          clear h6
          have e1 := unhide HMI
          go_simp
          exact hK _ _ jE rfl (fun _ _ _ h => h)
        · refine stepL_plain rfl ?_
          rintro F a w1 jE ⟨h5, t81, h7, t83, -⟩ - K hK
          have h5 : (F 5) = .int .i64 ((mi : Nat) : Int) := h5
          rw [h5] at t81
          clear h5
          have h7 : (F 7) = .int .i64 (mi : Int) := h7
          rw [h7] at t83
          clear h7
          have e1 : (((mi : Nat) : Int) != (mi : Int)) = false := by simp
          go_simp
          exact hK _ _ jE rfl (fun _ _ _ h => h)
        · refine stepL_plain rfl ?_
          rintro F a w1 jE ⟨h8, t84, -⟩ - K hK
          have h8 : (F 8) = .bool false := h8
          rw [h8] at t84
          clear h8
          go_simp
          exact hK _ _ jE rfl (fun _ _ _ h => h)
        · refine stepL_of ?_
          rintro F a w1 jE ⟨h9, t85, -⟩ ⟨t4, -⟩ K hK
          have h9 : (F 9) = .bool false := h9
          rw [h9] at t85
          clear h9
          have t4 : a.tmps[4]? = some (.pointer (some ⟨g2, 0, none⟩)) := t4
          refine stepY ((wanted_of 9 false 85 _ rfl rfl t85).trans rfl) ?_
          go_simp
          exact hK _ _ jE rfl (fun _ _ _ h => h)
        · refine stepL_of ?_
          rintro F a w1 jE ⟨h10, t86, h9, t85, -⟩ - K hK
          have h10 : (F 10) = .pointer (some ⟨g2, 0, none⟩) := h10
          rw [h10] at t86
          clear h10
          have h9 : (F 9) = .bool false := h9
          rw [h9] at t85
          clear h9
          refine stepY ((wanted_of 9 false 85 _ rfl rfl t85).trans rfl) ?_
          have c := (jE.blk C2 (by simp)).cell
          go_simp
          exact hK _ _ jE rfl (fun _ _ _ h => h)
        · refine stepL_of ?_
          rintro F a w1 jE ⟨h9, t85, -⟩ ⟨t9, -⟩ K hK
          have h9 : (F 9) = .bool false := h9
          rw [h9] at t85
          clear h9
          have t9 : a.tmps[9]? = some (.int .i64 (i : Int)) := t9
          refine stepY ((wanted_of 9 false 85 _ rfl rfl t85).trans rfl) ?_
          go_simp
          exact hK _ _ jE rfl (fun _ _ _ h => h)
        · refine stepL_of ?_
          rintro F a w1 jE ⟨h11, t87, h12, t88, h9, t85, -⟩ - K hK
          have h11 : (F 11) = .slice (some ⟨a2, p2, none⟩) t.nl t.nl := h11
          rw [h11] at t87
          clear h11
          have h12 : (F 12) = .int .i64 (i : Int) := h12
          rw [h12] at t88
          clear h12
          have h9 : (F 9) = .bool false := h9
          rw [h9] at t85
          clear h9
          refine stepY ((wanted_of 9 false 85 _ rfl rfl t85).trans rfl) ?_
          go_simp
          exact hK _ _ jE rfl (fun _ _ _ h => h)
        · refine stepL_of ?_
          rintro F a w1 jE ⟨h13, t89, h9, t85, -⟩ - K hK
          have h13 : (F 13) = .pointer (some ⟨a2, p2 + i, none⟩) := h13
          rw [h13] at t89
          clear h13
          have h9 : (F 9) = .bool false := h9
          rw [h9] at t85
          clear h9
          refine stepY ((wanted_of 9 false 85 _ rfl rfl t85).trans rfl) ?_
          have c := ((jE.ext (Ext.refl _) (by simp)).cells.1 a2 _ x2).trans y2
          go_simp
          exact hK _ _ jE rfl (fun _ _ _ h => h)
        · refine stepL_of ?_
          rintro F a w1 jE ⟨h9, t85, -⟩ ⟨t9, -⟩ K hK
          have h9 : (F 9) = .bool false := h9
          rw [h9] at t85
          clear h9
          have t9 : a.tmps[9]? = some (.int .i64 (i : Int)) := t9
          refine stepY ((wanted_of 9 false 85 _ rfl rfl t85).trans rfl) ?_
          go_simp
          exact hK _ _ jE rfl (fun _ _ _ h => h)
        · refine stepL_of ?_
          rintro F a w1 jE ⟨h15, t91, h9, t85, -⟩ - K hK
          have h15 : (F 15) = .int .i64 (i : Int) := h15
          rw [h15] at t91
          clear h15
          have h9 : (F 9) = .bool false := h9
          rw [h9] at t85
          clear h9
          refine stepY ((wanted_of 9 false 85 _ rfl rfl t85).trans rfl) ?_
          have e1 := unhide HMI
          go_simp
          exact hK _ _ jE rfl (fun _ _ _ h => h)
        · refine stepL_of ?_
          rintro F a w1 jE ⟨h14, t90, h16, t92, h9, t85, -⟩ - K hK
          have h14 : (F 14) = .int .i64 ((mi : Nat) : Int) := h14
          rw [h14] at t90
          clear h14
          have h16 : (F 16) = .int .i64 (mi : Int) := h16
          rw [h16] at t92
          clear h16
          have h9 : (F 9) = .bool false := h9
          rw [h9] at t85
          clear h9
          refine stepY ((wanted_of 9 false 85 _ rfl rfl t85).trans rfl) ?_
          have e1 : (((mi : Nat) : Int) != (mi : Int)) = false := by simp
          go_simp
          exact hK _ _ jE rfl (fun _ _ _ h => h)
        · refine stepL_plain rfl ?_
          rintro F a w1 jE ⟨h9, t85, h17, t93, -⟩ - K hK
          have h9 : (F 9) = .bool false := h9
          rw [h9] at t85
          clear h9
          have h17 : (F 17) = .bool false := h17
          rw [h17] at t93
          clear h17
          go_simp
          exact hK _ _ jE rfl (fun _ _ _ h => h)
        · refine stepL_plain rfl ?_
          rintro F a w1 jE ⟨h18, t94, -⟩ - K hK
          have h18 : (F 18) = .bool false := h18
          rw [h18] at t94
          clear h18
          go_simp
          exact hK _ _ jE rfl (fun _ _ _ h => h)
        · refine stepL_of ?_
          rintro F a w1 jE ⟨h19, t95, -⟩ ⟨t3, -⟩ K hK
          have h19 : (F 19) = .bool false := h19
          rw [h19] at t95
          clear h19
          have t3 : a.tmps[3]? = some (.pointer (some ⟨g1, 0, none⟩)) := t3
          refine stepY ((wanted_of 19 false 95 _ rfl rfl t95).trans rfl) ?_
          go_simp
          exact hK _ _ jE rfl (fun _ _ _ h => h)
        · refine stepL_of ?_
          rintro F a w1 jE ⟨h20, t96, h19, t95, -⟩ - K hK
          have h20 : (F 20) = .pointer (some ⟨g1, 0, none⟩) := h20
          rw [h20] at t96
          clear h20
          have h19 : (F 19) = .bool false := h19
          rw [h19] at t95
          clear h19
          refine stepY ((wanted_of 19 false 95 _ rfl rfl t95).trans rfl) ?_
          have c := (jE.blk C1 (by simp)).cell
          go_simp
          exact hK _ _ jE rfl (fun _ _ _ h => h)
        · refine stepL_of ?_
          rintro F a w1 jE ⟨h19, t95, -⟩ ⟨t9, -⟩ K hK
          have h19 : (F 19) = .bool false := h19
          rw [h19] at t95
          clear h19
          have t9 : a.tmps[9]? = some (.int .i64 (i : Int)) := t9
          refine stepY ((wanted_of 19 false 95 _ rfl rfl t95).trans rfl) ?_
          go_simp
          exact hK _ _ jE rfl (fun _ _ _ h => h)
        · refine stepL_of ?_
          rintro F a w1 jE ⟨h21, t97, h22, t98, h19, t95, -⟩ - K hK
          have h21 : (F 21) = .slice (some ⟨a1, p1, none⟩) t.nl t.nl := h21
          rw [h21] at t97
          clear h21
          have h22 : (F 22) = .int .i64 (i : Int) := h22
          rw [h22] at t98
          clear h22
          have h19 : (F 19) = .bool false := h19
          rw [h19] at t95
          clear h19
          refine stepY ((wanted_of 19 false 95 _ rfl rfl t95).trans rfl) ?_
          go_simp
          exact hK _ _ jE rfl (fun _ _ _ h => h)
        · refine stepL_of ?_
          rintro F a w1 jE ⟨h23, t99, h19, t95, -⟩ - K hK
          have h23 : (F 23) = .pointer (some ⟨a1, p1 + i, none⟩) := h23
          rw [h23] at t99
          clear h23
          have h19 : (F 19) = .bool false := h19
          rw [h19] at t95
          clear h19
          refine stepY ((wanted_of 19 false 95 _ rfl rfl t95).trans rfl) ?_
          have c := ((jE.ext (Ext.refl _) (by simp)).cells.1 a1 _ x1).trans y1
          go_simp
          exact hK _ _ jE rfl (fun _ _ _ h => h)
        · refine stepL_of ?_
          rintro F a w1 jE ⟨h19, t95, -⟩ ⟨t8, -⟩ K hK
          have h19 : (F 19) = .bool false := h19
          rw [h19] at t95
          clear h19
          have t8 : a.tmps[8]? = some (.slice (some ⟨bk, ok, none⟩) t.nl t.nl) := t8
          refine stepY ((wanted_of 19 false 95 _ rfl rfl t95).trans rfl) ?_
          go_simp
          exact hK _ _ jE rfl (fun _ _ _ h => h)
        · refine stepL_of ?_
          rintro F a w1 jE ⟨h19, t95, -⟩ ⟨t9, -⟩ K hK
          have h19 : (F 19) = .bool false := h19
          rw [h19] at t95
          clear h19
          have t9 : a.tmps[9]? = some (.int .i64 (i : Int)) := t9
          refine stepY ((wanted_of 19 false 95 _ rfl rfl t95).trans rfl) ?_
          go_simp
          exact hK _ _ jE rfl (fun _ _ _ h => h)
        · refine stepL_of ?_
          rintro F a w1 jE ⟨h25, t101, h26, t102, h19, t95, -⟩ - K hK
          have h25 : (F 25) = .slice (some ⟨bk, ok, none⟩) t.nl t.nl := h25
          rw [h25] at t101
          clear h25
          have h26 : (F 26) = .int .i64 (i : Int) := h26
          rw [h26] at t102
          clear h26
          have h19 : (F 19) = .bool false := h19
          rw [h19] at t95
          clear h19
          refine stepY ((wanted_of 19 false 95 _ rfl rfl t95).trans rfl) ?_
          go_simp
          exact hK _ _ jE rfl (fun _ _ _ h => h)
        · refine stepL_of ?_
          rintro F a w1 jE ⟨h27, t103, h19, t95, -⟩ - K hK
          have h27 : (F 27) = .pointer (some ⟨bk, ok + i, none⟩) := h27
          rw [h27] at t103
          clear h27
          have h19 : (F 19) = .bool false := h19
          rw [h19] at t95
          clear h19
          refine stepY ((wanted_of 19 false 95 _ rfl rfl t95).trans rfl) ?_
          have c := ((jE.ext (Ext.refl _) (by simp)).cells.1 bk _ x5).trans y5
          go_simp
          exact hK _ _ jE rfl (fun _ _ _ h => h)
        · refine stepL_of ?_
          rintro F a w1 jE ⟨h28, t104, h19, t95, -⟩ - K hK
          have h28 : (F 28) = .slice RA KL ka := h28
          rw [h28] at t104
          clear h28
          have h19 : (F 19) = .bool false := h19
          rw [h19] at t95
          clear h19
          refine stepY ((wanted_of 19 false 95 _ rfl rfl t95).trans rfl) ?_
          go_simp
          exact hK _ _ jE rfl (fun _ _ _ h => h)
        · refine stepL_of ?_
          rintro F a w1 jE ⟨h24, t100, h29, t105, h19, t95, -⟩ - K hK
          have h24 : (F 24) = .int .i64 ((KL : Nat) : Int) := h24
          rw [h24] at t100
          clear h24
          have h29 : (F 29) = .int .i64 ((KL : Nat) : Int) := h29
          rw [h29] at t105
          clear h29
          have h19 : (F 19) = .bool false := h19
          rw [h19] at t95
          clear h19
          refine stepY ((wanted_of 19 false 95 _ rfl rfl t95).trans rfl) ?_
          have e1 : (((KL : Nat) : Int) != (KL : Int)) = false := by simp
          go_simp
          exact hK _ _ jE rfl (fun _ _ _ h => h)
        · refine stepL_plain rfl ?_
          rintro F a w1 jE ⟨h19, t95, h30, t106, -⟩ - K hK
          have h19 : (F 19) = .bool false := h19
          rw [h19] at t95
          clear h19
          have h30 : (F 30) = .bool false := h30
          rw [h30] at t106
          clear h30
          go_simp
          exact hK _ _ jE rfl (fun _ _ _ h => h)
        · refine stepL_plain rfl ?_
          rintro F a w1 jE ⟨h31, t107, -⟩ - K hK
          have h31 : (F 31) = .bool false := h31
          rw [h31] at t107
          clear h31
          go_simp
          exact hK _ _ jE rfl (fun _ _ _ h => h)
        · refine stepL_of ?_
          rintro F a w1 jE ⟨h32, t108, -⟩ ⟨t4, -⟩ K hK
          have h32 : (F 32) = .bool false := h32
          rw [h32] at t108
          clear h32
          have t4 : a.tmps[4]? = some (.pointer (some ⟨g2, 0, none⟩)) := t4
          refine stepY ((wanted_of 32 false 108 _ rfl rfl t108).trans rfl) ?_
          go_simp
          exact hK _ _ jE rfl (fun _ _ _ h => h)
        · refine stepL_of ?_
          rintro F a w1 jE ⟨h33, t109, h32, t108, -⟩ - K hK
          have h33 : (F 33) = .pointer (some ⟨g2, 1, none⟩) := h33
          rw [h33] at t109
          clear h33
          have h32 : (F 32) = .bool false := h32
          rw [h32] at t108
          clear h32
          refine stepY ((wanted_of 32 false 108 _ rfl rfl t108).trans rfl) ?_
          have c := (jE.blk C2 (by simp)).cell
          go_simp
          exact hK _ _ jE rfl (fun _ _ _ h => h)
        · refine stepL_of ?_
          rintro F a w1 jE ⟨h32, t108, -⟩ ⟨t9, -⟩ K hK
          have h32 : (F 32) = .bool false := h32
          rw [h32] at t108
          clear h32
          have t9 : a.tmps[9]? = some (.int .i64 (i : Int)) := t9
          refine stepY ((wanted_of 32 false 108 _ rfl rfl t108).trans rfl) ?_
          go_simp
          exact hK _ _ jE rfl (fun _ _ _ h => h)
        · refine stepL_of ?_
          rintro F a w1 jE ⟨h34, t110, h35, t111, h32, t108, -⟩ - K hK
          have h34 : (F 34) = .slice (some ⟨b2, o2, none⟩) t.nl t.nl := h34
          rw [h34] at t110
          clear h34
          have h35 : (F 35) = .int .i64 (i : Int) := h35
          rw [h35] at t111
          clear h35
          have h32 : (F 32) = .bool false := h32
          rw [h32] at t108
          clear h32
          refine stepY ((wanted_of 32 false 108 _ rfl rfl t108).trans rfl) ?_
          go_simp
          exact hK _ _ jE rfl (fun _ _ _ h => h)
        · refine stepL_of ?_
          rintro F a w1 jE ⟨h36, t112, h32, t108, -⟩ - K hK
          have h36 : (F 36) = .pointer (some ⟨b2, o2 + i, none⟩) := h36
          rw [h36] at t112
          clear h36
          have h32 : (F 32) = .bool false := h32
          rw [h32] at t108
          clear h32
          refine stepY ((wanted_of 32 false 108 _ rfl rfl t108).trans rfl) ?_
          have c := ((jE.ext (Ext.refl _) (by simp)).cells.1 b2 _ x4).trans y4
          go_simp
          exact hK _ _ jE rfl (fun _ _ _ h => h)
        · refine stepL_of ?_
          rintro F a w1 jE ⟨h37, t113, h32, t108, -⟩ - K hK
          have h37 : (F 37) = .slice R2 KL k2 := h37
          rw [h37] at t113
          clear h37
          have h32 : (F 32) = .bool false := h32
          rw [h32] at t108
          clear h32
          refine stepY ((wanted_of 32 false 108 _ rfl rfl t108).trans rfl) ?_
          go_simp
          exact hK _ _ jE rfl (fun _ _ _ h => h)
        · refine stepL_of ?_
          rintro F a w1 jE ⟨h32, t108, -⟩ ⟨t8, -⟩ K hK
          have h32 : (F 32) = .bool false := h32
          rw [h32] at t108
          clear h32
          have t8 : a.tmps[8]? = some (.slice (some ⟨bk, ok, none⟩) t.nl t.nl) := t8
          refine stepY ((wanted_of 32 false 108 _ rfl rfl t108).trans rfl) ?_
          go_simp
          exact hK _ _ jE rfl (fun _ _ _ h => h)
        · refine stepL_of ?_
          rintro F a w1 jE ⟨h32, t108, -⟩ ⟨t9, -⟩ K hK
          have h32 : (F 32) = .bool false := h32
          rw [h32] at t108
          clear h32
          have t9 : a.tmps[9]? = some (.int .i64 (i : Int)) := t9
          refine stepY ((wanted_of 32 false 108 _ rfl rfl t108).trans rfl) ?_
          go_simp
          exact hK _ _ jE rfl (fun _ _ _ h => h)
        · refine stepL_of ?_
          rintro F a w1 jE ⟨h39, t115, h40, t116, h32, t108, -⟩ - K hK
          have h39 : (F 39) = .slice (some ⟨bk, ok, none⟩) t.nl t.nl := h39
          rw [h39] at t115
          clear h39
          have h40 : (F 40) = .int .i64 (i : Int) := h40
          rw [h40] at t116
          clear h40
          have h32 : (F 32) = .bool false := h32
          rw [h32] at t108
          clear h32
          refine stepY ((wanted_of 32 false 108 _ rfl rfl t108).trans rfl) ?_
          go_simp
          exact hK _ _ jE rfl (fun _ _ _ h => h)
        · refine stepL_of ?_
          rintro F a w1 jE ⟨h41, t117, h32, t108, -⟩ - K hK
          have h41 : (F 41) = .pointer (some ⟨bk, ok + i, none⟩) := h41
          rw [h41] at t117
          clear h41
          have h32 : (F 32) = .bool false := h32
          rw [h32] at t108
          clear h32
          refine stepY ((wanted_of 32 false 108 _ rfl rfl t108).trans rfl) ?_
          have c := ((jE.ext (Ext.refl _) (by simp)).cells.1 bk _ x5).trans y5
          go_simp
          exact hK _ _ jE rfl (fun _ _ _ h => h)
        · refine stepL_of ?_
          rintro F a w1 jE ⟨h42, t118, h32, t108, -⟩ - K hK
          have h42 : (F 42) = .slice RA KL ka := h42
          rw [h42] at t118
          clear h42
          have h32 : (F 32) = .bool false := h32
          rw [h32] at t108
          clear h32
          refine stepY ((wanted_of 32 false 108 _ rfl rfl t108).trans rfl) ?_
          go_simp
          exact hK _ _ jE rfl (fun _ _ _ h => h)
        · refine stepL_of ?_
          rintro F a w1 jE ⟨h38, t114, h43, t119, h32, t108, -⟩ - K hK
          have h38 : (F 38) = .int .i64 ((KL : Nat) : Int) := h38
          rw [h38] at t114
          clear h38
          have h43 : (F 43) = .int .i64 ((KL : Nat) : Int) := h43
          rw [h43] at t119
          clear h43
          have h32 : (F 32) = .bool false := h32
          rw [h32] at t108
          clear h32
          refine stepY ((wanted_of 32 false 108 _ rfl rfl t108).trans rfl) ?_
          have e1 : (((KL : Nat) : Int) != (KL : Int)) = false := by simp
          go_simp
          exact hK _ _ jE rfl (fun _ _ _ h => h)
        · refine stepL_plain rfl ?_
          rintro F a w1 jE ⟨h32, t108, h44, t120, -⟩ - K hK
          have h32 : (F 32) = .bool false := h32
          rw [h32] at t108
          clear h32
          have h44 : (F 44) = .bool false := h44
          rw [h44] at t120
          clear h44
          go_simp
          exact hK _ _ jE rfl (fun _ _ _ h => h)
      · rintro F w9 jE ⟨h45, -⟩
        have h45 : (F 45) = .bool false := h45
        have hx := jE.ext (Ext.refl _) (by simp)
        simp only [putL, Act.put, Nat.reduceAdd, Nat.zero_add, List.setIfInBounds_toArray, List.set_cons_succ, List.set_cons_zero]
        rw [h45]
        clear h45 jE x1 x2 x3 x4 x5 y1 y2 y3 y4 y5 C1 C2 HMI
        replace E2 := E2.trans hx
        clear hx
        go_wp2_with fail
        go_roundw
        case rel => exact ⟨i + 1, by go_num, by omega, E2⟩
        case measure => simp [intOf]; omega
    · have hiI : ¬ (i : Int) < (t.nl : Int) := by omega
      have E3 := E1.trans E2
      have C3 := B3.ext E2
      have G4 := G3.ext E2
      have c3' := C3.cell
      have l3' := C3.lt
      clear G1 G2 G3 B1 B2 RK BT hN B3 E1 HPM2
      go_wp2_with fail
      clear c3' l3'
      go_loopw [10] (fun v wr2 => ∃ j : Nat, v = .int .i64 j ∧ j ≤ m ∧ Ext wr wr2) (fun v _ => m - (intOf v).toNat)
      case atStart => exact ⟨0, rfl, by omega, Ext.refl _⟩
      case round =>
        obtain ⟨j, rfl, q2, E4⟩ := hrel
        have D3 := C3.ext E4
        have c3' := D3.cell
        have l3' := D3.lt
        by_cases hj : j < m
        · have hjI : (0 : Int) ≤ (j : Int) ∧ (j : Int) < (m : Int) := by omega
          obtain ⟨R1, k1, x3, y3, -⟩ := (G4.ext E4).row j hj
          have hqm := unhide HQM2 j hj
          rw [hqm] at y3
          obtain ⟨mi, hmi⟩ : ∃ mi, min j 1 = mi := ⟨_, rfl⟩
          rw [hmi] at y3
          have e1 : min (j : Int) 1 = (mi : Int) := by omega
          have e2 : (((mi : Nat) : Int) != (mi : Int)) = false := by simp
          clear hqm hmi
          go_wp2_with fail
          go_roundw
          case rel => exact ⟨j + 1, by go_num, by omega, E4⟩
          case measure => simp [intOf]; omega
        · have hjI : ¬ (j : Int) < (m : Int) := by omega
          go_wp2_with fail
          refine (unhide (cW _)).mono ?_
          rintro e w9 ⟨rfl, hx⟩
          go_wp2_with fail
          go_ret
          exact ⟨rfl, (E3.trans E4).trans hx⟩
end
end Go.Proofs.Ytnolbmfjgfojhaa
