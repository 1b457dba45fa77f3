/- Graphs: the program's islands (walks). -/
import Derived.Test.YtnolbmfjgfojhaaGrH
namespace Go.Proofs.Ytnolbmfjgfojhaa
open Go.RowKit
theorem rowE_bd2 (P : Nat → Int) {k : Nat} (hk : k ≤ 900) : (rowE P k).length ≤ 1000000 := by have := rowE_bd P k; omega
theorem rowE_yes {P : Nat → Int} {k q : Nat} (h : P k = (q : Int)) : rowE P (k + 1) = rowE P k ++ [((q : Int), (k : Int))] := by rw [rowE_succ, h, if_pos (by omega)]
theorem rowE_not {P : Nat → Int} {k : Nat} (h : P k = -1) : rowE P (k + 1) = rowE P k := by rw [rowE_succ, h, if_neg (by omega), List.append_nil]
/-- where each root stands is told -/
def Tasks (ns : List Nd) (X : List Int) (k : Nat) : Prop := ∀ r : Nat, rootN ns r = true → (rootsN ns r).length < k → X[r]? = some (((rootsN ns r).length : Nat) : Int)
section
variable (t : Tr) (ns : List Nd)
set_option maxRecDepth 100000 in
set_option maxHeartbeats 4000000 in
theorem islesl_any (hT : TOk ns) (m : Nat) (hm0 : (rootsN ns ns.length).length = m) (hm1 : m ≤ 900) (hl : t.nl ≤ 900) (w0 w : World) (h : Rd w0 44 t.na t.nl (nds ns)) (g1 g3 g4 bR oR ca bX : Nat) (X : List Int)
    (BT : Blk w0 g1 25 t.cs) (B3 : Blk w0 g3 36 #[.slice (some ⟨bR, oR, none⟩) m ca]) (B4 : Blk w0 g4 36 #[.slice (some ⟨bX, 0, none⟩) t.nl t.nl])
    (RR : Rd w0 1 (some ⟨bR, oR, none⟩) m (ints (rootsN ns ns.length))) (BX : Blk w0 bX 3 (ints X).toArray) (hX : Tasks ns X m) (B gc ga gb : Nat)
    (G : GSt w0 w w B w.heap.size w.heap.size gc ga gb m (wL [] m) (fun _ => []) (List.replicate m (.slice none 0 0))) :
    Calls Try.prog 67 #[.func (.func 75) #[] #[.pointer (some ⟨gc, 0, none⟩)], .pointer (some ⟨g3, 0, none⟩), .pointer (some ⟨g1, 0, none⟩), .pointer (some ⟨g4, 0, none⟩)] w
      fun e w' => e = .returned (.tuple #[]) ∧ ∃ wk C D vs', GSt w0 wk w' B C D gc ga gb m (wL (rowE (isQ ns) m) m) (nE (rowE (isQ ns) m)) vs' := by
  have hnl := h.nlen
  have cv := fun z w1 (hx : Ext w0 w1) => hide (over_any t ns hT z w1 (h.ext hx) (by unfold maxLen; omega))
  have HQ := fun k hk => isQ_spec hT (k := k) (by rw [hm0]; exact hk)
  have HM := hide hm0
  have HNL := hide hnl
  have HC := hide (show ∀ args w, (callFunc 75 args).run Try.prog w = .ok (.enter 75 args) w from fun _ _ => by kernel_rfl)
  clear hm0 hnl
  have c0 := (B3.ext G.ext).cell 0
  go_enter Try.func67, Try.ntmps67
  go_wp2_with fail
  clear c0
  go_loopw [10] (fun v wr => ∃ (k : Nat) (vs : List Value), v = .int .i64 k ∧ k ≤ m ∧ GSt w0 w wr B w.heap.size w.heap.size gc ga gb m (wL (rowE (isQ ns) k) m) (nE (rowE (isQ ns) k)) vs) (fun v _ => m - (intOf v).toNat)
  case atStart => exact ⟨0, _, rfl, by omega, G⟩
  case round =>
    clear G
    obtain ⟨k, vs, rfl, q1, G1⟩ := hrel
    by_cases hk : k < m
    · have hkI : (0 : Int) ≤ (k : Int) ∧ (k : Int) < (m : Int) := by omega
      obtain ⟨hb1, hc1⟩ := rtN_in (RR.ext G1.ext) (unhide HM) hk
      have c1 := (BT.ext G1.ext).cell
      have l1 := (BT.ext G1.ext).lt
      have cw := cv (rtN ns k)
      rcases HQ k hk with ⟨hk0, hq, ho⟩ | ⟨q, o, hk0, hq, hqk, ho, hr, hon, hro, hlen⟩
      · rw [ho] at cw
        have HS := hide (rowE_not hq)
        clear ho hq
        have HK0 := hide hk0
        clear hk0
        generalize rtN ns k = zk at *
        go_wp2_with fail
        refine (unhide (cw _ G1.ext)).mono ?_
        rintro e w2 ⟨rfl, hx⟩
        have G2 := G1.step hx
        clear G1 hx hb1 hc1 c1 l1 cw
        go_wp2_with fail
        go_roundw
        case rel => exact ⟨k + 1, vs, by go_num, by omega, by rw [unhide HS]; exact G2⟩
        case measure => simp [intOf]; omega
      · rw [ho] at cw
        have HS := hide (rowE_yes hq)
        have hx1 := hX o hro (by omega)
        rw [hlen] at hx1
        have hol : (0 : Int) ≤ (o : Int) ∧ (o : Int) < (t.nl : Int) := by have := unhide HNL; omega
        have HX1 := hide hx1
        have hqm : q < m := by omega
        have hqk2 := hide hqk
        have HE := hide (rowE_bd2 (isQ ns) (show k ≤ 900 by omega))
        clear ho hq hr hro hlen hx1 hqk
        generalize rtN ns k = zk at *
        go_wp2_with fail
        refine (unhide (cw _ G1.ext)).mono ?_
        rintro e w2 ⟨rfl, hx⟩
        have G2 := G1.step hx
        clear G1 hx hb1 hc1 c1 l1 cw
        have c4 := (B4.ext G2.ext).cell 0
        have BX2 := BX.ext G2.ext
        have lx := BX2.lt
        have cx : w2.cell? ⟨bX, o, none⟩ = some (.int .i64 (q : Int)) := by rw [BX2.cell, List.getElem?_toArray, ints, List.getElem?_map, unhide HX1]; rfl
        have ce := hide (edge_any (i := q) (p := k) G2 hqm hk (unhide HE))
        rw [← unhide HS] at ce
        have hcf := unhide HC
        clear BX2
        go_wp2_with fail
        refine (unhide ce).mono ?_
        rintro e w3 ⟨rfl, vs3, G3⟩
        clear ce hcf c4 cx lx
        go_wp2_with fail
        go_roundw
        case rel => exact ⟨k + 1, vs3, by go_num, by omega, G3⟩
        case measure => simp [intOf]; omega
    · have hke : k = m := by omega
      have G3 : GSt w0 w wr B w.heap.size w.heap.size gc ga gb m (wL (rowE (isQ ns) m) m) (nE (rowE (isQ ns) m)) vs := by rw [hke] at G1; exact G1
      have hkI : ¬ (k : Int) < (m : Int) := by omega
      clear hke G1
      go_wp2_with fail
      go_end0
      exact ⟨rfl, w, w.heap.size, w.heap.size, vs, G3⟩
theorem results_cells2 {P : Program} {fn : Func} {p q : Tmp} {ty tz : TypeId} (h : fn.results = #[.cell p ty, .cell q tz]) (tmps : Array Value) (w : World) (g : Nat) (T : TypeId) (cs : Array Value) (d : TypeDesc) (gq : Nat) (v : Value)
    (hp : tmps.getD p undef = .pointer (some ⟨g, 0, none⟩)) (hq : tmps.getD q undef = .pointer (some ⟨gq, 0, none⟩)) (hg : Blk w g T cs)
    (hu : P.underlying ty = some d) (hd : (match d with | .struct _ | .array _ _ => true | _ => false) = true) (hi : (P.info? ty).map (·.size) = some cs.size)
    (hz : (isAgg tz).run P w = .ok false w) (hc : w.cell? ⟨gq, 0, none⟩ = some v) :
    (results fn tmps).run P w = .ok (.tuple #[.agg cs, v]) w := by
  have hp' : tmps[p]?.getD undef = .pointer (some ⟨g, 0, none⟩) := by simpa using hp
  have hq' : tmps[q]?.getD undef = .pointer (some ⟨gq, 0, none⟩) := by simpa using hq
  have e2 : (loadVar tz ⟨gq, 0, none⟩).run P w = .ok v w := by simp [loadVar, Sem.run_bind, hz, hc]
  simp [results, h, hp', hq', asAddr, run_loadVar_row w g T ty cs (0, 0) d hg hu hd hi, e2]
theorem Tasks.put {ns : List Nd} {X : List Int} {k r : Nat} (h : Tasks ns X k) (hr : rootN ns r = true) (hk : (rootsN ns r).length = k) (hX : r < X.length) : Tasks ns (X.set r (k : Int)) (k + 1) := by
  intro r' hr' hk'
  rw [List.getElem?_set]
  by_cases e : r = r'
  · subst e
    rw [if_pos rfl, if_pos hX, hk]
  · rw [if_neg e]
    refine h r' hr' ?_
    rcases Nat.lt_or_gt_of_ne e with h1 | h1
    · have := roots_less ns hr h1
      omega
    · have := roots_less ns hr' h1
      omega
set_option maxRecDepth 100000 in
set_option maxHeartbeats 8000000 in
theorem isles_graph (hT : TOk ns) (hm : t.nl ≤ 900) (w : World) (h : Rd w 44 t.na t.nl (nds ns)) :
    Calls Try.prog 43 #[.agg t.cs] w (IsOut w (rootsN ns ns.length).length (rowE (isQ ns) (rootsN ns ns.length).length) (rootsN ns ns.length)) := by
  have hnl := h.nlen
  have cr := fun w1 (hx : Ext w w1) => hide (roots_new t ns w1 (h.ext hx) (by omega))
  have hmi := make_ints t.nl (by omega)
  obtain ⟨m, hm0⟩ : ∃ m, (rootsN ns ns.length).length = m := ⟨_, rfl⟩
  have hm1 : m ≤ 900 := by have := rootsN_len ns ns.length; omega
  have hm2 : 0 < m := by have := roots_pos hT; omega
  rw [hm0]
  have HM := hide hm0
  have HNL := hide hnl
  clear hnl hm0
  go_enter Try.func43, Try.ntmps43
  go_upto_region 1 with fail
  have BT : Blk (((w.alloc (.cells t.cs 25)).alloc (.cells #[.slice none 0 0, .slice none 0 0] 55)).alloc (.cells #[.slice none 0 0] 36)) w.heap.size 25 t.cs := ((Blk.new _ _ _).alloc _).alloc _
  have B0 : Blk (((w.alloc (.cells t.cs 25)).alloc (.cells #[.slice none 0 0, .slice none 0 0] 55)).alloc (.cells #[.slice none 0 0] 36)) (w.heap.size + 1) 55 #[.slice none 0 0, .slice none 0 0] := by
    have h := (Blk.new (w.alloc (.cells t.cs 25)) 55 #[.slice none 0 0, .slice none 0 0]).alloc (.cells #[.slice none 0 0] 36)
    rw [World.size_alloc] at h
    exact h
  have B3 : Blk (((w.alloc (.cells t.cs 25)).alloc (.cells #[.slice none 0 0, .slice none 0 0] 55)).alloc (.cells #[.slice none 0 0] 36)) (w.heap.size + 1 + 1) 36 #[.slice none 0 0] := by
    have h := Blk.new ((w.alloc (.cells t.cs 25)).alloc (.cells #[.slice none 0 0, .slice none 0 0] 55)) 36 #[.slice none 0 0]
    rw [World.size_alloc, World.size_alloc] at h
    exact h
  have E0 : Ext w (((w.alloc (.cells t.cs 25)).alloc (.cells #[.slice none 0 0, .slice none 0 0] 55)).alloc (.cells #[.slice none 0 0] 36)) := (((Ext.refl _).alloc _).alloc _).alloc _
  have hs0 : (((w.alloc (.cells t.cs 25)).alloc (.cells #[.slice none 0 0, .slice none 0 0] 55)).alloc (.cells #[.slice none 0 0] 36)).heap.size = w.heap.size + 1 + 1 + 1 := by simp
  generalize ((w.alloc (.cells t.cs 25)).alloc (.cells #[.slice none 0 0, .slice none 0 0] 55)).alloc (.cells #[.slice none 0 0] 36) = w1 at *
  generalize hg : w.heap.size = g at *
  have HS := hide hs0
  have HG := hide hg
  clear hs0 hg
  have c1 := BT.cell
  have l1 := BT.lt
  go_wp2_with fail
  refine (unhide (cr _ E0)).mono ?_
  rintro e w2 ⟨Ar, ca, rfl, RR, hx, hfr⟩
  rw [unhide HM] at RR ⊢
  obtain ⟨bR, oR, hAr, hbR, -⟩ := RR.at_ hm2
  subst hAr
  have HFR := hide (hfr _ _ rfl)
  clear hfr
  replace BT := BT.ext hx
  replace B0 := B0.ext hx
  replace B3 := B3.ext hx
  replace E0 := E0.trans hx
  have HS2 := hide hx.size
  clear c1 l1 hx cr
  have c1 := BT.cell
  have l1 := BT.lt
  have c3 := B3.cell
  have f3 := B3.frozen
  have l3 := B3.lt
  go_upto_region 2 with fail
  have X1 : ExtX w2 (w2.setCell ⟨g + 1 + 1, 0, none⟩ (.slice (some ⟨bR, oR, none⟩) m ca)) [g + 1 + 1] := (ExtX.refl w2 _).set (by simp) _
  replace BT := BT.far (p := ⟨g + 1 + 1, 0, none⟩) (show g ≠ g + 1 + 1 by omega) (.slice (some ⟨bR, oR, none⟩) m ca)
  replace B0 := B0.far (p := ⟨g + 1 + 1, 0, none⟩) (show g + 1 ≠ g + 1 + 1 by omega) (.slice (some ⟨bR, oR, none⟩) m ca)
  replace B3 := B3.set_ 0 (.slice (some ⟨bR, oR, none⟩) m ca)
  replace RR := X1.rd RR (fun b off e hm => by
    have hm := List.mem_singleton.1 hm
    have h1 := unhide HFR
    have h2 := unhide HS
    injection e with e
    injection e with e
    omega)
  replace E0 := X1.ext E0 (fun q hq => by rw [List.mem_singleton.1 hq, unhide HG]; omega)
  have HS3 := hide X1.size
  clear c1 l1 c3 f3 l3 X1
  generalize w2.setCell ⟨g + 1 + 1, 0, none⟩ (.slice (some ⟨bR, oR, none⟩) m ca) = w3 at *
  have c1 := BT.cell
  have l1 := BT.lt
  go_upto_region 3 with fail
  have BX : Blk ((w3.alloc (.cells (Array.replicate t.nl (.int .i64 0)) 3)).alloc (.cells #[.slice (some ⟨w3.heap.size, 0, none⟩) t.nl t.nl] 36)) w3.heap.size 3 (Array.replicate t.nl (.int .i64 0)) := (Blk.new _ _ _).alloc _
  have B4 : Blk ((w3.alloc (.cells (Array.replicate t.nl (.int .i64 0)) 3)).alloc (.cells #[.slice (some ⟨w3.heap.size, 0, none⟩) t.nl t.nl] 36)) (w3.heap.size + 1) 36 #[.slice (some ⟨w3.heap.size, 0, none⟩) t.nl t.nl] := by
    have h := Blk.new (w3.alloc (.cells (Array.replicate t.nl (.int .i64 0)) 3)) 36 #[.slice (some ⟨w3.heap.size, 0, none⟩) t.nl t.nl]
    rw [World.size_alloc] at h
    exact h
  have hx : Ext w3 ((w3.alloc (.cells (Array.replicate t.nl (.int .i64 0)) 3)).alloc (.cells #[.slice (some ⟨w3.heap.size, 0, none⟩) t.nl t.nl] 36)) := ((Ext.refl _).alloc _).alloc _
  generalize (w3.alloc (.cells (Array.replicate t.nl (.int .i64 0)) 3)).alloc (.cells #[.slice (some ⟨w3.heap.size, 0, none⟩) t.nl t.nl] 36) = w4 at *
  rw [ints_zero] at BX
  have HB3 := hide B3.lt
  have HBR := hide (Nat.lt_of_lt_of_le hbR (unhide HS3))
  replace BT := BT.ext hx
  replace B0 := B0.ext hx
  replace B3 := B3.ext hx
  replace RR := RR.ext hx
  replace E0 := E0.trans hx
  generalize hgX : w3.heap.size = gX at *
  have HGX := hide hgX
  have HS4 := hide hx.size
  clear hmi c1 l1 hx hgX hbR
  have c3 := B3.cell 0
  have l3 := B3.lt
  go_wp2_with fail
  clear c3 l3
  go_loopw [15] (fun v wr => ∃ (k : Nat) (X : List Int), v = .int .i64 k ∧ k ≤ m ∧ X.length = t.nl ∧ Tasks ns X k ∧ Blk wr gX 3 (ints X).toArray ∧ ExtX w4 wr [gX]) (fun v _ => m - (intOf v).toNat)
  case atStart => exact ⟨0, _, rfl, by omega, by simp, fun r _ h => by omega, BX, ExtX.refl _ _⟩
  case round =>
    clear BX
    obtain ⟨k, X, rfl, q1, hXl, hXt, BX, XX⟩ := hrel
    have HXL := hide hXl
    clear hXl
    by_cases hk : k < m
    · have hkI : (0 : Int) ≤ (k : Int) ∧ (k : Int) < (m : Int) := by omega
      have RR2 := XX.rd RR (fun b off e hm => by
        have hm := List.mem_singleton.1 hm
        have h1 := unhide HBR
        injection e with e
        injection e with e
        omega)
      obtain ⟨hb1, hc1⟩ := rtN_in RR2 (unhide HM) hk
      obtain ⟨r, h1, h2, h3, h4⟩ := rt_of (ns := ns) (k := k) (by rw [unhide HM]; exact hk)
      rw [h1] at hc1
      have hrl : r < t.nl := by have := unhide HNL; omega
      have hrI : (0 : Int) ≤ (r : Int) ∧ (r : Int) < (t.nl : Int) := by omega
      have HT2 := hide (hXt.put h3 h4 (by rw [unhide HXL]; exact hrl))
      have c4 := (XX.blk B4 (by simp)).cell 0
      have l4 := (XX.blk B4 (by simp)).lt
      have lx := BX.lt
      have fx := BX.frozen r
      obtain ⟨u, hu⟩ : ∃ u, X[r]? = some u := ⟨_, List.getElem?_eq_getElem (by rw [unhide HXL]; exact hrl)⟩
      have cx : wr.cell? ⟨gX, r, none⟩ = some (.int .i64 u) := by rw [BX.cell, List.getElem?_toArray, ints, List.getElem?_map, hu]; rfl
      have BX2 := BX.set_ r (.int .i64 (k : Int))
      rw [ints_set] at BX2
      have XX2 := XX.set (p := ⟨gX, r, none⟩) (by simp) (.int .i64 (k : Int))
      clear h1 h2 h3 h4 hu hXt RR2
      go_wp2_with fail
      go_roundw
      case rel => exact ⟨k + 1, _, by go_num, by omega, by rw [List.length_set]; exact unhide HXL, unhide HT2, BX2, XX2⟩
      case measure => simp [intOf]; omega
    · have hke : k = m := by omega
      have hXm : Tasks ns X m := by rw [hke] at hXt; exact hXt
      have hkI : ¬ (k : Int) < (m : Int) := by omega
      clear hke hXt
      replace RR := XX.rd RR (fun b off e hm => by
        have hm := List.mem_singleton.1 hm
        have h1 := unhide HBR
        injection e with e
        injection e with e
        omega)
      have ng := unhide HB3
      replace BT := XX.blk BT (by have := unhide HS2; have := unhide HS3; have := unhide HS; have := unhide HGX; simp; omega)
      replace B0 := XX.blk B0 (by have := unhide HS2; have := unhide HS3; have := unhide HS; have := unhide HGX; simp; omega)
      replace B3 := XX.blk B3 (by simp; omega)
      replace B4 := XX.blk B4 (by simp)
      replace E0 := XX.ext E0 (fun q hq => by rw [List.mem_singleton.1 hq]; have := unhide HG; omega)
      have HS5 := hide XX.size
      have cl := hide (laid_any 67 #[.pointer (some ⟨g + 1 + 1, 0, none⟩), .pointer (some ⟨g, 0, none⟩), .pointer (some ⟨gX + 1, 0, none⟩)] m (by omega) (rowE (isQ ns) m) wr (fun _ _ => by kernel_rfl)
        (fun w0 w9 B gc ga gb h0 G => islesl_any t ns hT m (unhide HM) hm1 hm w0 w9 (h.ext (E0.trans h0)) g (g + 1 + 1) (gX + 1) bR oR ca gX X (BT.ext h0) (B3.ext h0) (B4.ext h0) (RR.ext h0) (BX.ext h0) hXm B gc ga gb G))
      have c3 := B3.cell 0
      have l3 := B3.lt
      clear ng hXm XX BX
      go_wp2_with fail
      refine (unhide cl).mono ?_
      rintro e w9 ⟨A, A', rfl, R1, R2, hA, hx⟩
      replace B0 := B0.ext hx
      replace B3 := B3.ext hx
      replace E0 := E0.trans hx
      replace RR := RR.ext hx
      clear cl c3 l3 hx BT B4
      have c2 := B0.cell
      have f2 := B0.frozen
      have l2 := B0.lt
      go_upto_region 9 with fail
      have X5 : ExtX w9 ((w9.setCell ⟨g + 1, 0, none⟩ (.slice A m m)).setCell ⟨g + 1, 1, none⟩ (.slice A' m m)) [g + 1, g + 1 + 1] := ((ExtX.refl w9 _).set (by simp) _).set (by simp) _
      have B02 := (B0.set_ 0 (.slice A m m)).set_ 1 (.slice A' m m)
      have B32 := (B3.far (p := ⟨g + 1, 0, none⟩) (show g + 1 + 1 ≠ g + 1 by omega) (.slice A m m)).far (p := ⟨g + 1, 1, none⟩) (show g + 1 + 1 ≠ g + 1 by omega) (.slice A' m m)
      clear c2 f2 l2 B0 B3
      generalize (w9.setCell ⟨g + 1, 0, none⟩ (.slice A m m)).setCell ⟨g + 1, 1, none⟩ (.slice A' m m) = w10 at *
      have c2 := B02.cell
      have f2 := B02.frozen
      have l2 := B02.lt
      have c3 := B32.cell
      have f3 := B32.frozen
      have l3 := B32.lt
      go_region
      go_wp2
      have X6 : ExtX w10 ((((w10.setCell ⟨g + 1, 0, none⟩ (.slice A m m)).setCell ⟨g + 1, 1, none⟩ (.slice A' m m)).setCell ⟨g + 1 + 1, 0, none⟩ (.slice (some ⟨bR, oR, none⟩) m ca)).drew) [g + 1, g + 1 + 1] :=
        ((((ExtX.refl w10 _).set (by simp) _).set (by simp) _).set (by simp) _).trans (Ext.refl _).drew
      have B03 := ((((B02.set_ 0 (.slice A m m)).set_ 1 (.slice A' m m)).far (p := ⟨g + 1 + 1, 0, none⟩) (show g + 1 ≠ g + 1 + 1 by omega) (.slice (some ⟨bR, oR, none⟩) m ca))).ext (Ext.refl _).drew
      have B33 := (((B32.far (p := ⟨g + 1, 0, none⟩) (show g + 1 + 1 ≠ g + 1 by omega) (.slice A m m)).far (p := ⟨g + 1, 1, none⟩) (show g + 1 + 1 ≠ g + 1 by omega) (.slice A' m m)).set_ 0 (.slice (some ⟨bR, oR, none⟩) m ca)).ext (Ext.refl _).drew
      refine bodyPost_ret (results_cells2 Try.results43 _ _ (g + 1) 55 _ _ (g + 1 + 1) _ rfl rfl B03 Try.underlying55 rfl (by kernel_rfl) (by kernel_rfl) (B33.cell 0)) rfl ?_
      have hb1 := unhide HG
      have hb2 := unhide HS
      have hb3 := unhide HS2
      have hb4 := unhide HS3
      have hb5 := unhide HS4
      have hb6 := unhide HS5
      have hb7 := unhide HGX
      have hfr := unhide HFR
      have hq : ∀ q ∈ [g + 1, g + 1 + 1], q = g + 1 ∨ q = g + 1 + 1 := fun q hq => by simpa using hq
      have Z : ∀ {A : Option Addr} {n : Nat} {xs : List Value}, Rd w9 1 A n xs → (∀ b off, A = some ⟨b, off, none⟩ → g + 1 + 1 < b) → Rd _ 1 A n xs := fun hr hb => X6.rd (X5.rd hr (fun b off e hm => by have := hb b off e; rcases hq _ hm with h | h <;> omega)) (fun b off e hm => by have := hb b off e; rcases hq _ hm with h | h <;> omega)
      refine ⟨A, A', some ⟨bR, oR, none⟩, ca, rfl, Z R1 (fun b off e => by have := hA b off e; omega), ((R2.past X5 (fun q hm => ?_)).past X6 (fun q hm => ?_)).mono ?_, Z RR (fun b off e => ?_), X6.ext (X5.ext E0 (fun q hm => ?_)) (fun q hm => ?_)⟩
      · rcases hq _ hm with h | h <;> omega
      · rcases hq _ hm with h | h <;> omega
      · omega
      · injection e with e
        injection e with e
        omega
      · rcases hq _ hm with h | h <;> omega
      · rcases hq _ hm with h | h <;> omega
end
end Go.Proofs.Ytnolbmfjgfojhaa
