/- Islands: the law IslandsOnce (walk). -/
import Derived.Test.YtnolbmfjgfojhaaOnc
import Derived.Test.YtnolbmfjgfojhaaIsP
namespace Go.Proofs.Ytnolbmfjgfojhaa
open Go.RowKit
/-- the state of the law -/
structure Onc (w0 : World) (tcs : Array Value) (n g gs bo oo bl ol : Nat) (ns : List Nd) (l : List Int) (w : World) (S : List Int) : Prop where
  ext : Ext w0 w
  bt : Blk w g 25 tcs
  bs : Blk w gs 3 (ints S).toArray
  of_ : Rd w 1 (some ⟨bo, oo, none⟩) n (ints (ofN ns))
  rt : Rd w 1 (some ⟨bl, ol, none⟩) l.length (ints l)
  far : w0.heap.size ≤ gs ∧ g ≠ gs ∧ gs < bo ∧ gs < bl
  len : S.length = n
section
variable {w0 w w' : World} {tcs : Array Value} {n g gs bo oo bl ol : Nat} {ns : List Nd} {l S : List Int}
theorem Onc.step (h : Onc w0 tcs n g gs bo oo bl ol ns l w S) (hx : Ext w w') : Onc w0 tcs n g gs bo oo bl ol ns l w' S :=
  ⟨h.ext.trans hx, h.bt.ext hx, h.bs.ext hx, h.of_.ext hx, h.rt.ext hx, h.far, h.len⟩
theorem Onc.put (h : Onc w0 tcs n g gs bo oo bl ol ns l w S) (k : Nat) (x : Int) : Onc w0 tcs n g gs bo oo bl ol ns l (w.setCell ⟨gs, k, none⟩ (.int .i64 x)) (S.set k x) := by
  obtain ⟨f1, f2, f3, f4⟩ := h.far
  have hx : ExtX w (w.setCell ⟨gs, k, none⟩ (.int .i64 x)) [gs] := (ExtX.refl w [gs]).set (by simp) _
  refine ⟨h.ext.set f1 _, h.bt.far f2 _, ?_, hx.rd h.of_ (fun b o e hm => ?_), hx.rd h.rt (fun b o e hm => ?_), h.far, by rw [List.length_set]; exact h.len⟩
  · have := h.bs.set_ k (.int .i64 x)
    rwa [ints_set] at this
  · have := List.mem_singleton.1 hm
    injection e with e; injection e with e; omega
  · have := List.mem_singleton.1 hm
    injection e with e; injection e with e; omega
theorem Onc.root (h : Onc w0 tcs n g gs bo oo bl ol ns l w S) {i : Nat} (hi : i < l.length) {r : Int} (hr : l[i] = r) : w.cell? ⟨bl, ol + i, none⟩ = some (.int .i64 r) := by
  obtain ⟨b, o, u, hA, _, hu, hc⟩ := h.rt.get hi
  injection hA with hA; injection hA with h1 h2
  subst h1 h2
  rw [ints_get hi, hr] at hu
  rw [hc, ← hu]
theorem Onc.of (h : Onc w0 tcs n g gs bo oo bl ol ns l w S) {i : Nat} (hi : i < ns.length) (hn : ns.length = n) : w.cell? ⟨bo, oo + i, none⟩ = some (.int .i64 (ofV ns i)) := by
  obtain ⟨b, o, u, hA, _, hu, hc⟩ := h.of_.get (show i < n by omega)
  injection hA with hA; injection hA with h1 h2
  subst h1 h2
  have : (ints (ofN ns))[i]? = some (.int .i64 (ofV ns i)) := by
    simp [ints, ofN, hi]
  rw [this] at hu
  rw [hc, ← hu]
theorem Onc.seen (h : Onc w0 tcs n g gs bo oo bl ol ns l w S) {P : Nat → Bool} (hS : S = marks n P) {i : Nat} (hi : i < n) : w.cell? ⟨gs, i, none⟩ = some (.int .i64 (if P i = true then 1 else 0)) := by
  rw [h.bs.cell, hS]
  have := marks_get (P := P) hi
  simp [ints, this]
end
/-- a value that is a slice of these numbers, laid behind block g -/
def SlNw (g : Nat) (w : World) (v : Value) (l : List Int) : Prop := ∃ A c, v = .slice A l.length c ∧ Rd w 1 A l.length (ints l) ∧ ∀ b off, A = some ⟨b, off, none⟩ → g < b
section
variable (t : Tr) (ns : List Nd) (av : List Int)
set_option maxRecDepth 100000 in
set_option maxHeartbeats 32000000 in
theorem law_isOnce (w : World) (h : TrIn w t ns av) (hm : t.nl ≤ maxLen) (ha : t.al ≤ maxLen) :
    Calls Try.prog 10 #[.agg t.cs] w fun e w' => e = .returned (.bool true) ∧ Ext w w' := by
  have cm := fun w h => hide (small_any t ns av w h hm ha)
  go_enter Try.func10, Try.ntmps10
  go_wp2_with fail
  refine (unhide (cm _ (h.ext ((Ext.refl _).alloc _)))).mono ?_
  rintro e w1 ⟨q, rfl, hq, hx⟩
  have BT : Blk w1 w.heap.size 25 t.cs := (Blk.new _ _ _).ext hx
  have E1 : Ext w w1 := ((Ext.refl _).alloc _).trans hx
  have HQ := hide hq
  clear hx cm hq
  cases q
  · go_wp2_with fail
    refine (works18_any _).mono ?_
    rintro e w2 ⟨rfl, hx⟩
    go_wp2_with fail
    go_ret
    exact ⟨rfl, E1.trans hx⟩
  obtain ⟨hn, hck⟩ := unhide HQ rfl
  have hT := TOk.of hn hck
  have hl := h.nodes.nlen
  have hpos := hT.pos
  have hnl : t.nl ≤ 300 := by omega
  have hN := h.nodes
  obtain ⟨b, off, hna, hb, _⟩ := hN.at_ (by omega)
  have cR := fun w h => hide (roots_new t ns w h (show t.nl ≤ 1000000 by omega))
  have cO := fun w h => hide (of_fit t ns hT w h (show t.nl ≤ 1000000 by omega))
  have cI := fun z w h => hide (inside_new t ns hT z w h (show t.nl ≤ 1000000 by omega))
  have cV := fun z w h => hide (over_any t ns hT z w h hm)
  have cT := fun (k : Nat) (hk : k < ns.length) w h => hide (refroot_in t ns k hk w h hm)
  have cW := fun w => hide (works18_any w)
  obtain ⟨na, nl, nc, aa, al, ac, view⟩ := t
  simp only at hna hm ha hl hpos hnl hN BT cR cO cI cV cT
  subst hna
  have hmk := make_ints nl (by omega)
  have HT := hide hT
  have HL := hide hl
  have hz := BT.lt
  clear HQ hn hck hm ha h hl
  generalize hg : w.heap.size = g at *
  have HG := hide hg
  clear hg
  have c1 := BT.cell
  have l1 := BT.lt
  go_upto_region 4 with fail
  clear hmk c1 l1
  have BS : Blk (w1.alloc (.cells (Array.replicate nl (.int .i64 0)) 3)) w1.heap.size 3 (Array.replicate nl (.int .i64 0)) := Blk.new _ _ _
  replace BT := BT.alloc (.cells (Array.replicate nl (.int .i64 0)) 3)
  have hgs : w.heap.size ≤ w1.heap.size ∧ g ≠ w1.heap.size := ⟨E1.size, by omega⟩
  replace E1 := E1.alloc (.cells (Array.replicate nl (.int .i64 0)) 3)
  have z2 : (w1.alloc (.cells (Array.replicate nl (.int .i64 0)) 3)).heap.size = w1.heap.size + 1 := by simp
  generalize w1.alloc (.cells (Array.replicate nl (.int .i64 0)) 3) = w2 at *
  rw [ints_zero, marks_zero] at BS
  generalize w1.heap.size = gs at *
  clear w1
  have c1 := BT.cell
  have l1 := BT.lt
  go_wp2_with fail
  refine (unhide (cO _ (hN.ext E1))).mono ?_
  rintro e w3 ⟨Ao, rfl, RO, hx, fo⟩
  replace E1 := E1.trans hx
  replace BT := BT.ext hx
  replace BS := BS.ext hx
  have z3 := hx.size
  clear hx c1 l1
  have c1 := BT.cell
  have l1 := BT.lt
  go_wp2_with fail
  refine (unhide (cR _ (hN.ext E1))).mono ?_
  rintro e w4 ⟨Al, cl, rfl, RL, hx, fl⟩
  replace E1 := E1.trans hx
  replace BT := BT.ext hx
  replace BS := BS.ext hx
  replace RO := RO.ext hx
  clear hx c1 l1
  obtain ⟨l, hl⟩ : ∃ l, rootsN ns ns.length = l := ⟨_, rfl⟩
  rw [hl] at RL
  rw [hl]
  obtain ⟨ltl, hl0⟩ := ok_root0 (unhide HT)
  have hll : l.length ≤ 300 := by rw [← hl]; have := rootsN_len ns ns.length; have := unhide HL; omega
  have hl1 : 0 < l.length := by rw [← hl, hl0]; simp
  have hl00 : l[0] = 0 := by have h5 := hl; rw [hl0] at h5; subst h5; rfl
  have hnl0 : 0 < nl := by have := unhide HL; omega
  obtain ⟨bo, oo, rfl, -, -⟩ := RO.at_ hnl0
  obtain ⟨bl, ol, rfl, -, -⟩ := RL.at_ hl1
  have h9 := fo bo oo rfl
  have h10 := fl bl ol rfl
  have h11 : gs < bo := by omega
  have h12 : gs < bl := by omega
  have D : Onc w (Tr.cs ⟨some ⟨b, off, none⟩, nl, nc, aa, al, ac, view⟩) nl g gs bo oo bl ol ns l w4 (marks nl fun _ => false) :=
    ⟨E1, BT, BS, RO, RL, ⟨hgs.1, hgs.2, h11, h12⟩, marks_len _ _⟩
  have ne1 : ((((l.length : Nat) : Int)) == 0) = false := by simp only [beq_eq_false_iff_ne, ne_eq]; omega
  have in1 : (0 : Int) < (l.length : Int) := by omega
  have c1 := D.bt.cell
  have l1 := D.bt.lt
  have c0 := D.root hl1 hl00
  simp only [Nat.add_zero] at c0
  have HLL := hide hl
  clear h9 h10 h11 h12 hl hl0 hl00 RO RL fo fl BS BT E1 z2 z3 hgs
  go_wp2_with fail
  clear c0 c1 l1 ne1
  go_loopw [6] (fun v wr => ∃ (i : Nat) (S : List Int), v = .int .i64 i ∧ i ≤ l.length ∧ Hid (S = marks nl (dn ns i)) ∧ Onc w (Tr.cs ⟨some ⟨b, off, none⟩, nl, nc, aa, al, ac, view⟩) nl g gs bo oo bl ol ns l wr S) (fun v _ => l.length - (intOf v).toNat)
  case atStart => exact ⟨0, _, rfl, by omega, hide (marks_congr fun j _ => (dn_0 j).symm), D⟩
  case round =>
    clear D
    obtain ⟨i, S, rfl, q1, HS, D⟩ := hrel
    have c1 := D.bt.cell
    have l1 := D.bt.lt
    by_cases hi : i < l.length
    · have hm1 : l[i] ∈ rootsN ns ns.length := by rw [unhide HLL]; exact List.getElem_mem hi
      obtain ⟨r, hlr, hrn, hrr⟩ := roots_mem.1 hm1
      have ci := D.root hi hlr
      have hrI : (0 : Int) ≤ (r : Int) ∧ (r : Int) < (nl : Int) := by have := unhide HL; omega
      have hiI : (0 : Int) ≤ (i : Int) ∧ (i : Int) < (l.length : Int) := by omega
      have HRR := hide hrr
      have HLR := hide hlr
      have hiL : i < (rootsN ns ns.length).length := by rw [unhide HLL]; exact hi
      have hlr2 : (rootsN ns ns.length)[i] = (r : Int) := by have := hlr; simp only [unhide HLL]; exact this
      have HNEW := hide (fun k j => dk_new (k := k) (j := j) hiL hlr2 hrr)
      have HALL := hide (fun x hx => dk_all (x := x) hiL hlr2 hrr hx)
      have HBOX := hide (ok_box hrr hrn)
      have HOV := hide (fun h0 => over_lt (unhide HT) hrr hrn h0)
      have HSK := hide (show S = marks nl (dk ns i r 0) from (unhide HS).trans (marks_congr fun j _ => (dk_0 i r j).symm))
      have f1 : decide ((r : Int) < 0) = false := by simp
      have f2 : decide (nl ≤ r) = false := by simp; omega
      clear hlr hlr2 hiL hm1 HS hrr
      go_upto_region 11 with fail
      have lbl : bl < wr.heap.size := by obtain ⟨_, _, e, h, _⟩ := D.rt.at_ hl1; injection e with e; injection e with e1 e2; subst e1; exact h
      refine wp_region_lin (by kernel_rfl) (fun w' => (ExtX wr w' [])) (fun ii vv ww => match ii with | 0 => vv = .slice (some ⟨bl, ol, none⟩) l.length cl | 1 => vv = .int .i64 (i : Int) | 2 => vv = .pointer (some ⟨bl, ol + i, none⟩) | 3 => vv = .int .i64 (r : Int) | 4 => vv = .bool false | 5 => vv = .bool false | 6 => vv = .slice (some ⟨bl, ol, none⟩) l.length cl | 7 => vv = .int .i64 (i : Int) | 8 => vv = .pointer (some ⟨bl, ol + i, none⟩) | 9 => vv = .int .i64 (r : Int) | 10 => vv = .pointer (some ⟨g, 0, none⟩) | 11 => vv = .slice (some ⟨b, off, none⟩) nl nc | 12 => vv = .int .i64 ((nl : Nat) : Int) | 13 => vv = .bool false | 14 => vv = .bool false | _ => True) (fun ii => match ii with | 2 => [(0, 48), (1, 49)] | 3 => [(2, 50)] | 4 => [(3, 51)] | 5 => [(4, 52)] | 6 => [(5, 53)] | 7 => [(5, 53)] | 8 => [(6, 54), (7, 55), (5, 53)] | 9 => [(8, 56), (5, 53)] | 10 => [(5, 53)] | 11 => [(10, 58), (5, 53)] | 12 => [(11, 59), (5, 53)] | 13 => [(9, 57), (12, 60), (5, 53)] | 14 => [(5, 53), (13, 61)] | _ => []) (fun ii => match ii with | 0 => [5] | 1 => [6] | 6 => [5] | 7 => [6] | 10 => [1] | _ => []) (fun ii => match ii with | 0 => [1] | 1 => [0] | 6 => [5, 7, 10, 11, 12] | 7 => [5, 6, 10, 11, 12] | 8 => [5, 10, 11, 12] | 9 => [5, 10, 11, 12] | 10 => [5, 6, 7, 8, 9] | 11 => [5, 6, 7, 8, 9] | 12 => [5, 6, 7, 8, 9] | 13 => [5] | _ => []) [14] [0, 0, 3, 7, 15, 31, 63, 63, 255, 511, 63, 1087, 3135, 8191, 16383] 221 rfl (by kernel_rfl) (ExtX.start _ _) ?_ ?_
      · rename_i hcont; clear hcont
        refine ⟨?_, ?_, ?_, ?_, ?_, ?_, ?_, ?_, ?_, ?_, ?_, ?_, ?_, ?_, ?_, trivial⟩
        · refine stepL_plain rfl ?_
          rintro F a w1 jE - ⟨t5, -⟩ K hK
          have t5 : a.tmps[5]? = some (.slice (some ⟨bl, ol, none⟩) l.length cl) := t5
          go_simp
          exact hK _ _ jE rfl (fun _ _ _ h => h)
        · refine stepL_plain rfl ?_
          rintro F a w1 jE - ⟨t6, -⟩ K hK
          have t6 : a.tmps[6]? = some (.int .i64 (i : Int)) := t6
          go_simp
          exact hK _ _ jE rfl (fun _ _ _ h => h)
        · refine stepL_plain rfl ?_
          rintro F a w1 jE ⟨h0, t48, h1, t49, -⟩ - K hK
          have h0 : (F 0) = .slice (some ⟨bl, ol, none⟩) l.length cl := h0
          rw [h0] at t48
          clear h0
          have h1 : (F 1) = .int .i64 (i : Int) := h1
          rw [h1] at t49
          clear h1
          go_simp
          exact hK _ _ jE rfl (fun _ _ _ h => h)
        · refine stepL_plain rfl ?_
          rintro F a w1 jE ⟨h2, t50, -⟩ - K hK
          have h2 : (F 2) = .pointer (some ⟨bl, ol + i, none⟩) := h2
          rw [h2] at t50
          clear h2
          have c := ((jE.ext (Ext.refl _) (by simp)).cells.1 bl _ lbl).trans ci
          go_simp
          exact hK _ _ jE rfl (fun _ _ _ h => h)
        · refine stepL_plain rfl ?_
          rintro F a w1 jE ⟨h3, t51, -⟩ - K hK
          have h3 : (F 3) = .int .i64 (r : Int) := h3
          rw [h3] at t51
          clear h3
          have e1 := f1
          go_simp
          exact hK _ _ jE rfl (fun _ _ _ h => h)
        · refine stepL_plain rfl ?_
          rintro F a w1 jE ⟨h4, t52, -⟩ - K hK
          have h4 : (F 4) = .bool false := h4
          rw [h4] at t52
          clear h4
          go_simp
          exact hK _ _ jE rfl (fun _ _ _ h => h)
        · refine stepL_of ?_
          rintro F a w1 jE ⟨h5, t53, -⟩ ⟨t5, -⟩ K hK
          have h5 : (F 5) = .bool false := h5
          rw [h5] at t53
          clear h5
          have t5 : a.tmps[5]? = some (.slice (some ⟨bl, ol, none⟩) l.length cl) := t5
          refine stepY ((wanted_of 5 false 53 _ rfl rfl t53).trans rfl) ?_
          go_simp
          exact hK _ _ jE rfl (fun _ _ _ h => h)
        · refine stepL_of ?_
          rintro F a w1 jE ⟨h5, t53, -⟩ ⟨t6, -⟩ K hK
          have h5 : (F 5) = .bool false := h5
          rw [h5] at t53
          clear h5
          have t6 : a.tmps[6]? = some (.int .i64 (i : Int)) := t6
          refine stepY ((wanted_of 5 false 53 _ rfl rfl t53).trans rfl) ?_
          go_simp
          exact hK _ _ jE rfl (fun _ _ _ h => h)
        · refine stepL_of ?_
          rintro F a w1 jE ⟨h6, t54, h7, t55, h5, t53, -⟩ - K hK
          have h6 : (F 6) = .slice (some ⟨bl, ol, none⟩) l.length cl := h6
          rw [h6] at t54
          clear h6
          have h7 : (F 7) = .int .i64 (i : Int) := h7
          rw [h7] at t55
          clear h7
          have h5 : (F 5) = .bool false := h5
          rw [h5] at t53
          clear h5
          refine stepY ((wanted_of 5 false 53 _ rfl rfl t53).trans rfl) ?_
          go_simp
          exact hK _ _ jE rfl (fun _ _ _ h => h)
        · refine stepL_of ?_
          rintro F a w1 jE ⟨h8, t56, h5, t53, -⟩ - K hK
          have h8 : (F 8) = .pointer (some ⟨bl, ol + i, none⟩) := h8
          rw [h8] at t56
          clear h8
          have h5 : (F 5) = .bool false := h5
          rw [h5] at t53
          clear h5
          refine stepY ((wanted_of 5 false 53 _ rfl rfl t53).trans rfl) ?_
          have c := ((jE.ext (Ext.refl _) (by simp)).cells.1 bl _ lbl).trans ci
          go_simp
          exact hK _ _ jE rfl (fun _ _ _ h => h)
        · refine stepL_of ?_
          rintro F a w1 jE ⟨h5, t53, -⟩ ⟨t1, -⟩ K hK
          have h5 : (F 5) = .bool false := h5
          rw [h5] at t53
          clear h5
          have t1 : a.tmps[1]? = some (.pointer (some ⟨g, 0, none⟩)) := t1
          refine stepY ((wanted_of 5 false 53 _ rfl rfl t53).trans rfl) ?_
          go_simp
          exact hK _ _ jE rfl (fun _ _ _ h => h)
        · refine stepL_of ?_
          rintro F a w1 jE ⟨h10, t58, h5, t53, -⟩ - K hK
          have h10 : (F 10) = .pointer (some ⟨g, 0, none⟩) := h10
          rw [h10] at t58
          clear h10
          have h5 : (F 5) = .bool false := h5
          rw [h5] at t53
          clear h5
          refine stepY ((wanted_of 5 false 53 _ rfl rfl t53).trans rfl) ?_
          have c := (jE.blk D.bt (by simp)).cell
          go_simp
          exact hK _ _ jE rfl (fun _ _ _ h => h)
        · refine stepL_of ?_
          rintro F a w1 jE ⟨h11, t59, h5, t53, -⟩ - K hK
          have h11 : (F 11) = .slice (some ⟨b, off, none⟩) nl nc := h11
          rw [h11] at t59
          clear h11
          have h5 : (F 5) = .bool false := h5
          rw [h5] at t53
          clear h5
          refine stepY ((wanted_of 5 false 53 _ rfl rfl t53).trans rfl) ?_
          go_simp
          exact hK _ _ jE rfl (fun _ _ _ h => h)
        · refine stepL_of ?_
          rintro F a w1 jE ⟨h9, t57, h12, t60, h5, t53, -⟩ - K hK
          have h9 : (F 9) = .int .i64 (r : Int) := h9
          rw [h9] at t57
          clear h9
          have h12 : (F 12) = .int .i64 ((nl : Nat) : Int) := h12
          rw [h12] at t60
          clear h12
          have h5 : (F 5) = .bool false := h5
          rw [h5] at t53
          clear h5
          refine stepY ((wanted_of 5 false 53 _ rfl rfl t53).trans rfl) ?_
          have e1 := f2
          go_simp
          exact hK _ _ jE rfl (fun _ _ _ h => h)
        · refine stepL_plain rfl ?_
          rintro F a w1 jE ⟨h5, t53, h13, t61, -⟩ - K hK
          have h5 : (F 5) = .bool false := h5
          rw [h5] at t53
          clear h5
          have h13 : (F 13) = .bool false := h13
          rw [h13] at t61
          clear h13
          go_simp
          exact hK _ _ jE rfl (fun _ _ _ h => h)
      · rintro F w9 jE ⟨h14, -⟩
        have h14 : (F 14) = .bool false := h14
        have hx := jE.ext (Ext.refl _) (by simp)
        replace D := D.step hx
        clear jE hx
        simp only [putL, Act.put, Nat.reduceAdd, Nat.zero_add, List.setIfInBounds_toArray, List.set_cons_succ, List.set_cons_zero]
        rw [h14]
        clear h14
        clear c1 l1 ci
        have c1 := D.bt.cell
        have l1 := D.bt.lt
        have ci := D.root hi (unhide HLR)
        go_upto_region 13 with fail
        clear lbl
        have lbl : bl < w9.heap.size := by obtain ⟨_, _, e, h, _⟩ := D.rt.at_ hl1; injection e with e; injection e with e1 e2; subst e1; exact h
        refine wp_region_lin (by kernel_rfl) (fun w' => (ExtX w9 w' [])) (fun ii vv ww => match ii with | 0 => vv = (.agg (Tr.cs ⟨some ⟨b, off, none⟩, nl, nc, aa, al, ac, view⟩)) | 1 => vv = .slice (some ⟨bl, ol, none⟩) l.length cl | 2 => vv = .int .i64 (i : Int) | 3 => vv = .pointer (some ⟨bl, ol + i, none⟩) | 4 => vv = .int .i64 (r : Int) | 5 => SlNw gs ww vv (insN ns (r : Int)) | 6 => SlNw gs ww vv (insN ns (r : Int)) | _ => True) (fun ii => match ii with | 3 => [(1, 64), (2, 65)] | 4 => [(3, 66)] | 5 => [(0, 63), (4, 67)] | 6 => [(5, 68)] | _ => []) (fun ii => match ii with | 0 => [1] | 1 => [5] | 2 => [6] | _ => []) (fun ii => match ii with | 0 => [1, 2, 3, 4] | 1 => [2, 0] | 2 => [1, 0] | 3 => [0] | 4 => [0] | _ => []) [6] [0, 0, 0, 6, 14, 31, 63] 221 rfl (by kernel_rfl) (ExtX.start _ _) ?_ ?_
        · rename_i hcont; clear hcont
          refine ⟨?_, ?_, ?_, ?_, ?_, ?_, ?_, trivial⟩
          · refine stepL_plain rfl ?_
            rintro F a w1 jE - ⟨t1, -⟩ K hK
            have t1 : a.tmps[1]? = some (.pointer (some ⟨g, 0, none⟩)) := t1
            have c := (jE.blk D.bt (by simp)).cell
            refine wp_load_blk 25 _ rfl g (eval_tmp t1) 25 (Tr.cs ⟨some ⟨b, off, none⟩, nl, nc, aa, al, ac, view⟩) _ (jE.blk D.bt (by simp)) Try.underlying25 rfl (info_tree _) ?_
            exact hK _ _ jE rfl (fun _ _ _ h => h)
          · refine stepL_plain rfl ?_
            rintro F a w1 jE - ⟨t5, -⟩ K hK
            have t5 : a.tmps[5]? = some (.slice (some ⟨bl, ol, none⟩) l.length cl) := t5
            go_simp
            exact hK _ _ jE rfl (fun _ _ _ h => h)
          · refine stepL_plain rfl ?_
            rintro F a w1 jE - ⟨t6, -⟩ K hK
            have t6 : a.tmps[6]? = some (.int .i64 (i : Int)) := t6
            go_simp
            exact hK _ _ jE rfl (fun _ _ _ h => h)
          · refine stepL_plain rfl ?_
            rintro F a w1 jE ⟨h1, t64, h2, t65, -⟩ - K hK
            have h1 : (F 1) = .slice (some ⟨bl, ol, none⟩) l.length cl := h1
            rw [h1] at t64
            clear h1
            have h2 : (F 2) = .int .i64 (i : Int) := h2
            rw [h2] at t65
            clear h2
            go_simp
            exact hK _ _ jE rfl (fun _ _ _ h => h)
          · refine stepL_plain rfl ?_
            rintro F a w1 jE ⟨h3, t66, -⟩ - K hK
            have h3 : (F 3) = .pointer (some ⟨bl, ol + i, none⟩) := h3
            rw [h3] at t66
            clear h3
            have c := ((jE.ext (Ext.refl _) (by simp)).cells.1 bl _ lbl).trans ci
            go_simp
            exact hK _ _ jE rfl (fun _ _ _ h => h)
          · refine stepL_plain rfl ?_
            rintro F a w1 jE ⟨h0, t63, h4, t67, -⟩ - K hK
            have h0 : (F 0) = (.agg (Tr.cs ⟨some ⟨b, off, none⟩, nl, nc, aa, al, ac, view⟩)) := h0
            rw [h0] at t63
            clear h0
            have h4 : (F 4) = .int .i64 (r : Int) := h4
            rw [h4] at t67
            clear h4
            go_simp
            have hE := D.ext.trans (jE.ext (Ext.refl _) (by simp))
            have hsz := (D.step (jE.ext (Ext.refl _) (by simp))).bs.lt
            with_reducible refine (unhide (cI _ _ (hN.ext hE))).mono ?_
            rintro e w2 ⟨A, c, rfl, hR, hx, hf⟩
            exact hK _ _ (jE.trans hx) ⟨A, c, rfl, hR, fun b o e => by have := hf b o e; omega⟩ (fun _ hj _ _ => (List.not_mem_nil hj).elim)
          · refine stepL_plain rfl ?_
            rintro F a w1 jE ⟨h5, t68, -⟩ - K hK
            have h5 : SlNw gs w1 (F 5) (insN ns (r : Int)) := h5
            go_simp
            exact hK _ _ jE h5 (fun _ _ _ h => h)
        · rintro F w8 jE ⟨h6, -⟩
          have h6 : SlNw gs w8 (F 6) (insN ns (r : Int)) := h6
          obtain ⟨Ain, cin, e6, RI, fi⟩ := h6
          have hx := jE.ext (Ext.refl _) (by simp)
          replace D := D.step hx
          clear jE hx
          simp only [putL, Act.put, Nat.reduceAdd, Nat.zero_add, List.setIfInBounds_toArray, List.set_cons_succ, List.set_cons_zero]
          rw [e6]
          clear e6 ci c1 l1 lbl
          have hlen2 : (insN ns (r : Int)).length ≤ 300 := by have := insN_len ns (r : Int); have := unhide HL; omega
          have c1 := D.bt.cell
          have l1 := D.bt.lt
          go_wp2_with fail
          clear c1 l1
          go_loopw [8] (fun v wr => ∃ (k : Nat) (S : List Int), v = .int .i64 k ∧ k ≤ (insN ns (r : Int)).length ∧ Hid (S = marks nl (dk ns i r k)) ∧ Onc w (Tr.cs ⟨some ⟨b, off, none⟩, nl, nc, aa, al, ac, view⟩) nl g gs bo oo bl ol ns l wr S ∧ Rd wr 1 Ain (insN ns (r : Int)).length (ints (insN ns (r : Int)))) (fun v _ => (insN ns (r : Int)).length - (intOf v).toNat)
          case atStart => exact ⟨0, S, rfl, by omega, HSK, D, RI⟩
          case round =>
            clear D RI
            obtain ⟨k, S2, rfl, q2, HS2, D, RI⟩ := hrel
            have c1 := D.bt.cell
            have l1 := D.bt.lt
            have ci := D.root hi (unhide HLR)
            by_cases hk : k < (insN ns (r : Int)).length
            · obtain ⟨j, hlj, hj1, hjn, hj3, hji⟩ := (ins_mem (unhide HRR)).1 (List.getElem_mem hk)
              have hjl : j < nl := by have := unhide HL; omega
              obtain ⟨bi, oi, rfl, -, -⟩ := RI.at_ (by omega)
              have RIc : ∀ (q : Nat) (hq : q < (insN ns (r : Int)).length), wr.cell? ⟨bi, oi + q, none⟩ = some (.int .i64 (insN ns (r : Int))[q]) := fun q hq => by
                obtain ⟨b', o', u, hA, _, hu, hc⟩ := RI.get hq
                injection hA with hA; injection hA with h1 h2; subst h1 h2
                rw [ints_get hq] at hu
                rw [hc, ← hu]
              have cj := RIc k hk
              rw [hlj] at cj
              obtain ⟨p0, hp0, hp0l⟩ := (unhide HT).par (by omega : 0 < j) hjn
              have hrj : r < j := by have := isl_le (ns := ns) p0; rw [((unhide HT).parN hjn).trans hp0, Int.toNat_natCast] at hji; omega
              have HIS := hide (show isl ns p0 = r by rw [((unhide HT).parN hjn).trans hp0, Int.toNat_natCast] at hji; exact hji)
              have cs := D.seen (unhide HS2) hjl
              rw [unhide HNEW k j hk hlj] at cs
              simp only [Bool.false_eq_true, if_false] at cs
              have fs := D.bs.frozen j
              have HSTEP := hide (fun x => dk_step (ns := ns) (i := i) hk hlj x)
              have g1 : ¬ (j : Int) ≤ (r : Int) := by omega
              have g2 : ¬ (nl : Int) ≤ (j : Int) := by omega
              have g3 : (0 : Int) ≤ (j : Int) ∧ (j : Int) < (nl : Int) := by omega
              have lgs := D.bs.lt
              clear hji hj3
              by_cases k0 : k = 0
              · have hkI : ¬ (0 : Int) < (k : Int) := by omega
                clear k0
                clear RIc hlj
                go_upto_region 20 with fail
                go_upto_region 21 with fail
                have D7 := D.put j 1
                have X7 : ExtX wr (wr.setCell ⟨gs, j, none⟩ (.int .i64 1)) [gs] := (ExtX.refl wr [gs]).set (by simp) _
                have RI7 := X7.rd RI (fun b o e hm => by have := fi b o e; have := List.mem_singleton.1 hm; omega)
                have HS7 := hide (show S2.set j 1 = marks nl (dk ns i r (k + 1)) by rw [unhide HS2, marks_set hjl]; exact marks_congr fun x _ => ((unhide HSTEP) x).symm)
                generalize hw7 : wr.setCell _ _ = w7 at *
                generalize hs7 : S2.set j 1 = S7 at *
                clear hw7 hs7 X7 D RI c1 l1 ci cs fs cj HS2 HSTEP
                have c1 := D7.bt.cell
                have l1 := D7.bt.lt
                have cp := (hN.ext D7.ext).par rfl hjn
                rw [hp0] at cp
                clear hp0
                go_wp2_with fail
                clear c1 l1 cp
                go_loopw [10] (fun v wr => ∃ m : Nat, v = .int .i64 m ∧ m < ns.length ∧ Hid (isl ns m = r) ∧ Onc w (Tr.cs ⟨some ⟨b, off, none⟩, nl, nc, aa, al, ac, view⟩) nl g gs bo oo bl ol ns l wr S7 ∧ Rd wr 1 (some ⟨bi, oi, none⟩) (insN ns (r : Int)).length (ints (insN ns (r : Int)))) (fun v _ => (intOf v).toNat)
                case atStart => exact ⟨p0, rfl, by omega, HIS, D7, RI7⟩
                case round =>
                  clear D7 RI7
                  obtain ⟨m, rfl, qm, HM, D, RI⟩ := hrel
                  have c1 := D.bt.cell
                  have l1 := D.bt.lt
                  have hm0 : (0 : Int) ≤ (m : Int) ∧ (m : Int) < (nl : Int) := by have := unhide HL; omega
                  have hm00 : (0 : Int) ≤ (m : Int) := by omega
                  obtain ⟨rr, hrr⟩ : ∃ rr, rootN ns m = rr := ⟨_, rfl⟩
                  have ct := cT m qm
                  rw [hrr] at ct
                  have HR2 := hide hrr
                  clear hrr
                  cases rr
                  · obtain ⟨p2, hp2, hlt2⟩ := (unhide HT).par (by
                      rcases Nat.eq_zero_or_pos m with h0 | h0
                      · have := unhide HR2
                        rw [h0, (unhide HT).root0] at this
                        cases this
                      · exact h0) qm
                    have HM2 := hide (show isl ns p2 = r by rw [← unhide HM, isl_up (unhide HR2) (((unhide HT).parN qm).trans hp2)])
                    go_wp2_with fail
                    refine (unhide (ct _ (hN.ext D.ext))).mono ?_
                    rintro e w8 ⟨rfl, hx⟩
                    replace D := D.step hx
                    replace RI := RI.ext hx
                    clear hx c1 l1
                    have c1 := D.bt.cell
                    have l1 := D.bt.lt
                    have cp := (hN.ext D.ext).par rfl qm
                    rw [hp2] at cp
                    clear hp2
                    go_wp2_with fail
                    go_roundw
                    case rel => exact ⟨p2, rfl, by omega, HM2, D, RI⟩
                    case measure => simp [intOf]; omega
                  · have hmr : m = r := by rw [← unhide HM, isl_root (unhide HR2)]
                    subst hmr
                    go_wp2_with fail
                    refine (unhide (ct _ (hN.ext D.ext))).mono ?_
                    rintro e w8 ⟨rfl, hx⟩
                    replace D := D.step hx
                    replace RI := RI.ext hx
                    clear hx c1 l1
                    have c1 := D.bt.cell
                    have l1 := D.bt.lt
                    have ci := D.root hi (unhide HLR)
                    go_wp2_with fail
                    go_roundw
                    case rel => exact ⟨k + 1, S7, by go_num, by omega, HS7, D, RI⟩
                    case measure => simp [intOf]; omega
              · obtain ⟨k', rfl⟩ : ∃ k', k = k' + 1 := ⟨k - 1, by omega⟩
                obtain ⟨y, hy⟩ : ∃ y, (insN ns (r : Int))[k']'(by omega) = y := ⟨_, rfl⟩
                have hyj : y < (j : Int) := by have := up_get (ins_up ns (r : Int)) (show k' < k' + 1 by omega) hk; rw [hlj, hy] at this; exact this
                have cy : _ := RIc k' (by omega)
                rw [hy] at cy
                have hyI : ¬ (j : Int) ≤ y := by omega
                have hkI : (0 : Int) < ((k' + 1 : Nat) : Int) := by omega
                clear hy
                clear RIc hlj
                go_upto_region 20 with fail
                go_upto_region 21 with fail
                have D7 := D.put j 1
                have X7 : ExtX wr (wr.setCell ⟨gs, j, none⟩ (.int .i64 1)) [gs] := (ExtX.refl wr [gs]).set (by simp) _
                have RI7 := X7.rd RI (fun b o e hm => by have := fi b o e; have := List.mem_singleton.1 hm; omega)
                have HS7 := hide (show S2.set j 1 = marks nl (dk ns i r ((k' + 1) + 1)) by rw [unhide HS2, marks_set hjl]; exact marks_congr fun x _ => ((unhide HSTEP) x).symm)
                generalize hw7 : wr.setCell _ _ = w7 at *
                generalize hs7 : S2.set j 1 = S7 at *
                clear hw7 hs7 X7 D RI c1 l1 ci cs fs cj HS2 HSTEP cy
                have c1 := D7.bt.cell
                have l1 := D7.bt.lt
                have cp := (hN.ext D7.ext).par rfl hjn
                rw [hp0] at cp
                clear hp0
                go_wp2_with fail
                clear c1 l1 cp
                go_loopw [10] (fun v wr => ∃ m : Nat, v = .int .i64 m ∧ m < ns.length ∧ Hid (isl ns m = r) ∧ Onc w (Tr.cs ⟨some ⟨b, off, none⟩, nl, nc, aa, al, ac, view⟩) nl g gs bo oo bl ol ns l wr S7 ∧ Rd wr 1 (some ⟨bi, oi, none⟩) (insN ns (r : Int)).length (ints (insN ns (r : Int)))) (fun v _ => (intOf v).toNat)
                case atStart => exact ⟨p0, rfl, by omega, HIS, D7, RI7⟩
                case round =>
                  clear D7 RI7
                  obtain ⟨m, rfl, qm, HM, D, RI⟩ := hrel
                  have c1 := D.bt.cell
                  have l1 := D.bt.lt
                  have hm0 : (0 : Int) ≤ (m : Int) ∧ (m : Int) < (nl : Int) := by have := unhide HL; omega
                  have hm00 : (0 : Int) ≤ (m : Int) := by omega
                  obtain ⟨rr, hrr⟩ : ∃ rr, rootN ns m = rr := ⟨_, rfl⟩
                  have ct := cT m qm
                  rw [hrr] at ct
                  have HR2 := hide hrr
                  clear hrr
                  cases rr
                  · obtain ⟨p2, hp2, hlt2⟩ := (unhide HT).par (by
                      rcases Nat.eq_zero_or_pos m with h0 | h0
                      · have := unhide HR2
                        rw [h0, (unhide HT).root0] at this
                        cases this
                      · exact h0) qm
                    have HM2 := hide (show isl ns p2 = r by rw [← unhide HM, isl_up (unhide HR2) (((unhide HT).parN qm).trans hp2)])
                    go_wp2_with fail
                    refine (unhide (ct _ (hN.ext D.ext))).mono ?_
                    rintro e w8 ⟨rfl, hx⟩
                    replace D := D.step hx
                    replace RI := RI.ext hx
                    clear hx c1 l1
                    have c1 := D.bt.cell
                    have l1 := D.bt.lt
                    have cp := (hN.ext D.ext).par rfl qm
                    rw [hp2] at cp
                    clear hp2
                    go_wp2_with fail
                    go_roundw
                    case rel => exact ⟨p2, rfl, by omega, HM2, D, RI⟩
                    case measure => simp [intOf]; omega
                  · have hmr : m = r := by rw [← unhide HM, isl_root (unhide HR2)]
                    subst hmr
                    go_wp2_with fail
                    refine (unhide (ct _ (hN.ext D.ext))).mono ?_
                    rintro e w8 ⟨rfl, hx⟩
                    replace D := D.step hx
                    replace RI := RI.ext hx
                    clear hx c1 l1
                    have c1 := D.bt.cell
                    have l1 := D.bt.lt
                    have ci := D.root hi (unhide HLR)
                    go_wp2_with fail
                    go_roundw
                    case rel => exact ⟨(k' + 1) + 1, S7, by go_num, by omega, HS7, D, RI⟩
                    case measure => simp [intOf]; omega
            · have HSE := hide (show S2 = marks nl (dn ns (i + 1)) by
                rw [unhide HS2, show k = (insN ns (r : Int)).length by omega]
                exact marks_congr fun x hx => unhide HALL x (by rw [unhide HL]; exact hx))
              have hkI : ¬ (k : Int) < ((insN ns (r : Int)).length : Int) := by omega
              have lbl : bl < wr.heap.size := by obtain ⟨_, _, e, h, _⟩ := D.rt.at_ hl1; injection e with e; injection e with e1 e2; subst e1; exact h
              have HD := hide D.ext
              clear RI HS2 HNEW HALL
              go_upto_region 26 with fail
              by_cases i0 : i = 0
              · have i0f : decide (0 < i) = false := by simp; omega
                clear i0
                refine wp_region_lin (by kernel_rfl) (fun w' => (ExtX wr w' [])) (fun ii vv ww => match ii with | 0 => vv = .int .i64 (i : Int) | 1 => vv = .bool false | 2 => vv = .bool false | 3 => vv = undef | 4 => vv = undef | 5 => vv = undef | 6 => vv = undef | 7 => vv = undef | 8 => vv = undef | 9 => vv = undef | 10 => vv = undef | 11 => vv = undef | 12 => vv = undef | 13 => vv = undef | 14 => vv = undef | 15 => vv = undef | 16 => vv = undef | 17 => vv = undef | 18 => vv = undef | 19 => vv = undef | 20 => vv = undef | 21 => vv = undef | 22 => vv = undef | 23 => vv = undef | 24 => vv = undef | 25 => vv = undef | 26 => vv = undef | 27 => vv = undef | 28 => vv = undef | 29 => vv = undef | 30 => vv = undef | 31 => vv = undef | 32 => vv = undef | 33 => vv = undef | 34 => vv = undef | 35 => vv = undef | 36 => vv = undef | 37 => vv = .bool false | _ => True) (fun ii => match ii with | 1 => [(0, 137)] | 2 => [(1, 138)] | 3 => [(2, 139)] | 4 => [(2, 139)] | 5 => [(2, 139)] | 6 => [(4, 141), (5, 142), (2, 139)] | 7 => [(6, 143), (2, 139)] | 8 => [(3, 140), (7, 144), (2, 139)] | 9 => [(2, 139)] | 10 => [(2, 139)] | 11 => [(9, 146), (10, 147), (2, 139)] | 12 => [(11, 148), (2, 139)] | 13 => [(8, 145), (12, 149), (2, 139)] | 14 => [(13, 150), (2, 139)] | 15 => [(14, 151)] | 16 => [(14, 151)] | 17 => [(14, 151)] | 18 => [(16, 153), (17, 154), (14, 151)] | 19 => [(18, 155), (14, 151)] | 20 => [(15, 152), (19, 156), (14, 151)] | 21 => [(20, 157), (14, 151)] | 22 => [(14, 151), (21, 158), (2, 139)] | 23 => [(22, 159), (2, 139)] | 24 => [(23, 160)] | 25 => [(23, 160)] | 26 => [(23, 160)] | 27 => [(25, 162), (26, 163), (23, 160)] | 28 => [(27, 164), (23, 160)] | 29 => [(24, 161), (28, 165), (23, 160)] | 30 => [(29, 166), (23, 160)] | 31 => [(23, 160)] | 32 => [(23, 160)] | 33 => [(31, 168), (32, 169), (23, 160)] | 34 => [(33, 170), (23, 160)] | 35 => [(30, 167), (34, 171), (23, 160)] | 36 => [(23, 160), (35, 172), (2, 139)] | 37 => [(2, 139), (36, 173)] | _ => []) (fun ii => match ii with | 0 => [6] | 3 => [1] | 4 => [5] | 5 => [6] | 9 => [5] | 10 => [6] | 15 => [1] | 16 => [5] | 17 => [6] | 24 => [4] | 25 => [5] | 26 => [6] | 31 => [5] | 32 => [6] | _ => []) (fun ii => match ii with | 3 => [2, 4, 5, 6, 7, 9, 10, 11, 12] | 4 => [2, 5, 3, 9, 10, 11, 12] | 5 => [2, 4, 3, 9, 10, 11, 12] | 6 => [2, 3, 9, 10, 11, 12] | 7 => [2, 3, 9, 10, 11, 12] | 8 => [2, 9, 10, 11, 12] | 9 => [2, 4, 5, 6, 3, 7, 10, 8] | 10 => [2, 4, 5, 6, 3, 7, 9, 8] | 11 => [2, 4, 5, 6, 3, 7, 8] | 12 => [2, 4, 5, 6, 3, 7, 8] | 13 => [2] | 14 => [2] | 15 => [14, 16, 17, 18, 19, 2] | 16 => [14, 17, 15, 2] | 17 => [14, 16, 15, 2] | 18 => [14, 15, 2] | 19 => [14, 15, 2] | 20 => [14, 2] | 21 => [14, 2] | 22 => [2] | 23 => [2] | 24 => [23, 25, 26, 27, 28, 31, 32, 33, 34, 2] | 25 => [23, 26, 24, 31, 32, 33, 34, 2] | 26 => [23, 25, 24, 31, 32, 33, 34, 2] | 27 => [23, 24, 31, 32, 33, 34, 2] | 28 => [23, 24, 31, 32, 33, 34, 2] | 29 => [23, 31, 32, 33, 34, 2] | 30 => [23, 31, 32, 33, 34, 2] | 31 => [23, 25, 26, 27, 24, 28, 29, 32, 30, 2] | 32 => [23, 25, 26, 27, 24, 28, 29, 31, 30, 2] | 33 => [23, 25, 26, 27, 24, 28, 29, 30, 2] | 34 => [23, 25, 26, 27, 24, 28, 29, 30, 2] | 35 => [23, 2] | 36 => [2] | _ => []) [37] [0, 1, 3, 7, 7, 7, 55, 119, 255, 7, 7, 1543, 3591, 8191, 16383, 32767, 32767, 32767, 229375, 491519, 1048575, 2097151, 4194303, 8388607, 16777215, 16777215, 16777215, 117440511, 251658239, 536870911, 1073741823, 16777215, 16777215, 6459228159, 15049162751, 34359738367, 68719476735, 137438953471] 221 rfl (by kernel_rfl) (ExtX.start _ _) ?_ ?_
                · rename_i hcont; clear hcont
                  refine ⟨?_, ?_, ?_, ?_, ?_, ?_, ?_, ?_, ?_, ?_, ?_, ?_, ?_, ?_, ?_, ?_, ?_, ?_, ?_, ?_, ?_, ?_, ?_, ?_, ?_, ?_, ?_, ?_, ?_, ?_, ?_, ?_, ?_, ?_, ?_, ?_, ?_, ?_, trivial⟩
                  · refine stepL_plain rfl ?_
                    rintro F a w1 jE - ⟨t6, -⟩ K hK
                    have t6 : a.tmps[6]? = some (.int .i64 (i : Int)) := t6
                    go_simp
                    exact hK _ _ jE rfl (fun _ _ _ h => h)
                  · refine stepL_plain rfl ?_
                    rintro F a w1 jE ⟨h0, t137, -⟩ - K hK
                    have h0 : (F 0) = .int .i64 (i : Int) := h0
                    rw [h0] at t137
                    clear h0
                    have e1 := i0f
                    go_simp
                    exact hK _ _ jE rfl (fun _ _ _ h => h)
                  · refine stepL_plain rfl ?_
                    rintro F a w1 jE ⟨h1, t138, -⟩ - K hK
                    have h1 : (F 1) = .bool false := h1
                    rw [h1] at t138
                    clear h1
                    go_simp
                    exact hK _ _ jE rfl (fun _ _ _ h => h)
                  · refine stepL_of ?_
                    rintro F a w1 jE ⟨h2, t139, -⟩ ⟨t1, -⟩ K hK
                    have h2 : (F 2) = .bool false := h2
                    rw [h2] at t139
                    clear h2
                    have t1 : a.tmps[1]? = some (.pointer (some ⟨g, 0, none⟩)) := t1
                    exact stepN ((wanted_of 2 true 139 _ rfl rfl t139).trans rfl) (hK undef _ jE rfl (fun _ _ _ h => h))
                  · refine stepL_of ?_
                    rintro F a w1 jE ⟨h2, t139, -⟩ ⟨t5, -⟩ K hK
                    have h2 : (F 2) = .bool false := h2
                    rw [h2] at t139
                    clear h2
                    have t5 : a.tmps[5]? = some (.slice (some ⟨bl, ol, none⟩) l.length cl) := t5
                    exact stepN ((wanted_of 2 true 139 _ rfl rfl t139).trans rfl) (hK undef _ jE rfl (fun _ _ _ h => h))
                  · refine stepL_of ?_
                    rintro F a w1 jE ⟨h2, t139, -⟩ ⟨t6, -⟩ K hK
                    have h2 : (F 2) = .bool false := h2
                    rw [h2] at t139
                    clear h2
                    have t6 : a.tmps[6]? = some (.int .i64 (i : Int)) := t6
                    exact stepN ((wanted_of 2 true 139 _ rfl rfl t139).trans rfl) (hK undef _ jE rfl (fun _ _ _ h => h))
                  · refine stepL_of ?_
                    rintro F a w1 jE ⟨h4, t141, h5, t142, h2, t139, -⟩ - K hK
                    have h4 : (F 4) = undef := h4
                    rw [h4] at t141
                    clear h4
                    have h5 : (F 5) = undef := h5
                    rw [h5] at t142
                    clear h5
                    have h2 : (F 2) = .bool false := h2
                    rw [h2] at t139
                    clear h2
                    exact stepN ((wanted_of 2 true 139 _ rfl rfl t139).trans rfl) (hK undef _ jE rfl (fun _ _ _ h => h))
                  · refine stepL_of ?_
                    rintro F a w1 jE ⟨h6, t143, h2, t139, -⟩ - K hK
                    have h6 : (F 6) = undef := h6
                    rw [h6] at t143
                    clear h6
                    have h2 : (F 2) = .bool false := h2
                    rw [h2] at t139
                    clear h2
                    exact stepN ((wanted_of 2 true 139 _ rfl rfl t139).trans rfl) (hK undef _ jE rfl (fun _ _ _ h => h))
                  · refine stepL_of ?_
                    rintro F a w1 jE ⟨h3, t140, h7, t144, h2, t139, -⟩ - K hK
                    have h3 : (F 3) = undef := h3
                    rw [h3] at t140
                    clear h3
                    have h7 : (F 7) = undef := h7
                    rw [h7] at t144
                    clear h7
                    have h2 : (F 2) = .bool false := h2
                    rw [h2] at t139
                    clear h2
                    exact stepN ((wanted_of 2 true 139 _ rfl rfl t139).trans rfl) (hK undef _ jE rfl (fun _ _ _ h => h))
                  · refine stepL_of ?_
                    rintro F a w1 jE ⟨h2, t139, -⟩ ⟨t5, -⟩ K hK
                    have h2 : (F 2) = .bool false := h2
                    rw [h2] at t139
                    clear h2
                    have t5 : a.tmps[5]? = some (.slice (some ⟨bl, ol, none⟩) l.length cl) := t5
                    exact stepN ((wanted_of 2 true 139 _ rfl rfl t139).trans rfl) (hK undef _ jE rfl (fun _ _ _ h => h))
                  · refine stepL_of ?_
                    rintro F a w1 jE ⟨h2, t139, -⟩ ⟨t6, -⟩ K hK
                    have h2 : (F 2) = .bool false := h2
                    rw [h2] at t139
                    clear h2
                    have t6 : a.tmps[6]? = some (.int .i64 (i : Int)) := t6
                    exact stepN ((wanted_of 2 true 139 _ rfl rfl t139).trans rfl) (hK undef _ jE rfl (fun _ _ _ h => h))
                  · refine stepL_of ?_
                    rintro F a w1 jE ⟨h9, t146, h10, t147, h2, t139, -⟩ - K hK
                    have h9 : (F 9) = undef := h9
                    rw [h9] at t146
                    clear h9
                    have h10 : (F 10) = undef := h10
                    rw [h10] at t147
                    clear h10
                    have h2 : (F 2) = .bool false := h2
                    rw [h2] at t139
                    clear h2
                    exact stepN ((wanted_of 2 true 139 _ rfl rfl t139).trans rfl) (hK undef _ jE rfl (fun _ _ _ h => h))
                  · refine stepL_of ?_
                    rintro F a w1 jE ⟨h11, t148, h2, t139, -⟩ - K hK
                    have h11 : (F 11) = undef := h11
                    rw [h11] at t148
                    clear h11
                    have h2 : (F 2) = .bool false := h2
                    rw [h2] at t139
                    clear h2
                    exact stepN ((wanted_of 2 true 139 _ rfl rfl t139).trans rfl) (hK undef _ jE rfl (fun _ _ _ h => h))
                  · refine stepL_of ?_
                    rintro F a w1 jE ⟨h8, t145, h12, t149, h2, t139, -⟩ - K hK
                    have h8 : (F 8) = undef := h8
                    rw [h8] at t145
                    clear h8
                    have h12 : (F 12) = undef := h12
                    rw [h12] at t149
                    clear h12
                    have h2 : (F 2) = .bool false := h2
                    rw [h2] at t139
                    clear h2
                    exact stepN ((wanted_of 2 true 139 _ rfl rfl t139).trans rfl) (hK undef _ jE rfl (fun _ _ _ h => h))
                  · refine stepL_of ?_
                    rintro F a w1 jE ⟨h13, t150, h2, t139, -⟩ - K hK
                    have h13 : (F 13) = undef := h13
                    rw [h13] at t150
                    clear h13
                    have h2 : (F 2) = .bool false := h2
                    rw [h2] at t139
                    clear h2
                    exact stepN ((wanted_of 2 true 139 _ rfl rfl t139).trans rfl) (hK undef _ jE rfl (fun _ _ _ h => h))
                  · refine stepL_of ?_
                    rintro F a w1 jE ⟨h14, t151, -⟩ ⟨t1, -⟩ K hK
                    have h14 : (F 14) = undef := h14
                    rw [h14] at t151
                    clear h14
                    have t1 : a.tmps[1]? = some (.pointer (some ⟨g, 0, none⟩)) := t1
                    exact stepN (wanted_undef 14 false 151 rfl rfl t151) (hK undef _ jE rfl (fun _ _ _ h => h))
                  · refine stepL_of ?_
                    rintro F a w1 jE ⟨h14, t151, -⟩ ⟨t5, -⟩ K hK
                    have h14 : (F 14) = undef := h14
                    rw [h14] at t151
                    clear h14
                    have t5 : a.tmps[5]? = some (.slice (some ⟨bl, ol, none⟩) l.length cl) := t5
                    exact stepN (wanted_undef 14 false 151 rfl rfl t151) (hK undef _ jE rfl (fun _ _ _ h => h))
                  · refine stepL_of ?_
                    rintro F a w1 jE ⟨h14, t151, -⟩ ⟨t6, -⟩ K hK
                    have h14 : (F 14) = undef := h14
                    rw [h14] at t151
                    clear h14
                    have t6 : a.tmps[6]? = some (.int .i64 (i : Int)) := t6
                    exact stepN (wanted_undef 14 false 151 rfl rfl t151) (hK undef _ jE rfl (fun _ _ _ h => h))
                  · refine stepL_of ?_
                    rintro F a w1 jE ⟨h16, t153, h17, t154, h14, t151, -⟩ - K hK
                    have h16 : (F 16) = undef := h16
                    rw [h16] at t153
                    clear h16
                    have h17 : (F 17) = undef := h17
                    rw [h17] at t154
                    clear h17
                    have h14 : (F 14) = undef := h14
                    rw [h14] at t151
                    clear h14
                    exact stepN (wanted_undef 14 false 151 rfl rfl t151) (hK undef _ jE rfl (fun _ _ _ h => h))
                  · refine stepL_of ?_
                    rintro F a w1 jE ⟨h18, t155, h14, t151, -⟩ - K hK
                    have h18 : (F 18) = undef := h18
                    rw [h18] at t155
                    clear h18
                    have h14 : (F 14) = undef := h14
                    rw [h14] at t151
                    clear h14
                    exact stepN (wanted_undef 14 false 151 rfl rfl t151) (hK undef _ jE rfl (fun _ _ _ h => h))
                  · refine stepL_of ?_
                    rintro F a w1 jE ⟨h15, t152, h19, t156, h14, t151, -⟩ - K hK
                    have h15 : (F 15) = undef := h15
                    rw [h15] at t152
                    clear h15
                    have h19 : (F 19) = undef := h19
                    rw [h19] at t156
                    clear h19
                    have h14 : (F 14) = undef := h14
                    rw [h14] at t151
                    clear h14
                    exact stepN (wanted_undef 14 false 151 rfl rfl t151) (hK undef _ jE rfl (fun _ _ _ h => h))
                  · refine stepL_of ?_
                    rintro F a w1 jE ⟨h20, t157, h14, t151, -⟩ - K hK
                    have h20 : (F 20) = undef := h20
                    rw [h20] at t157
                    clear h20
                    have h14 : (F 14) = undef := h14
                    rw [h14] at t151
                    clear h14
                    exact stepN (wanted_undef 14 false 151 rfl rfl t151) (hK undef _ jE rfl (fun _ _ _ h => h))
                  · refine stepL_of ?_
                    rintro F a w1 jE ⟨h14, t151, h21, t158, h2, t139, -⟩ - K hK
                    have h14 : (F 14) = undef := h14
                    rw [h14] at t151
                    clear h14
                    have h21 : (F 21) = undef := h21
                    rw [h21] at t158
                    clear h21
                    have h2 : (F 2) = .bool false := h2
                    rw [h2] at t139
                    clear h2
                    exact stepN ((wanted_of 2 true 139 _ rfl rfl t139).trans rfl) (hK undef _ jE rfl (fun _ _ _ h => h))
                  · refine stepL_of ?_
                    rintro F a w1 jE ⟨h22, t159, h2, t139, -⟩ - K hK
                    have h22 : (F 22) = undef := h22
                    rw [h22] at t159
                    clear h22
                    have h2 : (F 2) = .bool false := h2
                    rw [h2] at t139
                    clear h2
                    exact stepN ((wanted_of 2 true 139 _ rfl rfl t139).trans rfl) (hK undef _ jE rfl (fun _ _ _ h => h))
                  · refine stepL_of ?_
                    rintro F a w1 jE ⟨h23, t160, -⟩ ⟨t4, -⟩ K hK
                    have h23 : (F 23) = undef := h23
                    rw [h23] at t160
                    clear h23
                    have t4 : a.tmps[4]? = some (.slice (some ⟨bo, oo, none⟩) nl nl) := t4
                    exact stepN (wanted_undef 23 false 160 rfl rfl t160) (hK undef _ jE rfl (fun _ _ _ h => h))
                  · refine stepL_of ?_
                    rintro F a w1 jE ⟨h23, t160, -⟩ ⟨t5, -⟩ K hK
                    have h23 : (F 23) = undef := h23
                    rw [h23] at t160
                    clear h23
                    have t5 : a.tmps[5]? = some (.slice (some ⟨bl, ol, none⟩) l.length cl) := t5
                    exact stepN (wanted_undef 23 false 160 rfl rfl t160) (hK undef _ jE rfl (fun _ _ _ h => h))
                  · refine stepL_of ?_
                    rintro F a w1 jE ⟨h23, t160, -⟩ ⟨t6, -⟩ K hK
                    have h23 : (F 23) = undef := h23
                    rw [h23] at t160
                    clear h23
                    have t6 : a.tmps[6]? = some (.int .i64 (i : Int)) := t6
                    exact stepN (wanted_undef 23 false 160 rfl rfl t160) (hK undef _ jE rfl (fun _ _ _ h => h))
                  · refine stepL_of ?_
                    rintro F a w1 jE ⟨h25, t162, h26, t163, h23, t160, -⟩ - K hK
                    have h25 : (F 25) = undef := h25
                    rw [h25] at t162
                    clear h25
                    have h26 : (F 26) = undef := h26
                    rw [h26] at t163
                    clear h26
                    have h23 : (F 23) = undef := h23
                    rw [h23] at t160
                    clear h23
                    exact stepN (wanted_undef 23 false 160 rfl rfl t160) (hK undef _ jE rfl (fun _ _ _ h => h))
                  · refine stepL_of ?_
                    rintro F a w1 jE ⟨h27, t164, h23, t160, -⟩ - K hK
                    have h27 : (F 27) = undef := h27
                    rw [h27] at t164
                    clear h27
                    have h23 : (F 23) = undef := h23
                    rw [h23] at t160
                    clear h23
                    exact stepN (wanted_undef 23 false 160 rfl rfl t160) (hK undef _ jE rfl (fun _ _ _ h => h))
                  · refine stepL_of ?_
                    rintro F a w1 jE ⟨h24, t161, h28, t165, h23, t160, -⟩ - K hK
                    have h24 : (F 24) = undef := h24
                    rw [h24] at t161
                    clear h24
                    have h28 : (F 28) = undef := h28
                    rw [h28] at t165
                    clear h28
                    have h23 : (F 23) = undef := h23
                    rw [h23] at t160
                    clear h23
                    exact stepN (wanted_undef 23 false 160 rfl rfl t160) (hK undef _ jE rfl (fun _ _ _ h => h))
                  · refine stepL_of ?_
                    rintro F a w1 jE ⟨h29, t166, h23, t160, -⟩ - K hK
                    have h29 : (F 29) = undef := h29
                    rw [h29] at t166
                    clear h29
                    have h23 : (F 23) = undef := h23
                    rw [h23] at t160
                    clear h23
                    exact stepN (wanted_undef 23 false 160 rfl rfl t160) (hK undef _ jE rfl (fun _ _ _ h => h))
                  · refine stepL_of ?_
                    rintro F a w1 jE ⟨h23, t160, -⟩ ⟨t5, -⟩ K hK
                    have h23 : (F 23) = undef := h23
                    rw [h23] at t160
                    clear h23
                    have t5 : a.tmps[5]? = some (.slice (some ⟨bl, ol, none⟩) l.length cl) := t5
                    exact stepN (wanted_undef 23 false 160 rfl rfl t160) (hK undef _ jE rfl (fun _ _ _ h => h))
                  · refine stepL_of ?_
                    rintro F a w1 jE ⟨h23, t160, -⟩ ⟨t6, -⟩ K hK
                    have h23 : (F 23) = undef := h23
                    rw [h23] at t160
                    clear h23
                    have t6 : a.tmps[6]? = some (.int .i64 (i : Int)) := t6
                    exact stepN (wanted_undef 23 false 160 rfl rfl t160) (hK undef _ jE rfl (fun _ _ _ h => h))
                  · refine stepL_of ?_
                    rintro F a w1 jE ⟨h31, t168, h32, t169, h23, t160, -⟩ - K hK
                    have h31 : (F 31) = undef := h31
                    rw [h31] at t168
                    clear h31
                    have h32 : (F 32) = undef := h32
                    rw [h32] at t169
                    clear h32
                    have h23 : (F 23) = undef := h23
                    rw [h23] at t160
                    clear h23
                    exact stepN (wanted_undef 23 false 160 rfl rfl t160) (hK undef _ jE rfl (fun _ _ _ h => h))
                  · refine stepL_of ?_
                    rintro F a w1 jE ⟨h33, t170, h23, t160, -⟩ - K hK
                    have h33 : (F 33) = undef := h33
                    rw [h33] at t170
                    clear h33
                    have h23 : (F 23) = undef := h23
                    rw [h23] at t160
                    clear h23
                    exact stepN (wanted_undef 23 false 160 rfl rfl t160) (hK undef _ jE rfl (fun _ _ _ h => h))
                  · refine stepL_of ?_
                    rintro F a w1 jE ⟨h30, t167, h34, t171, h23, t160, -⟩ - K hK
                    have h30 : (F 30) = undef := h30
                    rw [h30] at t167
                    clear h30
                    have h34 : (F 34) = undef := h34
                    rw [h34] at t171
                    clear h34
                    have h23 : (F 23) = undef := h23
                    rw [h23] at t160
                    clear h23
                    exact stepN (wanted_undef 23 false 160 rfl rfl t160) (hK undef _ jE rfl (fun _ _ _ h => h))
                  · refine stepL_of ?_
                    rintro F a w1 jE ⟨h23, t160, h35, t172, h2, t139, -⟩ - K hK
                    have h23 : (F 23) = undef := h23
                    rw [h23] at t160
                    clear h23
                    have h35 : (F 35) = undef := h35
                    rw [h35] at t172
                    clear h35
                    have h2 : (F 2) = .bool false := h2
                    rw [h2] at t139
                    clear h2
                    exact stepN ((wanted_of 2 true 139 _ rfl rfl t139).trans rfl) (hK undef _ jE rfl (fun _ _ _ h => h))
                  · refine stepL_plain rfl ?_
                    rintro F a w1 jE ⟨h2, t139, h36, t173, -⟩ - K hK
                    have h2 : (F 2) = .bool false := h2
                    rw [h2] at t139
                    clear h2
                    have h36 : (F 36) = undef := h36
                    rw [h36] at t173
                    clear h36
                    go_simp
                    exact hK _ _ jE rfl (fun _ _ _ h => h)
                · rintro F w9 jE ⟨h37, -⟩
                  have h37 : (F 37) = .bool false := h37
                  have hx := jE.ext (Ext.refl _) (by simp)
                  replace D := D.step hx
                  clear jE hx
                  simp only [putL, Act.put, Nat.reduceAdd, Nat.zero_add, List.setIfInBounds_toArray, List.set_cons_succ, List.set_cons_zero]
                  rw [h37]
                  clear h37
                  clear c1 l1 ci lbl
                  go_wp2_with fail
                  go_roundw
                  case rel => exact ⟨i + 1, S2, by go_num, by omega, HSE, D⟩
                  case measure => simp [intOf]; omega
              · have i0t : decide (0 < i) = true := by simp; omega
                have hr0 : 0 < r := by
                  rcases Nat.eq_zero_or_pos r with h0 | h0
                  · obtain ⟨lt2, he⟩ := ok_root0 (unhide HT)
                    rw [unhide HLL] at he
                    have hup := roots_up ns ns.length
                    rw [unhide HLL] at hup
                    have := up_get hup (show 0 < i by omega) hi
                    have h00 : l[0] = 0 := by have h5 := he; subst h5; rfl
                    have := unhide HLR
                    omega
                  · exact h0
                obtain ⟨o1, o2⟩ := unhide HOV hr0
                have co := D.of hrn (unhide HL)
                rw [ofV, if_neg (unhide HBOX), isl_root (unhide HRR)] at co
                have lbo : bo < wr.heap.size := by obtain ⟨_, _, e, h, _⟩ := D.of_.at_ hnl0; injection e with e; injection e with e1 e2; subst e1; exact h
                have v1 : decide ((r : Int) ≤ overI ns (r : Int)) = false := by simp; omega
                have v2 : decide (overI ns (r : Int) < 0) = false := by simp; omega
                refine wp_region_lin (by kernel_rfl) (fun w' => (ExtX wr w' [])) (fun ii vv ww => match ii with | 0 => vv = .int .i64 (i : Int) | 1 => vv = .bool true | 2 => vv = .bool true | 3 => vv = (.agg (Tr.cs ⟨some ⟨b, off, none⟩, nl, nc, aa, al, ac, view⟩)) | 4 => vv = .slice (some ⟨bl, ol, none⟩) l.length cl | 5 => vv = .int .i64 (i : Int) | 6 => vv = .pointer (some ⟨bl, ol + i, none⟩) | 7 => vv = .int .i64 (r : Int) | 8 => vv = .int .i64 (overI ns (r : Int)) | 9 => vv = .slice (some ⟨bl, ol, none⟩) l.length cl | 10 => vv = .int .i64 (i : Int) | 11 => vv = .pointer (some ⟨bl, ol + i, none⟩) | 12 => vv = .int .i64 (r : Int) | 13 => vv = .bool false | 14 => vv = .bool false | 15 => vv = (.agg (Tr.cs ⟨some ⟨b, off, none⟩, nl, nc, aa, al, ac, view⟩)) | 16 => vv = .slice (some ⟨bl, ol, none⟩) l.length cl | 17 => vv = .int .i64 (i : Int) | 18 => vv = .pointer (some ⟨bl, ol + i, none⟩) | 19 => vv = .int .i64 (r : Int) | 20 => vv = .int .i64 (overI ns (r : Int)) | 21 => vv = .bool false | 22 => vv = .bool false | 23 => vv = .bool false | 24 => vv = .slice (some ⟨bo, oo, none⟩) nl nl | 25 => vv = .slice (some ⟨bl, ol, none⟩) l.length cl | 26 => vv = .int .i64 (i : Int) | 27 => vv = .pointer (some ⟨bl, ol + i, none⟩) | 28 => vv = .int .i64 (r : Int) | 29 => vv = .pointer (some ⟨bo, oo + r, none⟩) | 30 => vv = .int .i64 (r : Int) | 31 => vv = .slice (some ⟨bl, ol, none⟩) l.length cl | 32 => vv = .int .i64 (i : Int) | 33 => vv = .pointer (some ⟨bl, ol + i, none⟩) | 34 => vv = .int .i64 (r : Int) | 35 => vv = .bool false | 36 => vv = .bool false | 37 => vv = .bool false | _ => True) (fun ii => match ii with | 1 => [(0, 137)] | 2 => [(1, 138)] | 3 => [(2, 139)] | 4 => [(2, 139)] | 5 => [(2, 139)] | 6 => [(4, 141), (5, 142), (2, 139)] | 7 => [(6, 143), (2, 139)] | 8 => [(3, 140), (7, 144), (2, 139)] | 9 => [(2, 139)] | 10 => [(2, 139)] | 11 => [(9, 146), (10, 147), (2, 139)] | 12 => [(11, 148), (2, 139)] | 13 => [(8, 145), (12, 149), (2, 139)] | 14 => [(13, 150), (2, 139)] | 15 => [(14, 151)] | 16 => [(14, 151)] | 17 => [(14, 151)] | 18 => [(16, 153), (17, 154), (14, 151)] | 19 => [(18, 155), (14, 151)] | 20 => [(15, 152), (19, 156), (14, 151)] | 21 => [(20, 157), (14, 151)] | 22 => [(14, 151), (21, 158), (2, 139)] | 23 => [(22, 159), (2, 139)] | 24 => [(23, 160)] | 25 => [(23, 160)] | 26 => [(23, 160)] | 27 => [(25, 162), (26, 163), (23, 160)] | 28 => [(27, 164), (23, 160)] | 29 => [(24, 161), (28, 165), (23, 160)] | 30 => [(29, 166), (23, 160)] | 31 => [(23, 160)] | 32 => [(23, 160)] | 33 => [(31, 168), (32, 169), (23, 160)] | 34 => [(33, 170), (23, 160)] | 35 => [(30, 167), (34, 171), (23, 160)] | 36 => [(23, 160), (35, 172), (2, 139)] | 37 => [(2, 139), (36, 173)] | _ => []) (fun ii => match ii with | 0 => [6] | 3 => [1] | 4 => [5] | 5 => [6] | 9 => [5] | 10 => [6] | 15 => [1] | 16 => [5] | 17 => [6] | 24 => [4] | 25 => [5] | 26 => [6] | 31 => [5] | 32 => [6] | _ => []) (fun ii => match ii with | 3 => [2, 4, 5, 6, 7, 9, 10, 11, 12] | 4 => [2, 5, 3, 9, 10, 11, 12] | 5 => [2, 4, 3, 9, 10, 11, 12] | 6 => [2, 3, 9, 10, 11, 12] | 7 => [2, 3, 9, 10, 11, 12] | 8 => [2, 9, 10, 11, 12] | 9 => [2, 4, 5, 6, 3, 7, 10, 8] | 10 => [2, 4, 5, 6, 3, 7, 9, 8] | 11 => [2, 4, 5, 6, 3, 7, 8] | 12 => [2, 4, 5, 6, 3, 7, 8] | 13 => [2] | 14 => [2] | 15 => [14, 16, 17, 18, 19, 2] | 16 => [14, 17, 15, 2] | 17 => [14, 16, 15, 2] | 18 => [14, 15, 2] | 19 => [14, 15, 2] | 20 => [14, 2] | 21 => [14, 2] | 22 => [2] | 23 => [2] | 24 => [23, 25, 26, 27, 28, 31, 32, 33, 34, 2] | 25 => [23, 26, 24, 31, 32, 33, 34, 2] | 26 => [23, 25, 24, 31, 32, 33, 34, 2] | 27 => [23, 24, 31, 32, 33, 34, 2] | 28 => [23, 24, 31, 32, 33, 34, 2] | 29 => [23, 31, 32, 33, 34, 2] | 30 => [23, 31, 32, 33, 34, 2] | 31 => [23, 25, 26, 27, 24, 28, 29, 32, 30, 2] | 32 => [23, 25, 26, 27, 24, 28, 29, 31, 30, 2] | 33 => [23, 25, 26, 27, 24, 28, 29, 30, 2] | 34 => [23, 25, 26, 27, 24, 28, 29, 30, 2] | 35 => [23, 2] | 36 => [2] | _ => []) [37] [0, 1, 3, 7, 7, 7, 55, 119, 255, 7, 7, 1543, 3591, 8191, 16383, 32767, 32767, 32767, 229375, 491519, 1048575, 2097151, 4194303, 8388607, 16777215, 16777215, 16777215, 117440511, 251658239, 536870911, 1073741823, 16777215, 16777215, 6459228159, 15049162751, 34359738367, 68719476735, 137438953471] 221 rfl (by kernel_rfl) (ExtX.start _ _) ?_ ?_
                · rename_i hcont; clear hcont
                  refine ⟨?_, ?_, ?_, ?_, ?_, ?_, ?_, ?_, ?_, ?_, ?_, ?_, ?_, ?_, ?_, ?_, ?_, ?_, ?_, ?_, ?_, ?_, ?_, ?_, ?_, ?_, ?_, ?_, ?_, ?_, ?_, ?_, ?_, ?_, ?_, ?_, ?_, ?_, trivial⟩
                  · refine stepL_plain rfl ?_
                    rintro F a w1 jE - ⟨t6, -⟩ K hK
                    have t6 : a.tmps[6]? = some (.int .i64 (i : Int)) := t6
                    go_simp
                    exact hK _ _ jE rfl (fun _ _ _ h => h)
                  · refine stepL_plain rfl ?_
                    rintro F a w1 jE ⟨h0, t137, -⟩ - K hK
                    have h0 : (F 0) = .int .i64 (i : Int) := h0
                    rw [h0] at t137
                    clear h0
                    have e1 := i0t
                    go_simp
                    exact hK _ _ jE rfl (fun _ _ _ h => h)
                  · refine stepL_plain rfl ?_
                    rintro F a w1 jE ⟨h1, t138, -⟩ - K hK
                    have h1 : (F 1) = .bool true := h1
                    rw [h1] at t138
                    clear h1
                    go_simp
                    exact hK _ _ jE rfl (fun _ _ _ h => h)
                  · refine stepL_of ?_
                    rintro F a w1 jE ⟨h2, t139, -⟩ ⟨t1, -⟩ K hK
                    have h2 : (F 2) = .bool true := h2
                    rw [h2] at t139
                    clear h2
                    have t1 : a.tmps[1]? = some (.pointer (some ⟨g, 0, none⟩)) := t1
                    refine stepY ((wanted_of 2 true 139 _ rfl rfl t139).trans rfl) ?_
                    have c := (jE.blk D.bt (by simp)).cell
                    refine wp_load_blk 25 _ rfl g (eval_tmp t1) 25 (Tr.cs ⟨some ⟨b, off, none⟩, nl, nc, aa, al, ac, view⟩) _ (jE.blk D.bt (by simp)) Try.underlying25 rfl (info_tree _) ?_
                    exact hK _ _ jE rfl (fun _ _ _ h => h)
                  · refine stepL_of ?_
                    rintro F a w1 jE ⟨h2, t139, -⟩ ⟨t5, -⟩ K hK
                    have h2 : (F 2) = .bool true := h2
                    rw [h2] at t139
                    clear h2
                    have t5 : a.tmps[5]? = some (.slice (some ⟨bl, ol, none⟩) l.length cl) := t5
                    refine stepY ((wanted_of 2 true 139 _ rfl rfl t139).trans rfl) ?_
                    go_simp
                    exact hK _ _ jE rfl (fun _ _ _ h => h)
                  · refine stepL_of ?_
                    rintro F a w1 jE ⟨h2, t139, -⟩ ⟨t6, -⟩ K hK
                    have h2 : (F 2) = .bool true := h2
                    rw [h2] at t139
                    clear h2
                    have t6 : a.tmps[6]? = some (.int .i64 (i : Int)) := t6
                    refine stepY ((wanted_of 2 true 139 _ rfl rfl t139).trans rfl) ?_
                    go_simp
                    exact hK _ _ jE rfl (fun _ _ _ h => h)
                  · refine stepL_of ?_
                    rintro F a w1 jE ⟨h4, t141, h5, t142, h2, t139, -⟩ - K hK
                    have h4 : (F 4) = .slice (some ⟨bl, ol, none⟩) l.length cl := h4
                    rw [h4] at t141
                    clear h4
                    have h5 : (F 5) = .int .i64 (i : Int) := h5
                    rw [h5] at t142
                    clear h5
                    have h2 : (F 2) = .bool true := h2
                    rw [h2] at t139
                    clear h2
                    refine stepY ((wanted_of 2 true 139 _ rfl rfl t139).trans rfl) ?_
                    go_simp
                    exact hK _ _ jE rfl (fun _ _ _ h => h)
                  · refine stepL_of ?_
                    rintro F a w1 jE ⟨h6, t143, h2, t139, -⟩ - K hK
                    have h6 : (F 6) = .pointer (some ⟨bl, ol + i, none⟩) := h6
                    rw [h6] at t143
                    clear h6
                    have h2 : (F 2) = .bool true := h2
                    rw [h2] at t139
                    clear h2
                    refine stepY ((wanted_of 2 true 139 _ rfl rfl t139).trans rfl) ?_
                    have c := ((jE.ext (Ext.refl _) (by simp)).cells.1 bl _ lbl).trans ci
                    go_simp
                    exact hK _ _ jE rfl (fun _ _ _ h => h)
                  · refine stepL_of ?_
                    rintro F a w1 jE ⟨h3, t140, h7, t144, h2, t139, -⟩ - K hK
                    have h3 : (F 3) = (.agg (Tr.cs ⟨some ⟨b, off, none⟩, nl, nc, aa, al, ac, view⟩)) := h3
                    rw [h3] at t140
                    clear h3
                    have h7 : (F 7) = .int .i64 (r : Int) := h7
                    rw [h7] at t144
                    clear h7
                    have h2 : (F 2) = .bool true := h2
                    rw [h2] at t139
                    clear h2
                    refine stepY ((wanted_of 2 true 139 _ rfl rfl t139).trans rfl) ?_
                    go_simp
                    with_reducible refine (unhide (cV _ _ (hN.ext (D.ext.trans (jE.ext (Ext.refl _) (by simp)))))).mono ?_
                    rintro e w2 ⟨rfl, hx⟩
                    exact hK _ _ (jE.trans hx) (rfl) (by intro jq hj uq h; have hj : jq ∈ [2, 9, 10, 11, 12] := hj; simp only [List.mem_cons, List.not_mem_nil, or_false] at hj; rcases hj with rfl | rfl | rfl | rfl | rfl; exact h; exact h; exact h; exact h; exact h)
                  · refine stepL_of ?_
                    rintro F a w1 jE ⟨h2, t139, -⟩ ⟨t5, -⟩ K hK
                    have h2 : (F 2) = .bool true := h2
                    rw [h2] at t139
                    clear h2
                    have t5 : a.tmps[5]? = some (.slice (some ⟨bl, ol, none⟩) l.length cl) := t5
                    refine stepY ((wanted_of 2 true 139 _ rfl rfl t139).trans rfl) ?_
                    go_simp
                    exact hK _ _ jE rfl (fun _ _ _ h => h)
                  · refine stepL_of ?_
                    rintro F a w1 jE ⟨h2, t139, -⟩ ⟨t6, -⟩ K hK
                    have h2 : (F 2) = .bool true := h2
                    rw [h2] at t139
                    clear h2
                    have t6 : a.tmps[6]? = some (.int .i64 (i : Int)) := t6
                    refine stepY ((wanted_of 2 true 139 _ rfl rfl t139).trans rfl) ?_
                    go_simp
                    exact hK _ _ jE rfl (fun _ _ _ h => h)
                  · refine stepL_of ?_
                    rintro F a w1 jE ⟨h9, t146, h10, t147, h2, t139, -⟩ - K hK
                    have h9 : (F 9) = .slice (some ⟨bl, ol, none⟩) l.length cl := h9
                    rw [h9] at t146
                    clear h9
                    have h10 : (F 10) = .int .i64 (i : Int) := h10
                    rw [h10] at t147
                    clear h10
                    have h2 : (F 2) = .bool true := h2
                    rw [h2] at t139
                    clear h2
                    refine stepY ((wanted_of 2 true 139 _ rfl rfl t139).trans rfl) ?_
                    go_simp
                    exact hK _ _ jE rfl (fun _ _ _ h => h)
                  · refine stepL_of ?_
                    rintro F a w1 jE ⟨h11, t148, h2, t139, -⟩ - K hK
                    have h11 : (F 11) = .pointer (some ⟨bl, ol + i, none⟩) := h11
                    rw [h11] at t148
                    clear h11
                    have h2 : (F 2) = .bool true := h2
                    rw [h2] at t139
                    clear h2
                    refine stepY ((wanted_of 2 true 139 _ rfl rfl t139).trans rfl) ?_
                    have c := ((jE.ext (Ext.refl _) (by simp)).cells.1 bl _ lbl).trans ci
                    go_simp
                    exact hK _ _ jE rfl (fun _ _ _ h => h)
                  · refine stepL_of ?_
                    rintro F a w1 jE ⟨h8, t145, h12, t149, h2, t139, -⟩ - K hK
                    have h8 : (F 8) = .int .i64 (overI ns (r : Int)) := h8
                    rw [h8] at t145
                    clear h8
                    have h12 : (F 12) = .int .i64 (r : Int) := h12
                    rw [h12] at t149
                    clear h12
                    have h2 : (F 2) = .bool true := h2
                    rw [h2] at t139
                    clear h2
                    refine stepY ((wanted_of 2 true 139 _ rfl rfl t139).trans rfl) ?_
                    have e1 := v1
                    go_simp
                    exact hK _ _ jE rfl (fun _ _ _ h => h)
                  · refine stepL_of ?_
                    rintro F a w1 jE ⟨h13, t150, h2, t139, -⟩ - K hK
                    have h13 : (F 13) = .bool false := h13
                    rw [h13] at t150
                    clear h13
                    have h2 : (F 2) = .bool true := h2
                    rw [h2] at t139
                    clear h2
                    refine stepY ((wanted_of 2 true 139 _ rfl rfl t139).trans rfl) ?_
                    go_simp
                    exact hK _ _ jE rfl (fun _ _ _ h => h)
                  · refine stepL_of ?_
                    rintro F a w1 jE ⟨h14, t151, -⟩ ⟨t1, -⟩ K hK
                    have h14 : (F 14) = .bool false := h14
                    rw [h14] at t151
                    clear h14
                    have t1 : a.tmps[1]? = some (.pointer (some ⟨g, 0, none⟩)) := t1
                    refine stepY ((wanted_of 14 false 151 _ rfl rfl t151).trans rfl) ?_
                    have c := (jE.blk D.bt (by simp)).cell
                    refine wp_load_blk 25 _ rfl g (eval_tmp t1) 25 (Tr.cs ⟨some ⟨b, off, none⟩, nl, nc, aa, al, ac, view⟩) _ (jE.blk D.bt (by simp)) Try.underlying25 rfl (info_tree _) ?_
                    exact hK _ _ jE rfl (fun _ _ _ h => h)
                  · refine stepL_of ?_
                    rintro F a w1 jE ⟨h14, t151, -⟩ ⟨t5, -⟩ K hK
                    have h14 : (F 14) = .bool false := h14
                    rw [h14] at t151
                    clear h14
                    have t5 : a.tmps[5]? = some (.slice (some ⟨bl, ol, none⟩) l.length cl) := t5
                    refine stepY ((wanted_of 14 false 151 _ rfl rfl t151).trans rfl) ?_
                    go_simp
                    exact hK _ _ jE rfl (fun _ _ _ h => h)
                  · refine stepL_of ?_
                    rintro F a w1 jE ⟨h14, t151, -⟩ ⟨t6, -⟩ K hK
                    have h14 : (F 14) = .bool false := h14
                    rw [h14] at t151
                    clear h14
                    have t6 : a.tmps[6]? = some (.int .i64 (i : Int)) := t6
                    refine stepY ((wanted_of 14 false 151 _ rfl rfl t151).trans rfl) ?_
                    go_simp
                    exact hK _ _ jE rfl (fun _ _ _ h => h)
                  · refine stepL_of ?_
                    rintro F a w1 jE ⟨h16, t153, h17, t154, h14, t151, -⟩ - K hK
                    have h16 : (F 16) = .slice (some ⟨bl, ol, none⟩) l.length cl := h16
                    rw [h16] at t153
                    clear h16
                    have h17 : (F 17) = .int .i64 (i : Int) := h17
                    rw [h17] at t154
                    clear h17
                    have h14 : (F 14) = .bool false := h14
                    rw [h14] at t151
                    clear h14
                    refine stepY ((wanted_of 14 false 151 _ rfl rfl t151).trans rfl) ?_
                    go_simp
                    exact hK _ _ jE rfl (fun _ _ _ h => h)
                  · refine stepL_of ?_
                    rintro F a w1 jE ⟨h18, t155, h14, t151, -⟩ - K hK
                    have h18 : (F 18) = .pointer (some ⟨bl, ol + i, none⟩) := h18
                    rw [h18] at t155
                    clear h18
                    have h14 : (F 14) = .bool false := h14
                    rw [h14] at t151
                    clear h14
                    refine stepY ((wanted_of 14 false 151 _ rfl rfl t151).trans rfl) ?_
                    have c := ((jE.ext (Ext.refl _) (by simp)).cells.1 bl _ lbl).trans ci
                    go_simp
                    exact hK _ _ jE rfl (fun _ _ _ h => h)
                  · refine stepL_of ?_
                    rintro F a w1 jE ⟨h15, t152, h19, t156, h14, t151, -⟩ - K hK
                    have h15 : (F 15) = (.agg (Tr.cs ⟨some ⟨b, off, none⟩, nl, nc, aa, al, ac, view⟩)) := h15
                    rw [h15] at t152
                    clear h15
                    have h19 : (F 19) = .int .i64 (r : Int) := h19
                    rw [h19] at t156
                    clear h19
                    have h14 : (F 14) = .bool false := h14
                    rw [h14] at t151
                    clear h14
                    refine stepY ((wanted_of 14 false 151 _ rfl rfl t151).trans rfl) ?_
                    go_simp
                    with_reducible refine (unhide (cV _ _ (hN.ext (D.ext.trans (jE.ext (Ext.refl _) (by simp)))))).mono ?_
                    rintro e w2 ⟨rfl, hx⟩
                    exact hK _ _ (jE.trans hx) (rfl) (by intro jq hj uq h; have hj : jq ∈ [14, 2] := hj; simp only [List.mem_cons, List.not_mem_nil, or_false] at hj; rcases hj with rfl | rfl; exact h; exact h)
                  · refine stepL_of ?_
                    rintro F a w1 jE ⟨h20, t157, h14, t151, -⟩ - K hK
                    have h20 : (F 20) = .int .i64 (overI ns (r : Int)) := h20
                    rw [h20] at t157
                    clear h20
                    have h14 : (F 14) = .bool false := h14
                    rw [h14] at t151
                    clear h14
                    refine stepY ((wanted_of 14 false 151 _ rfl rfl t151).trans rfl) ?_
                    have e1 := v2
                    go_simp
                    exact hK _ _ jE rfl (fun _ _ _ h => h)
                  · refine stepL_of ?_
                    rintro F a w1 jE ⟨h14, t151, h21, t158, h2, t139, -⟩ - K hK
                    have h14 : (F 14) = .bool false := h14
                    rw [h14] at t151
                    clear h14
                    have h21 : (F 21) = .bool false := h21
                    rw [h21] at t158
                    clear h21
                    have h2 : (F 2) = .bool true := h2
                    rw [h2] at t139
                    clear h2
                    refine stepY ((wanted_of 2 true 139 _ rfl rfl t139).trans rfl) ?_
                    go_simp
                    exact hK _ _ jE rfl (fun _ _ _ h => h)
                  · refine stepL_of ?_
                    rintro F a w1 jE ⟨h22, t159, h2, t139, -⟩ - K hK
                    have h22 : (F 22) = .bool false := h22
                    rw [h22] at t159
                    clear h22
                    have h2 : (F 2) = .bool true := h2
                    rw [h2] at t139
                    clear h2
                    refine stepY ((wanted_of 2 true 139 _ rfl rfl t139).trans rfl) ?_
                    go_simp
                    exact hK _ _ jE rfl (fun _ _ _ h => h)
                  · refine stepL_of ?_
                    rintro F a w1 jE ⟨h23, t160, -⟩ ⟨t4, -⟩ K hK
                    have h23 : (F 23) = .bool false := h23
                    rw [h23] at t160
                    clear h23
                    have t4 : a.tmps[4]? = some (.slice (some ⟨bo, oo, none⟩) nl nl) := t4
                    refine stepY ((wanted_of 23 false 160 _ rfl rfl t160).trans rfl) ?_
                    go_simp
                    exact hK _ _ jE rfl (fun _ _ _ h => h)
                  · refine stepL_of ?_
                    rintro F a w1 jE ⟨h23, t160, -⟩ ⟨t5, -⟩ K hK
                    have h23 : (F 23) = .bool false := h23
                    rw [h23] at t160
                    clear h23
                    have t5 : a.tmps[5]? = some (.slice (some ⟨bl, ol, none⟩) l.length cl) := t5
                    refine stepY ((wanted_of 23 false 160 _ rfl rfl t160).trans rfl) ?_
                    go_simp
                    exact hK _ _ jE rfl (fun _ _ _ h => h)
                  · refine stepL_of ?_
                    rintro F a w1 jE ⟨h23, t160, -⟩ ⟨t6, -⟩ K hK
                    have h23 : (F 23) = .bool false := h23
                    rw [h23] at t160
                    clear h23
                    have t6 : a.tmps[6]? = some (.int .i64 (i : Int)) := t6
                    refine stepY ((wanted_of 23 false 160 _ rfl rfl t160).trans rfl) ?_
                    go_simp
                    exact hK _ _ jE rfl (fun _ _ _ h => h)
                  · refine stepL_of ?_
                    rintro F a w1 jE ⟨h25, t162, h26, t163, h23, t160, -⟩ - K hK
                    have h25 : (F 25) = .slice (some ⟨bl, ol, none⟩) l.length cl := h25
                    rw [h25] at t162
                    clear h25
                    have h26 : (F 26) = .int .i64 (i : Int) := h26
                    rw [h26] at t163
                    clear h26
                    have h23 : (F 23) = .bool false := h23
                    rw [h23] at t160
                    clear h23
                    refine stepY ((wanted_of 23 false 160 _ rfl rfl t160).trans rfl) ?_
                    go_simp
                    exact hK _ _ jE rfl (fun _ _ _ h => h)
                  · refine stepL_of ?_
                    rintro F a w1 jE ⟨h27, t164, h23, t160, -⟩ - K hK
                    have h27 : (F 27) = .pointer (some ⟨bl, ol + i, none⟩) := h27
                    rw [h27] at t164
                    clear h27
                    have h23 : (F 23) = .bool false := h23
                    rw [h23] at t160
                    clear h23
                    refine stepY ((wanted_of 23 false 160 _ rfl rfl t160).trans rfl) ?_
                    have c := ((jE.ext (Ext.refl _) (by simp)).cells.1 bl _ lbl).trans ci
                    go_simp
                    exact hK _ _ jE rfl (fun _ _ _ h => h)
                  · refine stepL_of ?_
                    rintro F a w1 jE ⟨h24, t161, h28, t165, h23, t160, -⟩ - K hK
                    have h24 : (F 24) = .slice (some ⟨bo, oo, none⟩) nl nl := h24
                    rw [h24] at t161
                    clear h24
                    have h28 : (F 28) = .int .i64 (r : Int) := h28
                    rw [h28] at t165
                    clear h28
                    have h23 : (F 23) = .bool false := h23
                    rw [h23] at t160
                    clear h23
                    refine stepY ((wanted_of 23 false 160 _ rfl rfl t160).trans rfl) ?_
                    go_simp
                    exact hK _ _ jE rfl (fun _ _ _ h => h)
                  · refine stepL_of ?_
                    rintro F a w1 jE ⟨h29, t166, h23, t160, -⟩ - K hK
                    have h29 : (F 29) = .pointer (some ⟨bo, oo + r, none⟩) := h29
                    rw [h29] at t166
                    clear h29
                    have h23 : (F 23) = .bool false := h23
                    rw [h23] at t160
                    clear h23
                    refine stepY ((wanted_of 23 false 160 _ rfl rfl t160).trans rfl) ?_
                    have c := ((jE.ext (Ext.refl _) (by simp)).cells.1 bo _ lbo).trans co
                    go_simp
                    exact hK _ _ jE rfl (fun _ _ _ h => h)
                  · refine stepL_of ?_
                    rintro F a w1 jE ⟨h23, t160, -⟩ ⟨t5, -⟩ K hK
                    have h23 : (F 23) = .bool false := h23
                    rw [h23] at t160
                    clear h23
                    have t5 : a.tmps[5]? = some (.slice (some ⟨bl, ol, none⟩) l.length cl) := t5
                    refine stepY ((wanted_of 23 false 160 _ rfl rfl t160).trans rfl) ?_
                    go_simp
                    exact hK _ _ jE rfl (fun _ _ _ h => h)
                  · refine stepL_of ?_
                    rintro F a w1 jE ⟨h23, t160, -⟩ ⟨t6, -⟩ K hK
                    have h23 : (F 23) = .bool false := h23
                    rw [h23] at t160
                    clear h23
                    have t6 : a.tmps[6]? = some (.int .i64 (i : Int)) := t6
                    refine stepY ((wanted_of 23 false 160 _ rfl rfl t160).trans rfl) ?_
                    go_simp
                    exact hK _ _ jE rfl (fun _ _ _ h => h)
                  · refine stepL_of ?_
                    rintro F a w1 jE ⟨h31, t168, h32, t169, h23, t160, -⟩ - K hK
                    have h31 : (F 31) = .slice (some ⟨bl, ol, none⟩) l.length cl := h31
                    rw [h31] at t168
                    clear h31
                    have h32 : (F 32) = .int .i64 (i : Int) := h32
                    rw [h32] at t169
                    clear h32
                    have h23 : (F 23) = .bool false := h23
                    rw [h23] at t160
                    clear h23
                    refine stepY ((wanted_of 23 false 160 _ rfl rfl t160).trans rfl) ?_
                    go_simp
                    exact hK _ _ jE rfl (fun _ _ _ h => h)
                  · refine stepL_of ?_
                    rintro F a w1 jE ⟨h33, t170, h23, t160, -⟩ - K hK
                    have h33 : (F 33) = .pointer (some ⟨bl, ol + i, none⟩) := h33
                    rw [h33] at t170
                    clear h33
                    have h23 : (F 23) = .bool false := h23
                    rw [h23] at t160
                    clear h23
                    refine stepY ((wanted_of 23 false 160 _ rfl rfl t160).trans rfl) ?_
                    have c := ((jE.ext (Ext.refl _) (by simp)).cells.1 bl _ lbl).trans ci
                    go_simp
                    exact hK _ _ jE rfl (fun _ _ _ h => h)
                  · refine stepL_of ?_
                    rintro F a w1 jE ⟨h30, t167, h34, t171, h23, t160, -⟩ - K hK
                    have h30 : (F 30) = .int .i64 (r : Int) := h30
                    rw [h30] at t167
                    clear h30
                    have h34 : (F 34) = .int .i64 (r : Int) := h34
                    rw [h34] at t171
                    clear h34
                    have h23 : (F 23) = .bool false := h23
                    rw [h23] at t160
                    clear h23
                    refine stepY ((wanted_of 23 false 160 _ rfl rfl t160).trans rfl) ?_
                    go_simp
                    exact hK _ _ jE rfl (fun _ _ _ h => h)
                  · refine stepL_of ?_
                    rintro F a w1 jE ⟨h23, t160, h35, t172, h2, t139, -⟩ - K hK
                    have h23 : (F 23) = .bool false := h23
                    rw [h23] at t160
                    clear h23
                    have h35 : (F 35) = .bool false := h35
                    rw [h35] at t172
                    clear h35
                    have h2 : (F 2) = .bool true := h2
                    rw [h2] at t139
                    clear h2
                    refine stepY ((wanted_of 2 true 139 _ rfl rfl t139).trans rfl) ?_
                    go_simp
                    exact hK _ _ jE rfl (fun _ _ _ h => h)
                  · refine stepL_plain rfl ?_
                    rintro F a w1 jE ⟨h2, t139, h36, t173, -⟩ - K hK
                    have h2 : (F 2) = .bool true := h2
                    rw [h2] at t139
                    clear h2
                    have h36 : (F 36) = .bool false := h36
                    rw [h36] at t173
                    clear h36
                    go_simp
                    exact hK _ _ jE rfl (fun _ _ _ h => h)
                · rintro F w9 jE ⟨h37, -⟩
                  have h37 : (F 37) = .bool false := h37
                  have hx := jE.ext (Ext.refl _) (by simp)
                  replace D := D.step hx
                  clear jE hx
                  simp only [putL, Act.put, Nat.reduceAdd, Nat.zero_add, List.setIfInBounds_toArray, List.set_cons_succ, List.set_cons_zero]
                  rw [h37]
                  clear h37
                  clear c1 l1 ci lbl co lbo
                  go_wp2_with fail
                  go_roundw
                  case rel => exact ⟨i + 1, S2, by go_num, by omega, HSE, D⟩
                  case measure => simp [intOf]; omega
    · have HSE := hide (show S = marks nl (fun j => decide (1 ≤ j ∧ nK ns j ≠ 3)) by
        rw [unhide HS, show i = l.length by omega, ← unhide HLL]
        exact marks_congr fun x hx => dn_end (unhide HT) (by rw [unhide HL]; exact hx))
      have hiI : ¬ (i : Int) < (l.length : Int) := by omega
      clear HS
      go_wp2_with fail
      clear c1 l1
      go_loopw [11] (fun v wr => ∃ x : Nat, v = .int .i64 x ∧ 1 ≤ x ∧ x ≤ nl ∧ Onc w (Tr.cs ⟨some ⟨b, off, none⟩, nl, nc, aa, al, ac, view⟩) nl g gs bo oo bl ol ns l wr S) (fun v _ => nl - (intOf v).toNat)
      case atStart => exact ⟨1, rfl, by omega, by omega, D⟩
      case round =>
        clear D
        obtain ⟨x, rfl, x1, x2, D⟩ := hrel
        have c1 := D.bt.cell
        have l1 := D.bt.lt
        by_cases hx : x < nl
        · have hxn : x < ns.length := by rw [unhide HL]; exact hx
          have hxI : (0 : Int) ≤ (x : Int) ∧ (x : Int) < (nl : Int) := by omega
          have ck := (hN.ext D.ext).same rfl hxn
          have cs := D.seen (unhide HSE) hx
          have co := D.of hxn (unhide HL)
          have ls := D.bs.lt
          by_cases h3 : nK ns x = 3
          · have k3 : (nK ns x != 3) = false := by simpa using h3
            rw [ofV, if_pos h3] at co
            rw [if_neg (by simp [h3])] at cs
            generalize nK ns x = kk at *
            clear h3
            go_wp2_with fail
            go_roundw
            case rel => exact ⟨x + 1, by go_num, by omega, by omega, D⟩
            case measure => simp [intOf]; omega
          · have k3 : (nK ns x != 3) = true := by simpa using h3
            rw [if_pos (by simp [h3]; omega)] at cs
            clear co
            generalize nK ns x = kk at *
            clear h3
            go_wp2_with fail
            go_roundw
            case rel => exact ⟨x + 1, by go_num, by omega, by omega, D⟩
            case measure => simp [intOf]; omega
        · have hxI : ¬ (x : Int) < (nl : Int) := by omega
          have cs := D.seen (unhide HSE) hnl0
          rw [if_neg (by simp)] at cs
          have ls := D.bs.lt
          have in0 : (0 : Int) < (nl : Int) := by omega
          go_wp2_with fail
          refine (unhide (cW _)).mono ?_
          rintro e w9 ⟨rfl, hx⟩
          go_wp2_with fail
          go_ret
          exact ⟨rfl, D.ext.trans hx⟩
end
end Go.Proofs.Ytnolbmfjgfojhaa
