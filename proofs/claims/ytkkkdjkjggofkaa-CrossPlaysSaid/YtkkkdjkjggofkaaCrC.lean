/- Layer 20: items, as they are measured (walk). -/
import Derived.Test.YtkkkdjkjggofkaaCrB
import Derived.Deep.Cut
import Derived.Outline
import Derived.Great.Ranges
namespace Go.Proofs.Ytkkkdjkjggofkaa
open Go.RowKit
theorem wp_boxTo {P : Program} {w : World} {o : Oper} {a : Act} {K : Act → World → Prop} {Q : Exit → Act → World → Prop} (t : TypeId) (x : Operand) (ho : o.op = .box t x) (cells : Array Value) (hx : (a.eval x).cells = cells)
    (h : K (a.put o.dst (.pointer (some ⟨w.heap.size, 0, none⟩))) (w.alloc (.cells cells t))) : o.wp P a w K Q := by
  subst hx
  unfold Oper.wp execOp
  simp only [ho, Sem.run_bind, Instr.box, newVar, newRow, run_newObj_alloc, Sem.run_pure, Result.andThen_ok]
  exact h
def zsty : Sty := ⟨0, false, 0, 0, ⟨0, 0⟩, ⟨0, 0⟩, ⟨0, 0⟩, ⟨0, 0⟩, ⟨0, 0⟩, ⟨0, 0⟩, ⟨0, 0⟩, ⟨0, 0⟩, ⟨0, 0⟩, ⟨0, 0⟩, 0, 0, 0, 0, 0, 0, 0, 0, 0, 0, false, 0, 0, 0, 0, 0, ⟨0, 0⟩, none, 0, 0⟩
theorem zero_sty : (Try.prog.info? 28).bind (·.zero) = some (.agg zsty.cells) := by kernel_rfl
theorem ptrs_step (g : Nat → Nat) {i n : Nat} (hi : i < n) (q : Nat) :
    (ptrs g (List.range i) ++ List.replicate (n - i) (Value.pointer none)).set i (ptrV q) = ptrs (fun k => if k = i then q else g k) (List.range (i + 1)) ++ List.replicate (n - (i + 1)) (Value.pointer none) := by
  have h1 : ptrs (fun k => if k = i then q else g k) (List.range i) = ptrs g (List.range i) := List.map_congr_left (fun k hk => by
    have := List.mem_range.1 hk
    show ptrV (if k = i then q else g k) = ptrV (g k)
    rw [if_neg (by omega)])
  have h2 : n - i = (n - (i + 1)) + 1 := by omega
  rw [List.set_append_right _ _ (by simp [ptrs]), h2, List.replicate_succ, List.range_succ]
  simp only [ptrs, List.map_append, List.map_cons, List.map_nil, List.length_map, List.length_range, Nat.sub_self, List.set_cons_zero, if_true, List.append_assoc, List.cons_append, List.nil_append] at h1 ⊢
  rw [h1]
theorem used_all : ∃ i, Try.prog.info? 48 = some i ∧ i.zero = some (.agg #[.int .i64 0, .int .i64 0, .int .i64 0]) ∧ i.size = 3 ∧ i.bytes = 24 := by
  have h : (Try.prog.info? 48).map (fun i => (i.zero, i.size, i.bytes)) = some (some (.agg #[.int .i64 0, .int .i64 0, .int .i64 0]), 3, 24) := by kernel_rfl
  exact info_parts h
theorem ptr_info : (Try.prog.info? 67).map (fun i => (i.zero, i.size, i.bytes)) = some (some (.pointer none), 1, 8) := by kernel_rfl
theorem i64_info : (Try.prog.info? 2).map (fun i => (i.zero, i.size, i.bytes)) = some (some (.int .i64 0), 1, 8) := by kernel_rfl
theorem make_used (n : Nat) (hn : n ≤ 1000000) (w : World) : (Instr.makeSlice 30 (.int .i64 (n : Int)) (.int .i64 (n : Int))).run Try.prog w = .ok (.slice (some ⟨w.heap.size, 0, none⟩) n n) (w.alloc (.cells (Array.replicate (n * 3) (.int .i64 0)) 48)) := by
  obtain ⟨i0, hi0, hz0, hz1, hz2⟩ := used_all
  have hr := run_make (P := Try.prog) w 30 48 i0 _ Try.underlying30 hi0 hz0 .i64 .i64 (n : Int) (n : Int) (by omega) (by omega) (by rw [hz2]; omega) (by omega)
  simp only [Int.toNat_natCast] at hr
  rw [hr, hz1, made_same _ (.int .i64 0) 3 rfl (by omega) (by intro j hj; match j, hj with | 0, _ => rfl | 1, _ => rfl | 2, _ => rfl)]
theorem make_i64 (n : Nat) (hn : n ≤ 1000000) (w : World) : (Instr.makeSlice 31 (.int .i64 (n : Int)) (.int .i64 (n : Int))).run Try.prog w = .ok (.slice (some ⟨w.heap.size, 0, none⟩) n n) (w.alloc (.cells (Array.replicate n (.int .i64 0)) 2)) := by
  obtain ⟨i0, hi0, hz0, hz1, hz2⟩ := info_parts i64_info
  exact make_n _ _ i0 _ Try.underlying31 hi0 hz0 hz1 rfl n (by rw [hz2]; omega) (by omega) w
theorem make_ptrs (n : Nat) (hn : n ≤ 1000000) (w : World) : (Instr.makeSlice 63 (.int .i64 (n : Int)) (.int .i64 (n : Int))).run Try.prog w = .ok (.slice (some ⟨w.heap.size, 0, none⟩) n n) (w.alloc (.cells (Array.replicate n (.pointer none)) 67)) := by
  obtain ⟨i0, hi0, hz0, hz1, hz2⟩ := info_parts ptr_info
  exact make_n _ _ i0 _ Try.underlying63 hi0 hz0 hz1 rfl n (by rw [hz2]; omega) (by omega) w
/-- what the items are measured by -/
structure MIn (w : World) (gU gH n : Nat) (us : List Us) (hs : List Int) : Prop where
  u : ∀ i, i < n → ∀ j v, (usC (us.getD i ⟨0, 0, 0⟩))[j]? = some v → w.cell? ⟨gU, i * 3 + j, none⟩ = some v
  h : ∀ i, i < n → w.cell? ⟨gH, i, none⟩ = some (.int .i64 (hs.getD i 0))
  lu : gU < w.heap.size
  lh : gH < w.heap.size
theorem MIn.ext {w w' : World} {gU gH n : Nat} {us : List Us} {hs : List Int} (k : MIn w gU gH n us hs) (hx : Ext w w') : MIn w' gU gH n us hs :=
  ⟨fun i hi j v hv => (hx.cells.1 gU _ k.lu).trans (k.u i hi j v hv), fun i hi => (hx.cells.1 gH _ k.lh).trans (k.h i hi), Nat.lt_of_lt_of_le k.lu hx.size, Nat.lt_of_lt_of_le k.lh hx.size⟩
theorem MIn.set {w : World} {gU gH n : Nat} {us : List Us} {hs : List Int} (k : MIn w gU gH n us hs) {p : Addr} (h1 : gU ≠ p.block) (h2 : gH ≠ p.block) (v : Value) : MIn (w.setCell p v) gU gH n us hs :=
  ⟨fun i hi j v' hv => (World.cell?_of_block (Below.heap_setCell w p v gU h1)).trans (k.u i hi j v' hv), fun i hi => (World.cell?_of_block (Below.heap_setCell w p v gH h2)).trans (k.h i hi), by simpa [World.setCell] using k.lu, by simpa [World.setCell] using k.lh⟩
/-- the items are handed back -/
def MeasOut (w : World) (n : Nat) (I : Nat → It) (e : Ending) (w' : World) : Prop :=
  ∃ gP g, e = .returned (.slice (some ⟨gP, 0, none⟩) n n) ∧ Blk w' gP 67 (ptrs g (List.range n)).toArray ∧ Its w' (gP + 1) g n I ∧ w.heap.size ≤ gP ∧ Ext w w'
set_option maxRecDepth 100000 in
set_option maxHeartbeats 16000000 in
theorem measured_any (ak au ah : Option Addr) (n ck nu cu nh ch : Nat) (c : Int) (ks : List Sty) (us : List Us) (hs : List Int) (z : Sty) (w : World) (hk : Rd w 43 ak n (recs styC ks)) (hu : Rd w 3 au nu (recs usC us)) (hh : Rd w 1 ah nh (ints hs))
    (hn : n ≤ 1000) (hc : c ≤ 1099511627776) (hok : ∀ s ∈ ks, StyOk s) (hub : ∀ u ∈ us, 0 ≤ u.w ∧ u.w ≤ 1099511627776) :
    Calls Try.prog 20 #[.int .i64 c, .slice ak n ck, .slice au nu cu, .slice ah nh ch] w (MeasOut w n (mIt c ks us hs z)) := by
  have hul := hu.recN usC_len (by omega)
  subst hul
  rw [← recs_ints] at hh
  have hhl := hh.recN intC_len (by omega)
  subst hhl
  have hkl := hk.recN styC_len (by omega)
  have HKL := hide hkl
  have HOK := hide hok
  have HUB := hide hub
  have hmk1 := make_used n (by omega)
  have hmk2 := make_i64 n (by omega)
  have hmk3 := make_ptrs n (by omega)
  have HM1 := hide hmk1
  have HM2 := hide hmk2
  have HM3 := hide hmk3
  clear hkl hok hub hmk1 hmk2 hmk3
  go_enter Try.func20, Try.ntmps20
  have hmk := unhide HM1
  go_upto_region 2 with fail
  clear hmk HM1
  have BU : Blk (w.alloc (.cells (Array.replicate (n * 3) (.int .i64 0)) 48)) w.heap.size 48 (List.replicate (n * 3) (.int .i64 0)).toArray := by rw [List.toArray_replicate]; exact Blk.new _ _ _
  have E0 : Ext w (w.alloc (.cells (Array.replicate (n * 3) (.int .i64 0)) 48)) := (Ext.refl _).alloc _
  generalize w.alloc (.cells (Array.replicate (n * 3) (.int .i64 0)) 48) = w1 at *
  generalize hgU : w.heap.size = gU at *
  have HGU := hide hgU
  clear hgU
  iterate 7 go_step
  refine wpList_copy_rd rfl (.tmp 20) (.tmp 21) 30 rfl 48 3 Try.underlying30 (by kernel_rfl) gU n rfl au us.length cu rfl (List.replicate (n * 3) (.int .i64 0)) 48 BU (by simp) (recs usC us) (hu.ext E0) (recs_ones usC_one us) ?_
  intro w2 B2 g2 z2
  simp only [Act.put, List.setIfInBounds_toArray, List.set_cons_succ, List.set_cons_zero]
  have E2 : Ext w w2 := E0.grown g2 (fun q e => by have := unhide HGU; have e := Option.some.inj e; omega)
  obtain ⟨UC, hUC⟩ : ∃ UC : Nat → List Value, ∀ i, i < n → UC i = usC (us.getD i ⟨0, 0, 0⟩) ∧ ∀ j v, (UC i)[j]? = some v → w2.cell? ⟨gU, i * 3 + j, none⟩ = some v := ⟨fun i => usC (us.getD i ⟨0, 0, 0⟩), fun i hi => ⟨rfl, fun j v hv => by
    have hj : j < 3 := (List.getElem?_eq_some_iff.1 hv).1
    rw [B2.cell, List.getElem?_toArray, pad_get usC_len (z := ⟨0, 0, 0⟩) (c := .int .i64 0) (by intro j hj; match j, hj with | 0, _ => rfl | 1, _ => rfl | 2, _ => rfl) hi hj]
    exact hv⟩⟩
  have HUC := hide hUC
  have lU := B2.lt
  clear hUC B2 BU E0 g2 z2
  go_upto_region 3 with fail
  have hmk := unhide HM2
  go_upto_region 4 with fail
  clear hmk HM2
  have BH : Blk (w2.alloc (.cells (Array.replicate n (.int .i64 0)) 2)) w2.heap.size 2 (List.replicate (n * 1) (.int .i64 0)).toArray := by rw [List.toArray_replicate, Nat.mul_one]; exact Blk.new _ _ _
  have hx : Ext w2 (w2.alloc (.cells (Array.replicate n (.int .i64 0)) 2)) := (Ext.refl _).alloc _
  generalize w2.alloc (.cells (Array.replicate n (.int .i64 0)) 2) = w3 at *
  generalize hgH : w2.heap.size = gH at *
  have HGH := hide hgH
  have E3 := E2.trans hx
  clear hgH
  iterate 7 go_step
  refine wpList_copy_rd rfl (.tmp 26) (.tmp 27) 31 rfl 2 1 Try.underlying31 (by kernel_rfl) gH n rfl ah hs.length ch rfl (List.replicate (n * 1) (.int .i64 0)) 2 BH (by simp) (recs intC hs) (hh.ext E3) (recs_ones (fun x u hu => by rw [List.mem_singleton.1 hu]; rfl) hs) ?_
  intro w4 B4 g4 z4
  simp only [Act.put, List.setIfInBounds_toArray, List.set_cons_succ, List.set_cons_zero]
  have E4 : Ext w2 w4 := hx.grown g4 (fun q e => by have := unhide HGH; have e := Option.some.inj e; omega)
  have lH := B4.lt
  have M0 : MIn w4 gU gH n us hs := ⟨fun i hi j v hv => by
      have h := (unhide HUC) i hi
      exact (E4.cells.1 gU _ (by rw [unhide HGH]; exact lU)).trans (h.2 j v (by rw [h.1]; exact hv)), fun i hi => by
      have h := pad_get intC_len (l := hs) (z := 0) (c := .int .i64 0) (by intro j hj; match j, hj with | 0, _ => rfl) (n := n) hi (j := 0) (by omega)
      rw [B4.cell, List.getElem?_toArray]
      rw [show i * 1 + 0 = i by omega] at h
      exact h, by have := E4.size; have := unhide HGH; omega, lH⟩
  have E5 := E2.trans E4
  clear HUC lU lH B4 BH E4 E2 E3 g4 z4 hx
  go_upto_region 5 with fail
  have hmk := unhide HM3
  go_upto_region 6 with fail
  clear hmk HM3
  have BP : Blk (w4.alloc (.cells (Array.replicate n (.pointer none)) 67)) w4.heap.size 67 (List.replicate n (.pointer none)).toArray := by rw [List.toArray_replicate]; exact Blk.new _ _ _
  have hx : Ext w4 (w4.alloc (.cells (Array.replicate n (.pointer none)) 67)) := (Ext.refl _).alloc _
  generalize w4.alloc (.cells (Array.replicate n (.pointer none)) 67) = w5 at *
  generalize hgP : w4.heap.size = gP at *
  have hP : w.heap.size ≤ gP := by have := E5.size; omega
  have HP := hide hP
  have HLU := hide (show gU < gP ∧ gH < gP from ⟨by have := M0.lu; omega, by have := M0.lh; omega⟩)
  have HGP := hide hgP
  replace E5 := E5.trans hx
  replace M0 := M0.ext hx
  clear hx hP hgP
  go_wp2_with fail
  go_loopw [34] (fun v wr => ∃ (i : Nat) (g : Nat → Nat), v = .int .i64 i ∧ i ≤ n ∧ Blk wr gP 67 (ptrs g (List.range i) ++ List.replicate (n - i) (Value.pointer none)).toArray ∧ Its wr (gP + 1) g i (mIt c ks us hs z) ∧ MIn wr gU gH n us hs ∧ Ext w wr) (fun v _ => n - (intOf v).toNat)
  case atStart => exact ⟨0, fun _ => 0, rfl, by omega, BP, ⟨fun i hi => by omega, fun i j hi => by omega, fun i hi => by omega⟩, M0, E5⟩
  case round =>
    clear BP M0 E5
    obtain ⟨i, g, rfl, i1, BP, IS, M, E⟩ := hrel
    by_cases hi : i < n
    · have hiI : (0 : Int) ≤ (i : Int) ∧ (i : Int) < (n : Int) := by omega
      have hil : i < ks.length := by have := unhide HKL; omega
      obtain ⟨s, hs1⟩ : ∃ s, ks.getD i z = s := ⟨_, rfl⟩
      have hs2 : ks[i]? = some s := by rw [← hs1, List.getD_eq_getElem?_getD, List.getElem?_eq_getElem hil]; rfl
      have hsok := (unhide HOK) s (List.mem_of_getElem? hs2)
      obtain ⟨b, off, hak, hb, hmid⟩ := hk.rec_ styC_len hs2 (by omega)
      obtain ⟨u, hu1⟩ : ∃ u, us.getD i ⟨0, 0, 0⟩ = u := ⟨_, rfl⟩
      have hu2 : 0 ≤ u.w ∧ u.w ≤ 1099511627776 := by
        by_cases h : i < us.length
        · rw [List.getD_eq_getElem?_getD, List.getElem?_eq_getElem h] at hu1
          have hu1 : us[i] = u := hu1
          exact (unhide HUB) u (hu1 ▸ List.getElem_mem h)
        · rw [List.getD_eq_getElem?_getD, List.getElem?_eq_none (by omega)] at hu1
          rw [← hu1]; simp
      obtain ⟨x, hx1⟩ : ∃ x, hs.getD i 0 = x := ⟨_, rfl⟩
      have hm : mIt c ks us hs z i = ⟨s, u.l, u.r, u.w + frameA s, x, frameD s, resV s.m0 c, resV s.m2 c, 0, 0, false⟩ := by simp only [mIt, hs1, hu1, hx1]
      have HIT := hide hm
      obtain ⟨uw, ul, ur⟩ := u
      simp only at hu2 hm HIT
      have HU := hide hu1
      have HX := hide hx1
      have HMID := hide hmid
      have HAK := hide hak
      obtain ⟨hth, hp0, hp2⟩ := hsok
      have hth' := hide hth
      have hfr : 0 ≤ frameA s ∧ frameA s ≤ 4398046511104 := by
        obtain ⟨a1, a2, a3, a4, a5, a6, a7, a8⟩ := hth
        unfold frameA; omega
      have HFR := hide hfr
      clear hs1 hs2 hu1 hx1 hm hmid hth hfr hak
      go_upto_region 8 with fail
      rw [unhide HAK]
      iterate 7 go_step
      refine wpList_load_mid rfl 28 _ rfl b (off + i * 43) rfl (styC s) _ (fun j v hv => (E.cells.1 b _ hb).trans ((unhide HMID) j v hv)) Try.underlying28 rfl (info_style s) ?_
      simp only [Act.put, List.setIfInBounds_toArray, List.set_cons_succ, List.set_cons_zero]
      rw [show (styC s).toArray = s.cells from rfl, ← unhide HAK]
      refine wpList_alloc_var rfl 28 rfl zsty.cells zero_sty ?_
      intro wa Ba Ea za
      simp only [Act.put, List.setIfInBounds_toArray, List.set_cons_succ, List.set_cons_zero]
      iterate 3 go_step
      refine wpList_store_blk rfl 28 _ _ rfl wr.heap.size rfl s.cells rfl 28 zsty.cells Ba (info_style s) rfl (by kernel_rfl) ?_
      intro w6 BS hg3 zs
      simp only [Act.put]
      have E6 : Ext wr w6 := Ext.grown Ea hg3 (fun q e => by injection e with e; omega)
      generalize hgs : wr.heap.size = gs at *
      have hs6 : w6.heap.size = gs + 1 := by omega
      have hgf : ∀ k, k < i → g k < gs := fun k hk => by have := IS.lt hk; omega
      have hpf : gP < gs := by have := BP.lt; omega
      have HGF := hide hgf
      replace BP := BP.ext E6
      replace IS := IS.ext E6
      replace M := M.ext E6
      replace E := E.trans E6
      have HS6 := hide hs6
      clear Ba Ea za hg3 zs wa E6 hgs hgf hs6
      have cu0 : w6.cell? ⟨gU, i * 3, none⟩ = some (.int .i64 uw) := M.u i hi 0 _ (by rw [unhide HU]; rfl)
      have cu1 : w6.cell? ⟨gU, i * 3 + 1, none⟩ = some (.int .i64 ul) := M.u i hi 1 _ (by rw [unhide HU]; rfl)
      have cu2 : w6.cell? ⟨gU, i * 3 + 2, none⟩ = some (.int .i64 ur) := M.u i hi 2 _ (by rw [unhide HU]; rfl)
      have ch0 : w6.cell? ⟨gH, i, none⟩ = some (.int .i64 x) := by have := M.h i hi; rwa [unhide HX] at this
      have lU := M.lu
      have lH := M.lh
      go_upto_region 9 with fail
      refine wp_region_lin (by kernel_rfl) (fun w' => (ExtX w6 w' [])) (fun ii vv ww => match ii with | 0 => vv = .agg s.cells | 1 => vv = .slice (some ⟨gU, 0, none⟩) n n | 2 => vv = .int .i64 (i : Int) | 3 => vv = .pointer (some ⟨gU, i * 3, none⟩) | 4 => vv = .pointer (some ⟨gU, i * 3 + 1, none⟩) | 5 => vv = .int .i64 ul | 6 => vv = .slice (some ⟨gU, 0, none⟩) n n | 7 => vv = .int .i64 (i : Int) | 8 => vv = .pointer (some ⟨gU, i * 3, none⟩) | 9 => vv = .pointer (some ⟨gU, i * 3 + 2, none⟩) | 10 => vv = .int .i64 ur | 11 => vv = .slice (some ⟨gH, 0, none⟩) n n | 12 => vv = .int .i64 (i : Int) | 13 => vv = .pointer (some ⟨gH, i, none⟩) | 14 => vv = .int .i64 x | 15 => vv = .agg (It.cells ⟨s, ul, ur, 0, x, 0, 0, 0, 0, 0, false⟩).toArray | 16 => ∃ q, vv = ptrV q ∧ gs < q ∧ Blk ww q 66 (It.cells ⟨s, ul, ur, 0, x, 0, 0, 0, 0, 0, false⟩).toArray | 17 => ∃ q, vv = ptrV q ∧ gs < q ∧ Blk ww q 66 (It.cells ⟨s, ul, ur, 0, x, 0, 0, 0, 0, 0, false⟩).toArray | _ => True) (fun ii => match ii with | 3 => [(1, 40), (2, 41)] | 4 => [(3, 42)] | 5 => [(4, 43)] | 8 => [(6, 45), (7, 46)] | 9 => [(8, 47)] | 10 => [(9, 48)] | 13 => [(11, 50), (12, 51)] | 14 => [(13, 52)] | 15 => [(0, 39), (5, 44), (10, 49), (14, 53)] | 16 => [(15, 54)] | 17 => [(16, 55)] | _ => []) (fun ii => match ii with | 0 => [13] | 1 => [9] | 2 => [12] | 6 => [9] | 7 => [12] | 11 => [10] | 12 => [12] | _ => []) (fun ii => match ii with | 0 => [1, 2, 3, 4, 6, 7, 8, 9, 11, 12, 13, 5, 10, 14] | 1 => [2, 6, 7, 8, 9, 11, 12, 13, 0, 10, 14] | 2 => [1, 6, 7, 8, 9, 11, 12, 13, 0, 10, 14] | 3 => [6, 7, 8, 9, 11, 12, 13, 0, 10, 14] | 4 => [6, 7, 8, 9, 11, 12, 13, 0, 10, 14] | 5 => [6, 7, 8, 9, 11, 12, 13, 0, 10, 14] | 6 => [1, 2, 3, 4, 7, 11, 12, 13, 0, 5, 14] | 7 => [1, 2, 3, 4, 6, 11, 12, 13, 0, 5, 14] | 8 => [1, 2, 3, 4, 11, 12, 13, 0, 5, 14] | 9 => [1, 2, 3, 4, 11, 12, 13, 0, 5, 14] | 10 => [1, 2, 3, 4, 11, 12, 13, 0, 5, 14] | 11 => [1, 2, 3, 4, 6, 7, 8, 9, 12, 0, 5, 10] | 12 => [1, 2, 3, 4, 6, 7, 8, 9, 11, 0, 5, 10] | 13 => [1, 2, 3, 4, 6, 7, 8, 9, 0, 5, 10] | 14 => [1, 2, 3, 4, 6, 7, 8, 9, 0, 5, 10] | _ => []) [17] [0, 0, 0, 6, 14, 30, 0, 0, 192, 448, 960, 0, 0, 6144, 14336, 32767, 65535, 131071] 103 rfl (by kernel_rfl) (ExtX.start _ _) ?_ ?_
      · rename_i hcont; clear hcont
        refine ⟨?_, ?_, ?_, ?_, ?_, ?_, ?_, ?_, ?_, ?_, ?_, ?_, ?_, ?_, ?_, ?_, ?_, ?_, trivial⟩
        · refine stepL_plain rfl ?_
          rintro F a w1 jE - ⟨t13, -⟩ K hK
          have t13 : a.tmps[13]? = some (.pointer (some ⟨gs, 0, none⟩)) := t13
          have c := (jE.blk BS (by simp)).cell
          refine wp_load_blk 28 _ rfl gs (eval_tmp t13) 28 s.cells _ (jE.blk BS (by simp)) Try.underlying28 rfl (info_style s) ?_
          exact hK _ _ jE rfl (fun _ _ _ h => h)
        · refine stepL_plain rfl ?_
          rintro F a w1 jE - ⟨t9, -⟩ K hK
          have t9 : a.tmps[9]? = some (.slice (some ⟨gU, 0, none⟩) n n) := t9
          go_simp
          exact hK _ _ jE rfl (fun _ _ _ h => h)
        · refine stepL_plain rfl ?_
          rintro F a w1 jE - ⟨t12, -⟩ K hK
          have t12 : a.tmps[12]? = some (.int .i64 (i : Int)) := t12
          go_simp
          exact hK _ _ jE rfl (fun _ _ _ h => h)
        · refine stepL_plain rfl ?_
          rintro F a w1 jE ⟨h1, t40, h2, t41, -⟩ - K hK
          have h1 : (F 1) = .slice (some ⟨gU, 0, none⟩) n n := h1
          rw [h1] at t40
          clear h1
          have h2 : (F 2) = .int .i64 (i : Int) := h2
          rw [h2] at t41
          clear h2
          go_simp
          exact hK _ _ jE rfl (fun _ _ _ h => h)
        · refine stepL_plain rfl ?_
          rintro F a w1 jE ⟨h3, t42, -⟩ - K hK
          have h3 : (F 3) = .pointer (some ⟨gU, i * 3, none⟩) := h3
          rw [h3] at t42
          clear h3
          go_simp
          exact hK _ _ jE rfl (fun _ _ _ h => h)
        · refine stepL_plain rfl ?_
          rintro F a w1 jE ⟨h4, t43, -⟩ - K hK
          have h4 : (F 4) = .pointer (some ⟨gU, i * 3 + 1, none⟩) := h4
          rw [h4] at t43
          clear h4
          have c := ((jE.ext (Ext.refl _) (by simp)).cells.1 gU _ lU).trans cu1
          go_simp
          exact hK _ _ jE rfl (fun _ _ _ h => h)
        · refine stepL_plain rfl ?_
          rintro F a w1 jE - ⟨t9, -⟩ K hK
          have t9 : a.tmps[9]? = some (.slice (some ⟨gU, 0, none⟩) n n) := t9
          go_simp
          exact hK _ _ jE rfl (fun _ _ _ h => h)
        · refine stepL_plain rfl ?_
          rintro F a w1 jE - ⟨t12, -⟩ K hK
          have t12 : a.tmps[12]? = some (.int .i64 (i : Int)) := t12
          go_simp
          exact hK _ _ jE rfl (fun _ _ _ h => h)
        · refine stepL_plain rfl ?_
          rintro F a w1 jE ⟨h6, t45, h7, t46, -⟩ - K hK
          have h6 : (F 6) = .slice (some ⟨gU, 0, none⟩) n n := h6
          rw [h6] at t45
          clear h6
          have h7 : (F 7) = .int .i64 (i : Int) := h7
          rw [h7] at t46
          clear h7
          go_simp
          exact hK _ _ jE rfl (fun _ _ _ h => h)
        · refine stepL_plain rfl ?_
          rintro F a w1 jE ⟨h8, t47, -⟩ - K hK
          have h8 : (F 8) = .pointer (some ⟨gU, i * 3, none⟩) := h8
          rw [h8] at t47
          clear h8
          go_simp
          exact hK _ _ jE rfl (fun _ _ _ h => h)
        · refine stepL_plain rfl ?_
          rintro F a w1 jE ⟨h9, t48, -⟩ - K hK
          have h9 : (F 9) = .pointer (some ⟨gU, i * 3 + 2, none⟩) := h9
          rw [h9] at t48
          clear h9
          have c := ((jE.ext (Ext.refl _) (by simp)).cells.1 gU _ lU).trans cu2
          go_simp
          exact hK _ _ jE rfl (fun _ _ _ h => h)
        · refine stepL_plain rfl ?_
          rintro F a w1 jE - ⟨t10, -⟩ K hK
          have t10 : a.tmps[10]? = some (.slice (some ⟨gH, 0, none⟩) n n) := t10
          go_simp
          exact hK _ _ jE rfl (fun _ _ _ h => h)
        · refine stepL_plain rfl ?_
          rintro F a w1 jE - ⟨t12, -⟩ K hK
          have t12 : a.tmps[12]? = some (.int .i64 (i : Int)) := t12
          go_simp
          exact hK _ _ jE rfl (fun _ _ _ h => h)
        · refine stepL_plain rfl ?_
          rintro F a w1 jE ⟨h11, t50, h12, t51, -⟩ - K hK
          have h11 : (F 11) = .slice (some ⟨gH, 0, none⟩) n n := h11
          rw [h11] at t50
          clear h11
          have h12 : (F 12) = .int .i64 (i : Int) := h12
          rw [h12] at t51
          clear h12
          go_simp
          exact hK _ _ jE rfl (fun _ _ _ h => h)
        · refine stepL_plain rfl ?_
          rintro F a w1 jE ⟨h13, t52, -⟩ - K hK
          have h13 : (F 13) = .pointer (some ⟨gH, i, none⟩) := h13
          rw [h13] at t52
          clear h13
          have c := ((jE.ext (Ext.refl _) (by simp)).cells.1 gH _ lH).trans ch0
          go_simp
          exact hK _ _ jE rfl (fun _ _ _ h => h)
        · refine stepL_plain rfl ?_
          rintro F a w1 jE ⟨h0, t39, h5, t44, h10, t49, h14, t53, -⟩ - K hK
          have h0 : (F 0) = .agg s.cells := h0
          rw [h0] at t39
          clear h0
          have h5 : (F 5) = .int .i64 ul := h5
          rw [h5] at t44
          clear h5
          have h10 : (F 10) = .int .i64 ur := h10
          rw [h10] at t49
          clear h10
          have h14 : (F 14) = .int .i64 x := h14
          rw [h14] at t53
          clear h14
          refine wp_buildTo 66 _ rfl (It.cells ⟨s, ul, ur, 0, x, 0, 0, 0, 0, 0, false⟩).toArray (by simp only [List.map_toArray, List.map_cons, List.map_nil]; rw [eval_tmp t39, eval_tmp t44, eval_tmp t49, eval_tmp t53]; kernel_rfl) ?_
          exact hK _ _ jE rfl (fun _ _ _ h => h)
        · refine stepL_plain rfl ?_
          rintro F a w1 jE ⟨h15, t54, -⟩ - K hK
          have h15 : (F 15) = .agg (It.cells ⟨s, ul, ur, 0, x, 0, 0, 0, 0, 0, false⟩).toArray := h15
          rw [h15] at t54
          clear h15
          have hz := jE.size
          refine wp_boxTo 66 _ rfl (It.cells ⟨s, ul, ur, 0, x, 0, 0, 0, 0, 0, false⟩).toArray (by rw [eval_tmp t54]; rfl) ?_
          have hx : Ext w1 (w1.alloc (.cells (It.cells ⟨s, ul, ur, 0, x, 0, 0, 0, 0, 0, false⟩).toArray 66)) := (Ext.refl _).alloc _
          exact hK _ _ (jE.trans hx) ⟨_, rfl, by have := unhide HS6; omega, Blk.new _ _ _⟩ (fun _ hj _ _ => (List.not_mem_nil hj).elim)
        · refine stepL_plain rfl ?_
          rintro F a w1 jE ⟨h16, t55, -⟩ - K hK
          have h16 : ∃ q, (F 16) = ptrV q ∧ gs < q ∧ Blk w1 q 66 (It.cells ⟨s, ul, ur, 0, x, 0, 0, 0, 0, 0, false⟩).toArray := h16
          obtain ⟨q, hv, hq, hB⟩ := h16
          rw [hv] at t55
          go_simp
          exact hK _ _ jE ⟨q, rfl, hq, hB⟩ (fun _ _ _ h => h)
      · rintro F w7 jE ⟨h17, -⟩
        have h17 : ∃ q, (F 17) = ptrV q ∧ gs < q ∧ Blk w7 q 66 (It.cells ⟨s, ul, ur, 0, x, 0, 0, 0, 0, 0, false⟩).toArray := h17
        obtain ⟨q, hv, hq, BI⟩ := h17
        have hx := jE.ext (Ext.refl _) (by simp)
        simp only [putL, Act.put, Nat.reduceAdd, Nat.zero_add, List.setIfInBounds_toArray, List.set_cons_succ, List.set_cons_zero]
        rw [hv]
        replace BP := BP.ext hx
        replace IS := IS.ext hx
        replace M := M.ext hx
        replace E := E.trans hx
        replace BS := BS.ext hx
        clear hv jE cu0 cu1 cu2 ch0 lU lH hx
        have hlu := M.lu
        have hlh := M.lh
        have hUq : gU < gs ∧ gH < gs := by have := unhide HLU; omega
        clear hlu hlh
        go_upto_region 10 with fail
        go_step
        refine wpList_load_blk rfl 28 _ rfl gs rfl 28 s.cells _ BS Try.underlying28 rfl (info_style s) ?_
        simp only [Act.put, List.setIfInBounds_toArray, List.set_cons_succ, List.set_cons_zero]
        go_wp2_with fail
        with_reducible refine (frame_any s (unhide hth') _).mono ?_
        rintro e w8 ⟨rfl, hx⟩
        replace BP := BP.ext hx
        replace IS := IS.ext hx
        replace M := M.ext hx
        replace E := E.trans hx
        replace BS := BS.ext hx
        replace BI := BI.ext hx
        clear hx
        have cu0 : w8.cell? ⟨gU, i * 3, none⟩ = some (.int .i64 uw) := M.u i hi 0 _ (by rw [unhide HU]; rfl)
        have lU := M.lu
        have hfr := unhide HFR
        have hfe : s.b3 + s.b1 + s.p3 + s.p1 = frameA s := rfl
        have hfd : s.b0 + s.b2 + s.p0 + s.p2 = frameD s := rfl
        rw [hfe, hfd]
        generalize hA : frameA s = fA at *
        have HA := hide hA
        generalize hD : frameD s = fD at *
        have HD := hide hD
        clear hfe hfd hA hD
        have ci := BI.cell 45
        have fi := BI.frozen 45
        have li := BI.lt
        go_upto_region 12 with fail
        have BI2 := BI.set_ 45 (.int .i64 (uw + fA))
        rw [show (It.cells ⟨s, ul, ur, 0, x, 0, 0, 0, 0, 0, false⟩).toArray.setIfInBounds 45 (.int .i64 (uw + fA)) = (It.cells ⟨s, ul, ur, uw + fA, x, 0, 0, 0, 0, 0, false⟩).toArray from rfl] at BI2
        clear cu0 lU hfr
        replace IS := IS.far (p := ⟨q, 45, none⟩) (fun k hk => by have := (unhide HGF) k hk; show g k ≠ q; omega) (.int .i64 (uw + fA))
        replace BP := BP.far (p := ⟨q, 45, none⟩) (show gP ≠ q by omega) (.int .i64 (uw + fA))
        replace BS := BS.far (p := ⟨q, 45, none⟩) (show gs ≠ q by omega) (.int .i64 (uw + fA))
        replace M := M.set (p := ⟨q, 45, none⟩) (show gU ≠ q by omega) (show gH ≠ q by omega) (.int .i64 (uw + fA))
        replace E := E.set (p := ⟨q, 45, none⟩) (show w.heap.size ≤ q by have := unhide HP; omega) (.int .i64 (uw + fA))
        replace BI := BI2
        clear BI2 ci fi li
        generalize w8.setCell ⟨q, 45, none⟩ (.int .i64 (uw + fA)) = w9 at *
        have ci := BI.cell 47
        have fi := BI.frozen 47
        have li := BI.lt
        go_upto_region 13 with fail
        have BI2 := BI.set_ 47 (.int .i64 (fD))
        rw [show (It.cells ⟨s, ul, ur, uw + fA, x, 0, 0, 0, 0, 0, false⟩).toArray.setIfInBounds 47 (.int .i64 (fD)) = (It.cells ⟨s, ul, ur, uw + fA, x, fD, 0, 0, 0, 0, false⟩).toArray from rfl] at BI2
        replace IS := IS.far (p := ⟨q, 47, none⟩) (fun k hk => by have := (unhide HGF) k hk; show g k ≠ q; omega) (.int .i64 (fD))
        replace BP := BP.far (p := ⟨q, 47, none⟩) (show gP ≠ q by omega) (.int .i64 (fD))
        replace BS := BS.far (p := ⟨q, 47, none⟩) (show gs ≠ q by omega) (.int .i64 (fD))
        replace M := M.set (p := ⟨q, 47, none⟩) (show gU ≠ q by omega) (show gH ≠ q by omega) (.int .i64 (fD))
        replace E := E.set (p := ⟨q, 47, none⟩) (show w.heap.size ≤ q by have := unhide HP; omega) (.int .i64 (fD))
        replace BI := BI2
        clear BI2 ci fi li
        generalize w9.setCell ⟨q, 47, none⟩ (.int .i64 (fD)) = w10 at *
        have cs := BS.cell
        have ls := BS.lt
        go_wp2_with fail
        with_reducible refine (resolve_any s.m0 c hp0 hc _).mono ?_
        rintro e w11 ⟨rfl, hx⟩
        clear cs ls
        replace BP := BP.ext hx
        replace IS := IS.ext hx
        replace M := M.ext hx
        replace E := E.trans hx
        replace BS := BS.ext hx
        replace BI := BI.ext hx
        clear hx
        obtain ⟨r, hr⟩ : ∃ r, resV s.m0 c = r := ⟨_, rfl⟩
        rw [hr]
        have Hm0 := hide hr
        clear hr
        have ci := BI.cell 48
        have fi := BI.frozen 48
        have li := BI.lt
        go_upto_region 14 with fail
        have BI2 := BI.set_ 48 (.int .i64 (r))
        rw [show (It.cells ⟨s, ul, ur, uw + fA, x, fD, 0, 0, 0, 0, false⟩).toArray.setIfInBounds 48 (.int .i64 (r)) = (It.cells ⟨s, ul, ur, uw + fA, x, fD, r, 0, 0, 0, false⟩).toArray from rfl] at BI2
        replace IS := IS.far (p := ⟨q, 48, none⟩) (fun k hk => by have := (unhide HGF) k hk; show g k ≠ q; omega) (.int .i64 (r))
        replace BP := BP.far (p := ⟨q, 48, none⟩) (show gP ≠ q by omega) (.int .i64 (r))
        replace BS := BS.far (p := ⟨q, 48, none⟩) (show gs ≠ q by omega) (.int .i64 (r))
        replace M := M.set (p := ⟨q, 48, none⟩) (show gU ≠ q by omega) (show gH ≠ q by omega) (.int .i64 (r))
        replace E := E.set (p := ⟨q, 48, none⟩) (show w.heap.size ≤ q by have := unhide HP; omega) (.int .i64 (r))
        replace BI := BI2
        clear BI2 ci fi li
        generalize w11.setCell ⟨q, 48, none⟩ (.int .i64 (r)) = w12 at *
        generalize r = rm0 at *
        have cs := BS.cell
        have ls := BS.lt
        go_wp2_with fail
        with_reducible refine (resolve_any s.m2 c hp2 hc _).mono ?_
        rintro e w13 ⟨rfl, hx⟩
        clear cs ls
        replace BP := BP.ext hx
        replace IS := IS.ext hx
        replace M := M.ext hx
        replace E := E.trans hx
        replace BS := BS.ext hx
        replace BI := BI.ext hx
        clear hx
        obtain ⟨r, hr⟩ : ∃ r, resV s.m2 c = r := ⟨_, rfl⟩
        rw [hr]
        have Hm2 := hide hr
        clear hr
        have ci := BI.cell 49
        have fi := BI.frozen 49
        have li := BI.lt
        go_upto_region 15 with fail
        have BI2 := BI.set_ 49 (.int .i64 (r))
        rw [show (It.cells ⟨s, ul, ur, uw + fA, x, fD, rm0, 0, 0, 0, false⟩).toArray.setIfInBounds 49 (.int .i64 (r)) = (It.cells ⟨s, ul, ur, uw + fA, x, fD, rm0, r, 0, 0, false⟩).toArray from rfl] at BI2
        replace IS := IS.far (p := ⟨q, 49, none⟩) (fun k hk => by have := (unhide HGF) k hk; show g k ≠ q; omega) (.int .i64 (r))
        replace BP := BP.far (p := ⟨q, 49, none⟩) (show gP ≠ q by omega) (.int .i64 (r))
        replace BS := BS.far (p := ⟨q, 49, none⟩) (show gs ≠ q by omega) (.int .i64 (r))
        replace M := M.set (p := ⟨q, 49, none⟩) (show gU ≠ q by omega) (show gH ≠ q by omega) (.int .i64 (r))
        replace E := E.set (p := ⟨q, 49, none⟩) (show w.heap.size ≤ q by have := unhide HP; omega) (.int .i64 (r))
        replace BI := BI2
        clear BI2 ci fi li
        generalize w13.setCell ⟨q, 49, none⟩ (.int .i64 (r)) = w14 at *
        generalize r = rm2 at *
        have cp : w14.cell? ⟨gP, i, none⟩ = some (.pointer none) := by
          rw [BP.cell, List.getElem?_toArray, List.getElem?_append_right (by simp [ptrs]), List.getElem?_replicate, if_pos (by simp only [ptrs, List.length_map, List.length_range]; omega)]
        have fp := BP.frozen i
        have lp := BP.lt
        go_upto_region 16 with fail
        clear cp fp lp
        have BP2 := BP.set_ i (ptrV q)
        rw [List.setIfInBounds_toArray, ptrs_step g hi q] at BP2
        replace IS := IS.far (p := ⟨gP, i, none⟩) (fun k hk => by have := IS.base k hk; show g k ≠ gP; omega) (ptrV q)
        replace BI := BI.far (p := ⟨gP, i, none⟩) (show q ≠ gP by omega) (ptrV q)
        replace M := M.set (p := ⟨gP, i, none⟩) (show gU ≠ gP by have := unhide HLU; omega) (show gH ≠ gP by have := unhide HLU; omega) (ptrV q)
        replace E := E.set (p := ⟨gP, i, none⟩) (show w.heap.size ≤ gP from unhide HP) (ptrV q)
        have IS2 := IS.push (q := q) (J := mIt c ks us hs z) (t := ⟨s, ul, ur, uw + fA, x, fD, rm0, rm2, 0, 0, false⟩) BI (fun k hk => by have := (unhide HGF) k hk; omega) (by omega) (fun _ _ => rfl) (by rw [unhide HIT, unhide Hm0, unhide Hm2])
        clear BP IS BI BS
        go_wp2_with fail
        go_roundw
        case rel => exact ⟨i + 1, _, by go_num, by omega, BP2, IS2, M, E⟩
        case measure => simp [intOf]; omega
    · have hiI : ¬ (i : Int) < (n : Int) := by omega
      have hie : i = n := by omega
      rw [hie] at BP IS
      clear hie
      rw [Nat.sub_self, List.replicate_zero, List.append_nil] at BP
      have HPP := unhide HP
      go_wp2_with fail
      go_ret
      exact ⟨gP, g, rfl, BP, IS, HPP, E⟩
end Go.Proofs.Ytkkkdjkjggofkaa
