/- Layer 19: the items of the document's answer (walk). -/
import Derived.Test.YtkkkdjkjggofkaaCsM
namespace Go.Proofs.Ytkkkdjkjggofkaa
open Go.RowKit
section
variable {P : Program} {ops : Array Oper} {rest : List Oper} {o : Oper} {a : Act} {Q : Exit → Act → World → Prop} {w : World}
theorem blk_setHead {g : Nat} {t : TypeId} : ∀ (vs l : List Value) (k : Nat) (w : World), Blk w g t l.toArray → k + vs.length ≤ l.length → Blk (w.setCells g k vs) g t (l.take k ++ vs ++ l.drop (k + vs.length)).toArray ∧ w.grownBy (w.setCells g k vs) (some g) ∧ (w.setCells g k vs).heap.size = w.heap.size
  | [], l, k, w, h, _ => by
    refine ⟨?_, World.grownBy.refl w _, rfl⟩
    rw [List.append_nil, List.length_nil, Nat.add_zero, List.take_append_drop]
    exact h
  | v :: r, l, k, w, h, hk => by
    rw [List.length_cons] at hk
    have h1 := h.set_ k v
    rw [List.setIfInBounds_toArray] at h1
    obtain ⟨h2, h3, h4⟩ := blk_setHead r (l.set k v) (k + 1) _ h1 (by rw [List.length_set]; omega)
    have hg : w.grownBy (w.setCell ⟨g, k, none⟩ v) (some g) := ⟨rfl, rfl, rfl, by simp [World.setCell], fun k' hk' hne => Below.heap_setCell w ⟨g, k, none⟩ v k' (by rintro rfl; exact hne rfl)⟩
    refine ⟨?_, ⟨h3.os.trans hg.os, h3.tape.trans hg.tape, h3.output.trans hg.output, Nat.le_trans hg.size h3.size, fun i hi hne => (h3.block i (Nat.lt_of_lt_of_le hi hg.size) hne).trans (hg.block i hi hne)⟩, by rw [World.setCells, h4]; simp [World.setCell]⟩
    rw [World.setCells]
    have e1 : (l.set k v).take (k + 1) = l.take k ++ [v] := by
      rw [List.take_add_one, List.getElem?_set_self (by omega), List.take_set_of_le (Nat.le_refl k)]; rfl
    have e2 : (l.set k v).drop (k + 1 + r.length) = l.drop (k + (r.length + 1)) := by
      rw [List.drop_set_of_lt (by omega)]; congr 1; omega
    rw [e1, e2] at h2
    simpa using h2
theorem wpList_store_head (hgd : o.guard = none) (ty : TypeId) (x y : Operand) (ho : o.op = .store ty x y) (g : Nat) (hx : a.eval x = .pointer (some ⟨g, 0, none⟩)) (cells : Array Value) (hy : a.eval y = .agg cells)
    (t : TypeId) (a0 b0 : List Value) (hg : Blk w g t (a0 ++ b0).toArray) (ha : a0.length = cells.size) (hi : (P.info? ty).map (·.size) = some cells.size) (h1 : cells.all (·.oneCell') = true)
    (h : ∀ w1, Blk w1 g t (cells.toList ++ b0).toArray → w.grownBy w1 (some g) → w1.heap.size = w.heap.size → wpList P ops Q rest (a.put o.dst undef) w1) : wpList P ops Q (o :: rest) a w := by
  obtain ⟨k1, k2, k3⟩ := blk_setHead (g := g) (t := t) cells.toList (a0 ++ b0) 0 w hg (by simp [ha])
  refine wpList_store_mid hgd ty x y ho g 0 cells hx hy (fun j hj => ⟨?_, hg.frozen _⟩) hi h1 (h _ ?_ k2 k3)
  · rw [hg.cell]; simp; omega
  · rw [List.take_zero, List.nil_append, Nat.zero_add] at k1
    have e : (a0 ++ b0).drop cells.toList.length = b0 := by
      rw [show cells.toList.length = a0.length by simp [ha], List.drop_left]
    rwa [e] at k1
end
theorem own_far1 {w : World} {B e k m : Nat} {u : Value} {xs : List Value} (h : w.ownsRow B e k u m xs) {p : Addr} (hp : ∀ q, u.ownBlock = some q → q ≠ p.block) (v : Value) : (w.setCell p v).ownsRow B e k u m xs := by
  refine h.kept (row := some p.block) ⟨rfl, rfl, rfl, by simp [World.setCell], fun k hk hne => Below.heap_setCell w p v k (by rintro rfl; exact hne rfl)⟩ ?_
  cases hq : u.ownBlock with
  | none => exact .inl rfl
  | some q => exact .inr (fun e => hp q hq (Option.some.inj e))
/-- an item of the document's answer -/
structure Im where
  (s : Sty) (l r sd b g : Int)
def imC (x : Im) : List Value := styC x.s ++ [.int .i64 x.l, .int .i64 x.r, .int .i64 x.sd, .int .i64 x.b, .int .i64 x.g, .int .i64 0, .bool false, .int .i64 0]
theorem imC_len (x : Im) : (imC x).length = 51 := rfl
def zim : Im := ⟨zsty, 0, 0, 0, 0, 0⟩
theorem zero_im : (Try.prog.info? 62).bind (·.zero) = some (.agg (imC zim).toArray) := by kernel_rfl
theorem size_im (x : Im) : (Try.prog.info? 62).map (·.size) = some (imC x).toArray.size := by kernel_rfl
theorem im_info : (Try.prog.info? 62).map (fun i => (i.zero, i.size, decide (i.bytes ≤ 100000))) = some (some (.agg (imC zim).toArray), 51, true) := by kernel_rfl
theorem imC_one (x : Im) : ∀ v ∈ imC x, v.oneCell' = true := by
  intro v hv
  simp only [imC, styC, List.cons_append, List.nil_append, List.mem_cons, List.not_mem_nil, or_false] at hv
  rcases hv with rfl | rfl | rfl | rfl | rfl | rfl | rfl | rfl | rfl | rfl | rfl | rfl | rfl | rfl | rfl | rfl | rfl | rfl | rfl | rfl | rfl | rfl | rfl | rfl | rfl | rfl | rfl | rfl | rfl | rfl | rfl | rfl | rfl | rfl | rfl | rfl | rfl | rfl | rfl | rfl | rfl | rfl | rfl | rfl | rfl | rfl | rfl | rfl | rfl | rfl | rfl
  all_goals rfl
structure ImOk (x : Im) : Prop where
  (sd : -30000000000000 ≤ x.sd ∧ x.sd ≤ 30000000000000) (g : 0 ≤ x.g ∧ x.g ≤ 30000000000000)
theorem len0_bd {l : Ln} {c : Int} (h : lenMayB l 0 0 = true) (hc : 0 ≤ c ∧ c ≤ 1099511627776) : 0 ≤ resV l c ∧ resV l c ≤ 12000000000000 := by
  have hp := may_part0 h
  unfold resV
  split
  · rename_i hk
    rw [lenMayB, if_neg (by omega), if_pos hk] at h
    simp at h
    omega
  · split
    · rename_i hk
      have hb := hp hk
      have h0 : 0 ≤ l.n := by
        rw [lenMayB, if_neg (by omega), if_neg (by omega), if_pos hk] at h
        simp at h
        omega
      rw [Int.max_eq_left hc.1]
      have hh := part_hi c l.n hc.1 hc.2 hb.1 hb.2
      have hl := part_lo c l.n hb.1 hb.2
      have hs := part_split c l.n
      have h1 : 0 ≤ c * l.n := Int.mul_nonneg hc.1 h0
      omega
    · omega
theorem clamp_bd {s : Sty} {c x : Int} (hs : KidOk s) (hc : 0 ≤ c ∧ c ≤ 1099511627776) (hx : x ≤ 30000000000000) : 0 ≤ clampV s c x ∧ clampV s c x ≤ 30000000000000 := by
  obtain ⟨_, _, h1, h2⟩ := may_facts hs.may
  have b1 := len0_bd h1 hc
  have b2 := len0_bd h2 hc
  unfold clampV
  simp only
  split <;> split <;> omega
def ItemsIs (w : World) (n : Nat) (e : Ending) (w' : World) : Prop := ∃ A cap its, e = .returned (.slice A n cap) ∧ Rd w' 51 A n (recs imC its) ∧ its.length = n ∧ (∀ t ∈ its, ImOk t) ∧ Ext w w'
set_option maxRecDepth 100000 in
set_option maxHeartbeats 16000000 in
theorem items_any (A : Option Addr) (n cap : Nat) (c : Int) (ks : List Sty) (w : World) (rk : Rd w 43 A n (recs styC ks)) (hn : n ≤ 60) (hks : ∀ s ∈ ks, KidOk s) (hc : 0 ≤ c ∧ c ≤ 1099511627776) :
    Calls Try.prog 18 #[.int .i64 c, .slice A n cap, .slice none 0 0] w (ItemsIs w n) := by
  have hkl : ks.length = n := by have := rk.len; rw [recs_len styC_len] at this; omega
  have HKL := hide hkl
  have HKS := hide hks
  have HC := hide hc
  clear hkl hks hc
  obtain ⟨i5, hi5, hz5, hs5, hb5⟩ := info_bnd im_info
  have H5 := hide (And.intro hi5 (And.intro hz5 (And.intro hs5 hb5)))
  clear hi5 hz5 hs5 hb5
  go_enter Try.func18, Try.ntmps18
  go_wp2_with fail
  go_loopw [7, 8] (fun v7 v8 wr => ∃ (k : Nat) (B : Option Addr) (d : Nat) (its : List Im), v8 = .int .i64 k ∧ k ≤ n ∧ v7 = .slice B k d ∧ its.length = k ∧ Hid (∀ t ∈ its, ImOk t) ∧ wr.ownsRow w.heap.size 62 51 (.slice B k d) k (recs imC its) ∧ Ext w wr) (fun _ v8 _ => n - (intOf v8).toNat)
  case atStart => exact ⟨0, none, 0, [], rfl, by omega, rfl, rfl, hide (fun t h => by cases h), ⟨rfl, .inl ⟨rfl, rfl⟩⟩, Ext.refl _⟩
  case round =>
    obtain ⟨k, B, d, its, rfl, hk, rfl, hl, HO, OW, E⟩ := hrel
    have HL := hide hl
    clear hl
    by_cases hkn : k < n
    · obtain ⟨t, ht⟩ : ∃ t, ks[k]? = some t := ⟨_, List.getElem?_eq_getElem (by have := unhide HKL; omega)⟩
      have hok := (unhide HKS) t (List.mem_of_getElem? ht)
      obtain ⟨b, off, hA, hb, hmid⟩ := (rk.ext E).rec_ styC_len ht (by omega)
      have HMID := hide hmid
      have HA := hide hA
      have hcc := unhide HC
      obtain ⟨hed, hwm, hmin, hmax⟩ := may_facts hok.may
      have r3 := fun w => hide (ref_resolve t.m3 c (may_part hed.m3) hcc.2 w)
      have r1 := fun w => hide (ref_resolve t.m1 c (may_part hed.m1) hcc.2 w)
      have rb := fun w => hide (ref_resolve t.basis c (may_part0 hok.basis) hcc.2 w)
      have rw_ := fun w => hide (ref_resolve t.w c (may_part0 hwm) hcc.2 w)
      have fr := fun w => hide (ref_frame t hed.thin w)
      have clp := fun x w => hide (ref_clamp t c x (may_part0 hmax) (may_part0 hmin) hcc.2 w)
      have bl3 := lenM_bd hed.m3 hcc
      have bl1 := lenM_bd hed.m1 hcc
      have blb := len0_bd hok.basis hcc
      have blw := len0_bd hwm hcc
      have hfr : 0 ≤ t.b3 + t.b1 + t.p3 + t.p1 ∧ t.b3 + t.b1 + t.p3 + t.p1 ≤ 4398046511104 := by
        obtain ⟨a1, a2, a3, a4, a5, a6, a7, a8⟩ := hed.thin
        omega
      have clb := fun x hx => clamp_bd (x := x) hok hcc hx
      have HCB := hide clb
      simp only [Ln.v] at r3 r1 rb rw_
      obtain ⟨x3, hx3⟩ : ∃ x, resV t.m3 c = x := ⟨_, rfl⟩
      obtain ⟨x1, hx1⟩ : ∃ x, resV t.m1 c = x := ⟨_, rfl⟩
      obtain ⟨xb, hxb⟩ : ∃ x, resV t.basis c = x := ⟨_, rfl⟩
      obtain ⟨xw, hxw⟩ : ∃ x, resV t.w c = x := ⟨_, rfl⟩
      obtain ⟨fx, hfx⟩ : ∃ x, t.b3 + t.b1 + t.p3 + t.p1 = x := ⟨_, rfl⟩
      obtain ⟨qb, hqb⟩ : ∃ x, resB t.basis = x := ⟨_, rfl⟩
      obtain ⟨qw, hqw⟩ : ∃ x, resB t.w = x := ⟨_, rfl⟩
      rw [hx3] at r3 bl3
      rw [hx1] at r1 bl1
      rw [hxb, hqb] at rb
      rw [hxb] at blb
      rw [hxw, hqw] at rw_
      rw [hxw] at blw
      rw [hfx] at fr hfr
      clear hx3 hx1 hxb hxw hfx hqb hqw clb hok hed hwm hmin hmax hcc ht hmid hA
      have hkI : (0 : Int) ≤ (k : Int) ∧ (k : Int) < (n : Int) ∧ (n : Int) ≤ 60 := by omega
      go_upto_region 5 with fail
      go_step
      refine wpList_alloc_var rfl 62 rfl (imC zim).toArray zero_im ?_
      intro wa Ba Ea za
      simp only [Act.put, List.setIfInBounds_toArray, List.set_cons_succ, List.set_cons_zero]
      generalize hg : wr.heap.size = g at *
      have hEs := E.size
      go_upto_region 6 with fail
      rw [unhide HA]
      iterate 10 go_step
      refine wpList_load_sty _ rfl b (off + k * 43) rfl rfl t (fun j v hv => (Ea.cells.1 b _ (by omega)).trans ((unhide HMID) j v hv)) ?_
      simp only [Act.put, List.setIfInBounds_toArray, List.set_cons_succ, List.set_cons_zero]
      rw [← unhide HA]
      iterate 3 go_step
      refine wpList_store_head rfl 28 _ _ rfl g rfl t.cells rfl 62 (styC zsty) _ Ba rfl (info_style t) (by kernel_rfl) ?_
      intro w1 BI gr zs
      simp only [Act.put]
      have hsz : w.heap.size ≤ g := by omega
      have E1 : Ext wr w1 := Ext.grown Ea gr (fun q e => by injection e with e; omega)
      replace BI : Blk w1 g 62 (imC ⟨t, 0, 0, 0, 0, 0⟩).toArray := BI
      have O1 : w1.ownsRow w.heap.size 62 51 (.slice B k d) k (recs imC its) := own_far OW E1
      have HNB : Hid (∀ q, Value.ownBlock (.slice B k d) = some q → q ≠ g) := fun q e => by have := OW.lt q e; omega
      replace E := E.trans E1
      clear Ba Ea gr zs za E1 OW hg hEs HMID hb
      have c22 := (BI.cell 22).trans (show _ = some (.int .u8 t.m3.k) from rfl)
      have c23 := (BI.cell 23).trans (show _ = some (.int .i64 t.m3.n) from rfl)
      have li := BI.lt
      go_wp2_with fail
      clear li
      with_reducible refine (unhide (r3 _)).mono ?_
      rintro e w2 ⟨rfl, hx⟩
      replace BI := BI.ext hx
      replace O1 := own_far O1 hx
      replace E := E.trans hx
      clear hx
      clear c22 c23
      have ci := BI.cell 43
      have fi := BI.frozen 43
      have li := BI.lt
      go_upto_region 8 with fail
      clear ci fi li
      have BI2 := BI.set_ 43 (.int .i64 (x3))
      rw [show (imC ⟨t, 0, 0, 0, 0, 0⟩).toArray.setIfInBounds 43 (.int .i64 (x3)) = (imC ⟨t, x3, 0, 0, 0, 0⟩).toArray from rfl] at BI2
      replace E := E.set (p := ⟨g, 43, none⟩) (show w.heap.size ≤ g from hsz) (.int .i64 (x3))
      replace O1 := own_far1 O1 (p := ⟨g, 43, none⟩) (unhide HNB) (.int .i64 (x3))
      replace BI := BI2
      clear BI2
      generalize w2.setCell ⟨g, 43, none⟩ (.int .i64 (x3)) = w2s at *
      have c18 := (BI.cell 18).trans (show _ = some (.int .u8 t.m1.k) from rfl)
      have c19 := (BI.cell 19).trans (show _ = some (.int .i64 t.m1.n) from rfl)
      have li := BI.lt
      go_wp2_with fail
      clear li
      with_reducible refine (unhide (r1 _)).mono ?_
      rintro e w3 ⟨rfl, hx⟩
      replace BI := BI.ext hx
      replace O1 := own_far O1 hx
      replace E := E.trans hx
      clear hx
      clear c18 c19
      have ci := BI.cell 44
      have fi := BI.frozen 44
      have li := BI.lt
      go_upto_region 9 with fail
      clear ci fi li
      have BI2 := BI.set_ 44 (.int .i64 (x1))
      rw [show (imC ⟨t, x3, 0, 0, 0, 0⟩).toArray.setIfInBounds 44 (.int .i64 (x1)) = (imC ⟨t, x3, x1, 0, 0, 0⟩).toArray from rfl] at BI2
      replace E := E.set (p := ⟨g, 44, none⟩) (show w.heap.size ≤ g from hsz) (.int .i64 (x1))
      replace O1 := own_far1 O1 (p := ⟨g, 44, none⟩) (unhide HNB) (.int .i64 (x1))
      replace BI := BI2
      clear BI2
      generalize w3.setCell ⟨g, 44, none⟩ (.int .i64 (x1)) = w3s at *
      have hm0 : w3s.rangeAt g 0 (styC t) := fun j v hv => by rw [Nat.zero_add, BI.cell, List.getElem?_toArray]; unfold imC; rw [List.getElem?_append_left (show j < 43 from (List.getElem?_eq_some_iff.1 hv).1)]; exact hv
      have HM0 := hide hm0
      clear hm0
      have li := BI.lt
      go_wp2_with (first | (refine wpList_load_sty _ rfl g 0 rfl rfl t (unhide HM0) ?_; simp only [Act.put, List.setIfInBounds_toArray, List.set_cons_succ, List.set_cons_zero]))
      clear HM0 li
      with_reducible refine (unhide (fr _)).mono ?_
      rintro e w4 ⟨rfl, hx⟩
      replace BI := BI.ext hx
      replace O1 := own_far O1 hx
      replace E := E.trans hx
      clear hx
      have c43 := (BI.cell 43).trans (show _ = some (.int .i64 x3) from rfl)
      have c44 := (BI.cell 44).trans (show _ = some (.int .i64 x1) from rfl)
      have ci := BI.cell 45
      have fi := BI.frozen 45
      have li := BI.lt
      go_upto_region 11 with fail
      clear ci fi li
      have BI2 := BI.set_ 45 (.int .i64 (x3 + x1 + fx))
      rw [show (imC ⟨t, x3, x1, 0, 0, 0⟩).toArray.setIfInBounds 45 (.int .i64 (x3 + x1 + fx)) = (imC ⟨t, x3, x1, x3 + x1 + fx, 0, 0⟩).toArray from rfl] at BI2
      replace E := E.set (p := ⟨g, 45, none⟩) (show w.heap.size ≤ g from hsz) (.int .i64 (x3 + x1 + fx))
      replace O1 := own_far1 O1 (p := ⟨g, 45, none⟩) (unhide HNB) (.int .i64 (x3 + x1 + fx))
      replace BI := BI2
      clear BI2
      generalize w4.setCell ⟨g, 45, none⟩ (.int .i64 (x3 + x1 + fx)) = w4s at *
      clear c43 c44
      have c40 := (BI.cell 40).trans (show _ = some (.int .u8 t.basis.k) from rfl)
      have c41 := (BI.cell 41).trans (show _ = some (.int .i64 t.basis.n) from rfl)
      have li := BI.lt
      go_wp2_with fail
      clear li
      with_reducible refine (unhide (rb _)).mono ?_
      rintro e w5 ⟨rfl, hx⟩
      replace BI := BI.ext hx
      replace O1 := own_far O1 hx
      replace E := E.trans hx
      clear hx
      clear c40 c41
      have fin : ∀ (base : Int), 0 ≤ base ∧ base ≤ 12000000000000 → True := fun _ _ => trivial
      clear fin
      cases qb
      · go_upto_region 13 with fail
        have c4 := (BI.cell 4).trans (show _ = some (.int .u8 t.w.k) from rfl)
        have c5 := (BI.cell 5).trans (show _ = some (.int .i64 t.w.n) from rfl)
        have li := BI.lt
        go_wp2_with fail
        clear li
        with_reducible refine (unhide (rw_ _)).mono ?_
        rintro e w6 ⟨rfl, hx⟩
        replace BI := BI.ext hx
        replace O1 := own_far O1 hx
        replace E := E.trans hx
        clear hx
        clear c4 c5
        cases qw
        · skip
          have ci := BI.cell 46
          have fi := BI.frozen 46
          have li := BI.lt
          go_upto_region 17 with fail
          clear ci fi li
          have BI2 := BI.set_ 46 (.int .i64 (xw))
          rw [show (imC ⟨t, x3, x1, x3 + x1 + fx, 0, 0⟩).toArray.setIfInBounds 46 (.int .i64 (xw)) = (imC ⟨t, x3, x1, x3 + x1 + fx, xw, 0⟩).toArray from rfl] at BI2
          replace E := E.set (p := ⟨g, 46, none⟩) (show w.heap.size ≤ g from hsz) (.int .i64 (xw))
          replace O1 := own_far1 O1 (p := ⟨g, 46, none⟩) (unhide HNB) (.int .i64 (xw))
          replace BI := BI2
          clear BI2
          generalize w6.setCell ⟨g, 46, none⟩ (.int .i64 (xw)) = w6s at *
          have hm0 : w6s.rangeAt g 0 (styC t) := fun j v hv => by rw [Nat.zero_add, BI.cell, List.getElem?_toArray]; unfold imC; rw [List.getElem?_append_left (show j < 43 from (List.getElem?_eq_some_iff.1 hv).1)]; exact hv
          have HM0 := hide hm0
          clear hm0
          have li := BI.lt
          go_wp2_with (first | (refine wpList_load_sty _ rfl g 0 rfl rfl t (unhide HM0) ?_; simp only [Act.put, List.setIfInBounds_toArray, List.set_cons_succ, List.set_cons_zero]))
          clear HM0 li
          with_reducible refine (unhide (clp xw _)).mono ?_
          rintro e w7 ⟨rfl, hx⟩
          replace BI := BI.ext hx
          replace O1 := own_far O1 hx
          replace E := E.trans hx
          clear hx
          obtain ⟨gx, hgx⟩ : ∃ x, clampV t c (xw) = x := ⟨_, rfl⟩
          have hgb := (unhide HCB) (xw) (by omega)
          rw [hgx] at hgb ⊢
          clear hgx
          have ci := BI.cell 47
          have fi := BI.frozen 47
          have li := BI.lt
          go_upto_region 18 with fail
          clear ci fi li
          have BI2 := BI.set_ 47 (.int .i64 (gx))
          rw [show (imC ⟨t, x3, x1, x3 + x1 + fx, xw, 0⟩).toArray.setIfInBounds 47 (.int .i64 (gx)) = (imC ⟨t, x3, x1, x3 + x1 + fx, xw, gx⟩).toArray from rfl] at BI2
          replace E := E.set (p := ⟨g, 47, none⟩) (show w.heap.size ≤ g from hsz) (.int .i64 (gx))
          replace O1 := own_far1 O1 (p := ⟨g, 47, none⟩) (unhide HNB) (.int .i64 (gx))
          replace BI := BI2
          clear BI2
          generalize w7.setCell ⟨g, 47, none⟩ (.int .i64 (gx)) = w7s at *
          skip
          iterate 4 go_step
          refine wpList_load_blk rfl 62 _ rfl g rfl 62 (imC ⟨t, x3, x1, x3 + x1 + fx, xw, gx⟩).toArray _ BI Try.underlying62 rfl (size_im _) ?_
          simp only [Act.put, List.setIfInBounds_toArray, List.set_cons_succ, List.set_cons_zero]
          refine Go.Great.wpList_buildSliceTo rfl 58 62 1 _ rfl _ rfl _ rfl Try.underlying58 (imC ⟨t, x3, x1, x3 + x1 + fx, xw, gx⟩).toArray (by kernel_rfl) ?_
          simp only [Act.put, List.setIfInBounds_toArray, List.set_cons_succ, List.set_cons_zero]
          have hy : Ext w7s (w7s.alloc (.cells (imC ⟨t, x3, x1, x3 + x1 + fx, xw, gx⟩).toArray 62)) := (Ext.refl _).alloc _
          have R5 : Rd (w7s.alloc (.cells (imC ⟨t, x3, x1, x3 + x1 + fx, xw, gx⟩).toArray 62)) 51 (some ⟨w7s.heap.size, 0, none⟩) 1 (imC ⟨t, x3, x1, x3 + x1 + fx, xw, gx⟩) := (Blk.new w7s 62 (imC ⟨t, x3, x1, x3 + x1 + fx, xw, gx⟩).toArray).rdk (n := 1) (k := 51) rfl
          generalize w7s.alloc (.cells (imC ⟨t, x3, x1, x3 + x1 + fx, xw, gx⟩).toArray 62) = w8 at *
          generalize w7s.heap.size = g2 at *
          replace O1 := own_far O1 hy
          replace E := E.trans hy
          clear hy
          refine wpList_append_rd rfl (.tmp 98) (.tmp 100) _ rfl w.heap.size 62 i5 _ 51 i5.bytes Try.underlying58 (unhide H5).1 (unhide H5).2.1 (unhide H5).2.2.1 rfl rfl (by omega) _ k (recs imC its) rfl O1 _ 1 1 (imC ⟨t, x3, x1, x3 + x1 + fx, xw, gx⟩) rfl R5 (imC_one _) (by simp only [maxLen]; omega) (bytes_ok (by omega) (unhide H5).2.2.2) E.size ?_
          intro B5 d5 w9 own5 g5 at5
          simp only [Act.put, List.setIfInBounds_toArray, List.set_cons_succ, List.set_cons_zero]
          have E9 := E.grown g5 (fun q e => (O1.lt q e).1)
          have O5 : w9.ownsRow w.heap.size 62 51 (.slice B5 (k + 1) d5) (k + 1) (recs imC (its ++ [⟨t, x3, x1, x3 + x1 + fx, xw, gx⟩])) := by rw [recs_append, recs_one]; exact own5
          have HO2 := hide (show ∀ y ∈ its ++ [⟨t, x3, x1, x3 + x1 + fx, xw, gx⟩], ImOk y from fun u hu => by
            rcases List.mem_append.1 hu with hu | hu
            · exact (unhide HO) u hu
            · rw [List.mem_singleton.1 hu]; exact ⟨by show _ ≤ x3 + x1 + fx ∧ x3 + x1 + fx ≤ _; omega, hgb.1, hgb.2⟩)
          have HL2 := hide (show (its ++ [(⟨t, x3, x1, x3 + x1 + fx, xw, gx⟩ : Im)]).length = k + 1 by rw [List.length_append, unhide HL]; rfl)
          clear own5 g5 at5 O1 R5 BI HO HL
          go_wp2_with fail
          go_roundw
          case rel => exact ⟨k + 1, B5, d5, _, by go_num, by omega, rfl, unhide HL2, HO2, O5, E9⟩
          case measure => simp [intOf]; omega
        · skip
          have ci := BI.cell 46
          have fi := BI.frozen 46
          have li := BI.lt
          go_upto_region 17 with fail
          clear ci fi li
          have BI2 := BI.set_ 46 (.int .i64 (xw))
          rw [show (imC ⟨t, x3, x1, x3 + x1 + fx, 0, 0⟩).toArray.setIfInBounds 46 (.int .i64 (xw)) = (imC ⟨t, x3, x1, x3 + x1 + fx, xw, 0⟩).toArray from rfl] at BI2
          replace E := E.set (p := ⟨g, 46, none⟩) (show w.heap.size ≤ g from hsz) (.int .i64 (xw))
          replace O1 := own_far1 O1 (p := ⟨g, 46, none⟩) (unhide HNB) (.int .i64 (xw))
          replace BI := BI2
          clear BI2
          generalize w6.setCell ⟨g, 46, none⟩ (.int .i64 (xw)) = w6s at *
          have hm0 : w6s.rangeAt g 0 (styC t) := fun j v hv => by rw [Nat.zero_add, BI.cell, List.getElem?_toArray]; unfold imC; rw [List.getElem?_append_left (show j < 43 from (List.getElem?_eq_some_iff.1 hv).1)]; exact hv
          have HM0 := hide hm0
          clear hm0
          have li := BI.lt
          go_wp2_with (first | (refine wpList_load_sty _ rfl g 0 rfl rfl t (unhide HM0) ?_; simp only [Act.put, List.setIfInBounds_toArray, List.set_cons_succ, List.set_cons_zero]))
          clear HM0 li
          with_reducible refine (unhide (clp xw _)).mono ?_
          rintro e w7 ⟨rfl, hx⟩
          replace BI := BI.ext hx
          replace O1 := own_far O1 hx
          replace E := E.trans hx
          clear hx
          obtain ⟨gx, hgx⟩ : ∃ x, clampV t c (xw) = x := ⟨_, rfl⟩
          have hgb := (unhide HCB) (xw) (by omega)
          rw [hgx] at hgb ⊢
          clear hgx
          have ci := BI.cell 47
          have fi := BI.frozen 47
          have li := BI.lt
          go_upto_region 18 with fail
          clear ci fi li
          have BI2 := BI.set_ 47 (.int .i64 (gx))
          rw [show (imC ⟨t, x3, x1, x3 + x1 + fx, xw, 0⟩).toArray.setIfInBounds 47 (.int .i64 (gx)) = (imC ⟨t, x3, x1, x3 + x1 + fx, xw, gx⟩).toArray from rfl] at BI2
          replace E := E.set (p := ⟨g, 47, none⟩) (show w.heap.size ≤ g from hsz) (.int .i64 (gx))
          replace O1 := own_far1 O1 (p := ⟨g, 47, none⟩) (unhide HNB) (.int .i64 (gx))
          replace BI := BI2
          clear BI2
          generalize w7.setCell ⟨g, 47, none⟩ (.int .i64 (gx)) = w7s at *
          skip
          iterate 4 go_step
          refine wpList_load_blk rfl 62 _ rfl g rfl 62 (imC ⟨t, x3, x1, x3 + x1 + fx, xw, gx⟩).toArray _ BI Try.underlying62 rfl (size_im _) ?_
          simp only [Act.put, List.setIfInBounds_toArray, List.set_cons_succ, List.set_cons_zero]
          refine Go.Great.wpList_buildSliceTo rfl 58 62 1 _ rfl _ rfl _ rfl Try.underlying58 (imC ⟨t, x3, x1, x3 + x1 + fx, xw, gx⟩).toArray (by kernel_rfl) ?_
          simp only [Act.put, List.setIfInBounds_toArray, List.set_cons_succ, List.set_cons_zero]
          have hy : Ext w7s (w7s.alloc (.cells (imC ⟨t, x3, x1, x3 + x1 + fx, xw, gx⟩).toArray 62)) := (Ext.refl _).alloc _
          have R5 : Rd (w7s.alloc (.cells (imC ⟨t, x3, x1, x3 + x1 + fx, xw, gx⟩).toArray 62)) 51 (some ⟨w7s.heap.size, 0, none⟩) 1 (imC ⟨t, x3, x1, x3 + x1 + fx, xw, gx⟩) := (Blk.new w7s 62 (imC ⟨t, x3, x1, x3 + x1 + fx, xw, gx⟩).toArray).rdk (n := 1) (k := 51) rfl
          generalize w7s.alloc (.cells (imC ⟨t, x3, x1, x3 + x1 + fx, xw, gx⟩).toArray 62) = w8 at *
          generalize w7s.heap.size = g2 at *
          replace O1 := own_far O1 hy
          replace E := E.trans hy
          clear hy
          refine wpList_append_rd rfl (.tmp 98) (.tmp 100) _ rfl w.heap.size 62 i5 _ 51 i5.bytes Try.underlying58 (unhide H5).1 (unhide H5).2.1 (unhide H5).2.2.1 rfl rfl (by omega) _ k (recs imC its) rfl O1 _ 1 1 (imC ⟨t, x3, x1, x3 + x1 + fx, xw, gx⟩) rfl R5 (imC_one _) (by simp only [maxLen]; omega) (bytes_ok (by omega) (unhide H5).2.2.2) E.size ?_
          intro B5 d5 w9 own5 g5 at5
          simp only [Act.put, List.setIfInBounds_toArray, List.set_cons_succ, List.set_cons_zero]
          have E9 := E.grown g5 (fun q e => (O1.lt q e).1)
          have O5 : w9.ownsRow w.heap.size 62 51 (.slice B5 (k + 1) d5) (k + 1) (recs imC (its ++ [⟨t, x3, x1, x3 + x1 + fx, xw, gx⟩])) := by rw [recs_append, recs_one]; exact own5
          have HO2 := hide (show ∀ y ∈ its ++ [⟨t, x3, x1, x3 + x1 + fx, xw, gx⟩], ImOk y from fun u hu => by
            rcases List.mem_append.1 hu with hu | hu
            · exact (unhide HO) u hu
            · rw [List.mem_singleton.1 hu]; exact ⟨by show _ ≤ x3 + x1 + fx ∧ x3 + x1 + fx ≤ _; omega, hgb.1, hgb.2⟩)
          have HL2 := hide (show (its ++ [(⟨t, x3, x1, x3 + x1 + fx, xw, gx⟩ : Im)]).length = k + 1 by rw [List.length_append, unhide HL]; rfl)
          clear own5 g5 at5 O1 R5 BI HO HL
          go_wp2_with fail
          go_roundw
          case rel => exact ⟨k + 1, B5, d5, _, by go_num, by omega, rfl, unhide HL2, HO2, O5, E9⟩
          case measure => simp [intOf]; omega
      · skip
        have ci := BI.cell 46
        have fi := BI.frozen 46
        have li := BI.lt
        go_upto_region 17 with fail
        clear ci fi li
        have BI2 := BI.set_ 46 (.int .i64 (xb))
        rw [show (imC ⟨t, x3, x1, x3 + x1 + fx, 0, 0⟩).toArray.setIfInBounds 46 (.int .i64 (xb)) = (imC ⟨t, x3, x1, x3 + x1 + fx, xb, 0⟩).toArray from rfl] at BI2
        replace E := E.set (p := ⟨g, 46, none⟩) (show w.heap.size ≤ g from hsz) (.int .i64 (xb))
        replace O1 := own_far1 O1 (p := ⟨g, 46, none⟩) (unhide HNB) (.int .i64 (xb))
        replace BI := BI2
        clear BI2
        generalize w5.setCell ⟨g, 46, none⟩ (.int .i64 (xb)) = w5s at *
        have hm0 : w5s.rangeAt g 0 (styC t) := fun j v hv => by rw [Nat.zero_add, BI.cell, List.getElem?_toArray]; unfold imC; rw [List.getElem?_append_left (show j < 43 from (List.getElem?_eq_some_iff.1 hv).1)]; exact hv
        have HM0 := hide hm0
        clear hm0
        have li := BI.lt
        go_wp2_with (first | (refine wpList_load_sty _ rfl g 0 rfl rfl t (unhide HM0) ?_; simp only [Act.put, List.setIfInBounds_toArray, List.set_cons_succ, List.set_cons_zero]))
        clear HM0 li
        with_reducible refine (unhide (clp xb _)).mono ?_
        rintro e w7 ⟨rfl, hx⟩
        replace BI := BI.ext hx
        replace O1 := own_far O1 hx
        replace E := E.trans hx
        clear hx
        obtain ⟨gx, hgx⟩ : ∃ x, clampV t c (xb) = x := ⟨_, rfl⟩
        have hgb := (unhide HCB) (xb) (by omega)
        rw [hgx] at hgb ⊢
        clear hgx
        have ci := BI.cell 47
        have fi := BI.frozen 47
        have li := BI.lt
        go_upto_region 18 with fail
        clear ci fi li
        have BI2 := BI.set_ 47 (.int .i64 (gx))
        rw [show (imC ⟨t, x3, x1, x3 + x1 + fx, xb, 0⟩).toArray.setIfInBounds 47 (.int .i64 (gx)) = (imC ⟨t, x3, x1, x3 + x1 + fx, xb, gx⟩).toArray from rfl] at BI2
        replace E := E.set (p := ⟨g, 47, none⟩) (show w.heap.size ≤ g from hsz) (.int .i64 (gx))
        replace O1 := own_far1 O1 (p := ⟨g, 47, none⟩) (unhide HNB) (.int .i64 (gx))
        replace BI := BI2
        clear BI2
        generalize w7.setCell ⟨g, 47, none⟩ (.int .i64 (gx)) = w7s at *
        skip
        iterate 4 go_step
        refine wpList_load_blk rfl 62 _ rfl g rfl 62 (imC ⟨t, x3, x1, x3 + x1 + fx, xb, gx⟩).toArray _ BI Try.underlying62 rfl (size_im _) ?_
        simp only [Act.put, List.setIfInBounds_toArray, List.set_cons_succ, List.set_cons_zero]
        refine Go.Great.wpList_buildSliceTo rfl 58 62 1 _ rfl _ rfl _ rfl Try.underlying58 (imC ⟨t, x3, x1, x3 + x1 + fx, xb, gx⟩).toArray (by kernel_rfl) ?_
        simp only [Act.put, List.setIfInBounds_toArray, List.set_cons_succ, List.set_cons_zero]
        have hy : Ext w7s (w7s.alloc (.cells (imC ⟨t, x3, x1, x3 + x1 + fx, xb, gx⟩).toArray 62)) := (Ext.refl _).alloc _
        have R5 : Rd (w7s.alloc (.cells (imC ⟨t, x3, x1, x3 + x1 + fx, xb, gx⟩).toArray 62)) 51 (some ⟨w7s.heap.size, 0, none⟩) 1 (imC ⟨t, x3, x1, x3 + x1 + fx, xb, gx⟩) := (Blk.new w7s 62 (imC ⟨t, x3, x1, x3 + x1 + fx, xb, gx⟩).toArray).rdk (n := 1) (k := 51) rfl
        generalize w7s.alloc (.cells (imC ⟨t, x3, x1, x3 + x1 + fx, xb, gx⟩).toArray 62) = w8 at *
        generalize w7s.heap.size = g2 at *
        replace O1 := own_far O1 hy
        replace E := E.trans hy
        clear hy
        refine wpList_append_rd rfl (.tmp 98) (.tmp 100) _ rfl w.heap.size 62 i5 _ 51 i5.bytes Try.underlying58 (unhide H5).1 (unhide H5).2.1 (unhide H5).2.2.1 rfl rfl (by omega) _ k (recs imC its) rfl O1 _ 1 1 (imC ⟨t, x3, x1, x3 + x1 + fx, xb, gx⟩) rfl R5 (imC_one _) (by simp only [maxLen]; omega) (bytes_ok (by omega) (unhide H5).2.2.2) E.size ?_
        intro B5 d5 w9 own5 g5 at5
        simp only [Act.put, List.setIfInBounds_toArray, List.set_cons_succ, List.set_cons_zero]
        have E9 := E.grown g5 (fun q e => (O1.lt q e).1)
        have O5 : w9.ownsRow w.heap.size 62 51 (.slice B5 (k + 1) d5) (k + 1) (recs imC (its ++ [⟨t, x3, x1, x3 + x1 + fx, xb, gx⟩])) := by rw [recs_append, recs_one]; exact own5
        have HO2 := hide (show ∀ y ∈ its ++ [⟨t, x3, x1, x3 + x1 + fx, xb, gx⟩], ImOk y from fun u hu => by
          rcases List.mem_append.1 hu with hu | hu
          · exact (unhide HO) u hu
          · rw [List.mem_singleton.1 hu]; exact ⟨by show _ ≤ x3 + x1 + fx ∧ x3 + x1 + fx ≤ _; omega, hgb.1, hgb.2⟩)
        have HL2 := hide (show (its ++ [(⟨t, x3, x1, x3 + x1 + fx, xb, gx⟩ : Im)]).length = k + 1 by rw [List.length_append, unhide HL]; rfl)
        clear own5 g5 at5 O1 R5 BI HO HL
        go_wp2_with fail
        go_roundw
        case rel => exact ⟨k + 1, B5, d5, _, by go_num, by omega, rfl, unhide HL2, HO2, O5, E9⟩
        case measure => simp [intOf]; omega
    · obtain rfl : k = n := by omega
      have R1 := Rd.of_own OW
      go_wp2_with fail
      go_ret
      exact ⟨B, d, its, rfl, R1, unhide HL, unhide HO, E⟩
end Go.Proofs.Ytkkkdjkjggofkaa
