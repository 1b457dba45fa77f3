/- Layer 20: which cases may be looked at (walks). -/
import Derived.Test.YtkkkdjkjggofkaaCsO
namespace Go.Proofs.Ytkkkdjkjggofkaa
open Go.RowKit
theorem wpList_load_midg {P : Program} {ops : Array Oper} {rest : List Oper} {op : Oper} {a : Act} {w : World} {Q : Exit → Act → World → Prop} (ty : TypeId) (x : Operand) (ho : op.op = .load ty x)
    (b o : Nat) (hx : a.eval x = .pointer (some ⟨b, o, none⟩)) (hw : Region.wanted op (yielded ops a.tmps) = true) (cs : List Value) (d : TypeDesc) (hc : w.rangeAt b o cs)
    (hu : P.underlying ty = some d) (hd : d.isRow = true) (hi : (P.info? ty).map (·.size) = some cs.length)
    (h : wpList P ops Q rest (a.put op.dst (.agg cs.toArray)) w) : wpList P ops Q (op :: rest) a w :=
  BigFrame.wpList_want hw fun _ hK => wp_load_mid ty x ho b o hx cs d hc hu hd hi (hK _ _ h)
theorem wpList_load_sty {ops : Array Oper} {rest : List Oper} {op : Oper} {a : Act} {w : World} {Q : Exit → Act → World → Prop} (x : Operand) (ho : op.op = .load 28 x)
    (b o : Nat) (hx : a.eval x = .pointer (some ⟨b, o, none⟩)) (hw : Region.wanted op (yielded ops a.tmps) = true) (s : Sty) (hc : w.rangeAt b o (styC s))
    (h : wpList Try.prog ops Q rest (a.put op.dst (.agg s.cells)) w) : wpList Try.prog ops Q (op :: rest) a w :=
  wpList_load_midg 28 x ho b o hx hw (styC s) _ hc Try.underlying28 rfl (info_style s) h
structure LenOk (l : Ln) : Prop where
  no : l.k ≠ 2
  may : lenMayB l 0 0 = true
structure HiOk (s : Sty) : Prop where
  (h : LenOk s.h) (lo : LenOk s.minh) (hi : LenOk s.maxh)
theorem LenOk.bd {l : Ln} (h : LenOk l) (hk : l.k = 1) : 0 ≤ l.n ∧ l.n ≤ 1099511627776 := by
  have := h.may
  rw [lenMayB, if_neg (by omega), if_pos hk] at this
  simpa using this
theorem HiOk.sh {s : Sty} (h : HiOk s) : StyH s := ⟨h.h.bd, h.lo.bd, h.hi.bd⟩
theorem may_part {l : Ln} {lo : Int} (h : lenMayB l lo (-100000) = true) : partOk l := by
  intro hk
  rw [lenMayB, if_neg (by omega), if_neg (by omega), if_pos hk] at h
  simpa using h
theorem may_part0 {l : Ln} (h : lenMayB l 0 0 = true) : partOk l := by
  intro hk
  rw [lenMayB, if_neg (by omega), if_neg (by omega), if_pos hk] at h
  simp at h
  omega
theorem EdgesOk.ok {s : Sty} (h : EdgesOk s) : StyOk s := ⟨h.thin, may_part h.m0, may_part h.m2⟩
theorem lenM_bd {l : Ln} {c : Int} (h : lenMayB l (-1099511627776) (-100000) = true) (hc : 0 ≤ c ∧ c ≤ 1099511627776) : -12000000000000 ≤ resV l c ∧ resV l c ≤ 12000000000000 := by
  have hp := may_part h
  unfold resV
  split
  · rename_i hk
    rw [lenMayB, if_neg (by omega), if_pos hk] at h
    simp at h
    omega
  · split
    · rename_i hk
      have := hp hk
      have hm := mul_bound c l.n hc.1 hc.2 this.1 this.2
      rw [Int.max_eq_left hc.1]
      have hh := part_hi c l.n hc.1 hc.2 this.1 this.2
      have hl := part_lo c l.n this.1 this.2
      have hs := part_split c l.n
      omega
    · omega
structure KidOk (s : Sty) : Prop where
  may : mayB s = true
  hi : HiOk s
  basis : lenMayB s.basis 0 0 = true
  grow : 0 ≤ s.grow ∧ s.grow ≤ 60
  shrink : 0 ≤ s.shrink ∧ s.shrink ≤ 60
structure UsOk (u : Us) : Prop where
  (w : 0 ≤ u.w ∧ u.w ≤ 1099511627776) (l : -1099511627776 ≤ u.l ∧ u.l ≤ 1099511627776) (r : -1099511627776 ≤ u.r ∧ u.r ≤ 1099511627776)
structure CaseOk (x : Cs) (ks : List Sty) (us : List Us) (hs : List Int) : Prop where
  (kl : x.kl ≤ 60) (ul : x.ul ≤ 100) (hl : x.hl ≤ 100) (c : 0 ≤ x.c ∧ x.c ≤ 1099511627776)
  hi : HiOk x.s
  kids : ∀ s ∈ ks, KidOk s
  useds : ∀ u ∈ us, UsOk u
  highs : ∀ h ∈ hs, 0 ≤ h ∧ h ≤ 1099511627776
def BoolIf (P : Prop) (w : World) (e : Ending) (w' : World) : Prop := ∃ b, e = .returned (.bool b) ∧ (b = true → P) ∧ Ext w w'
set_option maxRecDepth 100000 in
set_option maxHeartbeats 4000000 in
theorem highMay_any (s : Sty) (w : World) : Calls Try.prog 15 #[.agg s.cells] w (BoolIf (HiOk s) w) := by
  obtain ⟨a, ha⟩ : ∃ a, lenMayB s.h 0 0 = a := ⟨_, rfl⟩
  obtain ⟨b, hb⟩ : ∃ b, lenMayB s.minh 0 0 = b := ⟨_, rfl⟩
  obtain ⟨c, hc⟩ : ∃ c, lenMayB s.maxh 0 0 = c := ⟨_, rfl⟩
  have c0 := fun w => lenMay_any s.h 0 0 (.inl ⟨rfl, rfl⟩) w
  have c1 := fun w => lenMay_any s.minh 0 0 (.inl ⟨rfl, rfl⟩) w
  have c2 := fun w => lenMay_any s.maxh 0 0 (.inl ⟨rfl, rfl⟩) w
  rw [ha] at c0
  rw [hb] at c1
  rw [hc] at c2
  have HC := hide (show HiOk s ↔ (s.h.k ≠ 2 ∧ a = true) ∧ (s.minh.k ≠ 2 ∧ b = true) ∧ (s.maxh.k ≠ 2 ∧ c = true) from by
    subst ha hb hc
    exact ⟨fun ⟨⟨h1, h2⟩, ⟨h3, h4⟩, ⟨h5, h6⟩⟩ => ⟨⟨h1, h2⟩, ⟨h3, h4⟩, ⟨h5, h6⟩⟩, fun ⟨⟨h1, h2⟩, ⟨h3, h4⟩, ⟨h5, h6⟩⟩ => ⟨⟨h1, h2⟩, ⟨h3, h4⟩, ⟨h5, h6⟩⟩⟩)
  obtain ⟨kk0, hk0⟩ : ∃ k, s.h.k = k := ⟨_, rfl⟩
  obtain ⟨kk1, hk1⟩ : ∃ k, s.minh.k = k := ⟨_, rfl⟩
  obtain ⟨kk2, hk2⟩ : ∃ k, s.maxh.k = k := ⟨_, rfl⟩
  rw [hk0, hk1, hk2] at HC
  simp only [Ln.v, hk0] at c0
  simp only [Ln.v, hk1] at c1
  simp only [Ln.v, hk2] at c2
  replace c0 := fun w => hide (c0 w)
  replace c1 := fun w => hide (c1 w)
  replace c2 := fun w => hide (c2 w)
  clear ha hb hc
  by_cases k0 : kk0 = 2
  · go_enter Try.func15, Try.ntmps15
    go_wp2_with fail
    refine wp_loop_rounds 4 ?_
    rw [rounds_succ]
    go_wp2_with fail
    go_ret
    refine ⟨false, rfl, fun h => (by cases h), ?_⟩
    repeat (first | exact Ext.refl _ | (with_reducible refine Ext.trans ?_ (by assumption)) | (with_reducible refine Ext.alloc ?_ _))
  cases a
  · go_enter Try.func15, Try.ntmps15
    go_wp2_with fail
    refine wp_loop_rounds 4 ?_
    rw [rounds_succ]
    go_wp2_with fail
    with_reducible refine (unhide (c0 _)).mono ?_
    rintro e w1 ⟨rfl, x0⟩
    have BL := Blk.ext (Blk.new1 _ _ _ _) x0
    have bc := BL.cell
    have bl := BL.lt
    go_wp2_with fail
    try (rw [rounds_succ]; go_wp2_with fail)
    go_ret
    refine ⟨false, rfl, fun h => (by cases h), ?_⟩
    repeat (first | exact Ext.refl _ | (with_reducible refine Ext.trans ?_ (by assumption)) | (with_reducible refine Ext.alloc ?_ _))
  by_cases k1 : kk1 = 2
  · go_enter Try.func15, Try.ntmps15
    go_wp2_with fail
    refine wp_loop_rounds 4 ?_
    rw [rounds_succ]
    go_wp2_with fail
    with_reducible refine (unhide (c0 _)).mono ?_
    rintro e w1 ⟨rfl, x0⟩
    have BL := Blk.ext (Blk.new1 _ _ _ _) x0
    have bc := BL.cell
    have bl := BL.lt
    go_wp2_with fail
    try (rw [rounds_succ]; go_wp2_with fail)
    go_ret
    refine ⟨false, rfl, fun h => (by cases h), ?_⟩
    repeat (first | exact Ext.refl _ | (with_reducible refine Ext.trans ?_ (by assumption)) | (with_reducible refine Ext.alloc ?_ _))
  cases b
  · go_enter Try.func15, Try.ntmps15
    go_wp2_with fail
    refine wp_loop_rounds 4 ?_
    rw [rounds_succ]
    go_wp2_with fail
    with_reducible refine (unhide (c0 _)).mono ?_
    rintro e w1 ⟨rfl, x0⟩
    have BL := Blk.ext (Blk.new1 _ _ _ _) x0
    have bc := BL.cell
    have bl := BL.lt
    go_wp2_with fail
    try (rw [rounds_succ]; go_wp2_with fail)
    with_reducible refine (unhide (c1 _)).mono ?_
    rintro e w2 ⟨rfl, x1⟩
    clear bc bl
    replace BL := BL.ext x1
    have bc := BL.cell
    have bl := BL.lt
    go_wp2_with fail
    try (rw [rounds_succ]; go_wp2_with fail)
    go_ret
    refine ⟨false, rfl, fun h => (by cases h), ?_⟩
    repeat (first | exact Ext.refl _ | (with_reducible refine Ext.trans ?_ (by assumption)) | (with_reducible refine Ext.alloc ?_ _))
  by_cases k2 : kk2 = 2
  · go_enter Try.func15, Try.ntmps15
    go_wp2_with fail
    refine wp_loop_rounds 4 ?_
    rw [rounds_succ]
    go_wp2_with fail
    with_reducible refine (unhide (c0 _)).mono ?_
    rintro e w1 ⟨rfl, x0⟩
    have BL := Blk.ext (Blk.new1 _ _ _ _) x0
    have bc := BL.cell
    have bl := BL.lt
    go_wp2_with fail
    try (rw [rounds_succ]; go_wp2_with fail)
    with_reducible refine (unhide (c1 _)).mono ?_
    rintro e w2 ⟨rfl, x1⟩
    clear bc bl
    replace BL := BL.ext x1
    have bc := BL.cell
    have bl := BL.lt
    go_wp2_with fail
    try (rw [rounds_succ]; go_wp2_with fail)
    go_ret
    refine ⟨false, rfl, fun h => (by cases h), ?_⟩
    repeat (first | exact Ext.refl _ | (with_reducible refine Ext.trans ?_ (by assumption)) | (with_reducible refine Ext.alloc ?_ _))
  cases c
  · go_enter Try.func15, Try.ntmps15
    go_wp2_with fail
    refine wp_loop_rounds 4 ?_
    rw [rounds_succ]
    go_wp2_with fail
    with_reducible refine (unhide (c0 _)).mono ?_
    rintro e w1 ⟨rfl, x0⟩
    have BL := Blk.ext (Blk.new1 _ _ _ _) x0
    have bc := BL.cell
    have bl := BL.lt
    go_wp2_with fail
    try (rw [rounds_succ]; go_wp2_with fail)
    with_reducible refine (unhide (c1 _)).mono ?_
    rintro e w2 ⟨rfl, x1⟩
    clear bc bl
    replace BL := BL.ext x1
    have bc := BL.cell
    have bl := BL.lt
    go_wp2_with fail
    try (rw [rounds_succ]; go_wp2_with fail)
    with_reducible refine (unhide (c2 _)).mono ?_
    rintro e w3 ⟨rfl, x2⟩
    clear bc bl
    replace BL := BL.ext x2
    have bc := BL.cell
    have bl := BL.lt
    go_wp2_with fail
    try (rw [rounds_succ]; go_wp2_with fail)
    go_ret
    refine ⟨false, rfl, fun h => (by cases h), ?_⟩
    repeat (first | exact Ext.refl _ | (with_reducible refine Ext.trans ?_ (by assumption)) | (with_reducible refine Ext.alloc ?_ _))
  go_enter Try.func15, Try.ntmps15
  go_wp2_with fail
  refine wp_loop_rounds 4 ?_
  rw [rounds_succ]
  go_wp2_with fail
  with_reducible refine (unhide (c0 _)).mono ?_
  rintro e w1 ⟨rfl, x0⟩
  have BL := Blk.ext (Blk.new1 _ _ _ _) x0
  have bc := BL.cell
  have bl := BL.lt
  go_wp2_with fail
  try (rw [rounds_succ]; go_wp2_with fail)
  with_reducible refine (unhide (c1 _)).mono ?_
  rintro e w2 ⟨rfl, x1⟩
  clear bc bl
  replace BL := BL.ext x1
  have bc := BL.cell
  have bl := BL.lt
  go_wp2_with fail
  try (rw [rounds_succ]; go_wp2_with fail)
  with_reducible refine (unhide (c2 _)).mono ?_
  rintro e w3 ⟨rfl, x2⟩
  clear bc bl
  replace BL := BL.ext x2
  have bc := BL.cell
  have bl := BL.lt
  go_wp2_with fail
  try (rw [rounds_succ]; go_wp2_with fail)
  try (rw [rounds_succ]; go_wp2_with fail)
  go_ret
  refine ⟨true, rfl, fun _ => (unhide HC).2 ⟨⟨k0, (by simp)⟩, ⟨k1, (by simp)⟩, ⟨k2, (by simp)⟩⟩, ?_⟩
  repeat (first | exact Ext.refl _ | (with_reducible refine Ext.trans ?_ (by assumption)) | (with_reducible refine Ext.alloc ?_ _))
theorem Cs.sty (x : Cs) {j : Nat} {v : Value} (h : (styC x.s)[j]? = some v) : x.cells[j]? = some v := by
  have hj : j < (styC x.s).length := (List.getElem?_eq_some_iff.1 h).1
  show (styC x.s ++ ([.int .i64 x.c, .slice x.ka x.kl x.kc, .slice x.ua x.ul x.uc, .slice x.ha x.hl x.hc] : List Value)).toArray[j]? = some v
  rw [List.getElem?_toArray, List.getElem?_append_left hj]
  exact h
def KB (ks : List Sty) (k : Nat) : Prop := ∀ i s, i < k → ks[i]? = some s → KidOk s
def UB (us : List Us) (k : Nat) : Prop := ∀ i u, i < k → us[i]? = some u → UsOk u
def NB (hs : List Int) (k : Nat) : Prop := ∀ i h, i < k → hs[i]? = some h → 0 ≤ h ∧ h ≤ 1099511627776
theorem all_snoc {α : Type} {P : α → Prop} {l : List α} {k : Nat} {x : α} (h : ∀ i s, i < k → l[i]? = some s → P s) (hx : l[k]? = some x) (hp : P x) : ∀ i s, i < k + 1 → l[i]? = some s → P s := fun i s hi hs => by
  rcases Nat.lt_or_ge i k with h1 | h1
  · exact h i s h1 hs
  · obtain rfl : i = k := by omega
    rw [hx] at hs
    obtain rfl := Option.some.inj hs
    exact hp
theorem all_end {α : Type} {P : α → Prop} {l : List α} {k : Nat} (h : ∀ i s, i < k → l[i]? = some s → P s) (hl : l.length ≤ k) : ∀ s ∈ l, P s := fun s hs => by
  obtain ⟨i, hi⟩ := List.getElem?_of_mem hs
  exact h i s (by have := (List.getElem?_eq_some_iff.1 hi).1; omega) hi
set_option maxRecDepth 100000 in
set_option maxHeartbeats 16000000 in
theorem caseMay_any (x : Cs) (ks : List Sty) (us : List Us) (hs : List Int) (w : World) (rk : Rd w 43 x.ka x.kl (recs styC ks)) (ru : Rd w 3 x.ua x.ul (recs usC us)) (rh : Rd w 1 x.ha x.hl (ints hs)) :
    Calls Try.prog 7 #[.agg x.cells] w (BoolIf (CaseOk x ks us hs) w) := by
  have hkl : ks.length = x.kl := by have := rk.len; rw [recs_len styC_len] at this; omega
  have hul : us.length = x.ul := by have := ru.len; rw [recs_len usC_len] at this; omega
  have hhl : hs.length = x.hl := by have := rh.len; rw [ints_len] at this; omega
  have HI0 := fun w => hide (highMay_any x.s w)
  have HM0 := fun s w => hide (may_any s w)
  have HM1 := fun s w => hide (highMay_any s w)
  have HM2 := fun (l : Ln) w => hide (lenMay_any l 0 0 (.inl ⟨rfl, rfl⟩) w)
  simp only [Ln.v] at HM2
  have CS := fun j v (h : (styC x.s)[j]? = some v) => x.sty h
  obtain ⟨s, c, ka, kl, kc, ua, ul, uc, ha, hl, hc⟩ := x
  simp only at rk ru rh hkl hul hhl HI0 CS
  have HCS := hide CS
  have HKL := hide hkl
  have HUL := hide hul
  have HHL := hide hhl
  clear CS hkl hul hhl
  by_cases b0 : 60 < kl
  · have hI : (60 : Int) < (kl : Int) := by omega
    clear rk ru rh
    go_enter Try.func7, Try.ntmps7
    go_wp2_with fail
    go_ret
    exact ⟨false, rfl, fun h => (by cases h), (Ext.refl _).alloc _⟩
  have b0I : ¬ (60 : Int) < (kl : Int) := by omega
  by_cases b1 : 100 < ul
  · have hI : (100 : Int) < (ul : Int) := by omega
    clear rk ru rh
    go_enter Try.func7, Try.ntmps7
    go_wp2_with fail
    go_ret
    exact ⟨false, rfl, fun h => (by cases h), (Ext.refl _).alloc _⟩
  have b1I : ¬ (100 : Int) < (ul : Int) := by omega
  by_cases b2 : 100 < hl
  · have hI : (100 : Int) < (hl : Int) := by omega
    clear rk ru rh
    go_enter Try.func7, Try.ntmps7
    go_wp2_with fail
    go_ret
    exact ⟨false, rfl, fun h => (by cases h), (Ext.refl _).alloc _⟩
  have b2I : ¬ (100 : Int) < (hl : Int) := by omega
  by_cases b3 : c < 0
  · skip
    clear rk ru rh
    go_enter Try.func7, Try.ntmps7
    go_wp2_with fail
    go_ret
    exact ⟨false, rfl, fun h => (by cases h), (Ext.refl _).alloc _⟩
  by_cases b4 : 1099511627776 < c
  · skip
    clear rk ru rh
    go_enter Try.func7, Try.ntmps7
    go_wp2_with fail
    go_ret
    exact ⟨false, rfl, fun h => (by cases h), (Ext.refl _).alloc _⟩
  go_enter Try.func7, Try.ntmps7
  go_upto_region 1 with fail
  have BC : Blk (w.alloc (.cells (Cs.cells ⟨s, c, ka, kl, kc, ua, ul, uc, ha, hl, hc⟩) 33)) w.heap.size 33 (Cs.cells ⟨s, c, ka, kl, kc, ua, ul, uc, ha, hl, hc⟩) := Blk.new _ _ _
  have E : Ext w (w.alloc (.cells (Cs.cells ⟨s, c, ka, kl, kc, ua, ul, uc, ha, hl, hc⟩) 33)) := (Ext.refl _).alloc _
  have C43 := (BC.cell 43).trans (show _ = some (Value.int .i64 c) from rfl)
  have C44 := (BC.cell 44).trans (show _ = some (Value.slice ka kl kc) from rfl)
  have C45 := (BC.cell 45).trans (show _ = some (Value.slice ua ul uc) from rfl)
  have C46 := (BC.cell 46).trans (show _ = some (Value.slice ha hl hc) from rfl)
  have LC := BC.lt
  have hmid : (w.alloc (.cells (Cs.cells ⟨s, c, ka, kl, kc, ua, ul, uc, ha, hl, hc⟩) 33)).rangeAt w.heap.size 0 (styC s) := fun j v hv => by rw [Nat.zero_add, BC.cell]; exact (unhide HCS) j v hv
  have HMID := hide hmid
  clear hmid
  generalize w.alloc (.cells (Cs.cells ⟨s, c, ka, kl, kc, ua, ul, uc, ha, hl, hc⟩) 33) = w0 at *
  generalize w.heap.size = g at *
  go_wp2_with (first | (refine wpList_load_sty _ rfl g 0 rfl rfl s (unhide HMID) ?_; simp only [Act.put, List.setIfInBounds_toArray, List.set_cons_succ, List.set_cons_zero]))
  with_reducible refine (unhide (HI0 _)).mono ?_
  rintro e w1 ⟨b, rfl, hb, hx⟩
  cases b
  · go_wp2_with fail
    go_ret
    exact ⟨false, rfl, fun h => (by cases h), E.trans hx⟩
  have HI := hide (hb rfl)
  replace BC := BC.ext hx
  replace E := E.trans hx
  clear hb hx C43 C44 C45 C46 LC HMID HI0 HCS
  have HB := hide (show KB ks 0 from fun i s hi => by omega)
  go_wp2_with fail
  go_loopw [3] (fun v3 wr => ∃ (k : Nat), v3 = .int .i64 k ∧ k ≤ kl ∧ Hid (KB ks k) ∧ Ext w wr ∧ Blk wr g 33 (Cs.cells ⟨s, c, ka, kl, kc, ua, ul, uc, ha, hl, hc⟩)) (fun v3 _ => kl - (intOf v3).toNat)
  case atStart => exact ⟨0, rfl, by omega, HB, E, BC⟩
  case round =>
    clear HB E BC
    obtain ⟨k, rfl, hk, HB, E, BC⟩ := hrel
    have C44 := (BC.cell 44).trans (show _ = some (Value.slice ka kl kc) from rfl)
    have LC := BC.lt
    by_cases hkl : k < kl
    · obtain ⟨t, ht⟩ : ∃ t, ks[k]? = some t := ⟨_, List.getElem?_eq_getElem (by have := unhide HKL; omega)⟩
      obtain ⟨b, off, rfl, hb, hmid⟩ := (rk.ext E).rec_ styC_len ht (by omega)
      have HT := hide ht
      have HMID := hide hmid
      clear ht hmid
      have hkI : (0 : Int) ≤ (k : Int) ∧ (k : Int) < (kl : Int) := by omega
      obtain ⟨m, hm⟩ : ∃ m, mayB t = m := ⟨_, rfl⟩
      have HMM := hide hm
      have cm := HM0 t
      rw [hm] at cm
      clear hm
      obtain ⟨l, hl9⟩ : ∃ l, lenMayB t.basis 0 0 = l := ⟨_, rfl⟩
      have HLL := hide hl9
      have cl := HM2 t.basis
      rw [hl9] at cl
      clear hl9
      go_wp2_with (first | (refine wpList_load_sty _ rfl b (off + k * 43) rfl rfl t (unhide HMID) ?_; simp only [Act.put, List.setIfInBounds_toArray, List.set_cons_succ, List.set_cons_zero]))
      with_reducible refine (unhide (cm _)).mono ?_
      rintro e w2 ⟨rfl, hx⟩
      cases m
      · go_wp2_with fail
        go_ret
        exact ⟨false, rfl, fun h => (by cases h), E.trans hx⟩
      replace BC := BC.ext hx
      replace E := E.trans hx
      replace HMID := hide (show w2.rangeAt b (off + k * 43) (styC t) from fun j v hv => (hx.cells.1 b _ hb).trans ((unhide HMID) j v hv))
      replace hb := Nat.lt_of_lt_of_le hb hx.size
      clear C44 LC hx
      have C44 := (BC.cell 44).trans (show _ = some (Value.slice (some ⟨b, off, none⟩) kl kc) from rfl)
      have LC := BC.lt
      go_wp2_with (first | (refine wpList_load_sty _ rfl b (off + k * 43) rfl rfl t (unhide HMID) ?_; simp only [Act.put, List.setIfInBounds_toArray, List.set_cons_succ, List.set_cons_zero]))
      with_reducible refine (unhide (HM1 t _)).mono ?_
      rintro e w3 ⟨m, rfl, hm, hx⟩
      cases m
      · go_wp2_with fail
        go_ret
        exact ⟨false, rfl, fun h => (by cases h), E.trans hx⟩
      have HHT := hide (hm rfl)
      clear hm
      replace BC := BC.ext hx
      replace E := E.trans hx
      replace HMID := hide (show w3.rangeAt b (off + k * 43) (styC t) from fun j v hv => (hx.cells.1 b _ hb).trans ((unhide HMID) j v hv))
      replace hb := Nat.lt_of_lt_of_le hb hx.size
      clear C44 LC hx
      have C44 := (BC.cell 44).trans (show _ = some (Value.slice (some ⟨b, off, none⟩) kl kc) from rfl)
      have LC := BC.lt
      have d40 := (unhide HMID) 40 _ rfl
      have d41 := (unhide HMID) 41 _ rfl
      have d38 := (unhide HMID) 38 _ rfl
      have d39 := (unhide HMID) 39 _ rfl
      go_wp2_with fail
      with_reducible refine (unhide (cl _)).mono ?_
      rintro e w4 ⟨rfl, hx⟩
      cases l
      · go_wp2_with fail
        go_ret
        exact ⟨false, rfl, fun h => (by cases h), E.trans hx⟩
      clear d38 d39 d40 d41
      replace BC := BC.ext hx
      replace E := E.trans hx
      replace HMID := hide (show w4.rangeAt b (off + k * 43) (styC t) from fun j v hv => (hx.cells.1 b _ hb).trans ((unhide HMID) j v hv))
      replace hb := Nat.lt_of_lt_of_le hb hx.size
      clear C44 LC hx
      have C44 := (BC.cell 44).trans (show _ = some (Value.slice (some ⟨b, off, none⟩) kl kc) from rfl)
      have LC := BC.lt
      have d38 := (unhide HMID) 38 _ rfl
      have d39 := (unhide HMID) 39 _ rfl
      by_cases f0 : t.grow < 0
      · go_wp2_with fail
        go_ret
        exact ⟨false, rfl, fun h => (by cases h), E⟩
      by_cases f1 : 60 < t.grow
      · go_wp2_with fail
        go_ret
        exact ⟨false, rfl, fun h => (by cases h), E⟩
      by_cases f2 : t.shrink < 0
      · go_wp2_with fail
        go_ret
        exact ⟨false, rfl, fun h => (by cases h), E⟩
      by_cases f3 : 60 < t.shrink
      · go_wp2_with fail
        go_ret
        exact ⟨false, rfl, fun h => (by cases h), E⟩
      have HB2 := hide (show KB ks (k + 1) from all_snoc (unhide HB) (unhide HT) ⟨unhide HMM, unhide HHT, unhide HLL, ⟨by omega, by omega⟩, ⟨by omega, by omega⟩⟩)
      go_wp2_with fail
      go_roundw
      case rel => exact ⟨k + 1, by go_num, by omega, HB2, E, BC⟩
      case measure => simp [intOf]; omega
    · obtain rfl : k = kl := by omega
      have HK := hide (all_end (unhide HB) (by have := unhide HKL; omega))
      clear HB hk hkl rk HM0 HM1 HM2
      have HB := hide (show UB us 0 from fun i s hi => by omega)
      go_wp2_with fail
      clear C44 LC
      go_loopw [4] (fun v3 wr => ∃ (q : Nat), v3 = .int .i64 q ∧ q ≤ ul ∧ Hid (UB us q) ∧ Ext w wr ∧ Blk wr g 33 (Cs.cells ⟨s, c, ka, k, kc, ua, ul, uc, ha, hl, hc⟩)) (fun v3 _ => ul - (intOf v3).toNat)
      case atStart => exact ⟨0, rfl, by omega, HB, E, BC⟩
      case round =>
        clear HB E BC
        obtain ⟨q, rfl, hq, HB, E, BC⟩ := hrel
        have C45 := (BC.cell 45).trans (show _ = some (Value.slice ua ul uc) from rfl)
        have LC := BC.lt
        by_cases hql : q < ul
        · obtain ⟨⟨uw, v1, v2⟩, ht⟩ : ∃ t, us[q]? = some t := ⟨_, List.getElem?_eq_getElem (by have := unhide HUL; omega)⟩
          obtain ⟨b, off, rfl, hb, hmid⟩ := (ru.ext E).rec_ usC_len ht (by omega)
          have HT := hide ht
          have d0 := hmid 0 _ rfl
          have d1 := hmid 1 _ rfl
          have d2 := hmid 2 _ rfl
          clear ht hmid
          have hqI : (0 : Int) ≤ (q : Int) ∧ (q : Int) < (ul : Int) := by omega
          rw [Nat.add_zero] at d0
          by_cases f0 : uw < 0
          · go_wp2_with fail
            go_ret
            exact ⟨false, rfl, fun h => (by cases h), E.alloc _⟩
          by_cases f1 : 1099511627776 < uw
          · go_wp2_with fail
            go_ret
            exact ⟨false, rfl, fun h => (by cases h), E.alloc _⟩
          by_cases f2 : v1 < -1099511627776
          · go_wp2_with fail
            go_ret
            exact ⟨false, rfl, fun h => (by cases h), E.alloc _⟩
          by_cases f3 : 1099511627776 < v1
          · go_wp2_with fail
            go_ret
            exact ⟨false, rfl, fun h => (by cases h), E.alloc _⟩
          by_cases f4 : v2 < -1099511627776
          · go_wp2_with fail
            go_ret
            exact ⟨false, rfl, fun h => (by cases h), E.alloc _⟩
          by_cases f5 : 1099511627776 < v2
          · go_wp2_with fail
            go_ret
            exact ⟨false, rfl, fun h => (by cases h), E.alloc _⟩
          have HB2 := hide (show UB us (q + 1) from all_snoc (unhide HB) (unhide HT) ⟨⟨by show 0 ≤ uw; omega, by show uw ≤ _; omega⟩, ⟨by show _ ≤ v1; omega, by show v1 ≤ _; omega⟩, ⟨by show _ ≤ v2; omega, by show v2 ≤ _; omega⟩⟩)
          go_wp2_with fail
          go_roundw
          case rel => exact ⟨q + 1, by go_num, by omega, HB2, E.alloc _, BC.alloc _⟩
          case measure => simp [intOf]; omega
        · obtain rfl : q = ul := by omega
          have HU := hide (all_end (unhide HB) (by have := unhide HUL; omega))
          clear HB hq hql ru
          have HB := hide (show NB hs 0 from fun i s hi => by omega)
          go_wp2_with fail
          clear C45 LC
          go_loopw [6] (fun v3 wr => ∃ (p : Nat), v3 = .int .i64 p ∧ p ≤ hl ∧ Hid (NB hs p) ∧ Ext w wr ∧ Blk wr g 33 (Cs.cells ⟨s, c, ka, k, kc, ua, q, uc, ha, hl, hc⟩)) (fun v3 _ => hl - (intOf v3).toNat)
          case atStart => exact ⟨0, rfl, by omega, HB, E, BC⟩
          case round =>
            clear HB E BC
            obtain ⟨p, rfl, hp, HB, E, BC⟩ := hrel
            have C46 := (BC.cell 46).trans (show _ = some (Value.slice ha hl hc) from rfl)
            have LC := BC.lt
            by_cases hpl : p < hl
            · obtain ⟨z, ht⟩ : ∃ t, hs[p]? = some t := ⟨_, List.getElem?_eq_getElem (by have := unhide HHL; omega)⟩
              obtain ⟨b, off, rfl, hb, d0⟩ := (rh.ext E).intIn ht
              have HT := hide ht
              clear ht
              have hpI : (0 : Int) ≤ (p : Int) ∧ (p : Int) < (hl : Int) := by omega
              by_cases f0 : z < 0
              · go_wp2_with fail
                go_ret
                exact ⟨false, rfl, fun h => (by cases h), E⟩
              by_cases f1 : 1099511627776 < z
              · go_wp2_with fail
                go_ret
                exact ⟨false, rfl, fun h => (by cases h), E⟩
              have HB2 := hide (show NB hs (p + 1) from all_snoc (unhide HB) (unhide HT) ⟨by omega, by omega⟩)
              go_wp2_with fail
              go_roundw
              case rel => exact ⟨p + 1, by go_num, by omega, HB2, E, BC⟩
              case measure => simp [intOf]; omega
            · obtain rfl : p = hl := by omega
              go_wp2_with fail
              go_ret
              exact ⟨true, rfl, fun _ => ⟨by show k ≤ 60; omega, by show q ≤ 100; omega, by show p ≤ 100; omega, ⟨by show 0 ≤ c; omega, by show c ≤ _; omega⟩, unhide HI, unhide HK, unhide HU, all_end (unhide HB) (by have := unhide HHL; omega)⟩, E⟩
end Go.Proofs.Ytkkkdjkjggofkaa
