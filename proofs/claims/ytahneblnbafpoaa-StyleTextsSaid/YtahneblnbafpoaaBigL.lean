/- Numbers as lists of digits: the floor of a quotient (walk). -/
import Derived.Test.YtahneblnbafpoaaBigG
import Derived.Test.YtahneblnbafpoaaBigH
namespace Go.Proofs.Ytahneblnbafpoaa
open Go.RowKit

/-- what the loop of a quotient has come to -/
structure DivRel (w wr : World) (ga : Nat) (va vb : Array Value) (a b : List Bool) (n K : Nat) (rv : Value) : Prop where
  ext : Ext w wr
  ba : Blk wr ga 56 va
  bb : Blk wr (ga + 1) 56 vb
  bo : Blk wr (ga + 1 + 1) 56 #[.bool false, .slice none 0 0]
  o : ∃ A c rest out C, rv = .slice A rest.length c ∧ Rd wr 1 A rest.length (bools rest) ∧ rest.length ≤ c ∧ c ≤ maxLen ∧ Blk wr (ga + 1 + 1 + 1) 4 C ∧ C.toList = bools out ∧ DivI a b out rest K ∧ rest.length + K ≤ n ∧ (∀ b off, A = some ⟨b, off, none⟩ → ga + 4 ≤ b)
def DivOut (w : World) (z : Int) (k : Nat) (e : Ending) (w' : World) : Prop :=
  ∃ m A c l, e = .returned (bigV m A l.length c) ∧ Rd w' 1 A l.length (bools l) ∧ bigZ m l = z ∧ l.length ≤ k ∧ Ext w w'
theorem bools_set (C : Array Value) (out : List Bool) (i : Nat) (h : C.toList = bools out) : (C.setIfInBounds i (.bool true)).toList = bools (out.set i true) := by
  rw [Array.toList_setIfInBounds, h]; simp [bools, List.map_set]
theorem field_big (m : Bool) (A : Option Addr) (n c : Nat) (w : World) : (Instr.field 56 (bigV m A n c) 1).run Try.prog w = .ok (.slice A n c) w := by kernel_rfl
theorem flo_same {ma mb : Bool} {a b out : List Bool} (hs : (ma == mb) = true) (hb : 0 < val b) (h : val out = val a / val b) : flo (bigZ ma a) (bigZ mb b) = bigZ false out := by
  have e : ma = mb := by simpa using hs
  subst e
  cases ma
  · rw [bigZ_f, bigZ_f, bigZ_f, flo_pp _ _ hb, h]
  · rw [bigZ_t, bigZ_t, bigZ_f, flo_nn _ _ hb, h]
theorem flo_diff {ma mb : Bool} {a b out : List Bool} (hs : (ma == mb) = false) (hb : 0 < val b) (h : val out = val a / val b) : flo (bigZ ma a) (bigZ mb b) = bigZ true out - (if val a % val b = 0 then 0 else 1) := by
  cases ma <;> cases mb
  · cases hs
  · rw [bigZ_f, bigZ_t, bigZ_t, flo_pn _ _ hb, h]
  · rw [bigZ_t, bigZ_f, bigZ_t, flo_np _ _ hb, h]
  · cases hs

set_option maxRecDepth 100000 in
set_option maxHeartbeats 8000000 in
theorem div_any (ma mb : Bool) (A B : Option Addr) (n c k d : Nat) (a b : List Bool) (w : World) (ha : Rd w 1 A n (bools a)) (hb : Rd w 1 B k (bools b)) (hn : n ≤ 20000) (hk : k ≤ 20000) (hb0 : 0 < val b) :
    Calls Try.prog 56 #[bigV ma A n c, bigV mb B k d] w (DivOut w (flo (bigZ ma a) (bigZ mb b)) (n + 70)) := by
  obtain ⟨i0, hi0, hz0, hz1, hz2⟩ := info_parts bool_info
  have HI := hide (And.intro hi0 (And.intro hz0 (And.intro hz1 hz2)))
  have la : a.length = n := by have := ha.len; simpa [bools] using this
  have lb : b.length = k := by have := hb.len; simpa [bools] using this
  have HL := hide (And.intro la lb)
  have HB0 := hide hb0
  obtain ⟨C0, hC1, hC2, hmk⟩ := mkb n (by omega)
  have HC0 := hide (And.intro hC1 hC2)
  have hs0 := div_start a b hb0
  rw [la] at hs0
  have HS0 := hide hs0
  clear la lb hi0 hz0 hz1 hz2 hC1 hC2 hs0 hb0
  go_enter Try.func56, Try.ntmps56
  go_wp2_with fail
  have Ba : Blk ((((w.alloc (.cells #[.bool ma, .slice A n c] 56)).alloc (.cells #[.bool mb, .slice B k d] 56)).alloc (.cells #[.bool false, .slice none 0 0] 56)).alloc (.cells C0 4)) w.heap.size 56 #[.bool ma, .slice A n c] := (((Blk.new _ _ _).alloc _).alloc _).alloc _
  have Bb : Blk ((((w.alloc (.cells #[.bool ma, .slice A n c] 56)).alloc (.cells #[.bool mb, .slice B k d] 56)).alloc (.cells #[.bool false, .slice none 0 0] 56)).alloc (.cells C0 4)) (w.heap.size + 1) 56 #[.bool mb, .slice B k d] := ((Blk.new1 _ _ _ _).alloc _).alloc _
  have Bo : Blk ((((w.alloc (.cells #[.bool ma, .slice A n c] 56)).alloc (.cells #[.bool mb, .slice B k d] 56)).alloc (.cells #[.bool false, .slice none 0 0] 56)).alloc (.cells C0 4)) (w.heap.size + 1 + 1) 56 #[.bool false, .slice none 0 0] := (Blk.new2 _ _ _ _ _).alloc _
  have Bv : Blk ((((w.alloc (.cells #[.bool ma, .slice A n c] 56)).alloc (.cells #[.bool mb, .slice B k d] 56)).alloc (.cells #[.bool false, .slice none 0 0] 56)).alloc (.cells C0 4)) (w.heap.size + 1 + 1 + 1) 4 C0 := by
    have h := Blk.new (((w.alloc (.cells #[.bool ma, .slice A n c] 56)).alloc (.cells #[.bool mb, .slice B k d] 56)).alloc (.cells #[.bool false, .slice none 0 0] 56)) 4 C0
    simpa only [World.size_alloc] using h
  have E0 : Ext w ((((w.alloc (.cells #[.bool ma, .slice A n c] 56)).alloc (.cells #[.bool mb, .slice B k d] 56)).alloc (.cells #[.bool false, .slice none 0 0] 56)).alloc (.cells C0 4)) := ((((Ext.refl _).alloc _).alloc _).alloc _).alloc _
  generalize ((((w.alloc (.cells #[.bool ma, .slice A n c] 56)).alloc (.cells #[.bool mb, .slice B k d] 56)).alloc (.cells #[.bool false, .slice none 0 0] 56)).alloc (.cells C0 4)) = wa at *
  generalize hga : w.heap.size = ga at *
  have HGA := hide hga
  clear hga hmk
  go_loopw [5, 7] (fun rv iv wr => ∃ (K : Nat) (z : Int), K ≤ n ∧ iv = .int .i64 z ∧ z + 1 = (K : Int) ∧ DivRel w wr ga #[.bool ma, .slice A n c] #[.bool mb, .slice B k d] a b n K rv) (fun _ iv _ => (intOf iv + 1).toNat)
  case atStart => exact ⟨n, (n : Int) - 1, Nat.le_refl _, rfl, by omega, E0, Ba, Bb, Bo, none, 0, [], _, C0, rfl, Rd.nil _ _ _, Nat.le_refl _, by simp [maxLen], Bv, (unhide HC0).1, unhide HS0, by simp, by intro b off h; cases h⟩
  case round =>
    clear Ba Bb Bo Bv E0 wa
    obtain ⟨K, z, hK, rfl, hz, E0, Ba, Bb, Bo, Ar, cr, rest, out, C, rfl, Rr, kr1, kr2, Bv, hC, hD, hlen, hne⟩ := hrel
    have HC := hide hC
    have HD := hide hD
    have HNE := hide hne
    have da := Ba.cell
    have za := Ba.lt
    have db := Bb.cell
    have zb := Bb.lt
    have zv := Bv.lt
    clear hC hD hne
    cases K with
    | succ i =>
      obtain rfl : z = (i : Int) := by omega
      have hlt : i < n := by omega
      have hltI : (i : Int) < (n : Int) := by omega
      have hi0I : (0 : Int) ≤ (i : Int) := by omega
      obtain ⟨bk, off, u, rfl, hbk, hu, hc⟩ := (ha.ext E0).get hlt
      obtain ⟨dg, hd, rfl⟩ := bools_get hu
      have hgd : atN a i = dg.toNat := by unfold atN; rw [List.getD_eq_getElem?_getD, hd]; rfl
      have hv1 : val (dg :: rest) = atN a i + 2 * val rest := by rw [hgd]; rfl
      have HV1 := hide hv1
      have HLEN := hide hlen
      have hl1 : (1 + rest.length) ≤ 20000 := by omega
      clear hu hd hgd hv1 hlen
      go_wp2_with (first
        | (at_builtin
           refine wpList_append_rd rfl (.tmp 26) (.tmp 27) _ rfl wr.heap.size 4 i0 _ 1 1 Try.underlying54 (unhide HI).1 (unhide HI).2.1 (unhide HI).2.2.1 (unhide HI).2.2.2 rfl (by omega) _ 1 [.bool dg] rfl ((Blk.new wr 4 #[.bool dg]).own (base := wr.heap.size) (n := 1) (Nat.le_refl _) rfl (by simp [maxLen])) Ar rest.length cr (bools rest) rfl (Rr.alloc _) (one_bools rest) (by simp only [maxLen]; omega) (by omega) (by simp) ?_
           intro A7 c7 w7 own7 g7 at7
           have E7 : Ext wr w7 := Ext.own ((Ext.refl wr).alloc _) ((Blk.new wr 4 #[.bool dg]).own (base := wr.heap.size) (n := 1) (Nat.le_refl _) rfl (by simp [maxLen])) g7
           have R7 : Rd w7 1 A7 (1 + rest.length) (bools (dg :: rest)) := Rd.of_own own7
           have K7 := own_cap own7
           have F7 : ∀ b off, A7 = some ⟨b, off, none⟩ → wr.heap.size ≤ b := fun b off e => (own7.lt b (by rw [e]; rfl)).1
           have Ba7 := Ba.ext E7
           have Bb7 := Bb.ext E7
           have Bo7 := Bo.ext E7
           have Bv7 := Bv.ext E7
           have da7 := Ba7.cell
           have za7 := Ba7.lt
           have db7 := Bb7.cell
           have zb7 := Bb7.lt
           clear own7 g7 at7))
      have Eb := E0.trans E7
      have hF7 : ∀ b off, A7 = some ⟨b, off, none⟩ → ga + 4 ≤ b := fun b off e => by have := F7 b off e; omega
      have HF7 := hide hF7
      have cl := less_any A7 B (1 + rest.length) c7 k d (dg :: rest) b w7 R7 (hb.ext Eb) (by omega) (by omega)
      by_cases hlt2 : val (dg :: rest) < val b
      · rw [decide_eq_true hlt2] at cl
        have cl := hide cl
        have HST := hide (div_step0 (unhide HD) (unhide HV1) hlt2)
        clear hlt2 F7 hF7 Ba Bb Bo Bv E7 da za db zb
        refine (unhide cl).mono ?_
        rintro e _ ⟨rfl, rfl⟩
        go_wp2_with fail
        go_roundw
        case rel => exact ⟨i, (i : Int) - 1, by omega, by go_num, by omega, Eb, Ba7, Bb7, Bo7, A7, c7, dg :: rest, out, C, by rw [List.length_cons, Nat.add_comm], by rw [List.length_cons, Nat.add_comm]; exact R7, by rw [List.length_cons]; omega, K7.2, Bv7, unhide HC, unhide HST, by have := unhide HLEN; rw [List.length_cons]; omega, unhide HF7⟩
        case measure => simp [intOf]
      · rw [decide_eq_false hlt2] at cl
        have cl := hide cl
        have cm := hide (minus_any A7 B (1 + rest.length) c7 k d (dg :: rest) b w7 R7 (hb.ext Eb) (by omega) (by omega) (by omega))
        have HGE := hide hlt2
        have E7s := Nat.le_trans (Nat.succ_le_of_lt zv) E7.size
        clear hlt2 F7 hF7 Ba Bb Bo Bv E7 da za db zb
        refine (unhide cl).mono ?_
        rintro e _ ⟨rfl, rfl⟩
        go_wp2_with fail
        refine (unhide cm).mono ?_
        rintro e w8 ⟨Am, cm, lm, rfl, Rm, km1, km2, ⟨q1, q2⟩, hx, hfr⟩
        have HQ := hide (And.intro q1 q2)
        have lm1 : lm.length ≤ 100000 := by rw [q2, List.length_cons]; omega
        replace Ba7 := Ba7.ext hx
        replace Bb7 := Bb7.ext hx
        replace Bo7 := Bo7.ext hx
        replace Bv7 := Bv7.ext hx
        have E8 := Eb.trans hx
        have HFR := hide hfr
        have zv7 := Bv7.lt
        have hxs := hx.size
        have hw7 : ga + 4 ≤ w7.heap.size := by have := E7s; omega
        have HW7 := hide hw7
        clear da7 za7 db7 zb7 hx hfr q1 q2 hw7
        go_wp2_with fail
        refine (short_any false Am lm.length cm lm w8 Rm lm1 km1 km2).mono ?_
        rintro e w9 ⟨m0, c0, l0, rfl, R0, k3, k4, hS, hx⟩
        replace Ba7 := Ba7.ext hx
        replace Bb7 := Bb7.ext hx
        replace Bo7 := Bo7.ext hx
        replace Bv7 := Bv7.ext hx
        have E9 := E8.trans hx
        have HS := hide hS
        have dv := Bv7.cell
        have fv := Bv7.frozen
        have zv9 := Bv7.lt
        have hiC : ∃ u, w9.cell? ⟨ga + 1 + 1 + 1, i, none⟩ = some u := by
          refine ⟨C[i]'?_, ?_⟩
          · have h1 : C.toList.length = out.length := by rw [unhide HC]; simp [bools]
            have h2 := (unhide HD).1
            have h3 := (unhide HL).1
            simp at h1; omega
          · rw [dv]; exact Array.getElem?_eq_getElem _
        obtain ⟨u, hiC⟩ := hiC
        have hfd := fun W => field_big m0 Am l0.length c0 W
        clear dv hx hS
        go_wp2_with fail
        go_roundw
        case rel =>
          obtain ⟨q1, q2⟩ := unhide HQ
          obtain ⟨s1, s2, s3, s4⟩ := unhide HS
          have hne0 : ∀ b off, Am = some ⟨b, off, none⟩ → ga + 4 ≤ b := fun b off e => by have := unhide HFR b off e; have := unhide HW7; omega
          have hg : ∀ (W : World) (R : Rd W 1 Am l0.length (bools l0)) (v : Value), Rd (W.setCell ⟨ga + 1 + 1 + 1, i, none⟩ v) 1 Am l0.length (bools l0) := fun W R v =>
            R.grown (row := some (ga + 1 + 1 + 1)) ⟨rfl, rfl, rfl, by simp [World.setCell], fun j' hj hn => Below.heap_setCell W _ _ j' (fun e => hn (congrArg some e))⟩ (fun b off e h2 => by have := hne0 b off e; injection h2 with h2; omega)
          have hD2 := div_step1 (unhide HD) (by have := (unhide HL).1; omega) (unhide HV1) (unhide HGE) (rest' := l0) (s1.trans q1)
          exact ⟨i, (i : Int) - 1, by omega, by go_num, by omega, E9.set (by have := unhide HGA; simp; omega) _, Ba7.far (by first | (simp; done) | (simp; omega)) _, Bb7.far (by first | (simp; done) | (simp; omega)) _, Bo7.far (by first | (simp; done) | (simp; omega)) _, Am, c0, l0, out.set i true, _, rfl, hg _ R0 _, k3, k4, Bv7.set_ i _, bools_set C out i (unhide HC), hD2, by have := unhide HLEN; rw [q2, List.length_cons] at s4; omega, hne0⟩
        case measure => simp [intOf]
    | zero =>
      obtain rfl : z = -1 := by omega
      obtain ⟨e1, e2⟩ := div_end (unhide HD) (unhide HB0)
      have lo : out.length = n := by rw [(unhide HD).1]; exact (unhide HL).1
      have Ro : ∀ W, Ext wr W → Rd W 1 (some ⟨ga + 1 + 1 + 1, 0, none⟩) n (bools out) := fun W h => by
        have hs : C.size = n := by have h1 : C.toList.length = out.length := by rw [unhide HC]; simp [bools]
                                   simp at h1; omega
        have := (Bv.ext h).rd hs
        rwa [unhide HC] at this
      have HRO := hide Ro
      have HE := hide (And.intro e1 e2)
      have HLO := hide lo
      have hm : n ≤ maxLen := by simp only [maxLen]; omega
      obtain ⟨sg, hsg⟩ : ∃ s, (!(ma == mb)) = s := ⟨_, rfl⟩
      have HSG := hide hsg
      have cs := hide (short_any sg (some ⟨ga + 1 + 1 + 1, 0, none⟩) n n out wr (Ro _ (Ext.refl _)) (by omega) (Nat.le_refl _) hm)
      clear e1 e2 lo Ro ha hb Bv
      go_wp2_with fail
      clear hsg
      refine (unhide cs).mono ?_
      rintro e w2 ⟨m1, c1, l1, rfl, R1, k1, k2, hS1, hx⟩
      have HS1 := hide hS1
      go_upto_region 11 with fail
      have B8 : Blk (w2.alloc (.cells #[.bool m1, .slice (some ⟨ga + 1 + 1 + 1, 0, none⟩) l1.length c1] 56)) w2.heap.size 56 #[.bool m1, .slice (some ⟨ga + 1 + 1 + 1, 0, none⟩) l1.length c1] := Blk.new _ _ _
      have X3 : Ext wr (w2.alloc (.cells #[.bool m1, .slice (some ⟨ga + 1 + 1 + 1, 0, none⟩) l1.length c1] 56)) := hx.alloc _
      have R3 : Rd (w2.alloc (.cells #[.bool m1, .slice (some ⟨ga + 1 + 1 + 1, 0, none⟩) l1.length c1] 56)) 1 (some ⟨ga + 1 + 1 + 1, 0, none⟩) l1.length (bools l1) := R1.alloc _
      have hxs := hx.size
      generalize w2.heap.size = g8 at *
      generalize w2.alloc (.cells #[.bool m1, .slice (some ⟨ga + 1 + 1 + 1, 0, none⟩) l1.length c1] 56) = w3 at *
      have hg8 : ga + 4 ≤ g8 := by omega
      have HG8 := hide hg8
      replace Ba := Ba.ext X3
      replace Bb := Bb.ext X3
      replace Bo := Bo.ext X3
      replace Rr := Rr.ext X3
      have E3 := E0.trans X3
      clear da za db zb zv E0 cs hx hS1 hxs hg8 R1
      have hsg := unhide HSG
      cases sg
      · skip
        have da := Ba.cell
        have za := Ba.lt
        have db := Bb.cell
        have zb := Bb.lt
        have d8 := B8.cell
        have z8 := B8.lt
        have dO := Bo.cell
        have fO := Bo.frozen
        have zO := Bo.lt
        go_wp2_with fail
        refine bodyPost_ret (results_cell1 rfl _ _ (ga + 1 + 1) 56 _ _ rfl ((Bo.set_ 0 _).set_ 1 _) Try.underlying56 rfl (by kernel_rfl)) rfl ?_
        have hg : ∀ (W : World) (R : Rd W 1 (some ⟨ga + 1 + 1 + 1, 0, none⟩) l1.length (bools l1)) (j : Nat) (v : Value), Rd (W.setCell ⟨ga + 1 + 1, j, none⟩ v) 1 (some ⟨ga + 1 + 1 + 1, 0, none⟩) l1.length (bools l1) := fun W R j v =>
          R.grown (row := some (ga + 1 + 1)) ⟨rfl, rfl, rfl, by simp [World.setCell], fun j' hj hn => Below.heap_setCell W _ _ j' (fun e => hn (congrArg some e))⟩ (fun b off e h2 => by injection e with e; injection e with e1 _ _; injection h2 with h2; omega)
        refine ⟨m1, (some ⟨ga + 1 + 1 + 1, 0, none⟩), c1, l1, rfl, hg _ (hg _ (R3) 0 _) 1 _, ?_, ?_, (E3.set (by have := unhide HGA; simp; omega) _).set (by have := unhide HGA; simp; omega) _⟩
        · have q := (zp_short (unhide HS1) (Nat.le_refl _)).1
          rw [q, flo_same (by simpa using hsg) (unhide HB0) (unhide HE).1]
        · have h4 := (unhide HS1).2.2.2; have := unhide HLO; omega
      · have hr1 : rest.length ≤ 100000 := by omega
        have cr2 := hide (short_any false Ar rest.length cr rest w3 Rr hr1 kr1 kr2)
        clear Rr hr1
        have da := Ba.cell
        have za := Ba.lt
        have db := Bb.cell
        have zb := Bb.lt
        have d8 := B8.cell
        have z8 := B8.lt
        have dO := Bo.cell
        have fO := Bo.frozen
        have zO := Bo.lt
        go_wp2_with fail
        refine (unhide cr2).mono ?_
        rintro e w4 ⟨m2, c2, l2, rfl, -, -, -, hS2, hx⟩
        have HS2 := hide hS2
        replace Ba := Ba.ext hx
        replace Bb := Bb.ext hx
        replace Bo := Bo.ext hx
        replace B8 := B8.ext hx
        replace E3 := E3.trans hx
        replace X3 := X3.trans hx
        replace R3 := R3.ext hx
        have hfd := fun W => field_big m2 Ar l2.length c2 W
        clear da za db zb d8 z8 dO fO zO hx hS2 cr2
        have da := Ba.cell
        have za := Ba.lt
        have db := Bb.cell
        have zb := Bb.lt
        have d8 := B8.cell
        have z8 := B8.lt
        have dO := Bo.cell
        have fO := Bo.frozen
        have zO := Bo.lt
        have hrest := (unhide HS2).1
        have hsh := (unhide HS2).2.2.1
        by_cases h0 : l2.length = 0
        · have hlN : ¬ 0 < l2.length := by omega
          have hl2 : l2 = [] := List.length_eq_zero_iff.1 h0
          have hv0 : val a % val b = 0 := by rw [← (unhide HE).2, ← hrest, hl2]; rfl
          have HV0 := hide hv0
          clear hrest hsh hl2 hv0 h0
          go_wp2_with fail
          refine bodyPost_ret (results_cell1 rfl _ _ (ga + 1 + 1) 56 _ _ rfl ((Bo.set_ 0 _).set_ 1 _) Try.underlying56 rfl (by kernel_rfl)) rfl ?_
          have hg : ∀ (W : World) (R : Rd W 1 (some ⟨ga + 1 + 1 + 1, 0, none⟩) l1.length (bools l1)) (j : Nat) (v : Value), Rd (W.setCell ⟨ga + 1 + 1, j, none⟩ v) 1 (some ⟨ga + 1 + 1 + 1, 0, none⟩) l1.length (bools l1) := fun W R j v =>
            R.grown (row := some (ga + 1 + 1)) ⟨rfl, rfl, rfl, by simp [World.setCell], fun j' hj hn => Below.heap_setCell W _ _ j' (fun e => hn (congrArg some e))⟩ (fun b off e h2 => by injection e with e; injection e with e1 _ _; injection h2 with h2; omega)
          refine ⟨m1, (some ⟨ga + 1 + 1 + 1, 0, none⟩), c1, l1, rfl, hg _ (hg _ (R3) 0 _) 1 _, ?_, ?_, (E3.set (by have := unhide HGA; simp; omega) _).set (by have := unhide HGA; simp; omega) _⟩
          · have q := (zp_short (unhide HS1) (Nat.le_refl _)).1
            rw [q, flo_diff (by simpa using hsg) (unhide HB0) (unhide HE).1, if_pos (unhide HV0)]; omega
          · have h4 := (unhide HS1).2.2.2; have := unhide HLO; omega
        · have hlN : 0 < l2.length := by omega
          have hv0 : val a % val b ≠ 0 := by
            rw [← (unhide HE).2, ← hrest]
            rcases hsh with h | h
            · exact absurd h h0
            · have : 0 < 2 ^ (l2.length - 1) := Nat.two_pow_pos _
              omega
          have HV0 := hide hv0
          clear hrest hsh hv0 h0
          have ct := hide (short_any true (some ⟨ga + 1 + 1 + 1, 0, none⟩) n n out w4 (unhide HRO _ X3) (by omega) (Nat.le_refl _) hm)
          go_wp2_with fail
          refine (unhide ct).mono ?_
          rintro e w5 ⟨m3, c3, l3, rfl, R5, -, -, hS3, hx⟩
          have HS3 := hide hS3
          replace Ba := Ba.ext hx
          replace Bb := Bb.ext hx
          replace Bo := Bo.ext hx
          replace B8 := B8.ext hx
          replace E3 := E3.trans hx
          replace X3 := X3.trans hx
          clear da za db zb d8 z8 dO fO zO hx hS3 ct R3
          have da := Ba.cell
          have za := Ba.lt
          have db := Bb.cell
          have zb := Bb.lt
          have d8 := B8.cell
          have z8 := B8.lt
          have dO := Bo.cell
          have fO := Bo.frozen
          have zO := Bo.lt
          go_wp2_with fail
          refine (of_any (-1) (by omega) (by omega) _).mono ?_
          rintro e w6 ⟨m4, A4, c4, l4, rfl, R6, -, -, P4, hx⟩
          have z4 := of_zs P4
          have k4 : l4.length ≤ 64 := P4.2.2
          have Z4 := hide z4
          have hl3 : l3.length ≤ 20000 := by have h4 := (unhide HS3).2.2.2; have := unhide HLO; omega
          replace Ba := Ba.ext hx
          replace Bb := Bb.ext hx
          replace Bo := Bo.ext hx
          replace B8 := B8.ext hx
          replace E3 := E3.trans hx
          replace X3 := X3.trans hx
          replace R5 := R5.ext hx
          clear da za db zb d8 z8 dO fO zO hx P4 z4
          have da := Ba.cell
          have za := Ba.lt
          have db := Bb.cell
          have zb := Bb.lt
          have d8 := B8.cell
          have z8 := B8.lt
          have dO := Bo.cell
          have fO := Bo.frozen
          have zO := Bo.lt
          go_wp2_with fail
          refine (add_any m3 m4 (some ⟨ga + 1 + 1 + 1, 0, none⟩) A4 l3.length c3 l4.length c4 l3 l4 w6 R5 R6 (by omega) (by omega)).mono ?_
          rintro e w7 ⟨m5, A5, c5, l5, rfl, hD5, hZ5, hx⟩
          have HZ5 := hide hZ5
          have hgw : g8 < w6.heap.size := z8
          have HGW := hide hgw
          replace Ba := Ba.ext hx
          replace Bb := Bb.ext hx
          replace Bo := Bo.ext hx
          replace B8 := B8.ext hx
          replace E3 := E3.trans hx
          replace X3 := X3.trans hx
          clear da za db zb d8 z8 dO fO zO hx hZ5 hgw R5 R6
          have da := Ba.cell
          have za := Ba.lt
          have db := Bb.cell
          have zb := Bb.lt
          have d8 := B8.cell
          have z8 := B8.lt
          have dO := Bo.cell
          have fO := Bo.frozen
          have zO := Bo.lt
          have f8 := B8.frozen
          have n8 : g8 ≠ ga + 1 + 1 := by have := unhide HG8; omega
          have n9 : ga + 1 + 1 ≠ g8 := by have := unhide HG8; omega
          go_wp2_with fail
          replace Bo := (Bo.far (g := ga + 1 + 1) (p := ⟨g8, 0, none⟩) (by have := unhide HG8; simp; omega) (.bool m5)).far (p := ⟨g8, 1, none⟩) (by have := unhide HG8; simp; omega) (.slice A5 l5.length c5)
          replace E3 := (E3.set (p := ⟨g8, 0, none⟩) (by have := unhide HG8; have := unhide HGA; simp; omega) (.bool m5)).set (p := ⟨g8, 1, none⟩) (by have := unhide HG8; have := unhide HGA; simp; omega) (.slice A5 l5.length c5)
          have hD6 := (hD5.set (p := ⟨g8, 0, none⟩) (by have := unhide HGW; simp; omega) (.bool m5)).set (p := ⟨g8, 1, none⟩) (by have := unhide HGW; simp; omega) (.slice A5 l5.length c5)
          refine bodyPost_ret (results_cell1 rfl _ _ (ga + 1 + 1) 56 _ _ rfl ((Bo.set_ 0 _).set_ 1 _) Try.underlying56 rfl (by kernel_rfl)) rfl ?_
          have hg : ∀ (W : World) (R : Rd W 1 A5 l5.length (bools l5)) (j : Nat) (v : Value), Rd (W.setCell ⟨ga + 1 + 1, j, none⟩ v) 1 A5 l5.length (bools l5) := fun W R j v =>
            R.grown (row := some (ga + 1 + 1)) ⟨rfl, rfl, rfl, by simp [World.setCell], fun j' hj hn => Below.heap_setCell W _ _ j' (fun e => hn (congrArg some e))⟩ (fun b off e h2 => by have := hD6.fr b off e; have := unhide HGW; have := unhide HG8; injection h2 with h2; omega)
          refine ⟨m5, A5, c5, l5, rfl, hg _ (hg _ (hD6.rd) 0 _) 1 _, ?_, ?_, (E3.set (by have := unhide HGA; simp; omega) _).set (by have := unhide HGA; simp; omega) _⟩
          · have q := (zp_short (unhide HS3) (Nat.le_refl _)).1
            rw [(unhide HZ5).1, q, unhide Z4, flo_diff (by simpa using hsg) (unhide HB0) (unhide HE).1, if_neg (unhide HV0)]; omega
          · have := (unhide HZ5).2.2.2; have h4 := (unhide HS3).2.2.2; have := unhide HLO; omega
end Go.Proofs.Ytahneblnbafpoaa
