/- Numbers as lists of digits: the sum of two (walk). -/
import Derived.Test.YtahneblnbafpoaaBigE
import Derived.Test.YtahneblnbafpoaaLinG
import Derived.Deep.Cut
namespace Go.Proofs.Ytahneblnbafpoaa
open Go.RowKit

def ZP (z : Int) (k : Nat) (m : Bool) (l : List Bool) : Prop := bigZ m l = z ∧ (m = true → 0 < val l) ∧ shortOk l ∧ l.length ≤ k
theorem zp_short {m0 m : Bool} {l0 l : List Bool} {k : Nat} (h : ShortP m0 l0 m l) (hk : l0.length ≤ k) : ZP (bigZ m0 l0) k m l := by
  obtain ⟨h1, h2, h3, h4⟩ := h
  refine ⟨?_, ?_, h3, by omega⟩
  · cases m0
    · simp at h2; subst h2; rw [bigZ_f, bigZ_f, h1]
    · simp at h2
      by_cases hp : 0 < val l0
      · simp [hp] at h2; subst h2; rw [bigZ_t, bigZ_t, h1]
      · simp [hp] at h2; subst h2; rw [bigZ_f, bigZ_t, h1]; omega
  · intro hm
    rw [hm] at h2
    have : 0 < val l0 := by
      rcases Nat.eq_zero_or_pos (val l0) with h | h
      · rw [h] at h2; simp at h2
      · exact h
    omega
/-- digits in memory -/
structure Dig (w0 w : World) (A : Option Addr) (c : Nat) (l : List Bool) : Prop where
  rd : Rd w 1 A l.length (bools l)
  le : l.length ≤ c
  mx : c ≤ maxLen
  fr : Fresh w0 A
theorem Dig.ext {w0 w w' : World} {A : Option Addr} {c : Nat} {l : List Bool} (h : Dig w0 w A c l) (hx : Ext w w') : Dig w0 w' A c l := ⟨h.rd.ext hx, h.le, h.mx, h.fr⟩
theorem Dig.set {w0 w : World} {A : Option Addr} {c : Nat} {l : List Bool} (h : Dig w0 w A c l) {p : Addr} (hp : p.block < w0.heap.size) (v : Value) : Dig w0 (w.setCell p v) A c l :=
  ⟨h.rd.grown (w' := w.setCell p v) (row := some p.block) ⟨rfl, rfl, rfl, by simp [World.setCell], fun i hi hne => Below.heap_setCell w p v i (fun e => hne (by rw [e]))⟩ (fun b off e h2 => by
    have := h.fr b off e
    injection h2 with h2
    omega), h.le, h.mx, h.fr⟩
/-- a number in new memory -/
def BigFr (w : World) (P : Bool → List Bool → Prop) (e : Ending) (w' : World) : Prop :=
  ∃ m A c l, e = .returned (bigV m A l.length c) ∧ Dig w w' A c l ∧ P m l ∧ Ext w w'
theorem zp_of {z : Int} {k : Nat} {s m : Bool} {l0 l : List Bool} (h : ShortP s l0 m l) (hk : l0.length ≤ k) (hz : bigZ s l0 = z) : ZP z k m l := hz ▸ zp_short h hk

set_option maxRecDepth 100000 in
set_option maxHeartbeats 8000000 in
theorem add_any (ma mb : Bool) (A B : Option Addr) (n c k d : Nat) (a b : List Bool) (w : World) (ha : Rd w 1 A n (bools a)) (hb : Rd w 1 B k (bools b)) (hn : n ≤ 90000) (hk : k ≤ 90000) :
    Calls Try.prog 64 #[bigV ma A n c, bigV mb B k d] w (BigFr w (ZP (bigZ ma a + bigZ mb b) (max n k + 1))) := by
  have la : a.length = n := by have := ha.len; simpa [bools] using this
  have lb : b.length = k := by have := hb.len; simpa [bools] using this
  have HL := hide (And.intro la lb)
  clear la lb
  go_enter Try.func64, Try.ntmps64
  go_upto_region 1 with fail
  have Ba : Blk (((w.alloc (.cells #[.bool ma, .slice A n c] 56)).alloc (.cells #[.bool mb, .slice B k d] 56)).alloc (.cells #[.bool false, .slice none 0 0] 56)) w.heap.size 56 #[.bool ma, .slice A n c] := ((Blk.new _ _ _).alloc _).alloc _
  have Bb : Blk (((w.alloc (.cells #[.bool ma, .slice A n c] 56)).alloc (.cells #[.bool mb, .slice B k d] 56)).alloc (.cells #[.bool false, .slice none 0 0] 56)) (w.heap.size + 1) 56 #[.bool mb, .slice B k d] := (Blk.new1 _ _ _ _).alloc _
  have Bo : Blk (((w.alloc (.cells #[.bool ma, .slice A n c] 56)).alloc (.cells #[.bool mb, .slice B k d] 56)).alloc (.cells #[.bool false, .slice none 0 0] 56)) (w.heap.size + 2) 56 #[.bool false, .slice none 0 0] := Blk.new2 _ _ _ _ _
  have E0 : Ext w (((w.alloc (.cells #[.bool ma, .slice A n c] 56)).alloc (.cells #[.bool mb, .slice B k d] 56)).alloc (.cells #[.bool false, .slice none 0 0] 56)) := (((Ext.refl _).alloc _).alloc _).alloc _
  generalize (((w.alloc (.cells #[.bool ma, .slice A n c] 56)).alloc (.cells #[.bool mb, .slice B k d] 56)).alloc (.cells #[.bool false, .slice none 0 0] 56)) = W0 at *
  generalize hga : w.heap.size = ga at *
  have HGA := hide hga
  clear hga
  have lo := Bo.lt
  obtain ⟨N, hN⟩ : ∃ N, max n k + 1 = N := ⟨_, rfl⟩
  have HN : Hid (N ≤ 90001) := by unfold Hid; omega
  obtain ⟨Z, hZ⟩ : ∃ Z, bigZ ma a + bigZ mb b = Z := ⟨_, rfl⟩
  have HZ := hide (And.intro hN hZ)
  clear hN hZ
  have da := Ba.cell
  have db := Bb.cell
  have za := Ba.lt
  have zb := Bb.lt
  cases hs : (ma == mb)
  · have hab : (ma == mb) = false := hs
    have hmb : mb = !ma := by cases ma <;> cases mb <;> simp_all
    have HM := hide hmb
    have cl := hide (less_any A B n c k d a b W0 (ha.ext E0) (hb.ext E0) (by omega) (by omega))
    by_cases hlt : val a < val b
    · have hd : decide (val a < val b) = true := by simpa using hlt
      rw [hd] at cl
      have HLT := hide hlt
      have cm := fun W (h : Ext w W) => hide ((minus_any B A k d n c b a W (hb.ext h) (ha.ext h) (by omega) (by omega) (by have := unhide HLT; omega)).mono (R' := BitsOut W fun o => bigZ mb o = Z ∧ o.length ≤ N) (by
        rintro e w' ⟨A1, c1, l1, h1, h2, h3, h4, ⟨h5, h6⟩, h7, h8⟩
        refine ⟨A1, c1, l1, h1, h2, h3, h4, ⟨?_, ?_⟩, h7, h8⟩
        · rw [← (unhide HZ).2, unhide HM]; cases ma <;> simp only [bigZ, Bool.not_true, Bool.not_false, Bool.false_eq_true, if_true, if_false] <;> have := unhide HLT <;> omega
        · have := (unhide HZ).1; have := unhide HL; omega))
      clear hs hlt hd hmb
      go_wp2_with fail
      refine (unhide cl).mono ?_
      rintro e W1 ⟨rfl, rfl⟩
      clear da db za zb cl hab
      go_wp2_with fail
      refine wp_region_lin (by kernel_rfl) (fun w' => (ExtX W0 w' [(ga + 2)]) ∧ (∃ m9 A9 n9 c9, Blk w' (ga + 2) 56 #[.bool m9, .slice A9 n9 c9])) (fun ii vv ww => match ii with | 0 => vv = .pointer (some ⟨(ga + 1), 0, none⟩) | 1 => vv = .bool mb | 2 => vv = .pointer (some ⟨(ga + 1), 1, none⟩) | 3 => vv = .slice B k d | 4 => vv = .pointer (some ⟨ga, 1, none⟩) | 5 => vv = .slice A n c | 6 => ∃ A0 c0 l0, vv = .slice A0 l0.length c0 ∧ Dig W0 ww A0 c0 l0 ∧ bigZ mb l0 = Z ∧ l0.length ≤ N | 7 => ∃ A0 c0 l0, vv = bigV mb A0 l0.length c0 ∧ Dig W0 ww A0 c0 l0 ∧ bigZ mb l0 = Z ∧ l0.length ≤ N | 8 => ∃ m0 A0 c0 l0, vv = bigV m0 A0 l0.length c0 ∧ Dig W0 ww A0 c0 l0 ∧ ZP Z N m0 l0 | 9 => ∃ m0 A0 c0 l0, Blk ww (ga + 2) 56 #[.bool m0, .slice A0 l0.length c0] ∧ Dig W0 ww A0 c0 l0 ∧ ZP Z N m0 l0 | _ => True) (fun ii => match ii with | 1 => [(0, 24)] | 3 => [(2, 26)] | 5 => [(4, 28)] | 6 => [(3, 27), (5, 29)] | 7 => [(1, 25), (6, 30)] | 8 => [(7, 31)] | 9 => [(8, 32)] | _ => []) (fun ii => match ii with | 0 => [3] | 2 => [3] | 4 => [2] | 9 => [4] | _ => []) (fun ii => match ii with | 0 => [2, 4, 3, 5, 6] | 1 => [2, 4, 3, 5, 6] | 2 => [0, 4, 5, 1] | 3 => [0, 4, 5, 1] | 4 => [0, 2, 3, 1] | 5 => [0, 2, 3, 1] | 6 => [0, 1] | _ => []) [9] [0, 1, 0, 4, 0, 16, 60, 127, 255, 511] 42 rfl (by kernel_rfl) (⟨ExtX.start _ _, _, _, _, _, Bo⟩) ?_ ?_
      · rename_i hcont; clear hcont
        refine ⟨?_, ?_, ?_, ?_, ?_, ?_, ?_, ?_, ?_, ?_, trivial⟩
        · refine stepL_plain rfl ?_
          rintro F a w1 ⟨jE, jO⟩ - ⟨t3, -⟩ K hK
          have t3 : a.tmps[3]? = some (.pointer (some ⟨ga + 1, 0, none⟩)) := t3
          go_simp
          exact hK _ _ ⟨jE, jO⟩ rfl (fun _ _ _ h => h)
        · refine stepL_plain rfl ?_
          rintro F a w1 ⟨jE, jO⟩ ⟨h0, t24, -⟩ - K hK
          have h0 : (F 0) = .pointer (some ⟨(ga + 1), 0, none⟩) := h0
          rw [h0] at t24
          clear h0
          have c0 := (jE.blk Bb (by simp)).cell
          go_simp
          exact hK _ _ ⟨jE, jO⟩ rfl (fun _ _ _ h => h)
        · refine stepL_plain rfl ?_
          rintro F a w1 ⟨jE, jO⟩ - ⟨t3, -⟩ K hK
          have t3 : a.tmps[3]? = some (.pointer (some ⟨ga + 1, 0, none⟩)) := t3
          go_simp
          exact hK _ _ ⟨jE, jO⟩ rfl (fun _ _ _ h => h)
        · refine stepL_plain rfl ?_
          rintro F a w1 ⟨jE, jO⟩ ⟨h2, t26, -⟩ - K hK
          have h2 : (F 2) = .pointer (some ⟨(ga + 1), 1, none⟩) := h2
          rw [h2] at t26
          clear h2
          have c0 := (jE.blk Bb (by simp)).cell
          go_simp
          exact hK _ _ ⟨jE, jO⟩ rfl (fun _ _ _ h => h)
        · refine stepL_plain rfl ?_
          rintro F a w1 ⟨jE, jO⟩ - ⟨t2, -⟩ K hK
          have t2 : a.tmps[2]? = some (.pointer (some ⟨ga, 0, none⟩)) := t2
          go_simp
          exact hK _ _ ⟨jE, jO⟩ rfl (fun _ _ _ h => h)
        · refine stepL_plain rfl ?_
          rintro F a w1 ⟨jE, jO⟩ ⟨h4, t28, -⟩ - K hK
          have h4 : (F 4) = .pointer (some ⟨ga, 1, none⟩) := h4
          rw [h4] at t28
          clear h4
          have c0 := (jE.blk Ba (by simp)).cell
          go_simp
          exact hK _ _ ⟨jE, jO⟩ rfl (fun _ _ _ h => h)
        · refine stepL_plain rfl ?_
          rintro F a w1 ⟨jE, jO⟩ ⟨h3, t27, h5, t29, -⟩ - K hK
          have h3 : (F 3) = .slice B k d := h3
          rw [h3] at t27
          clear h3
          have h5 : (F 5) = .slice A n c := h5
          rw [h5] at t29
          clear h5
          go_simp
          with_reducible refine (unhide (cm _ (jE.ext E0 (by simp; have := unhide HGA; omega)))).mono ?_
          rintro e w2 ⟨A0, c0, l0, rfl, hR0, k1, k2, ⟨q1, q2⟩, hx, hfr⟩
          exact hK _ _ ⟨jE.trans hx, jO.imp fun _ ⟨A9, n9, c9, k⟩ => ⟨A9, n9, c9, k.ext hx⟩⟩ ⟨A0, c0, l0, rfl, ⟨hR0, k1, k2, fun b off e => Nat.le_trans jE.size (hfr b off e)⟩, q1, q2⟩ (by intro jq hj uq h; have hj : jq ∈ [0, 1] := hj; simp only [List.mem_cons, List.not_mem_nil, or_false] at hj; rcases hj with rfl | rfl; exact h; exact h)
        · refine stepL_plain rfl ?_
          rintro F a w1 ⟨jE, jO⟩ ⟨h1, t25, h6, t30, -⟩ - K hK
          have h1 : (F 1) = .bool mb := h1
          rw [h1] at t25
          clear h1
          have h6 : ∃ A0 c0 l0, (F 6) = .slice A0 l0.length c0 ∧ Dig W0 w1 A0 c0 l0 ∧ bigZ mb l0 = Z ∧ l0.length ≤ N := h6
          obtain ⟨A0, c0, l0, e0, hD, q1, q2⟩ := h6
          rw [e0] at t30
          go_simp
          exact hK _ _ ⟨jE, jO⟩ ⟨A0, c0, l0, rfl, hD, q1, q2⟩ (fun _ _ _ h => h)
        · refine stepL_plain rfl ?_
          rintro F a w1 ⟨jE, jO⟩ ⟨h7, t31, -⟩ - K hK
          have h7 : ∃ A0 c0 l0, (F 7) = bigV mb A0 l0.length c0 ∧ Dig W0 w1 A0 c0 l0 ∧ bigZ mb l0 = Z ∧ l0.length ≤ N := h7
          obtain ⟨A0, c0, l0, e0, hD, q1, q2⟩ := h7
          rw [e0] at t31
          go_simp
          with_reducible refine (short_any mb A0 l0.length c0 l0 _ hD.rd (by have := unhide HN; omega) hD.le hD.mx).mono ?_
          rintro e w2 ⟨m0, c1, l1, rfl, hR1, k1, k2, hS, hx⟩
          exact hK _ _ ⟨jE.trans hx, jO.imp fun _ ⟨A9, n9, c9, k⟩ => ⟨A9, n9, c9, k.ext hx⟩⟩ ⟨m0, A0, c1, l1, rfl, ⟨hR1, k1, k2, hD.fr⟩, zp_of hS q2 q1⟩ (fun _ hj _ _ => (List.not_mem_nil hj).elim)
        · refine stepL_plain rfl ?_
          rintro F a w1 ⟨jE, jO⟩ ⟨h8, t32, -⟩ ⟨t4, -⟩ K hK
          have h8 : ∃ m0 A0 c0 l0, (F 8) = bigV m0 A0 l0.length c0 ∧ Dig W0 w1 A0 c0 l0 ∧ ZP Z N m0 l0 := h8
          have t4 : a.tmps[4]? = some (.pointer (some ⟨ga + 2, 0, none⟩)) := t4
          obtain ⟨m0, A1, c1, l1, e0, hD, hZ⟩ := h8
          rw [e0] at t32
          obtain ⟨m9, A9, n9, c9, k⟩ := jO
          have c := k.cell
          have f := k.frozen
          go_simp
          exact hK undef _ ⟨(jE.set (by simp) _).set (by simp) _, ⟨_, _, _, _, (k.set_ 0 _).set_ 1 _⟩⟩ ⟨m0, A1, c1, l1, (k.set_ 0 _).set_ 1 _, (hD.set (by simp; omega) _).set (by simp; omega) _, hZ⟩ (fun _ hj _ _ => (List.not_mem_nil hj).elim)
      · rintro F W9 ⟨jE, jO⟩ ⟨h9, -⟩
        have h9 : ∃ m0 A0 c0 l0, Blk W9 (ga + 2) 56 #[.bool m0, .slice A0 l0.length c0] ∧ Dig W0 W9 A0 c0 l0 ∧ ZP Z N m0 l0 := h9
        obtain ⟨m0, A0, c0, l0, B1, hD, hP⟩ := h9
        simp only [putL, Act.put, Nat.reduceAdd, Nat.zero_add, List.setIfInBounds_toArray, List.set_cons_succ, List.set_cons_zero]
        go_wp2_with fail
        refine bodyPost_ret (results_cell1 rfl _ _ (ga + 2) 56 _ _ rfl B1 Try.underlying56 rfl (by kernel_rfl)) rfl ?_
        obtain ⟨q1, q2⟩ := unhide HZ
        rw [q1, q2]
        exact ⟨m0, A0, c0, l0, rfl, ⟨hD.rd, hD.le, hD.mx, hD.fr.mono E0⟩, hP, jE.ext E0 (by have := unhide HGA; simp; omega)⟩
    · have hd : decide (val a < val b) = false := by simpa using hlt
      rw [hd] at cl
      have HLT := hide hlt
      have cm := fun W (h : Ext w W) => hide ((minus_any A B n c k d a b W (ha.ext h) (hb.ext h) (by omega) (by omega) (by have := unhide HLT; omega)).mono (R' := BitsOut W fun o => bigZ ma o = Z ∧ o.length ≤ N) (by
        rintro e w' ⟨A1, c1, l1, h1, h2, h3, h4, ⟨h5, h6⟩, h7, h8⟩
        refine ⟨A1, c1, l1, h1, h2, h3, h4, ⟨?_, ?_⟩, h7, h8⟩
        · rw [← (unhide HZ).2, unhide HM]; cases ma <;> simp only [bigZ, Bool.not_true, Bool.not_false, Bool.false_eq_true, if_true, if_false] <;> have := unhide HLT <;> omega
        · have := (unhide HZ).1; have := unhide HL; omega))
      clear hs hlt hd hmb
      go_wp2_with fail
      refine (unhide cl).mono ?_
      rintro e W1 ⟨rfl, rfl⟩
      clear da db za zb cl hab
      go_wp2_with fail
      refine wp_region_lin (by kernel_rfl) (fun w' => (ExtX W0 w' [(ga + 2)]) ∧ (∃ m9 A9 n9 c9, Blk w' (ga + 2) 56 #[.bool m9, .slice A9 n9 c9])) (fun ii vv ww => match ii with | 0 => vv = .pointer (some ⟨ga, 0, none⟩) | 1 => vv = .bool ma | 2 => vv = .pointer (some ⟨ga, 1, none⟩) | 3 => vv = .slice A n c | 4 => vv = .pointer (some ⟨(ga + 1), 1, none⟩) | 5 => vv = .slice B k d | 6 => ∃ A0 c0 l0, vv = .slice A0 l0.length c0 ∧ Dig W0 ww A0 c0 l0 ∧ bigZ ma l0 = Z ∧ l0.length ≤ N | 7 => ∃ A0 c0 l0, vv = bigV ma A0 l0.length c0 ∧ Dig W0 ww A0 c0 l0 ∧ bigZ ma l0 = Z ∧ l0.length ≤ N | 8 => ∃ m0 A0 c0 l0, vv = bigV m0 A0 l0.length c0 ∧ Dig W0 ww A0 c0 l0 ∧ ZP Z N m0 l0 | 9 => ∃ m0 A0 c0 l0, Blk ww (ga + 2) 56 #[.bool m0, .slice A0 l0.length c0] ∧ Dig W0 ww A0 c0 l0 ∧ ZP Z N m0 l0 | _ => True) (fun ii => match ii with | 1 => [(0, 33)] | 3 => [(2, 35)] | 5 => [(4, 37)] | 6 => [(3, 36), (5, 38)] | 7 => [(1, 34), (6, 39)] | 8 => [(7, 40)] | 9 => [(8, 41)] | _ => []) (fun ii => match ii with | 0 => [2] | 2 => [2] | 4 => [3] | 9 => [4] | _ => []) (fun ii => match ii with | 0 => [2, 4, 3, 5, 6] | 1 => [2, 4, 3, 5, 6] | 2 => [0, 4, 5, 1] | 3 => [0, 4, 5, 1] | 4 => [0, 2, 3, 1] | 5 => [0, 2, 3, 1] | 6 => [0, 1] | _ => []) [9] [0, 1, 0, 4, 0, 16, 60, 127, 255, 511] 42 rfl (by kernel_rfl) (⟨ExtX.start _ _, _, _, _, _, Bo⟩) ?_ ?_
      · rename_i hcont; clear hcont
        refine ⟨?_, ?_, ?_, ?_, ?_, ?_, ?_, ?_, ?_, ?_, trivial⟩
        · refine stepL_plain rfl ?_
          rintro F a w1 ⟨jE, jO⟩ - ⟨t2, -⟩ K hK
          have t2 : a.tmps[2]? = some (.pointer (some ⟨ga, 0, none⟩)) := t2
          go_simp
          exact hK _ _ ⟨jE, jO⟩ rfl (fun _ _ _ h => h)
        · refine stepL_plain rfl ?_
          rintro F a w1 ⟨jE, jO⟩ ⟨h0, t33, -⟩ - K hK
          have h0 : (F 0) = .pointer (some ⟨ga, 0, none⟩) := h0
          rw [h0] at t33
          clear h0
          have c0 := (jE.blk Ba (by simp)).cell
          go_simp
          exact hK _ _ ⟨jE, jO⟩ rfl (fun _ _ _ h => h)
        · refine stepL_plain rfl ?_
          rintro F a w1 ⟨jE, jO⟩ - ⟨t2, -⟩ K hK
          have t2 : a.tmps[2]? = some (.pointer (some ⟨ga, 0, none⟩)) := t2
          go_simp
          exact hK _ _ ⟨jE, jO⟩ rfl (fun _ _ _ h => h)
        · refine stepL_plain rfl ?_
          rintro F a w1 ⟨jE, jO⟩ ⟨h2, t35, -⟩ - K hK
          have h2 : (F 2) = .pointer (some ⟨ga, 1, none⟩) := h2
          rw [h2] at t35
          clear h2
          have c0 := (jE.blk Ba (by simp)).cell
          go_simp
          exact hK _ _ ⟨jE, jO⟩ rfl (fun _ _ _ h => h)
        · refine stepL_plain rfl ?_
          rintro F a w1 ⟨jE, jO⟩ - ⟨t3, -⟩ K hK
          have t3 : a.tmps[3]? = some (.pointer (some ⟨ga + 1, 0, none⟩)) := t3
          go_simp
          exact hK _ _ ⟨jE, jO⟩ rfl (fun _ _ _ h => h)
        · refine stepL_plain rfl ?_
          rintro F a w1 ⟨jE, jO⟩ ⟨h4, t37, -⟩ - K hK
          have h4 : (F 4) = .pointer (some ⟨(ga + 1), 1, none⟩) := h4
          rw [h4] at t37
          clear h4
          have c0 := (jE.blk Bb (by simp)).cell
          go_simp
          exact hK _ _ ⟨jE, jO⟩ rfl (fun _ _ _ h => h)
        · refine stepL_plain rfl ?_
          rintro F a w1 ⟨jE, jO⟩ ⟨h3, t36, h5, t38, -⟩ - K hK
          have h3 : (F 3) = .slice A n c := h3
          rw [h3] at t36
          clear h3
          have h5 : (F 5) = .slice B k d := h5
          rw [h5] at t38
          clear h5
          go_simp
          with_reducible refine (unhide (cm _ (jE.ext E0 (by simp; have := unhide HGA; omega)))).mono ?_
          rintro e w2 ⟨A0, c0, l0, rfl, hR0, k1, k2, ⟨q1, q2⟩, hx, hfr⟩
          exact hK _ _ ⟨jE.trans hx, jO.imp fun _ ⟨A9, n9, c9, k⟩ => ⟨A9, n9, c9, k.ext hx⟩⟩ ⟨A0, c0, l0, rfl, ⟨hR0, k1, k2, fun b off e => Nat.le_trans jE.size (hfr b off e)⟩, q1, q2⟩ (by intro jq hj uq h; have hj : jq ∈ [0, 1] := hj; simp only [List.mem_cons, List.not_mem_nil, or_false] at hj; rcases hj with rfl | rfl; exact h; exact h)
        · refine stepL_plain rfl ?_
          rintro F a w1 ⟨jE, jO⟩ ⟨h1, t34, h6, t39, -⟩ - K hK
          have h1 : (F 1) = .bool ma := h1
          rw [h1] at t34
          clear h1
          have h6 : ∃ A0 c0 l0, (F 6) = .slice A0 l0.length c0 ∧ Dig W0 w1 A0 c0 l0 ∧ bigZ ma l0 = Z ∧ l0.length ≤ N := h6
          obtain ⟨A0, c0, l0, e0, hD, q1, q2⟩ := h6
          rw [e0] at t39
          go_simp
          exact hK _ _ ⟨jE, jO⟩ ⟨A0, c0, l0, rfl, hD, q1, q2⟩ (fun _ _ _ h => h)
        · refine stepL_plain rfl ?_
          rintro F a w1 ⟨jE, jO⟩ ⟨h7, t40, -⟩ - K hK
          have h7 : ∃ A0 c0 l0, (F 7) = bigV ma A0 l0.length c0 ∧ Dig W0 w1 A0 c0 l0 ∧ bigZ ma l0 = Z ∧ l0.length ≤ N := h7
          obtain ⟨A0, c0, l0, e0, hD, q1, q2⟩ := h7
          rw [e0] at t40
          go_simp
          with_reducible refine (short_any ma A0 l0.length c0 l0 _ hD.rd (by have := unhide HN; omega) hD.le hD.mx).mono ?_
          rintro e w2 ⟨m0, c1, l1, rfl, hR1, k1, k2, hS, hx⟩
          exact hK _ _ ⟨jE.trans hx, jO.imp fun _ ⟨A9, n9, c9, k⟩ => ⟨A9, n9, c9, k.ext hx⟩⟩ ⟨m0, A0, c1, l1, rfl, ⟨hR1, k1, k2, hD.fr⟩, zp_of hS q2 q1⟩ (fun _ hj _ _ => (List.not_mem_nil hj).elim)
        · refine stepL_plain rfl ?_
          rintro F a w1 ⟨jE, jO⟩ ⟨h8, t41, -⟩ ⟨t4, -⟩ K hK
          have h8 : ∃ m0 A0 c0 l0, (F 8) = bigV m0 A0 l0.length c0 ∧ Dig W0 w1 A0 c0 l0 ∧ ZP Z N m0 l0 := h8
          have t4 : a.tmps[4]? = some (.pointer (some ⟨ga + 2, 0, none⟩)) := t4
          obtain ⟨m0, A1, c1, l1, e0, hD, hZ⟩ := h8
          rw [e0] at t41
          obtain ⟨m9, A9, n9, c9, k⟩ := jO
          have c := k.cell
          have f := k.frozen
          go_simp
          exact hK undef _ ⟨(jE.set (by simp) _).set (by simp) _, ⟨_, _, _, _, (k.set_ 0 _).set_ 1 _⟩⟩ ⟨m0, A1, c1, l1, (k.set_ 0 _).set_ 1 _, (hD.set (by simp; omega) _).set (by simp; omega) _, hZ⟩ (fun _ hj _ _ => (List.not_mem_nil hj).elim)
      · rintro F W9 ⟨jE, jO⟩ ⟨h9, -⟩
        have h9 : ∃ m0 A0 c0 l0, Blk W9 (ga + 2) 56 #[.bool m0, .slice A0 l0.length c0] ∧ Dig W0 W9 A0 c0 l0 ∧ ZP Z N m0 l0 := h9
        obtain ⟨m0, A0, c0, l0, B1, hD, hP⟩ := h9
        simp only [putL, Act.put, Nat.reduceAdd, Nat.zero_add, List.setIfInBounds_toArray, List.set_cons_succ, List.set_cons_zero]
        go_wp2_with fail
        refine bodyPost_ret (results_cell1 rfl _ _ (ga + 2) 56 _ _ rfl B1 Try.underlying56 rfl (by kernel_rfl)) rfl ?_
        obtain ⟨q1, q2⟩ := unhide HZ
        rw [q1, q2]
        exact ⟨m0, A0, c0, l0, rfl, ⟨hD.rd, hD.le, hD.mx, hD.fr.mono E0⟩, hP, jE.ext E0 (by have := unhide HGA; simp; omega)⟩
  · have hab : (ma == mb) = true := hs
    have hmb : ma = mb := by simpa using hs
    have HM := hide hmb
    have cp := fun W (h : Ext w W) => hide ((plus_any A B n c k d a b W (ha.ext h) (hb.ext h) (by omega) (by omega)).mono (R' := BitsOut W fun o => bigZ ma o = Z ∧ o.length ≤ N) (by
        rintro e w' ⟨A1, c1, l1, h1, h2, h3, h4, ⟨h5, h6⟩, h7, h8⟩
        refine ⟨A1, c1, l1, h1, h2, h3, h4, ⟨?_, ?_⟩, h7, h8⟩
        · rw [← (unhide HZ).2, ← unhide HM]; cases ma <;> simp only [bigZ, Bool.false_eq_true, if_true, if_false] <;> omega
        · have := (unhide HZ).1; have := unhide HL; omega))
    clear hs hmb
    go_wp2_with fail
    clear da db za zb hab
    refine wp_region_lin (by kernel_rfl) (fun w' => (ExtX W0 w' [(ga + 2)]) ∧ (∃ m9 A9 n9 c9, Blk w' (ga + 2) 56 #[.bool m9, .slice A9 n9 c9])) (fun ii vv ww => match ii with | 0 => vv = .pointer (some ⟨ga, 0, none⟩) | 1 => vv = .bool ma | 2 => vv = .pointer (some ⟨ga, 1, none⟩) | 3 => vv = .slice A n c | 4 => vv = .pointer (some ⟨(ga + 1), 1, none⟩) | 5 => vv = .slice B k d | 6 => ∃ A0 c0 l0, vv = .slice A0 l0.length c0 ∧ Dig W0 ww A0 c0 l0 ∧ bigZ ma l0 = Z ∧ l0.length ≤ N | 7 => ∃ A0 c0 l0, vv = bigV ma A0 l0.length c0 ∧ Dig W0 ww A0 c0 l0 ∧ bigZ ma l0 = Z ∧ l0.length ≤ N | 8 => ∃ m0 A0 c0 l0, vv = bigV m0 A0 l0.length c0 ∧ Dig W0 ww A0 c0 l0 ∧ ZP Z N m0 l0 | 9 => ∃ m0 A0 c0 l0, Blk ww (ga + 2) 56 #[.bool m0, .slice A0 l0.length c0] ∧ Dig W0 ww A0 c0 l0 ∧ ZP Z N m0 l0 | _ => True) (fun ii => match ii with | 1 => [(0, 10)] | 3 => [(2, 12)] | 5 => [(4, 14)] | 6 => [(3, 13), (5, 15)] | 7 => [(1, 11), (6, 16)] | 8 => [(7, 17)] | 9 => [(8, 18)] | _ => []) (fun ii => match ii with | 0 => [2] | 2 => [2] | 4 => [3] | 9 => [4] | _ => []) (fun ii => match ii with | 0 => [2, 4, 3, 5, 6] | 1 => [2, 4, 3, 5, 6] | 2 => [0, 4, 5, 1] | 3 => [0, 4, 5, 1] | 4 => [0, 2, 3, 1] | 5 => [0, 2, 3, 1] | 6 => [0, 1] | _ => []) [9] [0, 1, 0, 4, 0, 16, 60, 127, 255, 511] 42 rfl (by kernel_rfl) (⟨ExtX.start _ _, _, _, _, _, Bo⟩) ?_ ?_
    · rename_i hcont; clear hcont
      refine ⟨?_, ?_, ?_, ?_, ?_, ?_, ?_, ?_, ?_, ?_, trivial⟩
      · refine stepL_plain rfl ?_
        rintro F a w1 ⟨jE, jO⟩ - ⟨t2, -⟩ K hK
        have t2 : a.tmps[2]? = some (.pointer (some ⟨ga, 0, none⟩)) := t2
        go_simp
        exact hK _ _ ⟨jE, jO⟩ rfl (fun _ _ _ h => h)
      · refine stepL_plain rfl ?_
        rintro F a w1 ⟨jE, jO⟩ ⟨h0, t10, -⟩ - K hK
        have h0 : (F 0) = .pointer (some ⟨ga, 0, none⟩) := h0
        rw [h0] at t10
        clear h0
        have c0 := (jE.blk Ba (by simp)).cell
        go_simp
        exact hK _ _ ⟨jE, jO⟩ rfl (fun _ _ _ h => h)
      · refine stepL_plain rfl ?_
        rintro F a w1 ⟨jE, jO⟩ - ⟨t2, -⟩ K hK
        have t2 : a.tmps[2]? = some (.pointer (some ⟨ga, 0, none⟩)) := t2
        go_simp
        exact hK _ _ ⟨jE, jO⟩ rfl (fun _ _ _ h => h)
      · refine stepL_plain rfl ?_
        rintro F a w1 ⟨jE, jO⟩ ⟨h2, t12, -⟩ - K hK
        have h2 : (F 2) = .pointer (some ⟨ga, 1, none⟩) := h2
        rw [h2] at t12
        clear h2
        have c0 := (jE.blk Ba (by simp)).cell
        go_simp
        exact hK _ _ ⟨jE, jO⟩ rfl (fun _ _ _ h => h)
      · refine stepL_plain rfl ?_
        rintro F a w1 ⟨jE, jO⟩ - ⟨t3, -⟩ K hK
        have t3 : a.tmps[3]? = some (.pointer (some ⟨ga + 1, 0, none⟩)) := t3
        go_simp
        exact hK _ _ ⟨jE, jO⟩ rfl (fun _ _ _ h => h)
      · refine stepL_plain rfl ?_
        rintro F a w1 ⟨jE, jO⟩ ⟨h4, t14, -⟩ - K hK
        have h4 : (F 4) = .pointer (some ⟨(ga + 1), 1, none⟩) := h4
        rw [h4] at t14
        clear h4
        have c0 := (jE.blk Bb (by simp)).cell
        go_simp
        exact hK _ _ ⟨jE, jO⟩ rfl (fun _ _ _ h => h)
      · refine stepL_plain rfl ?_
        rintro F a w1 ⟨jE, jO⟩ ⟨h3, t13, h5, t15, -⟩ - K hK
        have h3 : (F 3) = .slice A n c := h3
        rw [h3] at t13
        clear h3
        have h5 : (F 5) = .slice B k d := h5
        rw [h5] at t15
        clear h5
        go_simp
        with_reducible refine (unhide (cp _ (jE.ext E0 (by simp; have := unhide HGA; omega)))).mono ?_
        rintro e w2 ⟨A0, c0, l0, rfl, hR0, k1, k2, ⟨q1, q2⟩, hx, hfr⟩
        exact hK _ _ ⟨jE.trans hx, jO.imp fun _ ⟨A9, n9, c9, k⟩ => ⟨A9, n9, c9, k.ext hx⟩⟩ ⟨A0, c0, l0, rfl, ⟨hR0, k1, k2, fun b off e => Nat.le_trans jE.size (hfr b off e)⟩, q1, q2⟩ (by intro jq hj uq h; have hj : jq ∈ [0, 1] := hj; simp only [List.mem_cons, List.not_mem_nil, or_false] at hj; rcases hj with rfl | rfl; exact h; exact h)
      · refine stepL_plain rfl ?_
        rintro F a w1 ⟨jE, jO⟩ ⟨h1, t11, h6, t16, -⟩ - K hK
        have h1 : (F 1) = .bool ma := h1
        rw [h1] at t11
        clear h1
        have h6 : ∃ A0 c0 l0, (F 6) = .slice A0 l0.length c0 ∧ Dig W0 w1 A0 c0 l0 ∧ bigZ ma l0 = Z ∧ l0.length ≤ N := h6
        obtain ⟨A0, c0, l0, e0, hD, q1, q2⟩ := h6
        rw [e0] at t16
        go_simp
        exact hK _ _ ⟨jE, jO⟩ ⟨A0, c0, l0, rfl, hD, q1, q2⟩ (fun _ _ _ h => h)
      · refine stepL_plain rfl ?_
        rintro F a w1 ⟨jE, jO⟩ ⟨h7, t17, -⟩ - K hK
        have h7 : ∃ A0 c0 l0, (F 7) = bigV ma A0 l0.length c0 ∧ Dig W0 w1 A0 c0 l0 ∧ bigZ ma l0 = Z ∧ l0.length ≤ N := h7
        obtain ⟨A0, c0, l0, e0, hD, q1, q2⟩ := h7
        rw [e0] at t17
        go_simp
        with_reducible refine (short_any ma A0 l0.length c0 l0 _ hD.rd (by have := unhide HN; omega) hD.le hD.mx).mono ?_
        rintro e w2 ⟨m0, c1, l1, rfl, hR1, k1, k2, hS, hx⟩
        exact hK _ _ ⟨jE.trans hx, jO.imp fun _ ⟨A9, n9, c9, k⟩ => ⟨A9, n9, c9, k.ext hx⟩⟩ ⟨m0, A0, c1, l1, rfl, ⟨hR1, k1, k2, hD.fr⟩, zp_of hS q2 q1⟩ (fun _ hj _ _ => (List.not_mem_nil hj).elim)
      · refine stepL_plain rfl ?_
        rintro F a w1 ⟨jE, jO⟩ ⟨h8, t18, -⟩ ⟨t4, -⟩ K hK
        have h8 : ∃ m0 A0 c0 l0, (F 8) = bigV m0 A0 l0.length c0 ∧ Dig W0 w1 A0 c0 l0 ∧ ZP Z N m0 l0 := h8
        have t4 : a.tmps[4]? = some (.pointer (some ⟨ga + 2, 0, none⟩)) := t4
        obtain ⟨m0, A1, c1, l1, e0, hD, hZ⟩ := h8
        rw [e0] at t18
        obtain ⟨m9, A9, n9, c9, k⟩ := jO
        have c := k.cell
        have f := k.frozen
        go_simp
        exact hK undef _ ⟨(jE.set (by simp) _).set (by simp) _, ⟨_, _, _, _, (k.set_ 0 _).set_ 1 _⟩⟩ ⟨m0, A1, c1, l1, (k.set_ 0 _).set_ 1 _, (hD.set (by simp; omega) _).set (by simp; omega) _, hZ⟩ (fun _ hj _ _ => (List.not_mem_nil hj).elim)
    · rintro F W9 ⟨jE, jO⟩ ⟨h9, -⟩
      have h9 : ∃ m0 A0 c0 l0, Blk W9 (ga + 2) 56 #[.bool m0, .slice A0 l0.length c0] ∧ Dig W0 W9 A0 c0 l0 ∧ ZP Z N m0 l0 := h9
      obtain ⟨m0, A0, c0, l0, B1, hD, hP⟩ := h9
      simp only [putL, Act.put, Nat.reduceAdd, Nat.zero_add, List.setIfInBounds_toArray, List.set_cons_succ, List.set_cons_zero]
      go_wp2_with fail
      refine bodyPost_ret (results_cell1 rfl _ _ (ga + 2) 56 _ _ rfl B1 Try.underlying56 rfl (by kernel_rfl)) rfl ?_
      obtain ⟨q1, q2⟩ := unhide HZ
      rw [q1, q2]
      exact ⟨m0, A0, c0, l0, rfl, ⟨hD.rd, hD.le, hD.mx, hD.fr.mono E0⟩, hP, jE.ext E0 (by have := unhide HGA; simp; omega)⟩
end Go.Proofs.Ytahneblnbafpoaa
