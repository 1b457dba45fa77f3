/- Numbers as lists of digits: minus, add and less of the reference of edges (walks). -/
import Derived.Test.YtphckjnmbbjenaaBigG
import Derived.Test.YtphckjnmbbjenaaBigH
namespace Go.Proofs.Ytphckjnmbbjenaa
open Go.RowKit

theorem zp_neg {z : Int} {k : Nat} {m : Bool} {l : List Bool} (h : ZP z k m l) : m = decide (z < 0) := by
  obtain ⟨h1, h2, -, -⟩ := h
  cases m
  · rw [bigZ_f] at h1; simp; omega
  · have := h2 rfl; rw [bigZ_t] at h1; simp; omega
theorem val_ne_nil {l : List Bool} (h : 0 < val l) : l ≠ [] := by rintro rfl; simp [val] at h
/-- digits lie apart from a number's own two cells, as those stand at first -/
theorem Dig.apart {w0 w : World} {A : Option Addr} {c g : Nat} {l : List Bool} (h : Dig w0 w A c l) (hs : shortOk l) (hb : Blk w g 58 #[.bool false, .slice none 0 0]) (hl : l ≠ []) : ∀ b off, A = some ⟨b, off, none⟩ → b ≠ g := by
  rintro b off rfl rfl
  have hl0 : 0 < l.length := List.length_pos_iff.2 hl
  obtain ⟨b', off', e, hb', hc⟩ := h.rd.at_ hl0
  injection e with e; injection e with e1 e2 _; subst e1 e2
  have hh := hb.cell
  have hc0 : ∀ j u, l[j]? = some u → w.cell? ⟨b, off + j, none⟩ = some (.bool u) := fun j u hu => by
    have := hc j (.bool u) (by simp [bools, hu]); simpa using this
  obtain ⟨u0, hu0⟩ : ∃ u, l[0]? = some u := ⟨l[0], List.getElem?_eq_getElem hl0⟩
  have k0 := hc0 0 u0 hu0
  rw [hh] at k0
  rcases off with _ | _ | off
  · simp at k0
    rcases Nat.lt_or_ge 1 l.length with h2 | h2
    · have k1 := hc0 1 l[1] (List.getElem?_eq_getElem h2)
      rw [hh] at k1; simp at k1
    · have h1 : l = [u0] := by
        match l, hl0, h2, hu0 with
        | [x], _, _, h => simpa using h
      rw [h1, k0] at hs
      rcases hs with hs | hs <;> simp [val] at hs
  · simp at k0
  · simp at k0
/-- a number in a variable of its own -/
theorem Dig.put {w0 w : World} {A : Option Addr} {c g : Nat} {l : List Bool} (h : Dig w0 w A c l) (hs : shortOk l) (hb : Blk w g 58 #[.bool false, .slice none 0 0]) (i : Nat) (v : Value) (w' : World) (hw : w' = w.setCell ⟨g, i, none⟩ v) : Dig w0 w' A c l := by
  subst hw
  refine ⟨?_, h.le, h.mx, h.fr⟩
  by_cases hl : l = []
  · subst hl; exact Rd.nil _ _ _
  · exact h.rd.grown (w' := w.setCell ⟨g, i, none⟩ v) (row := some g) ⟨rfl, rfl, rfl, by simp [World.setCell], fun j hj hn => Below.heap_setCell w _ _ j (fun e => hn (congrArg some e))⟩ (fun b off e h2 => h.apart hs hb hl b off e (Option.some.inj h2).symm)

set_option maxRecDepth 100000 in
set_option maxHeartbeats 8000000 in
theorem refminus_any (x : Int) (h1 : -9223372036854775808 ≤ x) (h2 : x ≤ 9223372036854775807) (w : World) :
    Calls Try.prog 33 #[.int .i64 x] w (BigFr w (ZP (-x) 130)) := by
  go_enter Try.func33, Try.ntmps33
  go_wp2_with fail
  have Bo : Blk (w.alloc (.cells #[.bool false, .slice none 0 0] 58)) w.heap.size 58 #[.bool false, .slice none 0 0] := Blk.new _ _ _
  have E0 : Ext w (w.alloc (.cells #[.bool false, .slice none 0 0] 58)) := (Ext.refl _).alloc _
  generalize w.alloc (.cells #[.bool false, .slice none 0 0] 58) = wa at *
  generalize hga : w.heap.size = ga at *
  have HGA := hide hga
  clear hga
  with_reducible refine (of_any (-1) (by omega) (by omega) _).mono ?_
  rintro e w1 ⟨m1, A1, c1, l1, rfl, R1, -, -, P1, hx⟩
  have Bo1 := Bo.ext hx
  have E1 := E0.trans hx
  have z1 := of_zs P1
  have k1 : l1.length ≤ 64 := P1.2.2
  have ZZ1 := hide z1
  clear Bo E0 hx P1 z1
  go_wp2_with fail
  with_reducible refine (of_any x h1 h2 _).mono ?_
  rintro e w2 ⟨m2, A2, c2, l2, rfl, R2, -, -, P2, hx⟩
  have Bo2 := Bo1.ext hx
  have E2 := E1.trans hx
  have z2 := of_zs P2
  have k2 : l2.length ≤ 64 := P2.2.2
  have ZZ2 := hide z2
  have R1' := R1.ext hx
  clear Bo1 E1 hx P2 z2 R1
  go_wp2_with fail
  with_reducible refine (mul_any m1 m2 A1 A2 l1.length c1 l2.length c2 l1 l2 w2 R1' R2 (by omega) (by omega)).mono ?_
  rintro e w3 ⟨m3, A3, c3, l3, rfl, hD, hZ, hx⟩
  have Bo3 := Bo2.ext hx
  have E3 := E2.trans hx
  have HE := hide (And.intro E2.size Bo2.lt)
  have d3 := Bo3.cell
  have f3 := Bo3.frozen
  have zz3 := Bo3.lt
  have HZ := hide hZ
  clear Bo2 E2 hx R1' R2 hZ
  go_wp2_with fail
  refine bodyPost_ret (results_cell1 rfl _ _ ga 58 _ _ rfl ((Bo3.set_ 0 _).set_ 1 _) Try.underlying58 rfl (by kernel_rfl)) rfl ?_
  have hs3 : shortOk l3 := (unhide HZ).2.2.1
  have hf : ∀ (b off : Nat), A3 = some ⟨b, off, none⟩ → w2.heap.size ≤ b := hD.fr
  have hg : ∀ (W : World) (R : Dig w2 W A3 c3 l3) (j : Nat) (v : Value), Dig w2 (W.setCell ⟨ga, j, none⟩ v) A3 c3 l3 := fun W R j v => R.set (by have := (unhide HE).2; simp; omega) v
  have hd := hg _ (hg _ hD 0 (.bool m3)) 1 (.slice A3 l3.length c3)
  refine ⟨m3, A3, c3, l3, rfl, ⟨hd.rd, hd.le, hd.mx, fun b off e => by have := hf b off e; have := (unhide HE).1; omega⟩, ?_, (E3.set (by have := unhide HGA; simp; omega) _).set (by have := unhide HGA; simp; omega) _⟩
  obtain ⟨q1, q2, q3, q4⟩ := unhide HZ
  have y1 := unhide ZZ1
  have y2 := unhide ZZ2
  rw [y1, y2] at q1
  exact ⟨by omega, q2, q3, by omega⟩

set_option maxRecDepth 100000 in
set_option maxHeartbeats 8000000 in
theorem refadd_any (x y : Int) (h1 : -9223372036854775808 ≤ x) (h2 : x ≤ 9223372036854775807) (h3 : -9223372036854775808 ≤ y) (h4 : y ≤ 9223372036854775807) (w : World) :
    Calls Try.prog 34 #[.int .i64 x, .int .i64 y] w (BigFr w (ZP (x + y) 130)) := by
  go_enter Try.func34, Try.ntmps34
  go_wp2_with fail
  have Bo : Blk (w.alloc (.cells #[.bool false, .slice none 0 0] 58)) w.heap.size 58 #[.bool false, .slice none 0 0] := Blk.new _ _ _
  have E0 : Ext w (w.alloc (.cells #[.bool false, .slice none 0 0] 58)) := (Ext.refl _).alloc _
  generalize w.alloc (.cells #[.bool false, .slice none 0 0] 58) = wa at *
  generalize hga : w.heap.size = ga at *
  have HGA := hide hga
  clear hga
  with_reducible refine (of_any x h1 h2 _).mono ?_
  rintro e w1 ⟨m1, A1, c1, l1, rfl, R1, -, -, P1, hx⟩
  have Bo1 := Bo.ext hx
  have E1 := E0.trans hx
  have z1 := of_zs P1
  have k1 : l1.length ≤ 64 := P1.2.2
  have ZZ1 := hide z1
  clear Bo E0 hx P1 z1
  go_wp2_with fail
  with_reducible refine (of_any y h3 h4 _).mono ?_
  rintro e w2 ⟨m2, A2, c2, l2, rfl, R2, -, -, P2, hx⟩
  have Bo2 := Bo1.ext hx
  have E2 := E1.trans hx
  have z2 := of_zs P2
  have k2 : l2.length ≤ 64 := P2.2.2
  have ZZ2 := hide z2
  have R1' := R1.ext hx
  clear Bo1 E1 hx P2 z2 R1
  go_wp2_with fail
  with_reducible refine (add_any m1 m2 A1 A2 l1.length c1 l2.length c2 l1 l2 w2 R1' R2 (by omega) (by omega)).mono ?_
  rintro e w3 ⟨m3, A3, c3, l3, rfl, hD, hZ, hx⟩
  have Bo3 := Bo2.ext hx
  have E3 := E2.trans hx
  have HE := hide (And.intro E2.size Bo2.lt)
  have d3 := Bo3.cell
  have f3 := Bo3.frozen
  have zz3 := Bo3.lt
  have HZ := hide hZ
  clear Bo2 E2 hx R1' R2 hZ
  go_wp2_with fail
  refine bodyPost_ret (results_cell1 rfl _ _ ga 58 _ _ rfl ((Bo3.set_ 0 _).set_ 1 _) Try.underlying58 rfl (by kernel_rfl)) rfl ?_
  have hs3 : shortOk l3 := (unhide HZ).2.2.1
  have hf : ∀ (b off : Nat), A3 = some ⟨b, off, none⟩ → w2.heap.size ≤ b := hD.fr
  have hg : ∀ (W : World) (R : Dig w2 W A3 c3 l3) (j : Nat) (v : Value), Dig w2 (W.setCell ⟨ga, j, none⟩ v) A3 c3 l3 := fun W R j v => R.set (by have := (unhide HE).2; simp; omega) v
  have hd := hg _ (hg _ hD 0 (.bool m3)) 1 (.slice A3 l3.length c3)
  refine ⟨m3, A3, c3, l3, rfl, ⟨hd.rd, hd.le, hd.mx, fun b off e => by have := hf b off e; have := (unhide HE).1; omega⟩, ?_, (E3.set (by have := unhide HGA; simp; omega) _).set (by have := unhide HGA; simp; omega) _⟩
  obtain ⟨q1, q2, q3, q4⟩ := unhide HZ
  have y1 := unhide ZZ1
  have y2 := unhide ZZ2
  rw [y1, y2] at q1
  exact ⟨by omega, q2, q3, by omega⟩

set_option maxRecDepth 100000 in
set_option maxHeartbeats 8000000 in
theorem bigless_any (ma mb : Bool) (A B : Option Addr) (n c k d : Nat) (x y : List Bool) (w : World) (ha : Rd w 1 A n (bools x)) (hb : Rd w 1 B k (bools y)) (hn : n ≤ 10000) (hk : k ≤ 10000) :
    Calls Try.prog 52 #[bigV ma A n c, bigV mb B k d] w fun e w' => e = .returned (.bool (decide (bigZ ma x < bigZ mb y))) ∧ Ext w w' := by
  go_enter Try.func52, Try.ntmps52
  go_upto_region 1 with fail
  have Ba : Blk ((w.alloc (.cells #[.bool ma, .slice A n c] 58)).alloc (.cells #[.bool mb, .slice B k d] 58)) w.heap.size 58 #[.bool ma, .slice A n c] := (Blk.new _ _ _).alloc _
  have Bb : Blk ((w.alloc (.cells #[.bool ma, .slice A n c] 58)).alloc (.cells #[.bool mb, .slice B k d] 58)) (w.heap.size + 1) 58 #[.bool mb, .slice B k d] := Blk.new1 _ _ _ _
  have E0 : Ext w ((w.alloc (.cells #[.bool ma, .slice A n c] 58)).alloc (.cells #[.bool mb, .slice B k d] 58)) := ((Ext.refl _).alloc _).alloc _
  generalize ((w.alloc (.cells #[.bool ma, .slice A n c] 58)).alloc (.cells #[.bool mb, .slice B k d] 58)) = W0 at *
  generalize hga : w.heap.size = ga at *
  have HGA := hide hga
  clear hga
  have lo0 := Bb.lt
  refine wp_region_linT (by kernel_rfl) (fun w' => (ExtX W0 w' [])) (fun ii vv ww => match ii with | 0 => vv = bigV ma A n c | 1 => ∃ m0 A0 c0 l0, vv = bigV m0 A0 l0.length c0 ∧ Rd ww 1 A0 l0.length (bools l0) ∧ OfP (-1) m0 l0 | 2 => vv = bigV mb B k d | 3 => ∃ m0 A0 c0 l0, vv = bigV m0 A0 l0.length c0 ∧ Dig W0 ww A0 c0 l0 ∧ ZP (-bigZ mb y) (64 + k + 1) m0 l0 | 4 => ∃ m0 A0 c0 l0, vv = bigV m0 A0 l0.length c0 ∧ Dig W0 ww A0 c0 l0 ∧ ZP (bigZ ma x - bigZ mb y) (n + k + 70) m0 l0 | 5 => ∃ g, vv = .pointer (some ⟨g, 0, none⟩) ∧ W0.heap.size ≤ g ∧ Blk ww g 58 #[.bool false, .slice none 0 0] | 6 => True | _ => True) (fun ii => match ii with | 3 => [(1, 7), (2, 8)] | 4 => [(0, 6), (3, 9)] | 6 => [(5, 5), (4, 10)] | _ => []) (fun ii => match ii with | 0 => [2] | 2 => [3] | _ => []) (fun ii => match ii with | 0 => [1, 2, 3, 5] | 1 => [2, 0, 5] | 2 => [1, 0, 5] | 3 => [0, 5] | 4 => [5] | 5 => [1, 2, 0, 3, 4] | _ => []) [] [0, 0, 0, 6, 15, 0, 63] (fun _ => True) [] (fun FT wT => ∃ g m0 A0 c0 l0, FT 5 = .pointer (some ⟨g, 0, none⟩) ∧ Blk wT g 58 #[.bool m0, .slice A0 l0.length c0] ∧ ZP (bigZ ma x - bigZ mb y) (n + k + 70) m0 l0 ∧ Ext W0 wT) 6 13 rfl (by kernel_rfl) (by kernel_rfl) (.inl (by kernel_rfl)) (ExtX.start _ _) trivial ?_ ?_
  · rename_i hcont; clear hcont
    refine ⟨?_, ?_, ?_, ?_, ?_, ?_, ?_, trivial⟩
    · refine stepT_plain rfl ?_
      rintro F a w1 jE - ⟨t2, -⟩ - K hK
      have t2 : a.tmps[2]? = some (.pointer (some ⟨ga, 0, none⟩)) := t2
      have c0 := (jE.blk Ba (by simp)).cell
      go_simp
      exact hK _ _ jE rfl (fun _ _ _ h => h) (fun _ => trivial) (fun he => absurd he (by decide))
    · refine stepT_plain rfl ?_
      rintro F a w1 jE - - - K hK
      go_simp
      with_reducible refine (of_any (-1) (by omega) (by omega) _).mono ?_
      rintro e w2 ⟨m0, A0, c0, l0, rfl, hR0, k1, k2, hP0, hx⟩
      exact hK _ _ (jE.trans hx) ⟨m0, A0, c0, l0, rfl, hR0, hP0⟩ (by intro jq hj uq h; have hj : jq ∈ [2, 0, 5] := hj; simp only [List.mem_cons, List.not_mem_nil, or_false] at hj; rcases hj with rfl | rfl | rfl; exact h; exact h; exact (have h : ∃ g, uq = .pointer (some ⟨g, 0, none⟩) ∧ W0.heap.size ≤ g ∧ Blk w1 g 58 #[.bool false, .slice none 0 0] := h; let ⟨g, q1, q2, q3⟩ := h; ⟨g, q1, q2, q3.ext hx⟩)) (fun _ => trivial) (fun he => absurd he (by decide))
    · refine stepT_plain rfl ?_
      rintro F a w1 jE - ⟨t3, -⟩ - K hK
      have t3 : a.tmps[3]? = some (.pointer (some ⟨ga + 1, 0, none⟩)) := t3
      have c0 := (jE.blk Bb (by simp)).cell
      go_simp
      exact hK _ _ jE rfl (fun _ _ _ h => h) (fun _ => trivial) (fun he => absurd he (by decide))
    · refine stepT_plain rfl ?_
      rintro F a w1 jE ⟨h1, t7, h2, t8, -⟩ - - K hK
      have h1 : ∃ m0 A0 c0 l0, (F 1) = bigV m0 A0 l0.length c0 ∧ Rd w1 1 A0 l0.length (bools l0) ∧ OfP (-1) m0 l0 := h1
      have h2 : (F 2) = bigV mb B k d := h2
      rw [h2] at t8
      clear h2
      obtain ⟨m1, A1, c1, l1, e1, hR1, hP1⟩ := h1
      rw [e1] at t7
      go_simp
      have hz1 := of_zs hP1
      have hl1 : l1.length ≤ 64 := hP1.2.2
      with_reducible refine (mul_any m1 mb A1 B l1.length c1 k d l1 y _ hR1 (jE.rd (hb.ext E0) (by simp)) (by omega) (by omega)).mono ?_
      rintro e w2 ⟨m0, A0, c0, l0, rfl, hD, hZ, hx⟩
      exact hK _ _ (jE.trans hx) ⟨m0, A0, c0, l0, rfl, ⟨hD.rd, hD.le, hD.mx, fun b off e => Nat.le_trans jE.size (hD.fr b off e)⟩, by rw [hz1] at hZ; exact ⟨by have := hZ.1; omega, hZ.2.1, hZ.2.2.1, by have := hZ.2.2.2; omega⟩⟩ (by intro jq hj uq h; have hj : jq ∈ [0, 5] := hj; simp only [List.mem_cons, List.not_mem_nil, or_false] at hj; rcases hj with rfl | rfl; exact h; exact (have h : ∃ g, uq = .pointer (some ⟨g, 0, none⟩) ∧ W0.heap.size ≤ g ∧ Blk w1 g 58 #[.bool false, .slice none 0 0] := h; let ⟨g, q1, q2, q3⟩ := h; ⟨g, q1, q2, q3.ext hx⟩)) (fun _ => trivial) (fun he => absurd he (by decide))
    · refine stepT_plain rfl ?_
      rintro F a w1 jE ⟨h0, t6, h3, t9, -⟩ - - K hK
      have h0 : (F 0) = bigV ma A n c := h0
      rw [h0] at t6
      clear h0
      have h3 : ∃ m0 A0 c0 l0, (F 3) = bigV m0 A0 l0.length c0 ∧ Dig W0 w1 A0 c0 l0 ∧ ZP (-bigZ mb y) (64 + k + 1) m0 l0 := h3
      obtain ⟨m1, A1, c1, l1, e1, hD1, hZ1⟩ := h3
      rw [e1] at t9
      go_simp
      have hl1 := hZ1.2.2.2
      with_reducible refine (add_any ma m1 A A1 n c l1.length c1 x l1 _ (jE.rd (ha.ext E0) (by simp)) hD1.rd (by omega) (by omega)).mono ?_
      rintro e w2 ⟨m0, A0, c0, l0, rfl, hD, hZ, hx⟩
      exact hK _ _ (jE.trans hx) ⟨m0, A0, c0, l0, rfl, ⟨hD.rd, hD.le, hD.mx, fun b off e => Nat.le_trans jE.size (hD.fr b off e)⟩, by rw [hZ1.1] at hZ; exact ⟨by have := hZ.1; omega, hZ.2.1, hZ.2.2.1, by have := hZ.2.2.2; omega⟩⟩ (by intro jq hj uq h; have hj : jq ∈ [5] := hj; simp only [List.mem_singleton] at hj; subst hj; exact (have h : ∃ g, uq = .pointer (some ⟨g, 0, none⟩) ∧ W0.heap.size ≤ g ∧ Blk w1 g 58 #[.bool false, .slice none 0 0] := h; let ⟨g, q1, q2, q3⟩ := h; ⟨g, q1, q2, q3.ext hx⟩)) (fun _ => trivial) (fun he => absurd he (by decide))
    · refine stepT_plain rfl ?_
      rintro F a w1 jE - - - K hK
      go_simp
      have hx : Ext w1 (w1.alloc (.cells #[.bool false, .slice none 0 0] 58)) := (Ext.refl _).alloc _
      exact hK _ _ (jE.trans hx) ⟨_, rfl, jE.size, Blk.new _ _ _⟩ (by intro jq hj uq h; have hj : jq ∈ [1, 2, 0, 3, 4] := hj; simp only [List.mem_cons, List.not_mem_nil, or_false] at hj; rcases hj with rfl | rfl | rfl | rfl | rfl; exact (have h : ∃ m0 A0 c0 l0, uq = bigV m0 A0 l0.length c0 ∧ Rd w1 1 A0 l0.length (bools l0) ∧ OfP (-1) m0 l0 := h; let ⟨m0, A0, c0, l0, q1, q2, q3⟩ := h; ⟨m0, A0, c0, l0, q1, q2.ext hx, q3⟩); exact h; exact h; exact (have h : ∃ m0 A0 c0 l0, uq = bigV m0 A0 l0.length c0 ∧ Dig W0 w1 A0 c0 l0 ∧ ZP (-bigZ mb y) (64 + k + 1) m0 l0 := h; let ⟨m0, A0, c0, l0, q1, q2, q3⟩ := h; ⟨m0, A0, c0, l0, q1, q2.ext hx, q3⟩); exact (have h : ∃ m0 A0 c0 l0, uq = bigV m0 A0 l0.length c0 ∧ Dig W0 w1 A0 c0 l0 ∧ ZP (bigZ ma x - bigZ mb y) (n + k + 70) m0 l0 := h; let ⟨m0, A0, c0, l0, q1, q2, q3⟩ := h; ⟨m0, A0, c0, l0, q1, q2.ext hx, q3⟩)) (fun _ => trivial) (fun he => absurd he (by decide))
    · refine stepT_plain rfl ?_
      rintro F a w1 jE ⟨h5, t5, h4, t10, -⟩ - - K hK
      have h5 : ∃ g, (F 5) = .pointer (some ⟨g, 0, none⟩) ∧ W0.heap.size ≤ g ∧ Blk w1 g 58 #[.bool false, .slice none 0 0] := h5
      have h4 : ∃ m0 A0 c0 l0, (F 4) = bigV m0 A0 l0.length c0 ∧ Dig W0 w1 A0 c0 l0 ∧ ZP (bigZ ma x - bigZ mb y) (n + k + 70) m0 l0 := h4
      obtain ⟨m1, A1, c1, l1, e1, hD1, hZ1⟩ := h4
      rw [e1] at t10
      obtain ⟨g, e5, hg, k⟩ := h5
      rw [e5] at t5
      have c := k.cell
      have f := k.frozen
      go_simp
      have hw : ∀ (W : World) (h : ExtX W0 W []) (j : Nat) (v : Value), ExtX W0 (W.setCell ⟨g, j, none⟩ v) [] := fun W h j v => ⟨h.os, h.tape, h.output, by simpa [World.setCell] using h.size, fun i hi hx => (Below.heap_setCell W _ v i (fun e => by have e : g = i := e.symm; omega)).trans (h.block i hi hx)⟩
      have hj2 := hw _ (hw _ jE 0 (.bool m1)) 1 (.slice A1 l1.length c1)
      exact hK undef _ hj2 trivial (fun _ hj _ _ => (List.not_mem_nil hj).elim) (fun _ => trivial) (fun _ => ⟨g, m1, A1, c1, l1, e5, (k.set_ 0 _).set_ 1 _, hZ1, ⟨hj2.os, hj2.tape, hj2.output, hj2.size, fun i hi => hj2.block i hi (by simp)⟩⟩)
  · rintro F W9 jE - hT
    obtain ⟨g, m0, A0, c0, l0, e5, B1, hZ, hx⟩ := hT (by decide)
    simp only [putL, Act.put, Nat.reduceAdd, Nat.zero_add, List.setIfInBounds_toArray, List.set_cons_succ, List.set_cons_zero]
    rw [e5]
    have hv := zp_neg hZ
    have hd : decide (bigZ ma x < bigZ mb y) = m0 := by rw [hv]; exact decide_eq_decide.2 (by omega)
    have HD := hide hd
    have d1 := B1.cell
    have zz1 := B1.lt
    have E1 := E0.trans hx
    clear jE hT hv hd ha hb
    go_wp2_with fail
    go_ret
    exact ⟨by rw [unhide HD]; rfl, E1⟩
end Go.Proofs.Ytphckjnmbbjenaa
