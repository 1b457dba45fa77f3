/- Layer 2: the reference's cover along one line (walk). -/
import Derived.Test.YtphckjnmbbjenaaBigJ
import Derived.LoopTactic
namespace Go.Proofs.Ytphckjnmbbjenaa
open Go.RowKit

theorem Dig.put2 {w0 w : World} {A : Option Addr} {c g : Nat} {l : List Bool} (h : Dig w0 w A c l) (hs : shortOk l) (hb : Blk w g 58 #[.bool false, .slice none 0 0]) (u v : Value) : Rd ((w.setCell ⟨g, 0, none⟩ u).setCell ⟨g, 1, none⟩ v) 1 A l.length (bools l) ∧ (l ≠ [] → ∀ b off, A = some ⟨b, off, none⟩ → b ≠ g) := by
  refine ⟨?_, fun hl => h.apart hs hb hl⟩
  by_cases hl : l = []
  · subst hl; exact Rd.nil _ _ _
  · have hne := h.apart hs hb hl
    have hg : ∀ (W : World) (R : Rd W 1 A l.length (bools l)) (j : Nat) (x : Value), Rd (W.setCell ⟨g, j, none⟩ x) 1 A l.length (bools l) := fun W R j x =>
      R.grown (row := some g) ⟨rfl, rfl, rfl, by simp [World.setCell], fun j' hj hn => Below.heap_setCell W _ _ j' (fun e => hn (congrArg some e))⟩ (fun b off e h2 => hne b off e (Option.some.inj h2).symm)
    exact hg _ (hg _ h.rd 0 u) 1 v
/-- a variable that holds a number -/
def BigVar (w : World) (g : Nat) (z : Int) (k : Nat) : Prop := ∃ m A c l, Blk w g 58 #[.bool m, .slice A l.length c] ∧ Rd w 1 A l.length (bools l) ∧ bigZ m l = z ∧ l.length ≤ k ∧ (l ≠ [] → ∀ b off, A = some ⟨b, off, none⟩ → b ≠ g)
theorem BigVar.ext {w w' : World} {g : Nat} {z : Int} {k : Nat} (h : BigVar w g z k) (hx : Ext w w') : BigVar w' g z k := by
  obtain ⟨m, A, c, l, h1, h2, h3⟩ := h
  exact ⟨m, A, c, l, h1.ext hx, h2.ext hx, h3⟩
def minL (x : Int) (l : List Int) : Int := l.foldl (fun a b => if b < a then b else a) x
def stepM (f : Int) (s : Int) (p : Int × Int) : Int := if s < p.1 + p.2 - f then p.1 + p.2 - f else s
def covM (f : Int) (l : List (Int × Int)) : Int := l.foldl (stepM f) 0
theorem fold_take2 {α β : Type} (f : β → α → β) (b : β) (l : List α) (k : Nat) (r : α) (h : l[k]? = some r) : (l.take (k + 1)).foldl f b = f ((l.take k).foldl f b) r := by
  rw [List.take_add_one, h]; simp
theorem minL_bd (x : Int) (hx : -9223372036854775808 ≤ x ∧ x ≤ 9223372036854775807) (l : List Int) (hl : I64s l) : -9223372036854775808 ≤ minL x l ∧ minL x l ≤ 9223372036854775807 := by
  unfold minL
  induction l generalizing x with
  | nil => exact hx
  | cons a r ih =>
    have ha := hl a (List.mem_cons_self ..)
    refine ih _ ?_ (fun z hz => hl z (List.mem_cons_of_mem _ hz))
    show -9223372036854775808 ≤ (if a < x then a else x) ∧ (if a < x then a else x) ≤ 9223372036854775807
    split <;> omega

set_option maxRecDepth 100000 in
set_option maxHeartbeats 8000000 in
theorem refcover_any (A B : Option Addr) (n c d : Nat) (x0 : Int) (xs ws : List Int) (w : World) (ha : Rd w 1 A n (ints xs)) (hb : Rd w 1 B n (ints ws)) (hxs : I64s xs) (hws : I64s ws) (h0 : xs[0]? = some x0) (hn : n ≤ 1000) :
    Calls Try.prog 42 #[.slice A n c, .slice B n d] w fun e w' => e = .returned (.tuple #[.int .i64 (cutV (minL x0 xs)), .int .i64 (cutV (covM (minL x0 xs) (xs.zip ws))), .bool (cutB (minL x0 xs) || cutB (covM (minL x0 xs) (xs.zip ws)))]) ∧ Ext w w' := by
  have hl : xs.length = n := by have := ha.len; simpa [ints] using this
  have hl2 : ws.length = n := by have := hb.len; simpa [ints] using this
  have hn0 : 0 < n := by
    rcases Nat.eq_zero_or_pos n with h | h
    · subst h; simp [List.length_eq_zero_iff.1 hl] at h0
    · exact h
  have HL := hide (And.intro hl hl2)
  clear hl hl2
  obtain ⟨b0, o0, z0, rfl, hb0, hz0, hc0⟩ := ints_cell ha hn0
  rw [Nat.add_zero] at hc0
  have e0 : z0 = x0 := by rw [h0] at hz0; injection hz0 with h; exact h.symm
  subst e0
  have hx0 := hxs z0 (List.mem_of_getElem? h0)
  have hn0I : (0 : Int) < (n : Int) := by omega
  have hF := minL_bd z0 hx0 xs hxs
  have HF := hide hF
  have HX0 := hide hx0
  clear hF hz0 h0 hx0
  go_enter Try.func42, Try.ntmps42
  go_wp2_with fail
  go_loopw [7, 8] (fun f i wr => ∃ k : Nat, k ≤ n ∧ f = .int .i64 (minL z0 (xs.take k)) ∧ i = .int .i64 k ∧ w = wr) (fun _ i _ => n - (intOf i).toNat)
  case atStart => exact ⟨0, Nat.zero_le _, rfl, rfl, rfl⟩
  case round =>
    obtain ⟨k, hk, rfl, rfl, rfl⟩ := hrel
    by_cases hlt : k < n
    · have hltI : (k : Int) < (n : Int) := by omega
      obtain ⟨b, off, z, e, hb', hzk, hc⟩ := ints_cell ha hlt
      injection e with e; injection e with e1 e2 _; subst e1 e2
      have hst : minL z0 (xs.take (k + 1)) = (if z < minL z0 (xs.take k) then z else minL z0 (xs.take k)) := fold_take2 _ _ _ _ _ hzk
      have HST := hide hst
      generalize minL z0 (xs.take k) = f at *
      obtain ⟨f2, hf2⟩ : ∃ f2, (if z < f then z else f) = f2 := ⟨_, rfl⟩
      have HF2 := hide hf2
      clear hzk hst hb ha hxs hws
      go_wp2_with fail
      go_roundw
      case rel => exact ⟨k + 1, by omega, by rw [unhide HST, unhide HF2], by go_num, by trivial⟩
      case measure => simp [intOf]; omega
    · obtain rfl : k = n := by omega
      have hS : xs.take k = xs := List.take_of_length_le (by have := (unhide HL).1; omega)
      rw [hS]
      clear hS hlt
      obtain ⟨f, hf⟩ : ∃ f, minL z0 xs = f := ⟨_, rfl⟩
      rw [hf] at HF ⊢
      have HFE := hide hf
      clear hf
      go_wp2_with fail
      with_reducible refine (of_at _ 0 (by omega)).mono ?_
      rintro e w1 ⟨⟨v1, rfl, q1⟩, hx1⟩
      obtain ⟨m1, A1, c1, l1, rfl, R1, z1, k1⟩ := q1
      have sA : ∀ b off, l1 ≠ [] → A1 = some ⟨b, off, none⟩ → b < w1.heap.size := fun b off hne e => by
        obtain ⟨b', off', e', hb', _⟩ := R1.at_ (List.length_pos_iff.2 hne)
        rw [e] at e'; injection e' with e'; injection e' with e1 _ _; omega
      have HSA := hide sA
      clear sA
      go_upto_region 7 with fail
      have V1 : BigVar (w1.alloc (.cells #[.bool m1, .slice A1 l1.length c1] 58)) w1.heap.size 0 140 :=
        ⟨m1, A1, c1, l1, Blk.new _ _ _, R1.alloc _, z1, by omega, fun hne b off e => by have := unhide HSA b off hne e; omega⟩
      have E1 : Ext w (w1.alloc (.cells #[.bool m1, .slice A1 l1.length c1] 58)) := hx1.alloc _
      generalize w1.alloc (.cells #[.bool m1, .slice A1 l1.length c1] 58) = w2 at *
      have hgs := hx1.size
      generalize w1.heap.size = gL at *
      have HGS := hide hgs
      clear hx1 R1 z1 k1 HSA hgs
      go_wp2_with fail
      go_loopw [10] (fun i wq => ∃ k' : Nat, k' ≤ k ∧ i = .int .i64 k' ∧ Ext w wq ∧ BigVar wq gL (covM f ((xs.zip ws).take k')) 140) (fun i _ => k - (intOf i).toNat)
      case atStart => exact ⟨0, Nat.zero_le _, rfl, E1, V1⟩
      case round =>
        clear V1 E1
        obtain ⟨j, hj, rfl, E1, V1⟩ := hrel
        by_cases hlt : j < k
        · have hltI : (j : Int) < (k : Int) := by omega
          obtain ⟨b, off, z, e, hb', hzk, hc⟩ := ints_cell ha hlt
          injection e with e; injection e with e1 e2 _; subst e1 e2
          obtain ⟨b2, off2, y, rfl, hb2, hyk, hcy⟩ := ints_cell hb hlt
          have hbz := hxs z (List.mem_of_getElem? hzk)
          have hby := hws y (List.mem_of_getElem? hyk)
          have hzip : (xs.zip ws)[j]? = some (z, y) := by rw [List.getElem?_zip_eq_some]; exact ⟨hzk, hyk⟩
          have hst : covM f ((xs.zip ws).take (j + 1)) = stepM f (covM f ((xs.zip ws).take j)) (z, y) := fold_take2 _ _ _ _ _ hzip
          have HST := hide hst
          have hcW : ∀ W : World, Ext w W → W.cell? ⟨b0, o0 + j, none⟩ = some (.int .i64 z) ∧ W.cell? ⟨b2, off2 + j, none⟩ = some (.int .i64 y) := fun W h => ⟨(h.cells.1 _ _ hb').trans hc, (h.cells.1 _ _ hb2).trans hcy⟩
          have HC := hide hcW
          have HBZ := hide hbz
          have HBY := hide hby
          generalize covM f ((xs.zip ws).take j) = M at *
          clear hzk hyk hzip hst hcW hc hcy hb2 ha hb hxs hws hbz hby hc0
          generalize hw0 : wr = W0 at *
          clear hw0
          go_upto_region 10 with fail
          refine wp_region_linT (by kernel_rfl) (fun w' => (ExtX W0 w' [])) (fun ii vv ww => match ii with | 0 => vv = .slice (some ⟨b0, o0, none⟩) k c | 1 => vv = .int .i64 j | 2 => vv = .pointer (some ⟨b0, o0 + j, none⟩) | 3 => vv = .int .i64 z | 4 => vv = .slice (some ⟨b2, off2, none⟩) k d | 5 => vv = .int .i64 j | 6 => vv = .pointer (some ⟨b2, off2 + j, none⟩) | 7 => vv = .int .i64 y | 8 => BigAt ww vv (z + y) 130 | 9 => vv = .int .i64 f | 10 => BigAt ww vv (-f) 130 | 11 => ∃ m0 A0 c0 l0, vv = bigV m0 A0 l0.length c0 ∧ Dig W0 ww A0 c0 l0 ∧ ZP (z + y - f) 140 m0 l0 | 12 => ∃ g, vv = .pointer (some ⟨g, 0, none⟩) ∧ W0.heap.size ≤ g ∧ Blk ww g 58 #[.bool false, .slice none 0 0] | 13 => True | _ => True) (fun ii => match ii with | 2 => [(0, 38), (1, 39)] | 3 => [(2, 40)] | 6 => [(4, 42), (5, 43)] | 7 => [(6, 44)] | 8 => [(3, 41), (7, 45)] | 10 => [(9, 47)] | 11 => [(8, 46), (10, 48)] | 13 => [(12, 11), (11, 49)] | _ => []) (fun ii => match ii with | 0 => [0] | 1 => [10] | 4 => [1] | 5 => [10] | 9 => [7] | _ => []) (fun ii => match ii with | 0 => [1, 4, 5, 6, 7, 9, 12] | 1 => [0, 4, 5, 6, 7, 9, 12] | 2 => [4, 5, 6, 7, 9, 12] | 3 => [4, 5, 6, 7, 9, 12] | 4 => [0, 1, 2, 5, 3, 9, 12] | 5 => [0, 1, 2, 4, 3, 9, 12] | 6 => [0, 1, 2, 3, 9, 12] | 7 => [0, 1, 2, 3, 9, 12] | 8 => [9, 12] | 9 => [0, 1, 2, 4, 5, 6, 3, 7, 8, 12] | 10 => [8, 12] | 11 => [12] | 12 => [0, 1, 2, 4, 5, 6, 3, 7, 9, 8, 10, 11] | _ => []) [] [0, 0, 3, 7, 0, 0, 48, 112, 255, 0, 1023, 2047, 0, 8191] (fun _ => True) [] (fun FT wT => ∃ g, FT 12 = .pointer (some ⟨g, 0, none⟩) ∧ W0.heap.size ≤ g ∧ (∃ m0 A0 c0 l0, Blk wT g 58 #[.bool m0, .slice A0 l0.length c0] ∧ Rd wT 1 A0 l0.length (bools l0) ∧ bigZ m0 l0 = z + y - f ∧ l0.length ≤ 140 ∧ Fresh W0 A0) ∧ Ext W0 wT) 13 71 rfl (by kernel_rfl) (by kernel_rfl) (.inl (by kernel_rfl)) (ExtX.start _ _) trivial ?_ ?_
          · rename_i hcont; clear hcont
            refine ⟨?_, ?_, ?_, ?_, ?_, ?_, ?_, ?_, ?_, ?_, ?_, ?_, ?_, ?_, trivial⟩
            · refine stepT_plain rfl ?_
              rintro F a w1 jE - ⟨t0, -⟩ - K hK
              have t0 : a.tmps[0]? = some (.slice (some ⟨b0, o0, none⟩) k c) := t0
              go_simp
              exact hK _ _ jE rfl (fun _ _ _ h => h) (fun _ => trivial) (fun he => absurd he (by decide))
            · refine stepT_plain rfl ?_
              rintro F a w1 jE - ⟨t10, -⟩ - K hK
              have t10 : a.tmps[10]? = some (.int .i64 j) := t10
              go_simp
              exact hK _ _ jE rfl (fun _ _ _ h => h) (fun _ => trivial) (fun he => absurd he (by decide))
            · refine stepT_plain rfl ?_
              rintro F a w1 jE ⟨h0, t38, h1, t39, -⟩ - - K hK
              have h0 : (F 0) = .slice (some ⟨b0, o0, none⟩) k c := h0
              rw [h0] at t38
              clear h0
              have h1 : (F 1) = .int .i64 j := h1
              rw [h1] at t39
              clear h1
              go_simp
              exact hK _ _ jE rfl (fun _ _ _ h => h) (fun _ => trivial) (fun he => absurd he (by decide))
            · refine stepT_plain rfl ?_
              rintro F a w1 jE ⟨h2, t40, -⟩ - - K hK
              have h2 : (F 2) = .pointer (some ⟨b0, o0 + j, none⟩) := h2
              rw [h2] at t40
              clear h2
              have hc := (unhide HC w1 (E1.trans (jE.ext (Ext.refl _) (by simp)))).1
              go_simp
              exact hK _ _ jE rfl (fun _ _ _ h => h) (fun _ => trivial) (fun he => absurd he (by decide))
            · refine stepT_plain rfl ?_
              rintro F a w1 jE - ⟨t1, -⟩ - K hK
              have t1 : a.tmps[1]? = some (.slice (some ⟨b2, off2, none⟩) k d) := t1
              go_simp
              exact hK _ _ jE rfl (fun _ _ _ h => h) (fun _ => trivial) (fun he => absurd he (by decide))
            · refine stepT_plain rfl ?_
              rintro F a w1 jE - ⟨t10, -⟩ - K hK
              have t10 : a.tmps[10]? = some (.int .i64 j) := t10
              go_simp
              exact hK _ _ jE rfl (fun _ _ _ h => h) (fun _ => trivial) (fun he => absurd he (by decide))
            · refine stepT_plain rfl ?_
              rintro F a w1 jE ⟨h4, t42, h5, t43, -⟩ - - K hK
              have h4 : (F 4) = .slice (some ⟨b2, off2, none⟩) k d := h4
              rw [h4] at t42
              clear h4
              have h5 : (F 5) = .int .i64 j := h5
              rw [h5] at t43
              clear h5
              go_simp
              exact hK _ _ jE rfl (fun _ _ _ h => h) (fun _ => trivial) (fun he => absurd he (by decide))
            · refine stepT_plain rfl ?_
              rintro F a w1 jE ⟨h6, t44, -⟩ - - K hK
              have h6 : (F 6) = .pointer (some ⟨b2, off2 + j, none⟩) := h6
              rw [h6] at t44
              clear h6
              have hc := (unhide HC w1 (E1.trans (jE.ext (Ext.refl _) (by simp)))).2
              go_simp
              exact hK _ _ jE rfl (fun _ _ _ h => h) (fun _ => trivial) (fun he => absurd he (by decide))
            · refine stepT_plain rfl ?_
              rintro F a w1 jE ⟨h3, t41, h7, t45, -⟩ - - K hK
              have h3 : (F 3) = .int .i64 z := h3
              rw [h3] at t41
              clear h3
              have h7 : (F 7) = .int .i64 y := h7
              rw [h7] at t45
              clear h7
              go_simp
              with_reducible refine (add2_at _ z y (unhide HBZ) (unhide HBY)).mono ?_
              rintro e w2 ⟨⟨v', rfl, hv⟩, hx⟩
              exact hK _ _ (jE.trans hx) hv (by intro jq hj uq h; have hj : jq ∈ [9, 12] := hj; simp only [List.mem_cons, List.not_mem_nil, or_false] at hj; rcases hj with rfl | rfl; exact h; exact (have h : ∃ g, uq = .pointer (some ⟨g, 0, none⟩) ∧ W0.heap.size ≤ g ∧ Blk w1 g 58 #[.bool false, .slice none 0 0] := h; let ⟨g, q1, q2, q3⟩ := h; ⟨g, q1, q2, q3.ext hx⟩)) (fun _ => trivial) (fun he => absurd he (by decide))
            · refine stepT_plain rfl ?_
              rintro F a w1 jE - ⟨t7, -⟩ - K hK
              have t7 : a.tmps[7]? = some (.int .i64 f) := t7
              go_simp
              exact hK _ _ jE rfl (fun _ _ _ h => h) (fun _ => trivial) (fun he => absurd he (by decide))
            · refine stepT_plain rfl ?_
              rintro F a w1 jE ⟨h9, t47, -⟩ - - K hK
              have h9 : (F 9) = .int .i64 f := h9
              rw [h9] at t47
              clear h9
              go_simp
              with_reducible refine (minus_at _ f (unhide HF)).mono ?_
              rintro e w2 ⟨⟨v', rfl, hv⟩, hx⟩
              exact hK _ _ (jE.trans hx) hv (by intro jq hj uq h; have hj : jq ∈ [8, 12] := hj; simp only [List.mem_cons, List.not_mem_nil, or_false] at hj; rcases hj with rfl | rfl; exact (have h : BigAt w1 uq (z + y) 130 := h; h.ext hx); exact (have h : ∃ g, uq = .pointer (some ⟨g, 0, none⟩) ∧ W0.heap.size ≤ g ∧ Blk w1 g 58 #[.bool false, .slice none 0 0] := h; let ⟨g, q1, q2, q3⟩ := h; ⟨g, q1, q2, q3.ext hx⟩)) (fun _ => trivial) (fun he => absurd he (by decide))
            · refine stepT_plain rfl ?_
              rintro F a w1 jE ⟨h8, t46, h10, t48, -⟩ - - K hK
              have h8 : BigAt w1 (F 8) (z + y) 130 := h8
              have h10 : BigAt w1 (F 10) (-f) 130 := h10
              obtain ⟨m1, A1, c1, l1, e1, R1, z1, k1⟩ := h8
              obtain ⟨m2, A2, c2, l2, e2, R2, z2, k2⟩ := h10
              rw [e1] at t46
              rw [e2] at t48
              go_simp
              with_reducible refine (add_any m1 m2 A1 A2 l1.length c1 l2.length c2 l1 l2 _ R1 R2 (by omega) (by omega)).mono ?_
              rintro e w2 ⟨m0, A0, c0, l0, rfl, hD, hZ, hx⟩
              exact hK _ _ (jE.trans hx) ⟨m0, A0, c0, l0, rfl, ⟨hD.rd, hD.le, hD.mx, fun b off e => Nat.le_trans jE.size (hD.fr b off e)⟩, by rw [z1, z2] at hZ; exact ⟨by have := hZ.1; omega, hZ.2.1, hZ.2.2.1, by have := hZ.2.2.2; omega⟩⟩ (by intro jq hj uq h; have hj : jq ∈ [12] := hj; simp only [List.mem_singleton] at hj; subst hj; exact (have h : ∃ g, uq = .pointer (some ⟨g, 0, none⟩) ∧ W0.heap.size ≤ g ∧ Blk w1 g 58 #[.bool false, .slice none 0 0] := h; let ⟨g, q1, q2, q3⟩ := h; ⟨g, q1, q2, q3.ext hx⟩)) (fun _ => trivial) (fun he => absurd he (by decide))
            · refine stepT_plain rfl ?_
              rintro F a w1 jE - - - K hK
              go_simp
              have hx : Ext w1 (w1.alloc (.cells #[.bool false, .slice none 0 0] 58)) := (Ext.refl _).alloc _
              exact hK _ _ (jE.trans hx) ⟨_, rfl, jE.size, Blk.new _ _ _⟩ (by intro jq hj uq h; have hj : jq ∈ [0, 1, 2, 4, 5, 6, 3, 7, 9, 8, 10, 11] := hj; simp only [List.mem_cons, List.not_mem_nil, or_false] at hj; rcases hj with rfl | rfl | rfl | rfl | rfl | rfl | rfl | rfl | rfl | rfl | rfl | rfl; exact h; exact h; exact h; exact h; exact h; exact h; exact h; exact h; exact h; exact (have h : BigAt w1 uq (z + y) 130 := h; h.ext hx); exact (have h : BigAt w1 uq (-f) 130 := h; h.ext hx); exact (have h : ∃ m0 A0 c0 l0, uq = bigV m0 A0 l0.length c0 ∧ Dig W0 w1 A0 c0 l0 ∧ ZP (z + y - f) 140 m0 l0 := h; let ⟨m0, A0, c0, l0, q1, q2, q3⟩ := h; ⟨m0, A0, c0, l0, q1, q2.ext hx, q3⟩)) (fun _ => trivial) (fun he => absurd he (by decide))
            · refine stepT_plain rfl ?_
              rintro F a w1 jE ⟨h12, t11, h11, t49, -⟩ - - K hK
              have h12 : ∃ g, (F 12) = .pointer (some ⟨g, 0, none⟩) ∧ W0.heap.size ≤ g ∧ Blk w1 g 58 #[.bool false, .slice none 0 0] := h12
              have h11 : ∃ m0 A0 c0 l0, (F 11) = bigV m0 A0 l0.length c0 ∧ Dig W0 w1 A0 c0 l0 ∧ ZP (z + y - f) 140 m0 l0 := h11
              obtain ⟨m1, A1, c1, l1, e1, hD1, hZ1⟩ := h11
              rw [e1] at t49
              obtain ⟨g, e5, hg, k5⟩ := h12
              rw [e5] at t11
              have hp2 := hD1.put2 hZ1.2.2.1 k5 (.bool m1) (.slice A1 l1.length c1)
              have c := k5.cell
              have f5 := k5.frozen
              go_simp
              have hw : ∀ (W : World) (h : ExtX W0 W []) (j : Nat) (v : Value), ExtX W0 (W.setCell ⟨g, j, none⟩ v) [] := fun W h j v => ⟨h.os, h.tape, h.output, by simpa [World.setCell] using h.size, fun i hi hx => (Below.heap_setCell W _ v i (fun e => by have e : g = i := e.symm; omega)).trans (h.block i hi hx)⟩
              have hj2 := hw _ (hw _ jE 0 (.bool m1)) 1 (.slice A1 l1.length c1)
              exact hK undef _ hj2 trivial (fun _ hj _ _ => (List.not_mem_nil hj).elim) (fun _ => trivial) (fun _ => ⟨g, e5, hg, ⟨m1, A1, c1, l1, (k5.set_ 0 _).set_ 1 _, hp2.1, hZ1.1, hZ1.2.2.2, hD1.fr⟩, ⟨hj2.os, hj2.tape, hj2.output, hj2.size, fun i hi => hj2.block i hi (by simp)⟩⟩)
          · rintro F W9 jE - hT
            obtain ⟨g, e5, hg, ⟨m0, A0, c0, l0, B0, R0, z0', k0, fr0⟩, hx⟩ := hT (by decide)
            simp only [putL, Act.put, Nat.reduceAdd, Nat.zero_add, List.setIfInBounds_toArray, List.set_cons_succ, List.set_cons_zero]
            rw [e5]
            clear jE hT e5
            obtain ⟨m1, A1, c1, l1, B1, R1, z1, k1, ne1⟩ := V1
            have ltL := B1.lt
            replace B1 := B1.ext hx
            replace R1 := R1.ext hx
            have E2 := E1.trans hx
            have d0 := B0.cell
            have zz0 := B0.lt
            have d1 := B1.cell
            have zz1 := B1.lt
            have q1 : BigAt W9 (bigV m1 A1 l1.length c1) M 140 := ⟨m1, A1, c1, l1, rfl, R1, z1, k1⟩
            have q0 : BigAt W9 (bigV m0 A0 l0.length c0) (z + y - f) 140 := ⟨m0, A0, c0, l0, rfl, R0, z0', k0⟩
            obtain ⟨P, hP⟩ : ∃ P, decide (M < z + y - f) = P := ⟨_, rfl⟩
            have HP := hide hP
            have HNE := hide (And.intro ne1 (And.intro hg (And.intro ltL fr0)))
            clear hP ne1 hx hg ltL fr0
            go_wp2_with fail
            with_reducible refine (lessZ_at (unhide HP) q1 q0 (by omega) (by omega)).mono ?_
            rintro e W8 ⟨rfl, hx⟩
            replace B1 := B1.ext hx
            replace R1 := R1.ext hx
            replace B0 := B0.ext hx
            replace R0 := R0.ext hx
            replace E2 := E2.trans hx
            clear d0 zz0 d1 zz1 q0 q1 hx
            have d0 := B0.cell
            have zz0 := B0.lt
            have d1 := B1.cell
            have f1 := B1.frozen
            cases P
            · have HS := hide (by rw [unhide HST]; have h := unhide HP; simp at h; unfold stepM; rw [if_neg (by simp; omega)] : covM f ((xs.zip ws).take (j + 1)) = M)
              go_wp2_with fail
              go_roundw
              case rel => exact ⟨j + 1, by omega, by go_num, E2, by rw [unhide HS]; exact ⟨m1, A1, c1, l1, B1, R1, z1, k1, (unhide HNE).1⟩⟩
              case measure => simp [intOf]; omega
            · have HS := hide (by rw [unhide HST]; have h := unhide HP; simp at h; unfold stepM; rw [if_pos h] : covM f ((xs.zip ws).take (j + 1)) = z + y - f)
              go_wp2_with fail
              go_roundw
              case rel =>
                obtain ⟨-, n2, n3, n4⟩ := unhide HNE
                have hne : ∀ b off, A0 = some ⟨b, off, none⟩ → b ≠ gL := fun b off e => by have := n4 b off e; omega
                have hgr : ∀ (W : World) (R : Rd W 1 A0 l0.length (bools l0)) (i : Nat) (x : Value), Rd (W.setCell ⟨gL, i, none⟩ x) 1 A0 l0.length (bools l0) := fun W R i x =>
                  R.grown (row := some gL) ⟨rfl, rfl, rfl, by simp [World.setCell], fun j' hj hn => Below.heap_setCell W _ _ j' (fun e => hn (congrArg some e))⟩ (fun b off e h2 => hne b off e (Option.some.inj h2).symm)
                refine ⟨j + 1, by omega, by go_num, (E2.set (by have := unhide HGS; simp; omega) _).set (by have := unhide HGS; simp; omega) _, ?_⟩
                rw [unhide HS]
                exact ⟨m0, A0, c0, l0, (B1.set_ 0 _).set_ 1 _, hgr _ (hgr _ R0 0 _) 1 _, z0', k0, fun _ => hne⟩
              case measure => simp [intOf]; omega
        · obtain rfl : j = k := by omega
          have hS : (xs.zip ws).take j = xs.zip ws := List.take_of_length_le (by have := unhide HL; simp; omega)
          rw [hS] at V1
          obtain ⟨M, hM⟩ : ∃ M, covM f (xs.zip ws) = M := ⟨_, rfl⟩
          rw [hM] at V1
          have HME := hide hM
          clear hM
          obtain ⟨m1, A1, c1, l1, B1, R1, z1, k1, -⟩ := V1
          have dL := B1.cell
          have zL := B1.lt
          clear ha hb hxs hws hS hc0
          go_wp2_with fail
          with_reducible refine (of_at _ f (unhide HF)).mono ?_
          rintro e w3 ⟨⟨v3, rfl, q3⟩, hx⟩
          replace B1 := B1.ext hx
          replace R1 := R1.ext hx
          have E3 := E1.trans hx
          clear dL zL hx E1
          have dL := B1.cell
          have zL := B1.lt
          go_wp2_with fail
          with_reducible refine (cut_at q3 (by omega)).mono ?_
          rintro e w4 ⟨rfl, hx⟩
          replace B1 := B1.ext hx
          replace R1 := R1.ext hx
          have E4 := E3.trans hx
          clear dL zL hx E3 q3
          have dL := B1.cell
          have zL := B1.lt
          have q4 : BigAt w4 (bigV m1 A1 l1.length c1) M 140 := ⟨m1, A1, c1, l1, rfl, R1, z1, k1⟩
          go_wp2_with fail
          with_reducible refine (cut_at q4 (by omega)).mono ?_
          rintro e w5 ⟨rfl, hx⟩
          have E5 := E4.trans hx
          clear dL zL hx E4 q4 R1 B1
          obtain ⟨p, hp⟩ : ∃ p, cutB f = p := ⟨_, rfl⟩
          obtain ⟨q, hq⟩ : ∃ q, cutB M = q := ⟨_, rfl⟩
          rw [hp, hq]
          have HPE := hide (And.intro hp hq)
          clear hp hq
          cases p
          · go_wp2_with fail
            go_ret3
            exact ⟨by rw [unhide HFE, unhide HME, (unhide HPE).1, (unhide HPE).2]; rfl, E5⟩
          · go_wp2_with fail
            go_ret3
            exact ⟨by rw [unhide HFE, unhide HME, (unhide HPE).1, (unhide HPE).2]; rfl, E5⟩
end Go.Proofs.Ytphckjnmbbjenaa
