/- Layer 2: sums of sides, across and down (walk). -/
import Derived.Test.YtphckjnmbbjenaaEdC
import Derived.Laws.MakeOwn
namespace Go.Proofs.Ytphckjnmbbjenaa
open Go.RowKit
def wideL (l : List Rc) : List Int := l.flatMap fun r => [r.h, r.y]
def highL (l : List Rc) : List Int := l.flatMap fun r => [r.x, r.w]
theorem wide_take (l : List Rc) (k : Nat) (r : Rc) (h : l[k]? = some r) : wideL (l.take (k + 1)) = wideL (l.take k) ++ [r.h, r.y] := by
  rw [List.take_add_one, h]; simp [wideL, List.flatMap_append]
theorem high_take (l : List Rc) (k : Nat) (r : Rc) (h : l[k]? = some r) : highL (l.take (k + 1)) = highL (l.take k) ++ [r.x, r.w] := by
  rw [List.take_add_one, h]; simp [highL, List.flatMap_append]
theorem wide_ok {l : List Rc} (h : ∀ r ∈ l, r.Ok) : I64s (wideL l) := by
  intro z hz
  obtain ⟨r, hr, hz⟩ := List.mem_flatMap.1 hz
  obtain ⟨x1, x2, y1, y2, w1, w2, h1, h2⟩ := h r hr
  simp at hz
  rcases hz with rfl | rfl <;> omega
theorem high_ok {l : List Rc} (h : ∀ r ∈ l, r.Ok) : I64s (highL l) := by
  intro z hz
  obtain ⟨r, hr, hz⟩ := List.mem_flatMap.1 hz
  obtain ⟨x1, x2, y1, y2, w1, w2, h1, h2⟩ := h r hr
  simp at hz
  rcases hz with rfl | rfl <;> omega
theorem eq_bool2 (p q : Bool) (w : World) : (Op.equalIn 10000 54 (.agg #[.bool p, .bool q]) (.agg #[.bool false, .bool false])).run Try.prog w = .ok (!(p || q)) w := by
  cases p <;> cases q <;> kernel_rfl
/-- a slice made empty, with room -/
theorem mk64 (K : Nat) (c : Int) (hc : c = K) (h : K ≤ 1000000) : ∃ C : Array Value, C.size = K ∧ ∀ w' : World, (Instr.makeSlice 50 (.int .i64 0) (.int .i64 c)).run Try.prog w' = .ok (.slice (some ⟨w'.heap.size, 0, none⟩) 0 K) (w'.alloc (.cells C 2)) := by
  obtain ⟨i0, hi0, hz0, hz1, hz2⟩ := info_parts i64_info
  subst hc
  refine ⟨madeCells (Value.cells (.int .i64 0)) ((K : Int).toNat * i0.size), by rw [size_madeCells, hz1]; simp, fun w' => ?_⟩
  have := run_make (P := Try.prog) w' 50 2 i0 _ Try.underlying50 hi0 hz0 .i64 .i64 0 (K : Int) (by omega) (by omega) (by rw [hz2]; omega) (by omega)
  simpa using this

theorem two_rows {v u v' u' : Value} {s7 s8 : Nat} (hne : ∀ g, v.ownBlock = some g → u.ownBlock ≠ some g) (at7 : v'.ownBlock = v.ownBlock ∨ v'.ownBlock = some s7) (hu : ∀ g, u.ownBlock = some g → g < s7)
    (at8 : u'.ownBlock = u.ownBlock ∨ u'.ownBlock = some s8) (hv : ∀ g, v'.ownBlock = some g → g < s8) : (∀ g, v'.ownBlock = some g → u.ownBlock ≠ some g) ∧ (∀ g, v'.ownBlock = some g → u'.ownBlock ≠ some g) := by
  have h1 : ∀ g, v'.ownBlock = some g → u.ownBlock ≠ some g := fun g hg h2 => by
    rcases at7 with h | h
    · exact hne g (h ▸ hg) h2
    · rw [h] at hg; cases hg; exact absurd (hu _ h2) (Nat.lt_irrefl _)
  refine ⟨h1, fun g hg h2 => ?_⟩
  rcases at8 with h | h
  · exact h1 g hg (h ▸ h2)
  · rw [h] at h2; cases h2; exact absurd (hv _ hg) (Nat.lt_irrefl _)
/-- what the loop of the sums across and down has come to -/
structure AcrossRel (w : World) (l : List Rc) (k : Nat) (v u : Value) (wr : World) : Prop where
  ext : Ext w wr
  o5 : ∃ A c, v = .slice A (2 * k) c ∧ wr.ownsRow w.heap.size 2 1 (.slice A (2 * k) c) (2 * k) (ints (wideL (l.take k)))
  o6 : ∃ A c, u = .slice A (2 * k) c ∧ wr.ownsRow w.heap.size 2 1 (.slice A (2 * k) c) (2 * k) (ints (highL (l.take k)))
  ne : ∀ g, v.ownBlock = some g → u.ownBlock ≠ some g
theorem ints_app (a b : List Int) : ints (a ++ b) = ints a ++ ints b := by simp [ints]

set_option maxRecDepth 100000 in
set_option maxHeartbeats 4000000 in
theorem across_any (A : Option Addr) (n c : Nat) (l : List Rc) (w : World) (hr : Rd w 4 A n (rcs l)) (hok : ∀ r ∈ l, r.Ok) (hn : n ≤ 100000) :
    Calls Try.prog 13 #[.slice A n c] w fun e w' => e = .returned (.tuple #[.int .i64 (cutV (lsum (wideL l))), .int .i64 (cutV (lsum (highL l))), .bool (cutB (lsum (wideL l)) || cutB (lsum (highL l)))]) ∧ Ext w w' := by
  obtain ⟨i0, hi0, hz0, hz1, hz2⟩ := info_parts i64_info
  have HI := hide (And.intro hi0 (And.intro hz0 (And.intro hz1 hz2)))
  have hl : l.length = n := by have := hr.len; rw [rcs_len] at this; omega
  have HL := hide hl
  obtain ⟨C, hC, hmk⟩ := mk64 (2 * n) (2 * (n : Int)) (by omega) (by omega)
  have HC := hide hC
  clear hl hC hi0 hz0 hz1 hz2
  go_enter Try.func13, Try.ntmps13
  go_wp2_with fail
  clear hmk
  go_loopw [5, 6, 20] (fun v u i wr => ∃ k : Nat, k ≤ n ∧ i = .int .i64 k ∧ AcrossRel w l k v u wr) (fun _ _ i _ => n - (intOf i).toNat)
  case atStart =>
    have hM : 2 * n ≤ maxLen := by simp only [maxLen]; omega
    have hO := (World.ownsRow_made (e := 2) (size := 1) w C (2 * n) (Nat.le_refl _) hM (by rw [unhide HC]; omega)).alloc (.cells C 2)
    have hP := World.ownsRow_made (base := w.heap.size) (e := 2) (size := 1) (w.alloc (.cells C 2)) C (2 * n) (by simp) hM (by rw [unhide HC]; omega)
    rw [World.size_alloc] at hP
    exact ⟨0, Nat.zero_le _, rfl, ((Ext.refl _).alloc _).alloc _, ⟨_, _, rfl, hO⟩, ⟨_, _, rfl, hP⟩, by
      intro g hg hg2
      have h1 : w.heap.size = g := Option.some.inj hg
      have h2 : w.heap.size + 1 = g := Option.some.inj hg2
      omega⟩
  case round =>
    obtain ⟨k, hk, rfl, hE, ⟨A5, c5, rfl, O5⟩, ⟨A6, c6, rfl, O6⟩, hne⟩ := hrel
    by_cases hlt : k < n
    · have hltI : (k : Int) < (n : Int) := by omega
      obtain ⟨b, off, r, rfl, hb, hrk, q0, q1, q2, q3⟩ := (hr.ext hE).rc hlt
      have HR := hide hrk
      clear hrk hr hok
      obtain ⟨rx, ry, rw, rh⟩ := r
      have Bn : ∀ W, Blk (wr.alloc (.cells #[.int .i64 rx, .int .i64 ry, .int .i64 rw, .int .i64 rh] 24)) wr.heap.size 24 #[.int .i64 rx, .int .i64 ry, .int .i64 rw, .int .i64 rh] ∨ W := fun _ => .inl (Blk.new _ _ _)
      have HB := hide (Bn False)
      have HNE := hide hne
      clear Bn hne
      go_wp2_with (first
        | (at_builtin
           refine wpList_append_rd rfl (.tmp 24) (.tmp 29) _ rfl w.heap.size 2 i0 _ 1 8 Try.underlying50 (unhide HI).1 (unhide HI).2.1 (unhide HI).2.2.1 (unhide HI).2.2.2 rfl (by omega) _ (2 * k) (ints (wideL (l.take k))) rfl ((O5.alloc _).alloc _) _ 2 2 [.int .i64 rh, .int .i64 ry] rfl (by have h := (Blk.new (wr.alloc (.cells #[.int .i64 rx, .int .i64 ry, .int .i64 rw, .int .i64 rh] 24)) 2 #[.int .i64 rh, .int .i64 ry]).rd (n := 2) rfl; rw [World.size_alloc] at h; exact h) (by simp [Value.oneCell']) (by simp only [maxLen]; omega) (by omega) (by have := hE.size; simp; omega) ?_
           intro A7 c7 w7 own7 g7 at7
           have n7 : Value.ownBlock (.slice A5 (2 * k) c5) ≠ some wr.heap.size := fun e => by have := (O5.lt _ e).2; omega
           have B7 : Blk w7 wr.heap.size 24 #[.int .i64 rx, .int .i64 ry, .int .i64 rw, .int .i64 rh] := ((Blk.new _ _ _).alloc _).keep g7 n7
           have d7 := B7.cell
           have z7 := g7.size
           have E7 : Ext w w7 := ((hE.alloc _).alloc _).grown g7 (fun g e => (O5.lt g e).1)
           have O7 : w7.ownsRow w.heap.size 2 1 (.slice A6 (2 * k) c6) (2 * k) (ints (highL (l.take k))) := ((O6.alloc _).alloc _).kept g7 (by
             cases h : Value.ownBlock (.slice A6 (2 * k) c6) with
             | none => exact .inl rfl
             | some g => exact .inr (fun e => unhide HNE g e.symm h))
           have T7 := hide at7)
        | (at_builtin
           refine wpList_append_rd rfl (.tmp 31) (.tmp 36) _ rfl w.heap.size 2 i0 _ 1 8 Try.underlying50 (unhide HI).1 (unhide HI).2.1 (unhide HI).2.2.1 (unhide HI).2.2.2 rfl (by omega) _ (2 * k) (ints (highL (l.take k))) rfl (O7.alloc _) _ 2 2 [.int .i64 rx, .int .i64 rw] rfl ((Blk.new _ _ _).rd rfl) (by simp [Value.oneCell']) (by simp only [maxLen]; omega) (by omega) (by have := E7.size; simp; omega) ?_
           intro A8 c8 w8 own8 g8 at8))
      have t7 := unhide T7
      have s6 := fun g e => (O6.lt g e).2
      have s7 := fun g e => (own7.lt g e).2
      obtain ⟨ne1, ne2⟩ := two_rows (unhide HNE) t7 (fun g e => by have := s6 g e; simp; omega) at8 (fun g e => by have := s7 g e; simp; omega)
      have HE := hide (And.intro ne1 ne2)
      go_roundw
      case rel =>
        refine ⟨k + 1, by omega, by go_num, (E7.alloc _).grown g8 (fun g e => (O6.lt g e).1), ⟨A7, c7, rfl, ?_⟩, ⟨A8, c8, rfl, ?_⟩, (unhide HE).2⟩
        · rw [wide_take l k _ (unhide HR), ints_app]
          refine (own7.alloc _).kept g8 ?_
          cases h : Value.ownBlock (.slice A7 (2 * k + 2) c7) with
          | none => exact .inl rfl
          | some g => exact .inr (fun e => (unhide HE).1 g h e.symm)
        · rw [high_take l k _ (unhide HR), ints_app]
          exact own8
      case measure => simp [intOf]; omega
    · obtain rfl : k = n := by omega
      have hS : l.take k = l := List.take_of_length_le (by have := unhide HL; omega)
      rw [hS] at O5 O6
      have cw := fun W (h : Ext wr W) => hide (au_sum A5 (2 * k) c5 (wideL l) W ((Rd.of_own O5).ext h) (wide_ok hok) (by omega))
      have ch := fun W (h : Ext wr W) => hide (au_sum A6 (2 * k) c6 (highL l) W ((Rd.of_own O6).ext h) (high_ok hok) (by omega))
      obtain ⟨X, hX⟩ : ∃ X, cutV (lsum (wideL l)) = X := ⟨_, rfl⟩
      obtain ⟨Y, hY⟩ : ∃ X, cutV (lsum (highL l)) = X := ⟨_, rfl⟩
      obtain ⟨p, hp⟩ : ∃ X, cutB (lsum (wideL l)) = X := ⟨_, rfl⟩
      obtain ⟨q, hq⟩ : ∃ X, cutB (lsum (highL l)) = X := ⟨_, rfl⟩
      rw [hX, hp] at cw
      rw [hY, hq] at ch
      have HX := hide (And.intro hX (And.intro hY (And.intro hp hq)))
      clear hX hY hp hq
      clear hS O5 O6 hr hok hne HC C
      go_wp2_with fail
      have B1 : Blk (wr.alloc (.cells #[.bool false, .bool false] 54)) wr.heap.size 54 #[.bool false, .bool false] := Blk.new _ _ _
      have E1 : Ext wr (wr.alloc (.cells #[.bool false, .bool false] 54)) := (Ext.refl _).alloc _
      have hz := hE.size
      generalize hg : wr.heap.size = g at *
      have HG := hide hg
      clear hg
      generalize wr.alloc (.cells #[.bool false, .bool false] 54) = w1 at *
      refine (unhide (cw _ E1)).mono ?_
      rintro e w2 ⟨rfl, hx⟩
      have B2 := B1.ext hx
      have E2 := E1.trans hx
      have d2 := B2.cell
      have f2 := B2.frozen
      clear B1 E1 hx
      go_wp2_with fail
      have hs : (w2.setCell ⟨g, 0, none⟩ (.bool p)).heap.size = w2.heap.size := by simp [World.setCell]
      have B3 : Blk (w2.setCell ⟨g, 0, none⟩ (.bool p)) g 54 #[.bool p, .bool false] := B2.set_ 0 _
      have E3 : Ext wr (w2.setCell ⟨g, 0, none⟩ (.bool p)) := E2.set (by have := unhide HG; simp; omega) _
      generalize w2.setCell ⟨g, 0, none⟩ (.bool p) = w3 at *
      refine (unhide (ch _ E3)).mono ?_
      rintro e w4 ⟨rfl, hx⟩
      have B4 := B3.ext hx
      have E4 := hE.trans (E3.trans hx)
      clear d2 f2
      have d2 := B4.cell
      have f2 := B4.frozen
      have heq := eq_bool2
      clear B2 B3 E2 E3 hx hs cw ch
      go_wp2_with fail
      go_region
      go_wp2
      go_ret3
      obtain ⟨hX, hY, hp, hq⟩ := unhide HX
      subst hX hY hp hq
      exact ⟨rfl, (E4.set (by simp; omega) _).drew⟩
end Go.Proofs.Ytphckjnmbbjenaa
