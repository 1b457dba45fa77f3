/- Layer 2: the least rectangle around others, of the reference (walk). -/
import Derived.Test.YtphckjnmbbjenaaEdKp
import Derived.Test.YtphckjnmbbjenaaEdS
namespace Go.Proofs.Ytphckjnmbbjenaa
open Go.RowKit

def Apart (v u : Value) : Prop := ∀ g, v.ownBlock = some g → u.ownBlock ≠ some g
theorem Apart.symm {v u : Value} (h : Apart v u) : Apart u v := fun g h1 h2 => h g h2 h1
theorem Apart.step {v v' u : Value} {s : Nat} (h : Apart v u) (hat : v'.ownBlock = v.ownBlock ∨ v'.ownBlock = some s) (hu : ∀ g, u.ownBlock = some g → g < s) : Apart v' u := fun g hg h2 => by
  rcases hat with e | e
  · exact h g (e ▸ hg) h2
  · rw [e] at hg; cases hg; exact absurd (hu _ h2) (Nat.lt_irrefl _)
/-- four rows of the call's own, each apart from the others -/
structure R4 (w : World) (base : Nat) (m0 m1 m2 m3 : Nat) (v0 v1 v2 v3 : Value) (z0 z1 z2 z3 : List Int) : Prop where
  o0 : w.ownsRow base 2 1 v0 m0 (ints z0)
  o1 : w.ownsRow base 2 1 v1 m1 (ints z1)
  o2 : w.ownsRow base 2 1 v2 m2 (ints z2)
  o3 : w.ownsRow base 2 1 v3 m3 (ints z3)
  d01 : Apart v0 v1
  d02 : Apart v0 v2
  d03 : Apart v0 v3
  d12 : Apart v1 v2
  d13 : Apart v1 v3
  d23 : Apart v2 v3
section
variable {w w' : World} {base m0 m1 m2 m3 : Nat} {v0 v1 v2 v3 : Value} {z0 z1 z2 z3 : List Int}
theorem R4.alloc (h : R4 w base m0 m1 m2 m3 v0 v1 v2 v3 z0 z1 z2 z3) (b : Obj) : R4 (w.alloc b) base m0 m1 m2 m3 v0 v1 v2 v3 z0 z1 z2 z3 :=
  ⟨h.o0.alloc b, h.o1.alloc b, h.o2.alloc b, h.o3.alloc b, h.d01, h.d02, h.d03, h.d12, h.d13, h.d23⟩
theorem R4.rot (h : R4 w base m0 m1 m2 m3 v0 v1 v2 v3 z0 z1 z2 z3) : R4 w base m1 m2 m3 m0 v1 v2 v3 v0 z1 z2 z3 z0 :=
  ⟨h.o1, h.o2, h.o3, h.o0, h.d12, h.d13, h.d01.symm, h.d23, h.d02.symm, h.d03.symm⟩
theorem own_kept {v u : Value} {m : Nat} {zs : List Value} (h : w.ownsRow base 2 1 u m zs) (hg : w.grownBy w' v.ownBlock) (hd : Apart v u) : w'.ownsRow base 2 1 u m zs :=
  h.kept hg (by
    cases hu : u.ownBlock with
    | none => exact .inl rfl
    | some g => exact .inr (fun e => hd g e.symm hu))
theorem R4.step {v0' : Value} {a : List Value} {z : List Int} (h : R4 w base m0 m1 m2 m3 v0 v1 v2 v3 z0 z1 z2 z3) (hg : w.grownBy w' v0.ownBlock) (hown : w'.ownsRow base 2 1 v0' (m0 + 1) a) (hat : v0'.ownBlock = v0.ownBlock ∨ v0'.ownBlock = some w.heap.size) (ha : a = ints z) : R4 w' base (m0 + 1) m1 m2 m3 v0' v1 v2 v3 z z1 z2 z3 :=
  ⟨ha ▸ hown, own_kept h.o1 hg h.d01, own_kept h.o2 hg h.d02, own_kept h.o3 hg h.d03, h.d01.step hat (fun g e => (h.o1.lt g e).2), h.d02.step hat (fun g e => (h.o2.lt g e).2), h.d03.step hat (fun g e => (h.o3.lt g e).2), h.d12, h.d13, h.d23⟩
theorem own_ext {u : Value} {m : Nat} {zs : List Value} (h : w.ownsRow base 2 1 u m zs) (hx : Ext w w') : w'.ownsRow base 2 1 u m zs :=
  h.kept (row := none) ⟨hx.os, hx.tape, hx.output, hx.size, fun i hi _ => hx.block i hi⟩ (by
    cases hu : u.ownBlock with
    | none => exact .inl rfl
    | some g => exact .inr (fun e => by cases e))
theorem R4.ext (h : R4 w base m0 m1 m2 m3 v0 v1 v2 v3 z0 z1 z2 z3) (hx : Ext w w') : R4 w' base m0 m1 m2 m3 v0 v1 v2 v3 z0 z1 z2 z3 :=
  ⟨own_ext h.o0 hx, own_ext h.o1 hx, own_ext h.o2 hx, own_ext h.o3 hx, h.d01, h.d02, h.d03, h.d12, h.d13, h.d23⟩
end
theorem some_take (l : List Rc) (k : Nat) (r : Rc) (h : l[k]? = some r) : someL (l.take (k + 1)) = if r.some then someL (l.take k) ++ [r] else someL (l.take k) := by
  unfold someL
  rw [List.take_add_one, h, List.filter_append]
  cases hr : r.some <;> simp [hr]
theorem map_i64 {ms : List Rc} (h : ∀ r ∈ ms, r.Ok) : I64s (ms.map (·.x)) ∧ I64s (ms.map (·.y)) ∧ I64s (ms.map (·.w)) ∧ I64s (ms.map (·.h)) := by
  refine ⟨?_, ?_, ?_, ?_⟩
  all_goals
    intro z hz
    obtain ⟨r, hr, rfl⟩ := List.mem_map.1 hz
    obtain ⟨x1, x2, y1, y2, w1, w2, h1, h2⟩ := h r hr
    omega

set_option maxRecDepth 100000 in
set_option maxHeartbeats 8000000 in
theorem refCover_any (A : Option Addr) (n c : Nat) (l : List Rc) (w : World) (hr : Rd w 4 A n (rcs l)) (hok : ∀ r ∈ l, r.Ok) (hn : n ≤ 1000) :
    Calls Try.prog 22 #[.slice A n c] w fun e w' => e = .returned (.tuple #[.agg (coverR l).cs, .bool (coverB l)]) ∧ Ext w w' := by
  rw [← (refCov_eq l).1, ← (refCov_eq l).2]
  obtain ⟨i0, hi0, hz0, hz1, hz2⟩ := info_parts i64_info
  have HI := hide (And.intro hi0 (And.intro hz0 (And.intro hz1 hz2)))
  have hl : l.length = n := by have := hr.len; rw [rcs_len] at this; omega
  have HL := hide hl
  have hmsok : ∀ r ∈ someL l, r.Ok := fun r hr => hok r (List.mem_filter.1 hr).1
  have HMO := hide (map_i64 hmsok)
  clear hl hi0 hz0 hz1 hz2 hmsok hok
  go_enter Try.func22, Try.ntmps22
  go_wp2_with fail
  have B0 : Blk (w.alloc (.cells #[.int .i64 0, .int .i64 0, .int .i64 0, .int .i64 0] 33)) w.heap.size 33 #[.int .i64 0, .int .i64 0, .int .i64 0, .int .i64 0] := Blk.new _ _ _
  have E0 : Ext w (w.alloc (.cells #[.int .i64 0, .int .i64 0, .int .i64 0, .int .i64 0] 33)) := (Ext.refl _).alloc _
  generalize w.alloc (.cells #[.int .i64 0, .int .i64 0, .int .i64 0, .int .i64 0] 33) = wa at *
  obtain ⟨ga, hga⟩ : ∃ ga, ga = w.heap.size := ⟨_, rfl⟩
  rw [← hga] at B0 ⊢
  have HGA := hide hga
  clear hga
  go_loopw [4, 5, 6, 7, 8] (fun v4 v5 v6 v7 i wr => ∃ k : Nat, k ≤ n ∧ i = .int .i64 k ∧ Ext w wr ∧ Blk wr ga 33 #[.int .i64 0, .int .i64 0, .int .i64 0, .int .i64 0] ∧
    ∃ (m : Nat) (A4 A5 A6 A7 : Option Addr) (c4 c5 c6 c7 : Nat), m = (someL (l.take k)).length ∧ m ≤ k ∧ v4 = .slice A4 m c4 ∧ v5 = .slice A5 m c5 ∧ v6 = .slice A6 m c6 ∧ v7 = .slice A7 m c7 ∧
      R4 wr (ga + 1) m m m m (.slice A4 m c4) (.slice A5 m c5) (.slice A6 m c6) (.slice A7 m c7) ((someL (l.take k)).map (·.x)) ((someL (l.take k)).map (·.y)) ((someL (l.take k)).map (·.w)) ((someL (l.take k)).map (·.h))) (fun _ _ _ _ i _ => n - (intOf i).toNat)
  case atStart =>
    refine ⟨0, Nat.zero_le _, rfl, E0, B0, 0, none, none, none, none, 0, 0, 0, 0, rfl, Nat.le_refl _, rfl, rfl, rfl, rfl, World.ownsRow_nil _ _ _ _, World.ownsRow_nil _ _ _ _, World.ownsRow_nil _ _ _ _, World.ownsRow_nil _ _ _ _, ?_, ?_, ?_, ?_, ?_, ?_⟩
    all_goals (intro g hg; cases hg)
  case round =>
    clear B0 E0 wa
    obtain ⟨k, hk, rfl, E0, B0, m, A4, A5, A6, A7, c4, c5, c6, c7, hm, hmk, rfl, rfl, rfl, rfl, Q0⟩ := hrel
    have HM := hide hm
    clear hm
    by_cases hlt : k < n
    · have hltI : (k : Int) < (n : Int) := by omega
      obtain ⟨b, off, r, rfl, hb, hrk, -⟩ := hr.rc hlt
      have hcW : ∀ W : World, Ext w W → W.cell? ⟨b, off + k * 4, none⟩ = some (.int .i64 r.x) ∧ W.cell? ⟨b, off + k * 4 + 1, none⟩ = some (.int .i64 r.y) ∧ W.cell? ⟨b, off + k * 4 + 2, none⟩ = some (.int .i64 r.w) ∧ W.cell? ⟨b, off + k * 4 + 3, none⟩ = some (.int .i64 r.h) := fun W h => by
        obtain ⟨b', off', r', e, -, hrk', q0, q1, q2, q3⟩ := (hr.ext h).rc hlt
        injection e with e; injection e with e1 e2 _; subst e1 e2
        have := hrk.symm.trans hrk'
        injection this with this; subst this
        exact ⟨q0, q1, q2, q3⟩
      have HC := hide hcW
      have HBB := hide hb
      have hst := some_take l k r hrk
      have cs := fun w => hide (refsome_any r w)
      obtain ⟨qx, qy, qw, qh⟩ := unhide HC wr E0
      have zb : b < wr.heap.size := Nat.lt_of_lt_of_le hb E0.size
      generalize someL (l.take k) = ms at *
      generalize r.some = s at *
      have HST := hide hst
      obtain ⟨rx, ry, rw, rh⟩ := r
      clear hrk hr hcW hb hst
      go_wp2_with fail
      refine (unhide (cs _)).mono ?_
      rintro e w1 ⟨rfl, hx⟩
      replace B0 := B0.ext hx
      replace Q0 := Q0.ext hx
      replace E0 := E0.trans hx
      clear qx qy qw qh zb hx cs
      obtain ⟨qx, qy, qw, qh⟩ := unhide HC w1 E0
      have zb : b < w1.heap.size := Nat.lt_of_lt_of_le (unhide HBB) E0.size
      cases s
      · have HS := hide (by rw [unhide HST]; simp : someL (l.take (k + 1)) = ms)
        clear qx qy qw qh zb
        go_wp2_with fail
        go_roundw
        case rel => exact ⟨k + 1, by omega, by go_num, E0, B0, m, A4, A5, A6, A7, c4, c5, c6, c7, by rw [unhide HS]; exact unhide HM, by omega, rfl, rfl, rfl, rfl, by rw [unhide HS]; exact Q0⟩
        case measure => simp [intOf]; omega
      · have HS := hide (by rw [unhide HST]; simp : someL (l.take (k + 1)) = ms ++ [⟨rx, ry, rw, rh⟩])
        have hgs : ga + 1 ≤ w1.heap.size := by have := B0.lt; omega
        have HB := hide B0
        clear B0
        go_wp2_with (first
            | (at_builtin
               refine wpList_append_rd rfl (.tmp 26) (.tmp 32) _ rfl (ga + 1) 2 i0 _ 1 8 Try.underlying50 (unhide HI).1 (unhide HI).2.1 (unhide HI).2.2.1 (unhide HI).2.2.2 rfl (by omega) _ m (ints (ms.map (·.x))) rfl (Q0.alloc _).o0 _ 1 1 [.int .i64 rx] rfl ((Blk.new w1 2 #[.int .i64 rx]).rd (n := 1) rfl) (by simp [Value.oneCell']) (by simp only [maxLen]; omega) (by omega) (by have := hgs; simp; omega) ?_
               intro A11 c11 v11 own11 g11 at11
               have Q11 := ((Q0.alloc _).step (z := ms.map (·.x) ++ [rx]) g11 own11 at11 (ints_app _ [rx]).symm).rot
               have E11 : Ext w v11 := (E0.alloc _).grown g11 (fun g e => by have := ((((Q0))).o0.lt g e).1; have := unhide HGA; omega)
               obtain ⟨qx11, qy11, qw11, qh11⟩ := unhide HC v11 E11
               have zb11 : b < v11.heap.size := Nat.lt_of_lt_of_le (unhide HBB) E11.size
               have hgs11 : ga + 1 ≤ v11.heap.size := Nat.le_trans hgs (Nat.le_trans (by simp) g11.size)
               have HB11 := hide (((unhide HB).alloc _).keep g11 (fun e => by have := ((Q0).o0.lt _ e).1; omega))
               clear own11 g11 at11)
            | (at_builtin
               refine wpList_append_rd rfl (.tmp 34) (.tmp 40) _ rfl (ga + 1) 2 i0 _ 1 8 Try.underlying50 (unhide HI).1 (unhide HI).2.1 (unhide HI).2.2.1 (unhide HI).2.2.2 rfl (by omega) _ m (ints (ms.map (·.y))) rfl (Q11.alloc _).o0 _ 1 1 [.int .i64 ry] rfl ((Blk.new v11 2 #[.int .i64 ry]).rd (n := 1) rfl) (by simp [Value.oneCell']) (by simp only [maxLen]; omega) (by omega) (by have := hgs11; simp; omega) ?_
               intro A12 c12 v12 own12 g12 at12
               have Q12 := ((Q11.alloc _).step (z := ms.map (·.y) ++ [ry]) g12 own12 at12 (ints_app _ [ry]).symm).rot
               have E12 : Ext w v12 := (E11.alloc _).grown g12 (fun g e => by have := ((((Q11))).o0.lt g e).1; have := unhide HGA; omega)
               obtain ⟨qx12, qy12, qw12, qh12⟩ := unhide HC v12 E12
               have zb12 : b < v12.heap.size := Nat.lt_of_lt_of_le (unhide HBB) E12.size
               have hgs12 : ga + 1 ≤ v12.heap.size := Nat.le_trans hgs11 (Nat.le_trans (by simp) g12.size)
               have HB12 := hide (((unhide HB11).alloc _).keep g12 (fun e => by have := ((Q11).o0.lt _ e).1; omega))
               clear own12 g12 at12)
            | (at_builtin
               refine wpList_append_rd rfl (.tmp 42) (.tmp 48) _ rfl (ga + 1) 2 i0 _ 1 8 Try.underlying50 (unhide HI).1 (unhide HI).2.1 (unhide HI).2.2.1 (unhide HI).2.2.2 rfl (by omega) _ m (ints (ms.map (·.w))) rfl (Q12.alloc _).o0 _ 1 1 [.int .i64 rw] rfl ((Blk.new v12 2 #[.int .i64 rw]).rd (n := 1) rfl) (by simp [Value.oneCell']) (by simp only [maxLen]; omega) (by omega) (by have := hgs12; simp; omega) ?_
               intro A13 c13 v13 own13 g13 at13
               have Q13 := ((Q12.alloc _).step (z := ms.map (·.w) ++ [rw]) g13 own13 at13 (ints_app _ [rw]).symm).rot
               have E13 : Ext w v13 := (E12.alloc _).grown g13 (fun g e => by have := ((((Q12))).o0.lt g e).1; have := unhide HGA; omega)
               obtain ⟨qx13, qy13, qw13, qh13⟩ := unhide HC v13 E13
               have zb13 : b < v13.heap.size := Nat.lt_of_lt_of_le (unhide HBB) E13.size
               have hgs13 : ga + 1 ≤ v13.heap.size := Nat.le_trans hgs12 (Nat.le_trans (by simp) g13.size)
               have HB13 := hide (((unhide HB12).alloc _).keep g13 (fun e => by have := ((Q12).o0.lt _ e).1; omega))
               clear own13 g13 at13)
            | (at_builtin
               refine wpList_append_rd rfl (.tmp 50) (.tmp 56) _ rfl (ga + 1) 2 i0 _ 1 8 Try.underlying50 (unhide HI).1 (unhide HI).2.1 (unhide HI).2.2.1 (unhide HI).2.2.2 rfl (by omega) _ m (ints (ms.map (·.h))) rfl (Q13.alloc _).o0 _ 1 1 [.int .i64 rh] rfl ((Blk.new v13 2 #[.int .i64 rh]).rd (n := 1) rfl) (by simp [Value.oneCell']) (by simp only [maxLen]; omega) (by omega) (by have := hgs13; simp; omega) ?_
               intro A14 c14 v14 own14 g14 at14
               have Q14 := ((Q13.alloc _).step (z := ms.map (·.h) ++ [rh]) g14 own14 at14 (ints_app _ [rh]).symm).rot
               have E14 : Ext w v14 := (E13.alloc _).grown g14 (fun g e => by have := ((((Q13))).o0.lt g e).1; have := unhide HGA; omega)
               obtain ⟨qx14, qy14, qw14, qh14⟩ := unhide HC v14 E14
               have zb14 : b < v14.heap.size := Nat.lt_of_lt_of_le (unhide HBB) E14.size
               have hgs14 : ga + 1 ≤ v14.heap.size := Nat.le_trans hgs13 (Nat.le_trans (by simp) g14.size)
               have HB14 := hide (((unhide HB13).alloc _).keep g14 (fun e => by have := ((Q13).o0.lt _ e).1; omega))
               clear own14 g14 at14))
        go_roundw
        case rel =>
          have E4 := E14
          refine ⟨k + 1, by omega, by go_num, E14, ?_, m + 1, A11, A12, A13, A14, c11, c12, c13, c14, by rw [unhide HS, unhide HM]; simp, by omega, rfl, rfl, rfl, rfl, ?_⟩
          · exact unhide HB14
          · rw [unhide HS]; simp only [List.map_append, List.map_cons, List.map_nil]; exact Q14
        case measure => simp [intOf]; omega
    · obtain rfl : k = n := by omega
      have hS : l.take k = l := List.take_of_length_le (by have := unhide HL; omega)
      rw [hS] at Q0 HM
      obtain ⟨ms, hms⟩ : ∃ ms, someL l = ms := ⟨_, rfl⟩
      rw [hms] at Q0 HM HMO
      obtain ⟨iX, iY, iW, iH⟩ := unhide HMO
      have HE := hide hms
      clear hms hS hr
      have d0 := B0.cell
      have f0 := B0.frozen
      have z0 := B0.lt
      cases ms with
      | nil =>
        obtain rfl : m = 0 := unhide HM
        clear Q0
        go_wp2_with fail
        refine bodyPost_ret (results_cell_tmp rfl _ _ ga 33 _ _ rfl ((((B0.set_ 0 _).set_ 1 _).set_ 2 _).set_ 3 _) Try.underlying33 rfl (by kernel_rfl)) rfl ⟨?_, ?_⟩
        · unfold refCovR refCovB; rw [unhide HE]; rfl
        · have hga := unhide HGA
          exact (((E0.set (by simp; omega) _).set (by simp; omega) _).set (by simp; omega) _).set (by simp; omega) _
      | cons r t =>
        have hm0 : m ≠ 0 := by have := unhide HM; simp at this; omega
        have hmI : ((m : Int) == 0) = false := by simp; omega
        have hm1 : m ≤ 1000 := by omega
        have cx := fun W (h : Ext wr W) => hide (refcover_any A4 A6 m c4 c6 r.x _ _ W ((Rd.of_own Q0.o0).ext h) ((Rd.of_own Q0.o2).ext h) iX iW rfl hm1)
        have cy := fun W (h : Ext wr W) => hide (refcover_any A5 A7 m c5 c7 r.y _ _ W ((Rd.of_own Q0.o1).ext h) ((Rd.of_own Q0.o3).ext h) iY iH rfl hm1)
        obtain ⟨X0, hX0⟩ : ∃ X, cutV (minL r.x ((r :: t).map (·.x))) = X := ⟨_, rfl⟩
        obtain ⟨X1, hX1⟩ : ∃ X, cutV (minL r.y ((r :: t).map (·.y))) = X := ⟨_, rfl⟩
        obtain ⟨X2, hX2⟩ : ∃ X, cutV (covM (minL r.x ((r :: t).map (·.x))) (((r :: t).map (·.x)).zip ((r :: t).map (·.w)))) = X := ⟨_, rfl⟩
        obtain ⟨X3, hX3⟩ : ∃ X, cutV (covM (minL r.y ((r :: t).map (·.y))) (((r :: t).map (·.y)).zip ((r :: t).map (·.h)))) = X := ⟨_, rfl⟩
        obtain ⟨p, hp⟩ : ∃ X, (cutB (minL r.x ((r :: t).map (·.x))) || cutB (covM (minL r.x ((r :: t).map (·.x))) (((r :: t).map (·.x)).zip ((r :: t).map (·.w))))) = X := ⟨_, rfl⟩
        obtain ⟨q, hq⟩ : ∃ X, (cutB (minL r.y ((r :: t).map (·.y))) || cutB (covM (minL r.y ((r :: t).map (·.y))) (((r :: t).map (·.y)).zip ((r :: t).map (·.h))))) = X := ⟨_, rfl⟩
        simp only [hX0, hX2, hp] at cx
        simp only [hX1, hX3, hq] at cy
        have HQ := hide (And.intro hX0 (And.intro hX1 (And.intro hX2 (And.intro hX3 (And.intro hp hq)))))
        clear hX0 hX1 hX2 hX3 hp hq
        have HB := hide B0
        clear Q0 iX iY iW iH d0 f0 z0 hm0 B0
        go_wp2_with fail
        refine (unhide (cx _ (Ext.refl _))).mono ?_
        rintro e w2 ⟨rfl, hx⟩
        have HB2 := hide ((unhide HB).ext hx)
        have E1 := E0.trans hx
        go_wp2_with fail
        refine (unhide (cy _ hx)).mono ?_
        rintro e w3 ⟨rfl, hx2⟩
        have B3 := (unhide HB2).ext hx2
        have E3 := E1.trans hx2
        have d0 := B3.cell
        have f0 := B3.frozen
        have z0 := B3.lt
        clear cx cy hx hx2 HB HB2 E0 E1
        cases p
        all_goals
          go_wp2_with fail
          refine bodyPost_ret (results_cell_tmp rfl _ _ ga 33 _ _ rfl ((((B3.set_ 0 _).set_ 1 _).set_ 2 _).set_ 3 _) Try.underlying33 rfl (by kernel_rfl)) rfl ⟨?_, ?_⟩
          · obtain ⟨e0, e1, e2, e3, e4, e5⟩ := unhide HQ
            unfold refCovR refCovB
            rw [unhide HE]
            simp only [e0, e1, e2, e3, e4, e5]
            rfl
          · have hga := unhide HGA
            exact (((E3.set (by simp; omega) _).set (by simp; omega) _).set (by simp; omega) _).set (by simp; omega) _
end Go.Proofs.Ytphckjnmbbjenaa
