/- Numbers as lists of digits: plus, minus (walks). -/
import Derived.Test.YtahneblnbafpoaaBigA
namespace Go.Proofs.Ytahneblnbafpoaa
open Go.RowKit

theorem bool_info : (Try.prog.info? 4).map (fun i => (i.zero, i.size, i.bytes)) = some (some (.bool false), 1, 1) := by kernel_rfl
/-- what lies in no block that was there -/
def Fresh (w : World) (A : Option Addr) : Prop := ∀ b off, A = some ⟨b, off, none⟩ → w.heap.size ≤ b
theorem Fresh.own {w w' : World} {e size n c : Nat} {A : Option Addr} {xs : List Value} (h : w'.ownsRow w.heap.size e size (.slice A n c) n xs) : Fresh w A := fun b off e => (h.lt b (by rw [e]; rfl)).1
theorem Fresh.mono {w w' : World} {A : Option Addr} (h : Fresh w' A) (hx : Ext w w') : Fresh w A := fun b off e => Nat.le_trans hx.size (h b off e)
/-- a list of digits in new memory -/
def BitsOut (w : World) (P : List Bool → Prop) (e : Ending) (w' : World) : Prop :=
  ∃ A c l, e = .returned (.slice A l.length c) ∧ Rd w' 1 A l.length (bools l) ∧ l.length ≤ c ∧ c ≤ maxLen ∧ P l ∧ Ext w w' ∧ Fresh w A
theorem own_cap {w : World} {base e size n c : Nat} {A : Option Addr} {xs : List Value} (h : w.ownsRow base e size (.slice A n c) n xs) : n ≤ c ∧ c ≤ maxLen := by
  rcases h.2 with ⟨hv, h0⟩ | ⟨g, cap, cur, hv, _, _, h1, h2, _⟩
  · injection hv with _ _ h3; subst h3; exact ⟨by omega, by simp [maxLen]⟩
  · injection hv with _ _ h3; subst h3; exact ⟨h1, h2⟩

/-- what the loop of a sum of digits has come to -/
structure PlusRel (w : World) (a b : List Bool) (i more : Nat) (v : Value) (wr : World) : Prop where
  (ext : Ext w wr) (o : ∃ A c o, v = .slice A i c ∧ PlusI a b o i more ∧ wr.ownsRow w.heap.size 4 1 (.slice A i c) i (bools o))

set_option maxHeartbeats 2000000 in
theorem plus_any (A B : Option Addr) (n c m d : Nat) (a b : List Bool) (w : World) (ha : Rd w 1 A n (bools a)) (hb : Rd w 1 B m (bools b)) (hn : n ≤ 100000) (hm : m ≤ 100000) :
    Calls Try.prog 65 #[.slice A n c, .slice B m d] w (BitsOut w fun o => val o = val a + val b ∧ o.length = max a.length b.length + 1) := by
  obtain ⟨i0, hi0, hz0, hz1, hz2⟩ := info_parts bool_info
  have la : a.length = n := by have := ha.len; simpa [bools] using this
  have lb : b.length = m := by have := hb.len; simpa [bools] using this
  obtain ⟨M, hM⟩ : ∃ M, max n m = M := ⟨_, rfl⟩
  have EM : (if (n : Int) < (m : Int) then (m : Int) else (n : Int)) = (M : Int) := by split <;> omega
  have EM2 : (if n < m then (m : Int) else (n : Int)) = (M : Int) := by split <;> omega
  have hM1 : M ≤ 100000 := by omega
  have HI := hide (And.intro hi0 (And.intro hz0 (And.intro hz1 hz2)))
  have HM := hide (And.intro hM (And.intro la lb))
  clear hM la lb hi0 hz0 hz1 hz2
  go_enter Try.func65, Try.ntmps65
  go_wp2
  go_loopw [5, 6, 7] (fun v mo i wr => ∃ j more : Nat, j ≤ M + 1 ∧ i = .int .i64 j ∧ mo = .int .i64 more ∧ PlusRel w a b j more v wr) (fun _ _ i _ => M + 1 - (intOf i).toNat)
  case atStart => exact ⟨0, 0, by omega, rfl, rfl, Ext.refl _, none, 0, [], rfl, plus_start a b, World.ownsRow_nil _ _ _ _⟩
  case round =>
    obtain ⟨j, more, hj, rfl, rfl, hE, A3, c3, o, rfl, hP, hO⟩ := hrel
    by_cases hlt : j ≤ M
    · have hltI : (j : Int) ≤ (M : Int) := by omega
      have c1 := fun w' (h : Ext w w') => hide (at_any A n c j a w' (ha.ext h) (by omega) (by omega))
      have c2 := fun w' (h : Ext w w') => hide (at_any B m d j b w' (hb.ext h) (by omega) (by omega))
      have b1 := atN_le a j
      have b2 := atN_le b j
      have b3 := hP.2.1
      have HS := hide (plus_step hP)
      clear hP
      generalize atN a j = X at *
      generalize atN b j = Y at *
      obtain ⟨S, hS⟩ : ∃ S, X + Y + more = S := ⟨_, rfl⟩
      rw [hS] at HS
      have ES : (X : Int) + (Y : Int) + (more : Int) = (S : Int) := by omega
      have hS3 : S ≤ 3 := by omega
      obtain ⟨D, hD⟩ : ∃ D, (S % 2 == 1) = D := ⟨_, rfl⟩
      obtain ⟨T, hT⟩ : ∃ T, S / 2 = T := ⟨_, rfl⟩
      rw [hD, hT] at HS
      have ED : ((S : Int) % 2 == 1) = D := by rw [← hD]; rw [Bool.eq_iff_iff]; simp; omega
      have ET : (S : Int) / 2 = (T : Int) := by omega
      clear hD hT hS
      go_wp2_with fail
      refine (unhide (c1 _ hE)).mono ?_
      rintro e w' ⟨rfl, rfl⟩
      go_wp2_with fail
      refine (unhide (c2 _ hE)).mono ?_
      rintro e w' ⟨rfl, rfl⟩
      go_wp2_with (first
        | (at_builtin
           refine wpList_append_rd rfl (.tmp 27) (.tmp 31) _ rfl w.heap.size 4 i0 _ 1 1 Try.underlying54 (unhide HI).1 (unhide HI).2.1 (unhide HI).2.2.1 (unhide HI).2.2.2 rfl (by omega) _ j (bools o) rfl (hO.alloc _) _ 1 1 [.bool D] rfl (Rd.one _ _) (by simp [Value.oneCell']) (by simp only [maxLen]; omega) (by omega) (by have := hE.size; simp; omega) ?_
           intro A4 c4 w4 own4 g4 at4))
      go_roundw
      case rel =>
        refine ⟨j + 1, T, by omega, by go_num, rfl, (hE.alloc _).grown g4 (fun g e => (hO.lt g e).1), A4, c4, o ++ [D], rfl, unhide HS, ?_⟩
        rw [bools_append]; exact own4
      case measure => simp [intOf]; omega
    · have hjI : (M : Int) < (j : Int) := by omega
      have hj2 : j = M + 1 := by omega
      have HJ := hide hj2
      have HP := hide hP
      clear hP hj2
      go_wp2_with fail
      go_ret
      obtain ⟨h1, h2, h3⟩ := unhide HM
      obtain ⟨e1, e2⟩ := plus_end (unhide HP) (by rw [unhide HJ, ← h1, h2, h3])
      have hl : o.length = j := (unhide HP).1
      obtain ⟨k1, k2⟩ := own_cap hO
      subst hl
      exact ⟨A3, c3, o, rfl, Rd.of_own hO, k1, k2, ⟨e1, e2⟩, hE, Fresh.own hO⟩

/-- what the loop of a difference of digits has come to -/
structure MinusRel (w : World) (a b : List Bool) (i less : Nat) (v : Value) (wr : World) : Prop where
  (ext : Ext w wr) (o : ∃ A c o, v = .slice A i c ∧ MinusI a b o i less ∧ wr.ownsRow w.heap.size 4 1 (.slice A i c) i (bools o))

set_option maxHeartbeats 2000000 in
theorem minus_any (A B : Option Addr) (n c m d : Nat) (a b : List Bool) (w : World) (ha : Rd w 1 A n (bools a)) (hb : Rd w 1 B m (bools b)) (hn : n ≤ 100000) (hm : m ≤ 100000) (hle : val b ≤ val a) :
    Calls Try.prog 63 #[.slice A n c, .slice B m d] w (BitsOut w fun o => val o = val a - val b ∧ o.length = a.length) := by
  obtain ⟨i0, hi0, hz0, hz1, hz2⟩ := info_parts bool_info
  have la : a.length = n := by have := ha.len; simpa [bools] using this
  have HI := hide (And.intro hi0 (And.intro hz0 (And.intro hz1 hz2)))
  have HM := hide (And.intro la hle)
  clear la hi0 hz0 hz1 hz2 hle
  go_enter Try.func63, Try.ntmps63
  go_wp2
  go_loopw [5, 6, 7] (fun v mo i wr => ∃ j less : Nat, j ≤ n ∧ i = .int .i64 j ∧ mo = .int .i64 less ∧ MinusRel w a b j less v wr) (fun _ _ i _ => n - (intOf i).toNat)
  case atStart => exact ⟨0, 0, by omega, rfl, rfl, Ext.refl _, none, 0, [], rfl, minus_start a b, World.ownsRow_nil _ _ _ _⟩
  case round =>
    obtain ⟨j, less, hj, rfl, rfl, hE, A3, c3, o, rfl, hP, hO⟩ := hrel
    by_cases hlt : j < n
    · have c1 := fun w' (h : Ext w w') => hide (at_any A n c j a w' (ha.ext h) (by omega) (by omega))
      have c2 := fun w' (h : Ext w w') => hide (at_any B m d j b w' (hb.ext h) (by omega) (by omega))
      have b1 := atN_le a j
      have b2 := atN_le b j
      have b3 := hP.2.1
      have HS0 := hide fun s hs h0 => minus_step0 hP s hs h0
      have HS1 := hide fun s hs h0 => minus_step1 hP s hs h0
      clear hP
      generalize atN a j = X at *
      generalize atN b j = Y at *
      obtain ⟨S, ES⟩ : ∃ S : Int, (X : Int) - (Y : Int) - (less : Int) = S := ⟨_, rfl⟩
      have HES := hide ES.symm
      have hS3 : -2 ≤ S := by omega
      have hS4 : S ≤ 1 := by omega
      by_cases hneg : S < 0
      · obtain ⟨D, hD⟩ : ∃ D, (S + 2 == 1) = D := ⟨_, rfl⟩
        have HS := hide (unhide HS1 S (unhide HES) hneg)
        have HD := hide hD
        clear HS0 HS1
        go_wp2_with fail
        refine (unhide (c1 _ hE)).mono ?_
        rintro e w' ⟨rfl, rfl⟩
        go_wp2_with fail
        refine (unhide (c2 _ hE)).mono ?_
        rintro e w' ⟨rfl, rfl⟩
        go_wp2_with (first
          | (at_builtin
             refine wpList_append_rd rfl (.tmp 28) (.tmp 31) _ rfl w.heap.size 4 i0 _ 1 1 Try.underlying54 (unhide HI).1 (unhide HI).2.1 (unhide HI).2.2.1 (unhide HI).2.2.2 rfl (by omega) _ j (bools o) rfl (hO.alloc _) _ 1 1 [.bool D] rfl (Rd.one _ _) (by simp [Value.oneCell']) (by simp only [maxLen]; omega) (by omega) (by have := hE.size; simp; omega) ?_
             intro A4 c4 w4 own4 g4 at4))
        go_roundw
        case rel =>
          refine ⟨j + 1, 1, by omega, by go_num, rfl, (hE.alloc _).grown g4 (fun g e => (hO.lt g e).1), A4, c4, o ++ [D], rfl, ?_, ?_⟩
          · rw [← unhide HD]; exact unhide HS
          · rw [bools_append]; exact own4
        case measure => simp [intOf]; omega
      · obtain ⟨D, hD⟩ : ∃ D, (S == 1) = D := ⟨_, rfl⟩
        have HS := hide (unhide HS0 S (unhide HES) (by omega))
        have HD := hide hD
        clear HS0 HS1
        go_wp2_with fail
        refine (unhide (c1 _ hE)).mono ?_
        rintro e w' ⟨rfl, rfl⟩
        go_wp2_with fail
        refine (unhide (c2 _ hE)).mono ?_
        rintro e w' ⟨rfl, rfl⟩
        go_wp2_with (first
          | (at_builtin
             refine wpList_append_rd rfl (.tmp 28) (.tmp 31) _ rfl w.heap.size 4 i0 _ 1 1 Try.underlying54 (unhide HI).1 (unhide HI).2.1 (unhide HI).2.2.1 (unhide HI).2.2.2 rfl (by omega) _ j (bools o) rfl (hO.alloc _) _ 1 1 [.bool D] rfl (Rd.one _ _) (by simp [Value.oneCell']) (by simp only [maxLen]; omega) (by omega) (by have := hE.size; simp; omega) ?_
             intro A4 c4 w4 own4 g4 at4))
        go_roundw
        case rel =>
          refine ⟨j + 1, 0, by omega, by go_num, rfl, (hE.alloc _).grown g4 (fun g e => (hO.lt g e).1), A4, c4, o ++ [D], rfl, ?_, ?_⟩
          · rw [← unhide HD]; exact unhide HS
          · rw [bools_append]; exact own4
        case measure => simp [intOf]; omega
    · have hj2 : j = n := by omega
      have HJ := hide hj2
      have HP := hide hP
      clear hP hj2
      go_wp2_with fail
      go_ret
      obtain ⟨h1, h2⟩ := unhide HM
      obtain ⟨e1, e2⟩ := minus_end (unhide HP) (by rw [unhide HJ, h1]) h2
      have hl : o.length = j := (unhide HP).1
      obtain ⟨k1, k2⟩ := own_cap hO
      subst hl
      exact ⟨A3, c3, o, rfl, Rd.of_own hO, k1, k2, ⟨e1, e2⟩, hE, Fresh.own hO⟩
end Go.Proofs.Ytahneblnbafpoaa
