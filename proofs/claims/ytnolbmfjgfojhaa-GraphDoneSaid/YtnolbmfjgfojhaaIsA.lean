/- Islands: the same numbers, all roots (walks). -/
import Derived.Test.YtnolbmfjgfojhaaTrR
import Derived.Test.YtnolbmfjgfojhaaTrK
namespace Go.Proofs.Ytnolbmfjgfojhaa
open Go.RowKit

theorem own_extI {w w' : World} {base e : Nat} {u : Value} {m : Nat} {zs : List Value} (h : w.ownsRow base e 1 u m zs) (hx : Ext w w') : w'.ownsRow base e 1 u m zs :=
  h.kept (row := none) ⟨hx.os, hx.tape, hx.output, hx.size, fun i hi _ => hx.block i hi⟩ (by
    cases hu : u.ownBlock with
    | none => exact .inl rfl
    | some b => exact .inr (by simp))
set_option maxRecDepth 100000 in
set_option maxHeartbeats 4000000 in
theorem same_any (A B : Option Addr) (n c m d : Nat) (xs ys : List Int) (w : World) (ha : Rd w 1 A n (ints xs)) (hb : Rd w 1 B m (ints ys)) (hn : n ≤ maxLen) (hm : m ≤ maxLen) :
    Calls Try.prog 33 #[.slice A n c, .slice B m d] w fun e w' => e = .returned (.bool (decide (xs = ys))) ∧ Ext w w' := by
  have la := ha.len
  have lb := hb.len
  rw [ints_len] at la lb
  unfold maxLen at hn hm
  by_cases hnm : n = m
  rotate_left
  · have hI : ((n : Int) != (m : Int)) = true := by simp; omega
    have HD := hide (show decide (xs = ys) = false by
      simp only [decide_eq_false_iff_not]
      rintro rfl
      omega)
    generalize decide (xs = ys) = r at *
    clear la lb
    go_enter Try.func33, Try.ntmps33
    go_wp2_with fail
    go_ret
    exact ⟨ret1b (unhide HD).symm, Ext.refl _⟩
  subst hnm
  have LA := hide la
  have LB := hide lb
  clear la lb hm
  have hI : ((n : Int) != (n : Int)) = false := by simp
  go_enter Try.func33, Try.ntmps33
  go_wp2_with fail
  go_loopw [5] (fun i wr => ∃ k : Nat, i = .int .i64 k ∧ k ≤ n ∧ Hid (xs.take k = ys.take k) ∧ Ext w wr ∧ Rd wr 1 A n (ints xs) ∧ Rd wr 1 B n (ints ys)) (fun i _ => n - (intOf i).toNat)
  case atStart => exact ⟨0, rfl, by omega, hide rfl, Ext.refl _, ha, hb⟩
  case round =>
    clear ha hb
    obtain ⟨k, rfl, q1, HT, E1, RA, RB⟩ := hrel
    by_cases hk : k < n
    · obtain ⟨b1, o1, u1, rfl, hb1, hu1, hc1⟩ := RA.get hk
      obtain ⟨b2, o2, u2, rfl, hb2, hu2, hc2⟩ := RB.get hk
      have hka : k < xs.length := by have := unhide LA; omega
      have hkb : k < ys.length := by have := unhide LB; omega
      rw [ints_get hka] at hu1
      rw [ints_get hkb] at hu2
      have e1 := Option.some.inj hu1
      have e2 := Option.some.inj hu2
      subst e1 e2
      have hin : (0 : Int) ≤ (k : Int) ∧ (k : Int) < (n : Int) := by omega
      by_cases hxy : xs[k] = ys[k]
      · have HY := hide (show xs.take (k + 1) = ys.take (k + 1) by rw [List.take_succ_eq_append_getElem hka, List.take_succ_eq_append_getElem hkb, unhide HT, hxy])
        rw [hxy] at hc1
        generalize ys[k] = y at *
        clear hu1 hu2 hxy HT
        go_wp2_with fail
        go_quiet (fail)
        go_wp2_with fail
        go_roundw
        case rel => exact ⟨k + 1, by go_num, by omega, HY, E1.drewN _, RA.drewN _, RB.drewN _⟩
        case measure => simp [intOf]; omega
      · have HN := hide (show decide (xs = ys) = false by
          simp only [decide_eq_false_iff_not]
          rintro rfl
          exact hxy rfl)
        have hxb : (xs[k] != ys[k]) = true := by simpa using hxy
        generalize xs[k] = x at *
        generalize ys[k] = y at *
        clear hu1 hu2 hxy HT
        go_wp2_with fail
        go_quiet (fail)
        go_wp2_with fail
        go_ret
        exact ⟨ret1b (unhide HN).symm, E1.drewN _⟩
    · have HY := hide (show decide (xs = ys) = true by
        have h1 := unhide HT
        rw [List.take_of_length_le (by have := unhide LA; omega), List.take_of_length_le (by have := unhide LB; omega)] at h1
        simpa using h1)
      clear HT
      go_wp2_with fail
      go_ret
      exact ⟨ret1b (unhide HY).symm, E1⟩

/-- the roots among the first k nodes -/
def rootsN (ns : List Nd) (k : Nat) : List Int := ((List.range k).filter (rootN ns ·)).map (fun i : Nat => (i : Int))
theorem rootsN_succ (ns : List Nd) (k : Nat) : rootsN ns (k + 1) = if rootN ns k = true then rootsN ns k ++ [(k : Int)] else rootsN ns k := by
  unfold rootsN
  rw [List.range_succ, List.filter_append, List.map_append]
  by_cases h : rootN ns k = true
  · simp [h]
  · simp [h]
theorem rootsN_len (ns : List Nd) (k : Nat) : (rootsN ns k).length ≤ k := by
  unfold rootsN
  rw [List.length_map]
  have := List.length_filter_le (rootN ns ·) (List.range k)
  simpa using this
/-- a call hands back numbers, in memory of its own -/
def IntsNew (w : World) (l : List Int) (e : Ending) (w' : World) : Prop := ∃ A c, e = .returned (.slice A l.length c) ∧ Rd w' 1 A l.length (ints l) ∧ Ext w w' ∧ ∀ b off, A = some ⟨b, off, none⟩ → w.heap.size ≤ b
theorem IntsNew.out {w w' : World} {l : List Int} {e : Ending} (h : IntsNew w l e w') : IntsOut w l e w' := by
  obtain ⟨A, c, h1, h2, h3, _⟩ := h
  exact ⟨A, c, h1, h2, h3⟩
theorem own_fresh {w : World} {B E n c : Nat} {A : Option Addr} {xs : List Value} (h : w.ownsRow B E 1 (.slice A n c) n xs) : ∀ b off, A = some ⟨b, off, none⟩ → B ≤ b := by
  intro b off ha
  subst ha
  exact (h.lt b rfl).1
theorem own_none (w : World) (B e : Nat) : w.ownsRow B e 1 (.slice none 0 0) 0 [] := ⟨by simp, .inl ⟨rfl, rfl⟩⟩

section
variable (t : Tr) (ns : List Nd)
set_option maxRecDepth 100000 in
set_option maxHeartbeats 4000000 in
theorem roots_new (w : World) (h : Rd w 44 t.na t.nl (nds ns)) (hm : t.nl ≤ 1000000) :
    Calls Try.prog 34 #[.agg t.cs] w (IntsNew w (rootsN ns ns.length)) := by
  have hl := h.nlen
  have hm' : t.nl ≤ maxLen := by unfold maxLen; omega
  obtain ⟨i0, hi0, hz0, hz1, hz2⟩ := info_parts int_info
  have HI := hide (And.intro hi0 (And.intro hz0 (And.intro hz1 hz2)))
  have HL := hide hl
  clear hi0 hz0 hz1 hz2 hl
  go_enter Try.func34, Try.ntmps34
  go_wp2_with fail
  have BT : Blk (w.alloc (.cells t.cs 25)) w.heap.size 25 t.cs := Blk.new _ _ _
  have E0 : Ext w (w.alloc (.cells t.cs 25)) := (Ext.refl _).alloc _
  generalize w.alloc (.cells t.cs 25) = w0 at *
  go_loopw [3, 4, 8] (fun v j i wr => ∃ (k : Nat) (A : Option Addr) (c : Nat) (l : List Int), i = .int .i64 k ∧ v = .slice A l.length c ∧ k ≤ t.nl ∧ Hid (rootsN ns k = l) ∧ Ext w wr ∧ Blk wr w.heap.size 25 t.cs ∧ wr.ownsRow (w.heap.size + 1) 3 1 (.slice A l.length c) l.length (ints l)) (fun _ _ i _ => t.nl - (intOf i).toNat)
  case atStart => exact ⟨0, none, 0, [], rfl, rfl, by omega, hide rfl, E0, BT, own_none _ _ _⟩
  case round =>
    clear E0 BT
    obtain ⟨k, A, c, l, rfl, rfl, q1, HR, E1, BT, O1⟩ := hrel
    have c1 := BT.cell
    have l1 := BT.lt
    have hll : l.length ≤ k := by rw [← unhide HR]; exact rootsN_len ns k
    by_cases hk : k < t.nl
    · have cu := fun w h => hide (root_in t ns k (by have := unhide HL; omega) w h hm')
      have HS := hide (rootsN_succ ns k)
      generalize rootN ns k = r at *
      cases r
      · go_wp2_with fail
        refine (unhide (cu _ (h.ext E1))).mono ?_
        rintro e w2 ⟨rfl, hx⟩
        have E2 := E1.trans hx
        have BT2 := BT.ext hx
        have O2 := own_extI O1 hx
        go_wp2_with fail
        go_roundw
        case rel => exact ⟨k + 1, A, c, l, by go_num, rfl, by omega, hide ((unhide HS).trans (by simp [unhide HR])), E2, BT2, O2⟩
        case measure => simp [intOf]; omega
      · go_wp2_with fail
        refine (unhide (cu _ (h.ext E1))).mono ?_
        rintro e w2 ⟨rfl, hx⟩
        have E2 := E1.trans hx
        have BT2 := BT.ext hx
        have O2 := own_extI O1 hx
        have l2 := BT2.lt
        clear hx c1 l1 E1 BT O1
        go_wp2_with (first
          | (at_builtin
             refine wpList_append_rd rfl (.tmp 14) (.tmp 16) _ rfl (w.heap.size + 1) 3 i0 _ 1 8 Try.underlying36 (unhide HI).1 (unhide HI).2.1 (unhide HI).2.2.1 (unhide HI).2.2.2 rfl (by omega) _ l.length (ints l) rfl (own_extI O2 ((Ext.refl _).alloc _)) _ 1 1 [.int .i64 (k : Int)] rfl (Rd.one _ _) (by simp [Value.oneCell']) (by simp only [maxLen]; omega) (by omega) (by simp; omega) ?_
             intro A4 c4 w4 own4 g4 at4
             have E4 := (E2.alloc (.cells #[.int .i64 (k : Int)] 3)).grown g4 (fun j e => by have := (O2.lt j e).1; omega)
             have BT4 := (BT2.alloc (.cells #[.int .i64 (k : Int)] 3)).grown g4 (fun e => by have := (O2.lt _ e).1; omega)))
        go_roundw
        case rel => exact ⟨k + 1, A4, c4, l ++ [(k : Int)], by go_num, by simp, by omega, hide ((unhide HS).trans (by simp [unhide HR])), E4, BT4, by simpa [ints_append, ints] using own4⟩
        case measure => simp [intOf]; omega
    · have hkl : k = ns.length := by have := unhide HL; omega
      have HR2 := hide (show rootsN ns ns.length = l by rw [← hkl]; exact unhide HR)
      generalize rootsN ns ns.length = L at *
      clear hkl
      go_wp2_with fail
      go_ret
      obtain rfl := unhide HR2
      exact ⟨A, c, rfl, Rd.of_own O1, E1, fun b off e => by have := own_fresh O1 b off e; omega⟩
set_option maxRecDepth 100000 in
set_option maxHeartbeats 4000000 in
theorem refroots_new (w : World) (h : Rd w 44 t.na t.nl (nds ns)) (hm : t.nl ≤ 1000000) :
    Calls Try.prog 35 #[.agg t.cs] w (IntsNew w (rootsN ns ns.length)) := by
  have hl := h.nlen
  have hm' : t.nl ≤ maxLen := by unfold maxLen; omega
  obtain ⟨i0, hi0, hz0, hz1, hz2⟩ := info_parts int_info
  have HI := hide (And.intro hi0 (And.intro hz0 (And.intro hz1 hz2)))
  have HL := hide hl
  clear hi0 hz0 hz1 hz2 hl
  go_enter Try.func35, Try.ntmps35
  go_wp2_with fail
  have BT : Blk (w.alloc (.cells t.cs 25)) w.heap.size 25 t.cs := Blk.new _ _ _
  have E0 : Ext w (w.alloc (.cells t.cs 25)) := (Ext.refl _).alloc _
  generalize w.alloc (.cells t.cs 25) = w0 at *
  go_loopw [3, 4] (fun v i wr => ∃ (k : Nat) (A : Option Addr) (c : Nat) (l : List Int), i = .int .i64 k ∧ v = .slice A l.length c ∧ k ≤ t.nl ∧ Hid (rootsN ns k = l) ∧ Ext w wr ∧ Blk wr w.heap.size 25 t.cs ∧ wr.ownsRow (w.heap.size + 1) 3 1 (.slice A l.length c) l.length (ints l)) (fun _ i _ => t.nl - (intOf i).toNat)
  case atStart => exact ⟨0, none, 0, [], rfl, rfl, by omega, hide rfl, E0, BT, own_none _ _ _⟩
  case round =>
    clear E0 BT
    obtain ⟨k, A, c, l, rfl, rfl, q1, HR, E1, BT, O1⟩ := hrel
    have c1 := BT.cell
    have l1 := BT.lt
    have hll : l.length ≤ k := by rw [← unhide HR]; exact rootsN_len ns k
    by_cases hk : k < t.nl
    · have cu := fun w h => hide (refroot_in t ns k (by have := unhide HL; omega) w h hm')
      have HS := hide (rootsN_succ ns k)
      generalize rootN ns k = r at *
      cases r
      · go_wp2_with fail
        refine (unhide (cu _ (h.ext E1))).mono ?_
        rintro e w2 ⟨rfl, hx⟩
        have E2 := E1.trans hx
        have BT2 := BT.ext hx
        have O2 := own_extI O1 hx
        go_wp2_with fail
        go_roundw
        case rel => exact ⟨k + 1, A, c, l, by go_num, rfl, by omega, hide ((unhide HS).trans (by simp [unhide HR])), E2, BT2, O2⟩
        case measure => simp [intOf]; omega
      · go_wp2_with fail
        refine (unhide (cu _ (h.ext E1))).mono ?_
        rintro e w2 ⟨rfl, hx⟩
        have E2 := E1.trans hx
        have BT2 := BT.ext hx
        have O2 := own_extI O1 hx
        have l2 := BT2.lt
        clear hx c1 l1 E1 BT O1
        go_wp2_with (first
          | (at_builtin
             refine wpList_append_rd rfl (.tmp 15) (.tmp 17) _ rfl (w.heap.size + 1) 3 i0 _ 1 8 Try.underlying36 (unhide HI).1 (unhide HI).2.1 (unhide HI).2.2.1 (unhide HI).2.2.2 rfl (by omega) _ l.length (ints l) rfl (own_extI O2 ((Ext.refl _).alloc _)) _ 1 1 [.int .i64 (k : Int)] rfl (Rd.one _ _) (by simp [Value.oneCell']) (by simp only [maxLen]; omega) (by omega) (by simp; omega) ?_
             intro A4 c4 w4 own4 g4 at4
             have E4 := (E2.alloc (.cells #[.int .i64 (k : Int)] 3)).grown g4 (fun j e => by have := (O2.lt j e).1; omega)
             have BT4 := (BT2.alloc (.cells #[.int .i64 (k : Int)] 3)).grown g4 (fun e => by have := (O2.lt _ e).1; omega)))
        go_roundw
        case rel => exact ⟨k + 1, A4, c4, l ++ [(k : Int)], by go_num, by simp, by omega, hide ((unhide HS).trans (by simp [unhide HR])), E4, BT4, by simpa [ints_append, ints] using own4⟩
        case measure => simp [intOf]; omega
    · have hkl : k = ns.length := by have := unhide HL; omega
      have HR2 := hide (show rootsN ns ns.length = l by rw [← hkl]; exact unhide HR)
      generalize rootsN ns ns.length = L at *
      clear hkl
      go_wp2_with fail
      go_ret
      obtain rfl := unhide HR2
      exact ⟨A, c, rfl, Rd.of_own O1, E1, fun b off e => by have := own_fresh O1 b off e; omega⟩
theorem roots_any (w : World) (h : Rd w 44 t.na t.nl (nds ns)) (hm : t.nl ≤ 1000000) :
    Calls Try.prog 34 #[.agg t.cs] w (IntsOut w (rootsN ns ns.length)) := (roots_new t ns w h hm).mono fun _ _ h => h.out
theorem refroots_any (w : World) (h : Rd w 44 t.na t.nl (nds ns)) (hm : t.nl ≤ 1000000) :
    Calls Try.prog 35 #[.agg t.cs] w (IntsOut w (rootsN ns ns.length)) := (refroots_new t ns w h hm).mono fun _ _ h => h.out
end
end Go.Proofs.Ytnolbmfjgfojhaa
