/- Layer 1: the law on orders (walk). -/
import Derived.Test.YtfjpjipnbjkmbaaAuC
import Derived.Test.YtfjpjipnbjkmbaaAp
import Derived.Test.YtfjpjipnbjkmbaaLaw
namespace Go.Proofs.Ytfjpjipnbjkmbaa
open Go.RowKit

theorem i64_info : (Try.prog.info? 2).map (fun i => (i.zero, i.size, i.bytes)) = some (some (.int .i64 0), 1, 8) := by kernel_rfl
theorem one_ints (zs : List Int) : ∀ u ∈ ints zs, u.oneCell' = true := by
  intro u hu
  obtain ⟨z, _, rfl⟩ := List.mem_map.1 hu
  rfl
theorem ints_append (a b : List Int) : ints (a ++ b) = ints a ++ ints b := by simp [ints]
theorem ints_len (a : List Int) : (ints a).length = a.length := by simp [ints]
theorem lsum_reverse (l : List Int) : lsum l.reverse = lsum l := by
  induction l with
  | nil => rfl
  | cons x r ih => rw [List.reverse_cons, lsum_append, ih]; simp [lsum]; omega
theorem I64s.append {a b : List Int} (h : I64s a) (k : I64s b) : I64s (a ++ b) := fun z hz => (List.mem_append.1 hz).elim (h z) (k z)
theorem I64s.reverse {a : List Int} (h : I64s a) : I64s a.reverse := fun z hz => h z (List.mem_reverse.1 hz)

/-- what the loop that turns a list round has come to -/
structure TurnRel (wa : World) (v : Value) (all : List Int) (N j : Nat) (wr : World) : Prop where
  (ext : Ext wa wr) (own : wr.ownsRow wa.heap.size 2 1 v (N - j) (ints (all.drop j).reverse))

set_option maxRecDepth 100000 in
set_option maxHeartbeats 4000000 in
theorem law_orders (A B : Option Addr) (n c k d : Nat) (zs ys : List Int) (w : World) (hz : Rd w 1 A n (ints zs)) (hy : Rd w 1 B k (ints ys)) (iz : I64s zs) (iy : I64s ys) (hn : n ≤ 4611686018427387000) (hk : k ≤ 4611686018427387000) :
    Calls Try.prog 7 #[.slice A n c, .slice B k d] w fun e w' => e = .returned (.bool true) ∧ Ext w w' := by
  obtain ⟨i0, hi0, hz0, hz1, hz2⟩ := info_parts i64_info
  have lz : zs.length = n := by have := hz.len; simpa [ints] using this
  have ly : ys.length = k := by have := hy.len; simpa [ints] using this
  by_cases hb : 300 < n + k
  · have hb' : (300 : Int) < (n : Int) + (k : Int) := by omega
    have HI := hide (And.intro lz ly)
    clear lz ly hi0 hz0 hz1 hz2
    go_enter Try.func7, Try.ntmps7
    go_wp2_with (first
      | (go_at_call 15; ((with_reducible refine (works_any _).mono ?_); rintro e w' ⟨rfl, hb⟩)))
    go_ret
    exact ⟨rfl, hb⟩
  · have hb' : (n : Int) + (k : Int) ≤ 300 := by omega
    have HI := hide (And.intro lz (And.intro ly (And.intro hi0 (And.intro hz0 (And.intro hz1 hz2)))))
    obtain ⟨N, hN⟩ : ∃ N, n + k = N := ⟨_, rfl⟩
    have HN := hide hN
    have hN1 : N ≤ 300 := by omega
    have EN : (n : Int) + (k : Int) = (N : Int) := by omega
    clear lz ly hi0 hz0 hz1 hz2 hN hb
    go_enter Try.func7, Try.ntmps7
    go_wp2_with (first
      | (at_builtin
         refine wpList_append_rd rfl (.tmp 25) (.tmp 26) _ rfl w.heap.size 2 i0 _ 1 8 Try.underlying32 (unhide HI).2.2.1 (unhide HI).2.2.2.1 (unhide HI).2.2.2.2.1 (unhide HI).2.2.2.2.2 rfl (by omega) _ 0 [] rfl (World.ownsRow_made w _ 0 (Nat.le_refl _) (by simp [maxLen]) rfl) A n c (ints zs) rfl (hz.alloc _) (one_ints zs) (by simp only [maxLen]; omega) (by omega) (by simp) ?_
         intro A1 c1 w1 own1 g1 at1
         simp only [Nat.zero_add, List.nil_append] at own1 at1
         have E1 : Ext w w1 := Ext.own ((Ext.refl w).alloc _) (World.ownsRow_made (e := 2) (size := 1) w #[] 0 (Nat.le_refl _) (by simp [maxLen]) rfl) g1)
      | (at_builtin
         go_loud (refine wpList_append_rd rfl (.tmp 27) (.tmp 28) _ rfl w.heap.size 2 i0 _ 1 8 Try.underlying32 (unhide HI).2.2.1 (unhide HI).2.2.2.1 (unhide HI).2.2.2.2.1 (unhide HI).2.2.2.2.2 rfl (by omega) _ n (ints zs) rfl own1 B k d (ints ys) rfl (hy.ext E1) (one_ints ys) (by simp only [maxLen]; omega) (by omega) E1.size ?_)
         intro A2 c2 w2 own2 g2 at2))
    have E2 : Ext w w2 := Ext.own E1 own1 g2
    have R2 : Rd w2 1 A2 (n + k) (ints (zs ++ ys)) := by rw [ints_append]; exact Rd.of_own own2
    obtain ⟨all, hall⟩ : ∃ all, zs ++ ys = all := ⟨_, rfl⟩
    rw [hall] at R2
    have Hall := hide hall
    have iall : I64s all := hall ▸ iz.append iy
    have hsum := lsum_append zs ys
    rw [hall] at hsum
    have Hsum := hide hsum
    have lall : all.length = N := by have := R2.len; rw [ints_len] at this; have := unhide HN; omega
    have Lall := hide lall
    clear hall hsum lall own1 own2 g1 g2 at1 at2
    go_loopw [5, 7] (fun v i wr => ∃ j, j ≤ N ∧ ((j = 0 ∧ i = .int .i64 (-1)) ∨ ∃ q : Nat, j = q + 1 ∧ i = .int .i64 q) ∧ (∃ A3 c3, v = .slice A3 (N - j) c3) ∧ TurnRel w2 v all N j wr) (fun _ i _ => (intOf i + 1).toNat)
    case atStart =>
      refine ⟨N, Nat.le_refl _, ?_, ⟨none, 0, by simp⟩, Ext.refl _, ?_⟩
      · cases N with
        | zero => exact .inl ⟨rfl, rfl⟩
        | succ q => exact .inr ⟨q, rfl, by go_num⟩
      · rw [Nat.sub_self, List.drop_eq_nil_of_le (by rw [unhide Lall]; omega)]
        exact World.ownsRow_nil _ _ _ _
    case round =>
      obtain ⟨j, hj, hi, ⟨A3, c3, rfl⟩, hE, hO⟩ := hrel
      rcases hi with ⟨rfl, rfl⟩ | ⟨q, rfl, rfl⟩
      · -- behind the loop
        rw [Nat.sub_zero, List.drop_zero] at hO
        have cAll := fun w' (h : Ext wr w') => au_sum A2 (n + k) c2 all w' (R2.ext (hE.trans h)) iall (by omega)
        have cBack := fun w' (h : Ext wr w') => au_sum A3 N c3 all.reverse w' ((Rd.of_own hO).ext h) iall.reverse (by omega)
        have cL := fun w' (h : Ext wr w') => au_sum A n c zs w' (hz.ext ((E2.trans hE).trans h)) iz hn
        have cM := fun w' (h : Ext wr w') => au_sum B k d ys w' (hy.ext ((E2.trans hE).trans h)) iy hk
        rw [lsum_reverse] at cBack
        have cAB := fun (w' : World) (g : Nat) (h : Blk w' g 2 #[.int .i64 (cutV (lsum zs)), .int .i64 (cutV (lsum ys))]) => au_sum (some ⟨g, 0, none⟩) 2 2 [cutV (lsum zs), cutV (lsum ys)] w' (Rd.of_blk h) (by intro z hz; simp at hz; rcases hz with rfl | rfl <;> unfold cutV <;> split <;> (try split) <;> omega) (by omega)
        have hs := unhide Hsum
        have ES : cutB (lsum zs) = false → cutB (lsum ys) = false → lsum [cutV (lsum zs), cutV (lsum ys)] = lsum all := by
          intro h1 h2
          rw [hs]
          simp only [cutB, Bool.or_eq_false_iff, decide_eq_false_iff_not] at h1 h2
          simp only [lsum, cutV]
          rw [if_neg h1.1, if_neg h1.2, if_neg h2.1, if_neg h2.2]; omega
        clear hs
        have EW : Ext w wr := E2.trans hE
        generalize lsum [cutV (lsum zs), cutV (lsum ys)] = S2 at *
        generalize lsum all = S at *
        generalize lsum zs = X at *
        generalize lsum ys = Y at *
        cases h1 : cutB X <;> cases h2 : cutB Y
        · have hS := ES h1 h2
          subst hS
          rw [h1] at cL
          rw [h2] at cM
          have HC := fun w' g h => hide (cAB w' g h)
          clear ES h1 h2 cAB
          go_wp2_with fail
          with_reducible refine (cAll _ (Ext.refl _)).mono ?_
          rintro e w3 ⟨rfl, hb3⟩
          have R3 : Ext wr w3 := hb3
          go_wp2_with fail
          with_reducible refine (cBack _ R3).mono ?_
          rintro e w4 ⟨rfl, hb4⟩
          have R4 : Ext wr w4 := R3.trans hb4
          go_wp2_with fail
          with_reducible refine (cL _ R4).mono ?_
          rintro e w5 ⟨rfl, hb5⟩
          have R5 : Ext wr w5 := R4.trans hb5
          go_wp2_with fail
          with_reducible refine (cM _ R5).mono ?_
          rintro e w6 ⟨rfl, hb6⟩
          have R6 : Ext wr w6 := R5.trans hb6
          go_wp2_with fail
          refine (unhide (HC _ _ (Blk.new _ _ _))).mono ?_
          rintro e w7 ⟨rfl, hb7⟩
          have R7 : Ext wr w7 := (R6.alloc _).trans hb7
          go_wp2_with fail
          with_reducible refine (works_any _).mono ?_
          rintro e w8 ⟨rfl, hb8⟩
          go_wp2_with fail
          go_ret
          exact ⟨rfl, EW.trans (R7.trans hb8)⟩
        all_goals
          rw [h1] at cL
          rw [h2] at cM
          clear ES h1 h2 cAB
          go_wp2_with fail
          with_reducible refine (cAll _ (Ext.refl _)).mono ?_
          rintro e w3 ⟨rfl, hb3⟩
          have R3 : Ext wr w3 := hb3
          go_wp2_with fail
          with_reducible refine (cBack _ R3).mono ?_
          rintro e w4 ⟨rfl, hb4⟩
          have R4 : Ext wr w4 := R3.trans hb4
          go_wp2_with fail
          with_reducible refine (cL _ R4).mono ?_
          rintro e w5 ⟨rfl, hb5⟩
          have R5 : Ext wr w5 := R4.trans hb5
          go_wp2_with fail
          with_reducible refine (cM _ R5).mono ?_
          rintro e w6 ⟨rfl, hb6⟩
          have R6 : Ext wr w6 := R5.trans hb6
          go_wp2_with fail
          with_reducible refine (works_any _).mono ?_
          rintro e w8 ⟨rfl, hb8⟩
          go_wp2_with fail
          go_ret
          exact ⟨rfl, EW.trans (R6.trans hb8)⟩
      · have hNk : n + k = N := unhide HN
        obtain ⟨b, off, u, hA, hbl, hu, hcell0⟩ := R2.get (i := q) (by omega)
        subst hA
        have hcell := (hE.cells.1 b (off + q) hbl).trans hcell0
        obtain ⟨z, hz1, rfl⟩ : ∃ z, all[q]? = some z ∧ u = .int .i64 z := by
          unfold ints at hu
          rw [List.getElem?_map] at hu
          cases hq : all[q]? with
          | none => simp [hq] at hu
          | some z => exact ⟨z, rfl, by simpa [hq] using hu.symm⟩
        have HZ := hide hz1
        have hqn : (q : Int) < (n : Int) + (k : Int) := by omega
        have hqn2 : q < n + k := by omega
        have hqN : q < N := by omega
        clear hz1 hu hcell0 hNk
        go_wp2_with (first
          | (at_builtin
             refine wpList_append_rd rfl (.tmp 37) (.tmp 42) _ rfl w2.heap.size 2 i0 _ 1 8 Try.underlying32 (unhide HI).2.2.1 (unhide HI).2.2.2.1 (unhide HI).2.2.2.2.1 (unhide HI).2.2.2.2.2 rfl (by omega) _ (N - (q + 1)) (ints (all.drop (q + 1)).reverse) rfl (hO.alloc _) _ 1 1 [.int .i64 z] rfl (Rd.one _ _) (by simp [Value.oneCell']) (by simp only [maxLen]; omega) (by omega) (by have := hE.size; simp; omega) ?_
             intro A4 c4 w4 own4 g4 at4))
        go_roundw
        case rel =>
          have hz1 := unhide HZ
          have hl := unhide Lall
          rw [List.getElem?_eq_getElem (by omega)] at hz1
          injection hz1 with hz1
          have hd : all.drop q = z :: all.drop (q + 1) := by rw [List.drop_eq_getElem_cons (by omega), hz1]
          have hNq : N - (q + 1) + 1 = N - q := by omega
          rw [hNq] at own4 ⊢
          refine ⟨q, by omega, ?_, ⟨A4, c4, rfl⟩, (hE.alloc _).grown g4 (fun g e => (hO.lt g e).1), ?_⟩
          · cases q with
            | zero => exact .inl ⟨rfl, rfl⟩
            | succ p => exact .inr ⟨p, rfl, by go_num⟩
          · rw [hd, List.reverse_cons, ints_append]
            exact own4
        case measure => simp [intOf]
end Go.Proofs.Ytfjpjipnbjkmbaa
