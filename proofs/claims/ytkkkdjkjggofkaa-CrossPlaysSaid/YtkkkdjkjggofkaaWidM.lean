/- Widths: which styles may be; used values (walks). -/
import Derived.Test.YtkkkdjkjggofkaaWid
import Derived.Handy
namespace Go.Proofs.Ytkkkdjkjggofkaa
open Go.RowKit

def lenMayB (l : Ln) (lo lop : Int) : Bool :=
  if l.k = 0 then decide (l.n = 0) else if l.k = 1 then decide (lo ≤ l.n) && decide (l.n ≤ 1099511627776) else if l.k = 2 then decide (lop ≤ l.n) && decide (l.n ≤ 100000) else false

set_option maxHeartbeats 400000 in
theorem lenMay_any (l : Ln) (lo lop : Int) (h : lo = 0 ∧ lop = 0 ∨ lo = -1099511627776 ∧ lop = -100000) (w : World) : Calls Try.prog 17 #[l.v, .int .i64 lo] w fun e w' => e = .returned (.bool (lenMayB l lo lop)) ∧ Ext w w' := by
  obtain ⟨k, n⟩ := l
  by_cases k0 : k = 0
  · subst k0
    go_enter Try.func17, Try.ntmps17
    go_wp2
    go_ret
    exact ⟨ret1b (by rw [Bool.eq_iff_iff]; simp [lenMayB]), (Ext.refl _).alloc _⟩
  · by_cases k1 : k = 1
    · subst k1
      rcases h with ⟨rfl, rfl⟩ | ⟨rfl, rfl⟩
      all_goals
        go_enter Try.func17, Try.ntmps17
        go_wp2
        all_goals go_ret
        all_goals exact ⟨ret1b (by rw [Bool.eq_iff_iff]; simp [lenMayB]; try omega), (Ext.refl _).alloc _⟩
    · by_cases k2 : k = 2
      · subst k2
        rcases h with ⟨rfl, rfl⟩ | ⟨rfl, rfl⟩
        all_goals
          go_enter Try.func17, Try.ntmps17
          go_wp2
          all_goals go_ret
          all_goals exact ⟨ret1b (by rw [Bool.eq_iff_iff]; simp [lenMayB]; try omega), (Ext.refl _).alloc _⟩
      · go_enter Try.func17, Try.ntmps17
        go_wp2
        go_ret
        exact ⟨ret1b (by simp [lenMayB, k0, k1, k2]), (Ext.refl _).alloc _⟩

/-- the four edges of a style that may be -/
structure EdgesOk (s : Sty) : Prop where
  (m0 : lenMayB s.m0 (-1099511627776) (-100000) = true) (m1 : lenMayB s.m1 (-1099511627776) (-100000) = true) (m2 : lenMayB s.m2 (-1099511627776) (-100000) = true) (m3 : lenMayB s.m3 (-1099511627776) (-100000) = true)
  (thin : s.thin)
def edgeB (m : Ln) (b p : Int) : Bool := lenMayB m (-1099511627776) (-100000) && (decide (0 ≤ b) && decide (b ≤ 1099511627776)) && (decide (0 ≤ p) && decide (p ≤ 1099511627776))
def edgesB (s : Sty) : Bool := edgeB s.m0 s.b0 s.p0 && edgeB s.m1 s.b1 s.p1 && edgeB s.m2 s.b2 s.p2 && edgeB s.m3 s.b3 s.p3
def mayB (s : Sty) : Bool := edgesB s && (lenMayB s.w 0 0 && lenMayB s.minw 0 0 && lenMayB s.maxw 0 0)
theorem edgesB_iff (s : Sty) : edgesB s = true ↔ EdgesOk s := by
  constructor
  · intro h
    simp only [edgesB, edgeB, Bool.and_eq_true, decide_eq_true_eq] at h
    obtain ⟨⟨⟨⟨⟨a1, a2⟩, a3⟩, ⟨a4, a5⟩, a6⟩, ⟨a7, a8⟩, a9⟩, ⟨a10, a11⟩, a12⟩ := h
    exact ⟨a1, a4, a7, a10, ⟨a2, a5, a8, a11, a3, a6, a9, a12⟩⟩
  · rintro ⟨a1, a4, a7, a10, ⟨a2, a5, a8, a11, a3, a6, a9, a12⟩⟩
    simp only [edgesB, edgeB, Bool.and_eq_true, decide_eq_true_eq]
    exact ⟨⟨⟨⟨⟨a1, a2⟩, a3⟩, ⟨a4, a5⟩, a6⟩, ⟨a7, a8⟩, a9⟩, ⟨a10, a11⟩, a12⟩
theorem mayB_no {s : Sty} (h : EdgesOk s → False) : false = mayB s := by
  cases hq : edgesB s
  · simp [mayB, hq]
  · exact (h ((edgesB_iff s).1 hq)).elim
theorem mayB_yes {s : Sty} (h : EdgesOk s) : mayB s = (lenMayB s.w 0 0 && lenMayB s.minw 0 0 && lenMayB s.maxw 0 0) := by simp [mayB, (edgesB_iff s).2 h]
theorem may_facts {s : Sty} (h : mayB s = true) : EdgesOk s ∧ lenMayB s.w 0 0 = true ∧ lenMayB s.minw 0 0 = true ∧ lenMayB s.maxw 0 0 = true := by
  simp only [mayB, Bool.and_eq_true] at h
  exact ⟨(edgesB_iff s).1 h.1, h.2.1.1, h.2.1.2, h.2.2⟩

theorem and3_tt {a b c : Bool} (h : a = true) (h' : b = true) : c = (a && b && c) := by rw [h, h']; simp
theorem and3_f1 {a b c : Bool} (h : ¬ a = true) : false = (a && b && c) := by simp at h; rw [h]; simp
theorem and3_f2 {a b c : Bool} (h : ¬ b = true) : false = (a && b && c) := by simp at h; rw [h]; simp

set_option maxHeartbeats 4000000 in
theorem may_any (s : Sty) (w : World) : Calls Try.prog 16 #[.agg s.cells] w fun e w' => e = .returned (.bool (mayB s)) ∧ Ext w w' := by
  go_enter Try.func16, Try.ntmps16
  go_wp2
  refine wp_loop_rounds 5 ?_
  repeat any_goals (rw [rounds_succ]; go_wp2_with (go_at_call 17; ((first | (with_reducible refine (lenMay_any s.m0 _ _ (.inr ⟨rfl, rfl⟩) _).mono ?_) | (with_reducible refine (lenMay_any s.m1 _ _ (.inr ⟨rfl, rfl⟩) _).mono ?_) | (with_reducible refine (lenMay_any s.m2 _ _ (.inr ⟨rfl, rfl⟩) _).mono ?_) | (with_reducible refine (lenMay_any s.m3 _ _ (.inr ⟨rfl, rfl⟩) _).mono ?_) | (with_reducible refine (lenMay_any s.w _ _ (.inl ⟨rfl, rfl⟩) _).mono ?_) | (with_reducible refine (lenMay_any s.minw _ _ (.inl ⟨rfl, rfl⟩) _).mono ?_) | (with_reducible refine (lenMay_any s.maxw _ _ (.inl ⟨rfl, rfl⟩) _).mono ?_)); rintro e w' ⟨rfl, hb⟩; obtain ⟨hcc, hff⟩ := hb.cells; have hz : w.heap.size < w'.heap.size := by (have h9 := hb.size; (try simp only [World.size_alloc] at h9); omega))))
  all_goals go_ret
  all_goals refine ⟨ret1b ?_, ?_⟩
  all_goals first
    | ((repeat (first | exact Ext.refl _ | (with_reducible refine Ext.trans ?_ (by assumption)) | (with_reducible refine Ext.alloc ?_ _))); done)
    | exact mayB_no (fun ⟨g0, g1, g2, g3, ⟨⟨a1, a2⟩, ⟨a3, a4⟩, ⟨a5, a6⟩, ⟨a7, a8⟩, ⟨a9, a10⟩, ⟨a11, a12⟩, ⟨a13, a14⟩, ⟨a15, a16⟩⟩⟩ => by first | contradiction | omega)
    | (rw [mayB_yes ⟨by assumption, by assumption, by assumption, by assumption, ⟨⟨by omega, by omega⟩, ⟨by omega, by omega⟩, ⟨by omega, by omega⟩, ⟨by omega, by omega⟩, ⟨by omega, by omega⟩, ⟨by omega, by omega⟩, ⟨by omega, by omega⟩, ⟨by omega, by omega⟩⟩⟩]; first | exact and3_tt (by assumption) (by assumption) | exact and3_f1 (by assumption) | exact and3_f2 (by assumption))

end Go.Proofs.Ytkkkdjkjggofkaa
