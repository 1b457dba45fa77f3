/- Styles, the document's: lengths that may be (walk). -/
import Derived.Test.YtnolbmfjgfojhaaStyO
namespace Go.Proofs.Ytnolbmfjgfojhaa
open Go.RowKit
/-- may a length be, below 0 too? -/
def mayV (l : Ln) (b : Bool) : Bool :=
  if l.k = 0 then decide (l.n = 0) else if l.k = 1 then decide (l.n ≤ 1099511627776 ∧ (if b then -1099511627776 else 0) ≤ l.n) else if l.k = 2 then decide (l.n ≤ 100000 ∧ (if b then -100000 else 0) ≤ l.n) else false
set_option maxHeartbeats 1000000 in
theorem rmay_any (l : Ln) (b : Bool) (w : World) : Calls Try.prog 101 #[l.v, .bool b] w fun e w' => e = .returned (.bool (mayV l b)) ∧ Ext w w' := by
  obtain ⟨k, n⟩ := l
  by_cases k0 : k = 0
  · subst k0
    cases b
    all_goals
      go_enter Try.func101, Try.ntmps101
      go_wp2
      go_ret
      exact ⟨ret1b (by rw [Bool.eq_iff_iff]; simp [mayV]), (Ext.refl _).alloc _⟩
  have k0b : (k == 0) = false := by simpa using k0
  by_cases k1 : k = 1
  · subst k1
    cases b
    all_goals
      go_enter Try.func101, Try.ntmps101
      go_wp2
      all_goals go_ret
      all_goals exact ⟨ret1b (by rw [Bool.eq_iff_iff]; simp [mayV]; omega), (Ext.refl _).alloc _⟩
  have k1b : (k == 1) = false := by simpa using k1
  by_cases k2 : k = 2
  · subst k2
    cases b
    all_goals
      go_enter Try.func101, Try.ntmps101
      go_wp2
      all_goals go_ret
      all_goals exact ⟨ret1b (by rw [Bool.eq_iff_iff]; simp [mayV]; omega), (Ext.refl _).alloc _⟩
  have k2b : (k == 2) = false := by simpa using k2
  cases b
  all_goals
    go_enter Try.func101, Try.ntmps101
    go_wp2
    go_ret
    exact ⟨ret1b (by simp [mayV, k0, k1, k2]), (Ext.refl _).alloc _⟩
end Go.Proofs.Ytnolbmfjgfojhaa
