/- Styles: a length put in place of another (plain laws). -/
import Derived.Test.YtahneblnbafpoaaStL
import Derived.Deep.MidRow
namespace Go.Proofs.Ytahneblnbafpoaa
open Go.RowKit
/-- the length number k, put in place -/
def setL (s : Sty) (k : Nat) (l : Ln) : Sty :=
  match k with
  | 0 => { s with w := l }
  | 1 => { s with h := l }
  | 2 => { s with minw := l }
  | 3 => { s with maxw := l }
  | 4 => { s with minh := l }
  | 5 => { s with maxh := l }
  | 6 => { s with basis := l }
  | 7 => { s with m0 := l }
  | 8 => { s with m1 := l }
  | 9 => { s with m2 := l }
  | _ => { s with m3 := l }
theorem setL_ul (s : Sty) (k : Nat) (l : Ln) : (setL s k l).ul = s.ul := by unfold setL; split <;> rfl
section
variable {w w0 : World} {g : Nat} {s : Sty} {k : Nat}
theorem setL_blk (B : Blk w g 28 s.cells) (hk : k < 11) (l : Ln) : Blk (w.setCells g (lensO k) [.int .u8 l.k, .int .i64 l.n]) g 28 (setL s k l).cells := by
  have h := (B.set_ (lensO k) (.int .u8 l.k)).set_ (lensO k + 1) (.int .i64 l.n)
  rcases nat11 hk with rfl | rfl | rfl | rfl | rfl | rfl | rfl | rfl | rfl | rfl | rfl <;> exact h
theorem setL_there (B : Blk w g 28 s.cells) (hk : k < 11) : w.there g (lensO k) 2 := by
  intro j hj
  refine ⟨?_, B.frozen _⟩
  rw [B.cell]
  rcases nat11 hk with rfl | rfl | rfl | rfl | rfl | rfl | rfl | rfl | rfl | rfl | rfl <;> (rcases (by omega : j = 0 ∨ j = 1) with rfl | rfl <;> rfl)
theorem setL_ext (E : Ext w0 w) (hg : w0.heap.size ≤ g) (i : Nat) (a b : Value) : Ext w0 (w.setCells g i [a, b]) := (E.set (p := ⟨g, i, none⟩) hg a).set (p := ⟨g, i + 1, none⟩) hg b
end
theorem may_auto (b : Bool) : mayV ⟨0, 0⟩ b = true := by simp [mayV]
theorem may_kind {m : Int} (h : 3 ≤ m) (n : Int) (b : Bool) : mayV ⟨m, n⟩ b = false := by
  rw [mayV, if_neg (by simp only; omega), if_neg (by simp only; omega), if_neg (by simp only; omega)]
theorem may_px {n : Int} {b : Bool} (h : mayV ⟨1, n⟩ b = true) : -1099511627776 ≤ n ∧ n ≤ 1099511627776 ∧ (b = false → 0 ≤ n) := by
  cases b <;> simp [mayV] at h <;> simp <;> omega
theorem zl_auto : zlOk ⟨0, 0⟩ = true := rfl
theorem zl_kind {m : Int} (h : 1 ≤ m) (n : Int) : zlOk ⟨m, n⟩ = false := by
  have : ¬ m = 0 := by omega
  simp [zlOk, this]
set_option maxHeartbeats 4000000 in
theorem right_auto {s : Sty} {k : Nat} (hk : k < 11) (h : rightV s = true) : rightV (setL s k ⟨0, 0⟩) = true := by
  rw [rightV] at h ⊢
  split at h
  · rename_i hc
    simp only [boxV, mgV_all, wdV_all, hgV_all, zbV_all, zlV_all, mgOk, hgOk, zbOk, mgL, hgL, bdN, pdN, Bool.and_eq_true] at h
    rcases nat11 hk with rfl | rfl | rfl | rfl | rfl | rfl | rfl | rfl | rfl | rfl | rfl <;> (rw [if_pos (by exact hc)]; simp only [boxV, mgV_all, wdV_all, hgV_all, zbV_all, zlV_all, mgOk, hgOk, zbOk, mgL, hgL, bdN, pdN, setL, flagsV, may_auto, Bool.and_eq_true] at h ⊢; simp_all)
  · split at h
    · rename_i hc0 hc
      simp only [emptyV, mgV_all, wdV_all, hgV_all, zbV_all, zlV_all, mgOk, hgOk, zbOk, mgL, hgL, bdN, pdN, Bool.and_eq_true] at h
      rcases nat11 hk with rfl | rfl | rfl | rfl | rfl | rfl | rfl | rfl | rfl | rfl | rfl <;> (rw [if_neg (by exact hc0), if_pos (by exact hc)]; simp only [emptyV, mgV_all, wdV_all, hgV_all, zbV_all, zlV_all, mgOk, hgOk, zbOk, mgL, hgL, bdN, pdN, setL, flags0, zl_auto, Bool.and_eq_true] at h ⊢; simp_all)
    · cases h
set_option maxHeartbeats 4000000 in
theorem right_kind {s : Sty} {k : Nat} (hk : k < 11) {m : Int} (hm : 3 ≤ m) : rightV (setL s k ⟨m, 0⟩) = false := by
  rw [rightV]
  split
  · rcases nat11 hk with rfl | rfl | rfl | rfl | rfl | rfl | rfl | rfl | rfl | rfl | rfl <;> (simp only [boxV, mgV_all, wdV_all, hgV_all, zbV_all, zlV_all, mgOk, hgOk, zbOk, mgL, hgL, bdN, pdN, setL, may_kind hm]; simp)
  · split
    · rcases nat11 hk with rfl | rfl | rfl | rfl | rfl | rfl | rfl | rfl | rfl | rfl | rfl <;> (simp only [emptyV, mgV_all, wdV_all, hgV_all, zbV_all, zlV_all, mgOk, hgOk, zbOk, mgL, hgL, bdN, pdN, setL, zl_kind (by omega : 1 ≤ m)]; simp)
    · rfl
set_option maxHeartbeats 4000000 in
theorem right_px {s : Sty} {k : Nat} (hk : k < 11) {n : Int} (h : rightV (setL s k ⟨1, n⟩) = true) : -1099511627776 ≤ n ∧ n ≤ 1099511627776 ∧ (0 ≤ n ∨ 6 < k) := by
  rw [rightV] at h
  split at h
  · rcases nat11 hk with rfl | rfl | rfl | rfl | rfl | rfl | rfl | rfl | rfl | rfl | rfl <;> (
      simp only [boxV, mgV_all, wdV_all, hgV_all, zbV_all, zlV_all, mgOk, hgOk, zbOk, mgL, hgL, bdN, pdN, setL, wdL, Bool.and_eq_true] at h
      first
        | (have hp := may_px (n := n) (b := true) (by simp_all)
           exact ⟨hp.1, hp.2.1, .inr (by omega)⟩)
        | (have hp := may_px (n := n) (b := false) (by simp_all)
           exact ⟨hp.1, hp.2.1, .inl (hp.2.2 rfl)⟩))
  · split at h
    · rcases nat11 hk with rfl | rfl | rfl | rfl | rfl | rfl | rfl | rfl | rfl | rfl | rfl <;> (simp only [emptyV, mgV_all, wdV_all, hgV_all, zbV_all, zlV_all, mgOk, hgOk, zbOk, mgL, hgL, bdN, pdN, setL, zl_kind (by omega : (1 : Int) ≤ 1)] at h; simp at h)
    · cases h
end Go.Proofs.Ytahneblnbafpoaa
