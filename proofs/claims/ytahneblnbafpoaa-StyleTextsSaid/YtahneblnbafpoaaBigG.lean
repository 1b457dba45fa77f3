/- Numbers as lists of digits: the sum of a list (walk). -/
import Derived.Test.YtahneblnbafpoaaBigF
import Derived.Test.YtahneblnbafpoaaAuS
namespace Go.Proofs.Ytahneblnbafpoaa
open Go.RowKit

theorem of_zs {x : Int} {m : Bool} {l : List Bool} (h : OfP x m l) : bigZ m l = x := by
  obtain ⟨h1, h2, _⟩ := h
  subst h2
  by_cases hx : x < 0
  · rw [decide_eq_true hx, bigZ_t, h1]; omega
  · rw [decide_eq_false hx, bigZ_f, h1]; omega
theorem ints_cell {w : World} {A : Option Addr} {n : Nat} {zs : List Int} (h : Rd w 1 A n (ints zs)) {k : Nat} (hk : k < n) : ∃ b off z, A = some ⟨b, off, none⟩ ∧ b < w.heap.size ∧ zs[k]? = some z ∧ w.cell? ⟨b, off + k, none⟩ = some (.int .i64 z) := by
  obtain ⟨b, off, u, rfl, hb, hu, hc⟩ := h.get hk
  unfold ints at hu
  rw [List.getElem?_map] at hu
  cases hq : zs[k]? with
  | none => simp [hq] at hu
  | some z => exact ⟨b, off, z, rfl, hb, rfl, by rw [hc]; simpa [hq] using hu.symm⟩

end Go.Proofs.Ytahneblnbafpoaa
