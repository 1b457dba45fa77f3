/- A slice of units that came in, opened; the law on texts for numbers as they come. -/
import Derived.Test.YtahneblnbafpoaaStTx
import Derived.Test.YtahneblnbafpoaaUniO
import Derived.SizedLaws
namespace Go.Proofs.Ytahneblnbafpoaa
open Go.ChangeShapes Go.WideShapes Go.ChangeAt Go.RowKit
section
variable {H : Type} {enc : TypeId × Value → H} {w : World} {spare : Nat → Bool} {held : Bool}
theorem open_units {r : Reach} {b0 : Nat} {v : Value} {d : DataW H} {p : List MemPlace} (hv : Value.okWide Try.prog w r b0 26 v) (h : DataW.Trod enc Try.prog w 0 spare held 26 v d p) :
    ∃ A n c us, v = .slice A n c ∧ Rd w 1 A n (u16s us) := by
  obtain ⟨a, len, cap, rfl⟩ := okWide_slice Try.underlying26 hv
  obtain ⟨fuel, hfu⟩ := h
  obtain ⟨a', len', cap', hcs, hs⟩ := slice_of_trod Try.underlying26 hfu
  simp [Value.cells] at hcs
  obtain ⟨rfl, rfl, rfl⟩ := hcs
  obtain ⟨us, hr⟩ := units_rd hs
  exact ⟨a, len, cap, us, rfl, hr⟩
end
theorem law_textsI (A : Option Addr) (n c : Nat) (us : List Int) (q p : Int) (hq : 0 ≤ q ∧ q ≤ 255) (hp : 0 ≤ p ∧ p ≤ 255) (w : World) (hR : Rd w 1 A n (u16s us)) :
    Calls Try.prog 7 #[.slice A n c, .int .u8 q, .int .u8 p] w fun e w' => e = .returned (.bool true) ∧ Ext w w' := by
  obtain ⟨q', rfl⟩ := Int.eq_ofNat_of_zero_le hq.1
  obtain ⟨p', rfl⟩ := Int.eq_ofNat_of_zero_le hp.1
  exact law_texts A n c us q' p' (by omega) (by omega) w hR
end Go.Proofs.Ytahneblnbafpoaa
