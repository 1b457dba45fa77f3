/- A length that came in, opened. -/
import Derived.Test.YtahneblnbafpoaaStyO
import Derived.Test.YtahneblnbafpoaaLaw
import Derived.Test.YtahneblnbafpoaaOk
namespace Go.Proofs.Ytahneblnbafpoaa
open Go.ChangeShapes Go.WideShapes Go.ChangeAt Go.RowKit
theorem flat_len : flat Try.prog 3 23 = some [.int .u8, .int .i64] := by kernel_rfl
section
variable {H : Type} {enc : TypeId × Value → H} {w : World} {base : Nat} {spare : Nat → Bool} {held : Bool}
theorem open_len {r : Reach} {b0 : Nat} {v : Value} {d : DataW H} {p : List MemPlace} (hv : Value.okWide Try.prog w r b0 23 v) (h : DataW.Trod enc Try.prog w base spare held 23 v d p) :
    ∃ l : Ln, v = l.v ∧ l.Wf := by
  obtain ⟨cs, rfl, _⟩ := okWide_struct Try.underlying23 hv
  obtain ⟨fuel, hf⟩ := h
  have hl := flat_ok 3 23 _ fuel _ _ flat_len hf
  obtain ⟨v0, t0, e0, k0, h0⟩ := hl.cons
  obtain ⟨v1, t1, e1, k1, h1⟩ := h0.cons
  obtain rfl := h1.nil
  obtain ⟨x, rfl, w0⟩ := k0
  obtain ⟨y, rfl, w1⟩ := k1
  subst e1
  have : cs = #[.int .u8 x, .int .i64 y] := Array.toList_inj.1 e0
  exact ⟨⟨x, y⟩, by rw [this], ⟨w0, w1⟩⟩
end
end Go.Proofs.Ytahneblnbafpoaa
