/- Units that came in: what is known of them. -/
import Derived.Test.YtahneblnbafpoaaStE
import Derived.Test.YtahneblnbafpoaaStyO
import Derived.Test.YtahneblnbafpoaaSl
import Derived.Test.YtahneblnbafpoaaLaw
import Derived.Test.YtahneblnbafpoaaOk
namespace Go.Proofs.Ytahneblnbafpoaa
open Go.ChangeShapes Go.WideShapes Go.ChangeAt Go.RowKit
theorem flat_u16 : flat Try.prog 3 36 = some [.int .u16] := by kernel_rfl
theorem cells_u16 : Try.prog.cellsOf 36 = 1 := by kernel_rfl
theorem u16s_of : ∀ (xss : List (List Value)), (∀ xs ∈ xss, ∃ z, xs = [.int .u16 z]) → ∃ us, xss.flatten = u16s us
  | [], _ => ⟨[], rfl⟩
  | xs :: t, h => by
    obtain ⟨z, h1⟩ := h xs (List.mem_cons_self ..)
    obtain ⟨us, h2⟩ := u16s_of t (fun y hy => h y (List.mem_cons_of_mem _ hy))
    exact ⟨z :: us, by rw [List.flatten_cons, h1, h2]; rfl⟩
section
variable {H : Type} {enc : TypeId × Value → H} {w : World} {spare : Nat → Bool} {held : Bool}
theorem units_rd {A : Option Addr} {n c : Nat} (h : SliceOk enc Try.prog w 0 spare held 36 A n c) : ∃ us : List Int, Rd w 1 A n (u16s us) := by
  obtain ⟨xss, hl, _, hr, hx⟩ := h.rd cells_u16 (by omega)
  obtain ⟨us, hu⟩ := u16s_of xss (fun xs hm => by
    obtain ⟨x, fuel, ht⟩ := hx xs hm
    have hl := flat_ok 3 36 _ fuel xs x flat_u16 ht
    obtain ⟨v0, t0, rfl, k0, h0⟩ := hl.cons
    obtain rfl := h0.nil
    obtain ⟨z, rfl, _⟩ := k0
    exact ⟨z, rfl⟩)
  exact ⟨us, hu ▸ hr⟩
end
end Go.Proofs.Ytahneblnbafpoaa
