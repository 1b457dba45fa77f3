/- A slice of numbers of 64 bits that came in: what is known of it. -/
import Derived.Test.YtfjpjipnbjkmbaaAuS
import Derived.Test.YtfjpjipnbjkmbaaLaw
import Derived.SizedLaws
namespace Go.Proofs.Ytfjpjipnbjkmbaa
open Go.ChangeShapes Go.WideShapes Go.ChangeAt Go.RowKit

theorem bytes_i64 : Try.prog.bytesOf 2 = 8 := by kernel_rfl
theorem cells_i64 : Try.prog.cellsOf 2 = 1 := by kernel_rfl
theorem open_rd {H : Type} {enc : TypeId × Value → H} {W : World} {base : Nat} {v : Value} {d : DataW H} {p : List MemPlace}
    (hw : Value.okWide Try.prog W .any base 32 v) (h : DataW.Trod enc Try.prog W 0 (fun _ => true) true 32 v d p) :
    ∃ A n c zs, v = .slice A n c ∧ Rd W 1 A n (ints zs) ∧ I64s zs ∧ (n = 0 ∨ ∃ e s, d = .slice e s ∧ n ≤ e.length + s.length) := by
  obtain ⟨A, n, c, rfl⟩ := okWide_slice Try.underlying32 hw
  obtain ⟨fuel, hf⟩ := h
  rcases open_ints Try.underlying32 Try.underlying2 cells_i64 hf with ⟨hcs, hx⟩ | ⟨a, len, cap, zs, hcs, _, hl, hm, hz, hx, hcell, hwz⟩
  · simp [Value.cells] at hcs
    obtain ⟨rfl, rfl, rfl⟩ := hcs
    exact ⟨none, 0, 0, [], rfl, Rd.nil _ _ _, (by intro z hz; cases hz), .inl rfl⟩
  · simp [Value.cells] at hcs
    obtain ⟨rfl, rfl, rfl⟩ := hcs
    simp only [if_true] at hz
    simp only [Prod.mk.injEq] at hx
    refine ⟨some a, n, c, zs.take n, rfl, ⟨by simp [ints]; omega, fun hn => ?_⟩, fun z hz' => ?_, .inr ⟨_, _, hx.1, ?_⟩⟩
    · obtain ⟨b, off, rfl, hc⟩ := ints_at hcell (by omega)
      refine ⟨b, off, rfl, World.block_lt_of_cell? W _ (hc 0 (by omega)), fun j u hu => ?_⟩
      unfold ints at hu
      rw [List.getElem?_map] at hu
      have hj : j < n := by
        rcases Nat.lt_or_ge j n with h | h
        · exact h
        · rw [List.getElem?_eq_none (by rw [List.length_take]; omega)] at hu; cases hu
      rw [List.getElem?_take_of_lt hj, List.getElem?_eq_getElem (by omega)] at hu
      simp only [Option.map_some, Option.some.injEq] at hu
      rw [← hu]
      have := hc j (by omega)
      rw [List.getD_eq_getElem?_getD, List.getElem?_eq_getElem (by omega)] at this
      simpa using this
    · have := hwz z (List.mem_of_mem_take hz')
      simpa [Lit.wf, IntKind.min, IntKind.max, IntKind.signed, IntKind.bits] using this
    · simp [lits]; omega
end Go.Proofs.Ytfjpjipnbjkmbaa
