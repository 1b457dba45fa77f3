/- Rectangles, sides, and slices of these, that came in: opened. -/
import Derived.Test.YtphckjnmbbjenaaEdC
import Derived.Test.YtphckjnmbbjenaaSl
import Derived.Test.YtphckjnmbbjenaaLaw
import Derived.Test.YtphckjnmbbjenaaOk
import Derived.SizedLaws
namespace Go.Proofs.Ytphckjnmbbjenaa
open Go.ChangeShapes Go.WideShapes Go.ChangeAt Go.RowKit
theorem okWide_array {P : Program} {t : TypeId} {w : World} {r : Reach} {base : Nat} {v : Value} {n : Nat} {e : TypeId} (ht : P.underlying t = some (.array n e)) (h : Value.okWide P w r base t v) : ∃ cs, v = .agg cs ∧ cs.size = P.cellsOf t := by
  simp only [Value.okWide, ht] at h
  obtain ⟨cs, h1, h2, _⟩ := h
  exact ⟨cs, h1, h2⟩
theorem flat_rect : flat Try.prog 3 33 = some [.int .i64, .int .i64, .int .i64, .int .i64] := by kernel_rfl
theorem flat_arr : flat Try.prog 3 24 = some [.int .i64, .int .i64, .int .i64, .int .i64] := by kernel_rfl
theorem cells_rect : Try.prog.cellsOf 33 = 4 := by kernel_rfl
theorem cells_arr : Try.prog.cellsOf 24 = 4 := by kernel_rfl
section
variable {H : Type} {enc : TypeId × Value → H} {w : World} {base : Nat} {spare : Nat → Bool} {held : Bool}
theorem leaves4 {cs : List Value} (h : LeavesOk enc Try.prog w base spare held [.int .i64, .int .i64, .int .i64, .int .i64] cs) : ∃ r : Rc, cs = r.cs.toList ∧ r.Ok := by
  obtain ⟨v0, t0, rfl, k0, h0⟩ := h.cons
  obtain ⟨v1, t1, rfl, k1, h1⟩ := h0.cons
  obtain ⟨v2, t2, rfl, k2, h2⟩ := h1.cons
  obtain ⟨v3, t3, rfl, k3, h3⟩ := h2.cons
  obtain rfl := h3.nil
  obtain ⟨x, rfl, w0⟩ := k0
  obtain ⟨y, rfl, w1⟩ := k1
  obtain ⟨p, rfl, w2⟩ := k2
  obtain ⟨q, rfl, w3⟩ := k3
  have b0 := bd_i64 w0
  have b1 := bd_i64 w1
  have b2 := bd_i64 w2
  have b3 := bd_i64 w3
  exact ⟨⟨x, y, p, q⟩, rfl, b0.1, b0.2, b1.1, b1.2, b2.1, b2.2, b3.1, b3.2⟩
theorem open_rect {r : Reach} {b0 : Nat} {v : Value} {d : DataW H} {p : List MemPlace} (hv : Value.okWide Try.prog w r b0 33 v) (h : DataW.Trod enc Try.prog w base spare held 33 v d p) :
    ∃ r : Rc, v = .agg r.cs ∧ r.Ok := by
  obtain ⟨cs, rfl, _⟩ := okWide_struct Try.underlying33 hv
  obtain ⟨fuel, hf⟩ := h
  obtain ⟨r, hs, hw⟩ := leaves4 (flat_ok 3 33 _ fuel _ _ flat_rect hf)
  have : cs = r.cs := Array.toList_inj.1 hs
  exact ⟨r, by rw [this], hw⟩
theorem open_arr {r : Reach} {b0 : Nat} {v : Value} {d : DataW H} {p : List MemPlace} (hv : Value.okWide Try.prog w r b0 24 v) (h : DataW.Trod enc Try.prog w base spare held 24 v d p) :
    ∃ r : Rc, v = .agg r.cs ∧ r.Ok := by
  obtain ⟨cs, rfl, _⟩ := okWide_array Try.underlying24 hv
  obtain ⟨fuel, hf⟩ := h
  obtain ⟨r, hs, hw⟩ := leaves4 (flat_ok 3 24 _ fuel _ _ flat_arr hf)
  have : cs = r.cs := Array.toList_inj.1 hs
  exact ⟨r, by rw [this], hw⟩
theorem rcs_of : ∀ (xss : List (List Value)), (∀ xs ∈ xss, ∃ r : Rc, xs = r.cs.toList ∧ r.Ok) → ∃ l : List Rc, l.length = xss.length ∧ xss.flatten = rcs l ∧ ∀ r ∈ l, r.Ok
  | [], _ => ⟨[], rfl, rfl, by simp⟩
  | xs :: t, h => by
    obtain ⟨r, h1, h2⟩ := h xs (List.mem_cons_self ..)
    obtain ⟨l, h3, h4, h5⟩ := rcs_of t (fun y hy => h y (List.mem_cons_of_mem _ hy))
    refine ⟨r :: l, by simp [h3], by rw [List.flatten_cons, h4, h1]; rfl, fun q hq => ?_⟩
    rcases List.mem_cons.1 hq with rfl | hq
    · exact h2
    · exact h5 q hq
end
section
variable {H : Type} {enc : TypeId × Value → H} {w : World} {spare : Nat → Bool} {held : Bool}
theorem open_rcs {r : Reach} {b0 : Nat} {v : Value} {d : DataW H} {p : List MemPlace} {t e : TypeId} (ht : Try.prog.underlying t = some (.slice e)) (he : Try.prog.cellsOf e = 4) (hf : flat Try.prog 3 e = some [.int .i64, .int .i64, .int .i64, .int .i64])
    (hv : Value.okWide Try.prog w r b0 t v) (h : DataW.Trod enc Try.prog w 0 spare held t v d p) :
    ∃ A n c l, v = .slice A n c ∧ n ≤ maxLen ∧ Rd w 4 A n (rcs l) ∧ ∀ r ∈ l, r.Ok := by
  obtain ⟨a, len, cap, rfl⟩ := okWide_slice ht hv
  obtain ⟨fuel, hfu⟩ := h
  obtain ⟨a', len', cap', hcs, hs⟩ := slice_of_trod ht hfu
  simp [Value.cells] at hcs
  obtain ⟨rfl, rfl, rfl⟩ := hcs
  obtain ⟨xss, h1, h2, h3, h4⟩ := hs.rd he (by omega)
  obtain ⟨l, h5, h6, h7⟩ := rcs_of xss (fun xs hm => by
    obtain ⟨x, fuel, hx⟩ := h4 xs hm
    exact leaves4 (flat_ok 3 e _ fuel xs x hf hx))
  exact ⟨a, len, cap, l, rfl, Nat.le_trans hs.1 hs.2.1, by rw [← h6]; exact h3, h7⟩
end
end Go.Proofs.Ytphckjnmbbjenaa
