/- Layer 1: sums (walks). -/
import Derived.Test.YtahneblnbafpoaaAu
import Derived.Test.YtahneblnbafpoaaRd
import Derived.Laws.Externs
import Derived.LoopTactic
import Derived.OwnWalk
import Derived.Outline
namespace Go.Proofs.Ytahneblnbafpoaa
open Go.RowKit

theorem grown_set {a w : World} {g i : Nat} (h : a.grownBy w (some g)) (u : Value) : a.grownBy (w.setCell ⟨g, i, none⟩ u) (some g) :=
  ⟨h.os, h.tape, h.output, by simpa [World.setCell] using h.size, fun k hk hne => (Below.heap_setCell w ⟨g, i, none⟩ u k (by
    rintro rfl
    exact hne rfl)).trans (h.block k hk hne)⟩
def lsum : List Int → Int
  | [] => 0
  | x :: r => x + lsum r
theorem lsum_append : ∀ a b : List Int, lsum (a ++ b) = lsum a + lsum b
  | [], b => by simp [lsum]
  | x :: a, b => by simp only [List.cons_append, lsum, lsum_append a b]; omega
theorem grown_of_ext {a w : World} (h : Ext a w) (row : Option Nat) : a.grownBy w row := ⟨h.os, h.tape, h.output, h.size, fun i hi _ => h.block i hi⟩
theorem lsum_take (l : List Int) (k : Nat) (h : k < l.length) : lsum (l.take (k + 1)) = lsum (l.take k) + l[k] := by
  rw [List.take_succ_eq_append_getElem h, lsum_append]; simp [lsum]
def ints (zs : List Int) : List Value := zs.map (Value.int .i64)
/-- numbers of 64 bits -/
def I64s (zs : List Int) : Prop := ∀ z ∈ zs, -9223372036854775808 ≤ z ∧ z ≤ 9223372036854775807

end Go.Proofs.Ytahneblnbafpoaa
