/- Numbers as values (walks). -/
import Derived.Test.YtnolbmfjgfojhaaTyA
namespace Go.Proofs.Ytnolbmfjgfojhaa
open Go.RowKit
/-- a value that is a slice of these numbers -/
def SlAt (w : World) (v : Value) (l : List Int) : Prop := ∃ A c, v = .slice A l.length c ∧ Rd w 1 A l.length (ints l)
theorem SlAt.ext {w w' : World} {v : Value} {l : List Int} (h : SlAt w v l) (hx : Ext w w') : SlAt w' v l := by
  obtain ⟨A, c, h1, h2⟩ := h
  exact ⟨A, c, h1, h2.ext hx⟩
theorem slAt_of {w : World} {A : Option Addr} {l : List Int} (h : Rd w 1 A l.length (ints l)) (c : Nat) : SlAt w (.slice A l.length c) l := ⟨A, c, rfl, h⟩
def AtOut (w : World) (l : List Int) (e : Ending) (w' : World) : Prop := (∃ v, e = .returned v ∧ SlAt w' v l) ∧ Ext w w'
theorem IntsOut.at_ {w w' : World} {l : List Int} {e : Ending} (h : IntsOut w l e w') : AtOut w l e w' := by
  obtain ⟨A, c, rfl, h2, h3⟩ := h
  exact ⟨⟨_, rfl, A, c, rfl, h2⟩, h3⟩
theorem same05_at (u v : Value) (xs : List Int) (w : World) (hu : SlAt w u xs) (hv : SlAt w v xs) (hl : xs.length ≤ maxLen) :
    Calls Try.prog 23 #[u, v] w fun e w' => e = .returned (.bool true) ∧ Ext w w' := by
  obtain ⟨A, c, rfl, ha⟩ := hu
  obtain ⟨B, d, rfl, hb⟩ := hv
  have := same05_any A B _ c _ d xs xs w ha hb hl hl
  rwa [decide_eq_true rfl] at this
end Go.Proofs.Ytnolbmfjgfojhaa
