/- Regions gone through operation by operation: operations with a guard. -/
import Derived.Test.YtphckjnmbbjenaaLinA
namespace Go.Proofs.Ytphckjnmbbjenaa
section
variable {P : Program}
/-- an operation, with a guard or without -/
theorem stepL_of {ops : Array Oper} {J : World → Prop} {S : Nat → Value → World → Prop} {dep : Nat → List (Nat × Nat)} {olds surv : Nat → List Nat} {a0 : Act} {i : Nat} {o : Oper}
    (h : ∀ (F : Nat → Value) (a : Act) (w : World), J w → SatD S F a w (dep i) → OldD a0 a (olds i) →
      ∀ K : Act → World → Prop, (∀ v w', J w' → S i v w' → (∀ j ∈ surv i, ∀ u, S j u w → S j u w') → K (a.put o.dst v) w') →
      (Region.wanted o (yielded ops a.tmps) = true → o.wp P a w K noQ) ∧ (Region.wanted o (yielded ops a.tmps) = false → K (a.put o.dst undef) w)) : StepL P ops J S dep olds surv a0 i o := h
theorem wanted_of {ops : Array Oper} {o : Oper} {a : Act} (g : Nat) (want : Bool) (d : Nat) (b : Bool) (hg : o.guard = some (g, want)) (hd : (ops[g]?).bind (·.dst) = some d) (ht : a.tmps[d]? = some (.bool b)) : Region.wanted o (yielded ops a.tmps) = (b == want) := by
  unfold Region.wanted yielded
  rw [hg]
  simp only [hd, Option.bind_some, ht]
  cases b <;> cases want <;> rfl
theorem stepY {x : Bool} {A B : Prop} (hw : x = true) (h : A) : (x = true → A) ∧ (x = false → B) := ⟨fun _ => h, fun h' => Bool.noConfusion (hw.symm.trans h')⟩
theorem stepN {x : Bool} {A B : Prop} (hw : x = false) (h : B) : (x = true → A) ∧ (x = false → B) := ⟨fun h' => Bool.noConfusion (hw.symm.trans h'), fun _ => h⟩
end
end Go.Proofs.Ytphckjnmbbjenaa
