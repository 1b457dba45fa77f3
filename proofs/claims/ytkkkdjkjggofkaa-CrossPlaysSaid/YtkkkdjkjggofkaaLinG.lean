/- Regions gone through operation by operation: operations with a guard. -/
import Derived.Test.YtkkkdjkjggofkaaLinA
namespace Go.Proofs.Ytkkkdjkjggofkaa
section
variable {P : Program}
/-- an operation, with a guard or without -/
theorem stepL_of {ops : Array Oper} {J : World → Prop} {S : Nat → Value → World → Prop} {dep : Nat → List (Nat × Nat)} {olds surv : Nat → List Nat} {a0 : Act} {i : Nat} {o : Oper}
    (h : ∀ (F : Nat → Value) (a : Act) (w : World), J w → SatD S F a w (dep i) → OldD a0 a (olds i) →
      ∀ K : Act → World → Prop, (∀ v w', J w' → S i v w' → (∀ j ∈ surv i, ∀ u, S j u w → S j u w') → K (a.put o.dst v) w') →
      (Region.wanted o (yielded ops a.tmps) = true → o.wp P a w K noQ) ∧ (Region.wanted o (yielded ops a.tmps) = false → K (a.put o.dst undef) w)) : StepL P ops J S dep olds surv a0 i o := h
/-- an operation without a guard, where something holds till the last ones -/
theorem stepI_plain {ops : Array Oper} {J : World → Prop} {S : Nat → Value → World → Prop} {dep : Nat → List (Nat × Nat)} {olds surv : Nat → List Nat} {a0 : Act} {I0 : World → Prop} {ends : List Nat} {i : Nat} {o : Oper} (hg : o.guard = none)
    (h : ∀ (F : Nat → Value) (a : Act) (w : World), J w → SatD S F a w (dep i) → OldD a0 a (olds i) → I0 w →
      ∀ K : Act → World → Prop, (∀ v w', J w' → S i v w' → (∀ j ∈ surv i, ∀ u, S j u w → S j u w') → (i ∉ ends → I0 w') → K (a.put o.dst v) w') → o.wp P a w K noQ) : StepI P ops J S dep olds surv a0 I0 ends i o :=
  fun F a w hJ hS hO hI K hK => ⟨fun _ => h F a w hJ hS hO hI K hK, fun hw => by simp [Region.wanted, hg] at hw⟩
theorem stepT_plain {ops : Array Oper} {J : World → Prop} {S : Nat → Value → World → Prop} {dep : Nat → List (Nat × Nat)} {olds surv : Nat → List Nat} {a0 : Act} {I0 : World → Prop} {ends : List Nat} {T : (Nat → Value) → World → Prop} {e : Nat} {i : Nat} {o : Oper} (hg : o.guard = none)
    (h : ∀ (F : Nat → Value) (a : Act) (w : World), J w → SatD S F a w (dep i) → OldD a0 a (olds i) → I0 w →
      ∀ K : Act → World → Prop, (∀ v w', J w' → S i v w' → (∀ j ∈ surv i, ∀ u, S j u w → S j u w') → (i ∉ ends → I0 w') → (i = e → T (fun k => if k = i then v else F k) w') → K (a.put o.dst v) w') → o.wp P a w K noQ) : StepT P ops J S dep olds surv a0 I0 ends T e i o :=
  fun F a w hJ hS hO hI K hK => ⟨fun _ => h F a w hJ hS hO hI K hK, fun hw => by simp [Region.wanted, hg] at hw⟩
theorem wanted_of {ops : Array Oper} {o : Oper} {a : Act} (g : Nat) (want : Bool) (d : Nat) (b : Bool) (hg : o.guard = some (g, want)) (hd : (ops[g]?).bind (·.dst) = some d) (ht : a.tmps[d]? = some (.bool b)) : Region.wanted o (yielded ops a.tmps) = (b == want) := by
  unfold Region.wanted yielded
  rw [hg]
  simp only [hd, Option.bind_some, ht]
  cases b <;> cases want <;> rfl
theorem wanted_undef {ops : Array Oper} {o : Oper} {a : Act} (g : Nat) (want : Bool) (d : Nat) (hg : o.guard = some (g, want)) (hd : (ops[g]?).bind (·.dst) = some d) (ht : a.tmps[d]? = some undef) : Region.wanted o (yielded ops a.tmps) = false := by
  unfold Region.wanted yielded
  rw [hg]
  simp only [hd, Option.bind_some, ht]
  cases want <;> rfl
theorem any_text {ops : Array Oper} {Q : Exit → Act → World → Prop} (hac : ∀ (i : Nat) (o : Oper), ops[i]? = some o → ∀ e ∈ o.after, Region.binds .any e = true → e.on < i) :
    ∀ (m k : Nat) (l : Array Bool) (a : Act) (w : World), k + m = ops.size → l.size = ops.size → (∀ j, j < ops.size → l.getD j false = decide (j < k)) → wpAny P .any ops Q m l a w → wpOps P ops Q (List.range' k m) a w
  | 0, _, _, _, _, _, _, _, h => h.2
  | m + 1, k, l, a, w, hk, hs, hl, h => by
    rw [List.range'_succ, wpOps_cons]
    have hks : k < ops.size := by omega
    have hr : k ∈ Region.ready .any ops l := mem_ready.2 ⟨by
      have := hl k hks
      have hlt : k < l.size := by omega
      simp [hlt] at this ⊢; exact this, ops[k], by simp [hks], fun e he hb => by
        have hlt := hac k ops[k] (by simp [hks]) e he hb
        rw [hl e.on (by omega)]; simpa using hlt⟩
    refine wpOp_mono (fun a' w' h' => any_text hac m (k + 1) (l.setIfInBounds k true) a' w' (by omega) (by simpa using hs) (fun j hj => ?_) h') (h.2 k hr)
    by_cases hjk : k = j
    · subst hjk
      have hlt : k < l.size := by omega
      simp [hlt]
    · have := hl j hj
      have e : (l.setIfInBounds k true).getD j false = l.getD j false := by simp [Array.getElem?_setIfInBounds_ne hjk]
      rw [e, this]
      exact decide_eq_decide.2 (by omega)
/-- a region in the order of the text: each operation by itself, then what follows (no way through it is walked twice) -/
theorem wp_region_lin0 {Q : Exit → Act → World → Prop} {id : Nat} {os : List Oper} (J : World → Prop) (S : Nat → Value → World → Prop) (dep : Nat → List (Nat × Nat)) (olds surv : Nat → List Nat) (fin : List Nat) (m : List Nat) {a0 : Act} {w0 : World} (size : Nat)
    (hsz : a0.tmps.size = size) (hp : planB os.toArray dep olds surv fin m size = true) (hJ : J w0) (hstep : AllL (StepL P os.toArray J S dep olds surv a0) 0 os)
    (hfin : ∀ F w, J w → Sat S F w fin → Q .normal (putL F 0 os a0) w) : (Code.region id os.toArray false).wp P Q a0 w0 := by
  refine wp_region ?_
  subst hsz
  have hac : ∀ (i : Nat) (o : Oper), os.toArray[i]? = some o → ∀ e ∈ o.after, Region.binds .any e = true → e.on < i := by
    intro i o hi e he hb
    unfold planB at hp
    simp only [Bool.and_eq_true] at hp
    have h := List.all_eq_true.1 hp.1.2 i (List.mem_range.2 (Array.getElem?_eq_some_iff.1 hi).1)
    rw [hi] at h
    simp only [Bool.and_eq_true] at h
    have := Array.all_eq_true_iff_forall_mem.1 h.1.1.1.1 e he
    simpa [hb] using this
  have h0 := lin_go (Q := Q) (J := J) (S := S) (I0 := fun _ => True) (ends := []) (T := fun _ _ => True) (e0 := os.toArray.size) hp (by unfold endsB; simp) (.inr (Nat.le_refl _)) (by simpa using stepU_of (stepT_of (stepI_of hstep))) (fun F w h1 h2 _ => by simpa using hfin F w h1 h2) os.toArray.size (Array.replicate os.toArray.size false) (fun _ => undef) a0 w0 (by simp) ⟨by simp, (by intro i o _ h; exact absurd h (ls_none _ _)), hJ, ⟨rfl, rfl, (by intro j o d _ _ h; exact absurd h (ls_none _ _)), fun _ _ => rfl⟩, (fun _ => trivial), (fun _ => trivial), (by intro j _ h; exact absurd h (ls_none _ _))⟩
  rw [List.range_eq_range']
  refine any_text hac os.toArray.size 0 _ a0 w0 (by omega) (by simp) (fun j hj => ?_) h0
  simp only [List.size_toArray] at hj
  simp [hj]
theorem stepY {x : Bool} {A B : Prop} (hw : x = true) (h : A) : (x = true → A) ∧ (x = false → B) := ⟨fun _ => h, fun h' => Bool.noConfusion (hw.symm.trans h')⟩
theorem stepN {x : Bool} {A B : Prop} (hw : x = false) (h : B) : (x = true → A) ∧ (x = false → B) := ⟨fun h' => Bool.noConfusion (hw.symm.trans h'), fun _ => h⟩
end
end Go.Proofs.Ytkkkdjkjggofkaa
