/- Regions gone through operation by operation, some of which may stand ahead of what ends a state, or behind it. -/
import Derived.Test.YtkkkdjkjggofkaaLinG
namespace Go.Proofs.Ytkkkdjkjggofkaa
section
variable {P : Program} {ops : Array Oper} {Q : Exit → Act → World → Prop}
def StepV (P : Program) (ops : Array Oper) (J : World → Prop) (S : Nat → Value → World → Prop) (dep : Nat → List (Nat × Nat)) (olds : Nat → List Nat) (surv : Nat → List Nat) (a0 : Act) (I0 : World → Prop) (ends late : List Nat) (T : (Nat → Value) → World → Prop) (e : Nat) (i : Nat) (o : Oper) : Prop :=
  ∀ (F : Nat → Value) (a : Act) (w : World), J w → SatD S F a w (dep i) → OldD a0 a (olds i) → (i ∉ late → I0 w) →
    ∀ K : Act → World → Prop, (∀ v w', J w' → S i v w' → (∀ j ∈ surv i, ∀ u, S j u w → S j u w') → (i ∉ ends → I0 w → I0 w') → (i = e → T (fun k => if k = i then v else F k) w') → K (a.put o.dst v) w') →
      (Region.wanted o (yielded ops a.tmps) = true → o.wp P a w K noQ) ∧ (Region.wanted o (yielded ops a.tmps) = false → K (a.put o.dst undef) w)
theorem lin_goV {J : World → Prop} {S : Nat → Value → World → Prop} {dep : Nat → List (Nat × Nat)} {olds surv : Nat → List Nat} {fin m : List Nat} {I0 : World → Prop} {ends late : List Nat} {T : (Nat → Value) → World → Prop} {e0 : Nat} {a0 : Act} (hp : planB ops dep olds surv fin m a0.tmps.size = true) (he : endsB ops m ends late = true) (hla : lastB ops m e0 = true ∨ ops.size ≤ e0)
    (hstep : AllL (StepV P ops J S dep olds surv a0 I0 ends late T e0) 0 ops.toList)
    (hfin : ∀ F w, J w → Sat S F w fin → (e0 < ops.size → T F w) → Q .normal (putL F 0 ops.toList a0) w) :
    ∀ fuel (l : Array Bool) (F : Nat → Value) (a : Act) (w : World), l.toList.count false ≤ fuel → LinI ops m J S surv I0 ends T e0 l F a0 a w → wpAny P .any ops Q fuel l a w := by
  unfold planB at hp
  simp only [Bool.and_eq_true] at hp
  obtain ⟨⟨⟨hdist, hmask⟩, hall⟩, hfinB⟩ := hp
  rw [List.all_eq_true] at hall hfinB
  have hop : ∀ (i : Nat) (o : Oper), ops[i]? = some o → (∀ e ∈ o.after, Region.binds .any e = true → e.on < i) ∧ (∀ d, o.dst = some d → d < a0.tmps.size) ∧
      (∀ p ∈ dep i, p.1 < ops.size ∧ (ops[p.1]?).bind (·.dst) = some p.2 ∧ bef m p.1 i = true ∧ p.2 < a0.tmps.size) ∧
      (∀ t ∈ olds i, ∀ j, j < ops.size → (ops[j]?).bind (·.dst) ≠ some t ∨ bef m i j = true ∨ j = i) ∧
      (∀ p ∈ dep i, ∀ k, k < ops.size → k = p.1 ∨ k = i ∨ bef m k p.1 = true ∨ bef m i k = true ∨ p.1 ∈ surv k) := by
    intro i o hi
    have h := hall i (List.mem_range.2 (Array.getElem?_eq_some_iff.1 hi).1)
    simp only [hi, Bool.and_eq_true, List.all_eq_true] at h
    obtain ⟨⟨⟨⟨h1, h2⟩, h3⟩, h4⟩, h5⟩ := h
    refine ⟨fun e he hb => ?_, fun d hd => by rw [hd] at h2; simpa using h2, fun p hp => ?_, fun t ht j hj => ?_, fun p hp k hk => ?_⟩
    · have := Array.all_eq_true_iff_forall_mem.1 h1 e he
      simpa [hb] using this
    · have := h3 p hp
      simp only [decide_eq_true_eq] at this
      exact ⟨this.1.1.1, this.1.1.2, this.1.2, this.2⟩
    · have := h4 t ht j (List.mem_range.2 hj)
      simp only [Bool.or_eq_true, decide_eq_true_eq, beq_iff_eq, or_assoc] at this
      exact this
    · have := h5 p hp k (List.mem_range.2 hk)
      simp only [Bool.or_eq_true, beq_iff_eq, List.contains_iff_mem] at this
      rcases this with (((h | h) | h) | h) | h
      · exact .inl h
      · exact .inr (.inl h)
      · exact .inr (.inr (.inl h))
      · exact .inr (.inr (.inr (.inl h)))
      · exact .inr (.inr (.inr (.inr h)))
  have hend : ∀ (l : Array Bool) (F : Nat → Value) (a : Act) (w : World), LinI ops m J S surv I0 ends T e0 l F a0 a w → Region.ready .any ops l = [] → Q .normal a w := by
    intro l F a w hI hr
    have hl : ∀ n j, j ≤ n → j < ops.size → Ls l j := by
      intro n
      induction n with
      | zero =>
        intro j hj hjs
        have hj0 : j = 0 := by omega
        subst hj0
        by_cases h : Ls l 0
        · exact h
        · exfalso
          have : (0 : Nat) ∈ Region.ready .any ops l := mem_ready.2 ⟨by
            unfold Ls at h
            have hlt : 0 < l.size := by rw [hI.sz]; exact hjs
            simp [hlt] at h ⊢; exact h, ops[0], by simp [hjs], fun e he hb => by have := (hop 0 ops[0] (by simp [hjs])).1 e he hb; omega⟩
          rw [hr] at this; cases this
      | succ n ih =>
        intro j hj hjs
        by_cases h : Ls l j
        · exact h
        · exfalso
          have : j ∈ Region.ready .any ops l := mem_ready.2 ⟨by
            unfold Ls at h
            have hlt : j < l.size := by rw [hI.sz]; exact hjs
            simp [hlt] at h ⊢; exact h, ops[j], by simp [hjs], fun e he hb => by
              have hlt := (hop j ops[j] (by simp [hjs])).1 e he hb
              exact ih e.on (by omega) (by omega)⟩
          rw [hr] at this; cases this
    have hall2 : ∀ j, j < ops.size → Ls l j := fun j hj => hl j j (Nat.le_refl _) hj
    rw [hI.fr.all hdist (fun i o d hi hd => (hop i o hi).2.1 d hd) hall2]
    refine hfin F w hI.j ?_ (fun h => hI.t (hall2 e0 h))
    have : ∀ js : List Nat, (∀ j ∈ js, j ∈ fin) → Sat S F w js := by
      intro js
      induction js with
      | nil => intro _; trivial
      | cons j r ih =>
        intro h
        have hj := hfinB j (h j (List.mem_cons_self ..))
        simp only [Bool.and_eq_true, decide_eq_true_eq, List.all_eq_true] at hj
        refine ⟨hI.sat j hj.1 (hall2 j hj.1) fun k hk hne hb => ?_, ih fun x hx => h x (List.mem_cons_of_mem _ hx)⟩
        have hks : k < ops.size := by
          rw [← hI.sz]
          rcases Nat.lt_or_ge k l.size with h' | h'
          · exact h'
          · unfold Ls at hk; simp [Array.getElem?_eq_none h'] at hk
        have := hj.2 k (List.mem_range.2 hks)
        simp only [Bool.or_eq_true, beq_iff_eq, List.contains_iff_mem, hb, hne, false_or, Bool.false_eq_true] at this
        exact this
    exact this fin fun _ h => h
  intro fuel
  induction fuel with
  | zero =>
    intro l F a w hc hI
    have hr : Region.ready .any ops l = [] := by
      refine List.eq_nil_iff_forall_not_mem.2 fun i hi => ?_
      have := count_le (mem_ready.1 hi).1
      omega
    exact ⟨hr, hend l F a w hI hr⟩
  | succ fuel ih =>
    intro l F a w hc hI
    refine ⟨hend l F a w hI, fun i hi => ?_⟩
    obtain ⟨hun, o, ho, hdeps⟩ := mem_ready.1 hi
    have hcnt := count_le hun
    have his : i < ops.size := (Array.getElem?_eq_some_iff.1 ho).1
    have hil : i < l.size := by rw [hI.sz]; exact his
    have hnl : ¬ Ls l i := fun h => by unfold Ls at h; simp [hil] at h hun; rw [hun] at h; cases h
    obtain ⟨g1, g2, g3, g4, g5⟩ := hop i o ho
    have hbl : ∀ k j, k < ops.size → j < ops.size → bef m k j = true → Ls l j → Ls l k := fun k j hk hj hb hl => bef_listed hmask hI.closed _ j k (Nat.lt_succ_self _) hj hk hb fun o' ho' => hI.closed j o' ho' hl
    have hst := AllL.get hstep (i := i) (o := o) (by simpa using ho)
    rw [Nat.zero_add] at hst
    have hsat : ∀ ps : List (Nat × Nat), (∀ p ∈ ps, p ∈ dep i) → SatD S F a w ps := by
      intro ps
      induction ps with
      | nil => intro _; trivial
      | cons p r ihp =>
        intro h
        have hp := h p (List.mem_cons_self ..)
        obtain ⟨e0, e1, e2, e3⟩ := g3 p hp
        have hpl : Ls l p.1 := bef_listed hmask hI.closed _ i p.1 (Nat.lt_succ_self _) his e0 e2 (fun o' ho' => by rw [ho] at ho'; cases ho'; exact hdeps)
        obtain ⟨op, hop1, hop2⟩ : ∃ op, ops[p.1]? = some op ∧ op.dst = some p.2 := by
          cases hq : ops[p.1]? with
          | none => rw [hq] at e1; cases e1
          | some op => rw [hq] at e1; exact ⟨op, rfl, by simpa using e1⟩
        refine ⟨hI.sat p.1 (Array.getElem?_eq_some_iff.1 hop1).1 hpl fun k hk hne hb => ?_, hI.fr.put p.1 op p.2 hop1 hop2 hpl e3, ihp fun x hx => h x (List.mem_cons_of_mem _ hx)⟩
        have hks : k < ops.size := by
          rw [← hI.sz]
          rcases Nat.lt_or_ge k l.size with h' | h'
          · exact h'
          · unfold Ls at hk; simp [Array.getElem?_eq_none h'] at hk
        rcases g5 p hp k hks with h1 | h1 | h1 | h1 | h1
        · exact absurd h1 hne
        · exact absurd (h1 ▸ hk) hnl
        · rw [hb] at h1; cases h1
        · exact absurd (hbl _ _ his hks h1 hk) hnl
        · exact h1
    have hold : ∀ ts : List Nat, (∀ t ∈ ts, t ∈ olds i) → OldD a0 a ts := by
      intro ts
      induction ts with
      | nil => intro _; trivial
      | cons t r iht =>
        intro h
        refine ⟨hI.fr.old t fun j oj hj hlj hd => ?_, iht fun x hx => h x (List.mem_cons_of_mem _ hx)⟩
        have hjs := (Array.getElem?_eq_some_iff.1 hj).1
        rcases g4 t (h t (List.mem_cons_self ..)) j hjs with h1 | h1 | h1
        · exact h1 (by rw [hj]; simpa using hd)
        · exact hnl (hbl _ _ his hjs h1 hlj)
        · exact hnl (h1 ▸ hlj)
    have hend0 : i ∉ late → ∀ k ∈ ends, ¬ Ls l k := by
      intro hlate k hk hkl
      unfold endsB at he
      have h0 := List.all_eq_true.1 he i (List.mem_range.2 his)
      simp only [Bool.or_eq_true, List.contains_iff_mem] at h0
      have h1 := List.all_eq_true.1 (h0.resolve_left hlate) k hk
      simp only [Bool.or_eq_true, beq_iff_eq] at h1
      rcases h1 with h1 | h1
      · exact hnl (h1 ▸ hkl)
      · have hks : k < ops.size := by
          rw [← hI.sz]
          rcases Nat.lt_or_ge k l.size with h' | h'
          · exact h'
          · unfold Ls at hkl; simp [Array.getElem?_eq_none h'] at hkl
        exact hnl (hbl _ _ his hks h1 hkl)
    have hnext : ∀ v w', J w' → S i v w' → (∀ j ∈ surv i, ∀ u, S j u w → S j u w') → (i ∉ ends → I0 w → I0 w') → (i = e0 → T (fun k => if k = i then v else F k) w') → wpAny P .any ops Q fuel (l.setIfInBounds i true) (a.put o.dst v) w' := by
      intro v w' hJ hS hsv hi0 hti
      refine ih (l.setIfInBounds i true) (fun k => if k = i then v else F k) (a.put o.dst v) w' (by omega) ⟨by simpa using hI.sz, ?_, hJ, hI.fr.step hdist ho hil v, ?_, ?_, ?_⟩
      · intro k ok hk hkl e he hb
        rcases Ls.set.1 hkl with h | ⟨h, _⟩
        · exact Ls.set.2 (.inl (hI.closed k ok hk h e he hb))
        · subst h; rw [ho] at hk; cases hk; exact Ls.set.2 (.inl (hdeps e he hb))
      · intro hnew
        exact hi0 (fun hm => hnew i hm (Ls.set.2 (.inr ⟨rfl, hil⟩))) (hI.i0 (fun k hk hkl => hnew k hk (Ls.set.2 (.inl hkl))))
      · intro hle
        rcases Ls.set.1 hle with h | ⟨h, _⟩
        · have hes : e0 < ops.size := by
            rw [← hI.sz]
            rcases Nat.lt_or_ge e0 l.size with h' | h'
            · exact h'
            · unfold Ls at h; simp [Array.getElem?_eq_none h'] at h
          rcases hla with hla | hla
          · unfold lastB at hla
            have h1 := List.all_eq_true.1 hla i (List.mem_range.2 his)
            simp only [Bool.or_eq_true, beq_iff_eq] at h1
            rcases h1 with h1 | h1
            · exact hti h1
            · exact absurd (hbl _ _ his hes h1 h) hnl
          · omega
        · exact hti h.symm
      · intro k hks hkl hk
        by_cases hki : k = i
        · subst hki; rw [if_pos rfl]; exact hS
        · rw [if_neg hki]
          have hkl' := (Ls.set.1 hkl).resolve_right fun e => hki e.1
          have h1 := hI.sat k hks hkl' fun m hm hne hb => hk m (Ls.set.2 (.inl hm)) hne hb
          by_cases hb : bef m i k = true
          · exact absurd (hbl _ _ his hks hb hkl') hnl
          · exact hsv k (hk i (Ls.set.2 (.inr ⟨rfl, hil⟩)) (Ne.symm hki) (by simpa using hb)) _ h1
    obtain ⟨s1, s2⟩ := hst F a w hI.j (hsat _ fun _ h => h) (hold _ fun _ h => h) (fun hlate => hI.i0 (hend0 hlate)) (wpAny P .any ops Q fuel (l.setIfInBounds i true)) hnext
    unfold wpOp
    simp only [ho]
    split
    · rename_i hw; exact .inl (wp_noQ (s1 hw))
    · rename_i hw; exact s2 (by simpa using hw)

theorem wp_region_linV {id : Nat} {os : List Oper} (hm : P.follows .mixedOrders = true) (J : World → Prop) (S : Nat → Value → World → Prop) (dep : Nat → List (Nat × Nat)) (olds surv : Nat → List Nat) (fin : List Nat) (m : List Nat) (I0 : World → Prop) (ends late : List Nat) (T : (Nat → Value) → World → Prop) (e : Nat) {a0 : Act} {w0 : World} (size : Nat)
    (hsz : a0.tmps.size = size) (hp : planB os.toArray dep olds surv fin m size = true) (he : endsB os.toArray m ends late = true) (hla : lastB os.toArray m e = true ∨ os.toArray.size ≤ e) (hJ : J w0.drew) (hI : I0 w0.drew) (hstep : AllL (StepV P os.toArray J S dep olds surv a0 I0 ends late T e) 0 os)
    (hfin : ∀ F w, J w → Sat S F w fin → (e < os.toArray.size → T F w) → Q .normal (putL F 0 os a0) w) : (Code.region id os.toArray true).wp P Q a0 w0 := by
  refine wp_region_any hm ?_
  subst hsz
  refine lin_goV (J := J) (S := S) hp he hla (by simpa using hstep) (by simpa using hfin) _ _ (fun _ => undef) a0 w0.drew (by simp) ⟨by simp, ?_, hJ, ⟨rfl, rfl, ?_, fun _ _ => rfl⟩, fun _ => hI, fun h => absurd h (ls_none _ _), ?_⟩
  · intro i o _ h; exact absurd h (ls_none _ _)
  · intro j o d _ _ h; exact absurd h (ls_none _ _)
  · intro j _ h; exact absurd h (ls_none _ _)
theorem stepV_at {J : World → Prop} {S : Nat → Value → World → Prop} {dep : Nat → List (Nat × Nat)} {olds surv : Nat → List Nat} {a0 : Act} {I0 : World → Prop} {ends late : List Nat} {T : (Nat → Value) → World → Prop} {e i : Nat} {o : Oper}
    (h : ∀ (F : Nat → Value) (a : Act) (w : World), J w → SatD S F a w (dep i) → OldD a0 a (olds i) → (i ∉ late → I0 w) →
      ∀ K : Act → World → Prop, (∀ v w', J w' → S i v w' → (∀ j ∈ surv i, ∀ u, S j u w → S j u w') → (i ∉ ends → I0 w → I0 w') → (i = e → T (fun k => if k = i then v else F k) w') → K (a.put o.dst v) w') →
      (Region.wanted o (yielded ops a.tmps) = true → o.wp P a w K noQ) ∧ (Region.wanted o (yielded ops a.tmps) = false → K (a.put o.dst undef) w)) : StepV P ops J S dep olds surv a0 I0 ends late T e i o := h
theorem stepV_plain {J : World → Prop} {S : Nat → Value → World → Prop} {dep : Nat → List (Nat × Nat)} {olds surv : Nat → List Nat} {a0 : Act} {I0 : World → Prop} {ends late : List Nat} {T : (Nat → Value) → World → Prop} {e i : Nat} {o : Oper} (hg : o.guard = none)
    (h : ∀ (F : Nat → Value) (a : Act) (w : World), J w → SatD S F a w (dep i) → OldD a0 a (olds i) → (i ∉ late → I0 w) →
      ∀ K : Act → World → Prop, (∀ v w', J w' → S i v w' → (∀ j ∈ surv i, ∀ u, S j u w → S j u w') → (i ∉ ends → I0 w → I0 w') → (i = e → T (fun k => if k = i then v else F k) w') → K (a.put o.dst v) w') → o.wp P a w K noQ) : StepV P ops J S dep olds surv a0 I0 ends late T e i o :=
  fun F a w hJ hS hO hI K hK => ⟨fun _ => h F a w hJ hS hO hI K hK, fun hw => by simp [Region.wanted, hg] at hw⟩
end
end Go.Proofs.Ytkkkdjkjggofkaa
