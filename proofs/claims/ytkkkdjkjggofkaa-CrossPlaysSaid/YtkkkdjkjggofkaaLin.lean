/- A region that draws its order, gone through operation by operation: each operation is met by itself, in whatever world and state it may come up; no order is branched over. -/
import Derived.Test.YtkkkdjkjggofkaaU
import Derived.Orders
namespace Go.Proofs.Ytkkkdjkjggofkaa
section
variable {P : Program} {ops : Array Oper} {Q : Exit → Act → World → Prop}

abbrev Ls (l : Array Bool) (j : Nat) : Prop := l.getD j false = true
/-- k stands before j in every order, by the masks m -/
def bef (m : List Nat) (k j : Nat) : Bool := (m.getD j 0).testBit k
/-- the masks say no more than the edges do -/
def masksB (ops : Array Oper) (m : List Nat) : Bool := (List.range ops.size).all fun j => match ops[j]? with
  | none => true
  | some o => (List.range ops.size).all fun k => !bef m k j || o.after.any fun e => Region.binds .any e && decide (e.on < j) && (e.on == k || bef m k e.on)

def Closed (ops : Array Oper) (l : Array Bool) : Prop := ∀ (i : Nat) (o : Oper), ops[i]? = some o → Ls l i → ∀ e ∈ o.after, Region.binds .any e = true → Ls l e.on
theorem bef_listed {l : Array Bool} {m : List Nat} (hm : masksB ops m = true) (hc : Closed ops l) : ∀ n j k, j < n → j < ops.size → k < ops.size → bef m k j = true → (∀ o, ops[j]? = some o → ∀ e ∈ o.after, Region.binds .any e = true → Ls l e.on) → Ls l k := by
  intro n
  induction n with
  | zero => intro j k h; omega
  | succ n ih =>
    intro j k hjn hjs hks h hj
    have ho : ops[j]? = some ops[j] := by simp [hjs]
    unfold masksB at hm
    rw [List.all_eq_true] at hm
    have h1 := hm j (List.mem_range.2 hjs)
    rw [ho] at h1
    simp only [List.all_eq_true] at h1
    have h2 := h1 k (List.mem_range.2 hks)
    rw [h] at h2
    simp only [Bool.not_true, Bool.false_or] at h2
    obtain ⟨e, he, hb⟩ := Array.any_eq_true'.1 h2
    simp only [Bool.and_eq_true, Bool.or_eq_true, beq_iff_eq, decide_eq_true_eq] at hb
    obtain ⟨⟨hb1, hlt⟩, hb2 | hb2⟩ := hb
    · exact hb2 ▸ hj _ ho e he hb1
    · exact ih e.on k (by omega) (by omega) hks hb2 (fun o' ho' => hc e.on o' ho' (hj _ ho e he hb1))

structure LinF (ops : Array Oper) (l : Array Bool) (F : Nat → Value) (a0 a : Act) : Prop where
  defers : a.defers = a0.defers
  size : a.tmps.size = a0.tmps.size
  put : ∀ j o d, ops[j]? = some o → o.dst = some d → Ls l j → d < a0.tmps.size → a.tmps[d]? = some (F j)
  old : ∀ t : Nat, (∀ j o, ops[j]? = some o → Ls l j → o.dst ≠ some t) → a.tmps[t]? = a0.tmps[t]?

def distinctB (ops : Array Oper) : Bool := (List.range ops.size).all fun i => (List.range ops.size).all fun j => i == j || match (ops[i]?).bind (·.dst), (ops[j]?).bind (·.dst) with | some d, some e => d != e | _, _ => true
theorem distinct_spec (h : distinctB ops = true) {i j d : Nat} {oi oj : Oper} (hi : ops[i]? = some oi) (hj : ops[j]? = some oj) (di : oi.dst = some d) (dj : oj.dst = some d) : i = j := by
  unfold distinctB at h
  rw [List.all_eq_true] at h
  have h1 := h i (List.mem_range.2 (Array.getElem?_eq_some_iff.1 hi).1)
  rw [List.all_eq_true] at h1
  have h2 := h1 j (List.mem_range.2 (Array.getElem?_eq_some_iff.1 hj).1)
  simpa [hi, hj, di, dj] using h2

theorem Ls.set {l : Array Bool} {i j : Nat} : Ls (l.setIfInBounds i true) j ↔ Ls l j ∨ (j = i ∧ i < l.size) := by
  unfold Ls
  by_cases h : i = j
  · subst h
    by_cases hlt : i < l.size
    · simp [hlt]
    · simp [hlt]
  · simp [Array.getElem?_setIfInBounds_ne h, Ne.symm h]

theorem LinF.step {l : Array Bool} {F : Nat → Value} {a0 a : Act} {i : Nat} {o : Oper} (hd : distinctB ops = true) (h : LinF ops l F a0 a) (hi : ops[i]? = some o) (hlt : i < l.size) (v : Value) :
    LinF ops (l.setIfInBounds i true) (fun k => if k = i then v else F k) a0 (a.put o.dst v) := by
  have hF : ∀ k, k ≠ i → (if k = i then v else F k) = F k := fun k hk => if_neg hk
  cases hdst : o.dst with
  | none =>
    refine ⟨h.defers, h.size, fun j oj d hj dj hl hs => ?_, fun t ht => h.old t fun j oj hj hl => ht j oj hj (Ls.set.2 (.inl hl))⟩
    have hne : j ≠ i := fun e => by subst e; rw [hi] at hj; cases hj; rw [hdst] at dj; cases dj
    show _ = some (if j = i then v else F j)
    rw [hF j hne]
    exact h.put j oj d hj dj ((Ls.set.1 hl).resolve_right fun e => hne e.1) hs
  | some d0 =>
    refine ⟨h.defers, by simpa [Act.put] using h.size, fun j oj d hj dj hl hs => ?_, fun t ht => ?_⟩
    · by_cases hji : j = i
      · subst hji
        rw [hi] at hj; cases hj; rw [hdst] at dj; cases dj
        simp only [Act.put, if_true]
        rw [Array.getElem?_setIfInBounds_self_of_lt (by rw [h.size]; exact hs)]
      · have hne : d0 ≠ d := fun e => hji (distinct_spec hd hj hi dj (by rw [hdst, e]))
        show _ = some (if j = i then v else F j)
        rw [hF j hji]
        simp only [Act.put]
        rw [Array.getElem?_setIfInBounds_ne hne]
        exact h.put j oj d hj dj ((Ls.set.1 hl).resolve_right fun e => hji e.1) hs
    · have hne : d0 ≠ t := fun e => ht i o hi (Ls.set.2 (.inr ⟨rfl, hlt⟩)) (by rw [hdst, e])
      simp only [Act.put]
      rw [Array.getElem?_setIfInBounds_ne hne]
      exact h.old t fun j oj hj hl => ht j oj hj (Ls.set.2 (.inl hl))

/-- what an operation may lean on: what was said of others' results, and where they lie -/
def SatD (S : Nat → Value → World → Prop) (F : Nat → Value) (a : Act) (w : World) : List (Nat × Nat) → Prop
  | [] => True
  | (j, d) :: r => S j (F j) w ∧ a.tmps[d]? = some (F j) ∧ SatD S F a w r
def OldD (a0 a : Act) : List Nat → Prop
  | [] => True
  | t :: r => a.tmps[t]? = a0.tmps[t]? ∧ OldD a0 a r
def Sat (S : Nat → Value → World → Prop) (F : Nat → Value) (w : World) : List Nat → Prop
  | [] => True
  | j :: r => S j (F j) w ∧ Sat S F w r
/-- no way out but on -/
def noQ : Exit → Act → World → Prop := fun _ _ _ => False
theorem wp_noQ {o : Oper} {a : Act} {w : World} {K : Act → World → Prop} (h : o.wp P a w K noQ) : o.wp P a w K Q := by
  unfold Oper.wp at *
  generalize (execOp a.eval o).run P w = r at *
  cases r with
  | ok n w' =>
    cases n <;> simp only [Oper.upon] at h ⊢ <;>
      first
        | exact h
        | (exact Calls.mono h (fun e w'' he => by
            cases e
            · exact he
            · exact False.elim he
            · obtain ⟨_, _, hf⟩ := he; exact False.elim hf))
  | halt x w' => cases x <;> simp only [Oper.upon] at h ⊢ <;> exact False.elim h
/-- each operation, by itself -/
def StepL (P : Program) (ops : Array Oper) (J : World → Prop) (S : Nat → Value → World → Prop) (dep : Nat → List (Nat × Nat)) (olds : Nat → List Nat) (surv : Nat → List Nat) (a0 : Act) (i : Nat) (o : Oper) : Prop :=
  ∀ (F : Nat → Value) (a : Act) (w : World), J w → SatD S F a w (dep i) → OldD a0 a (olds i) →
    ∀ K : Act → World → Prop, (∀ v w', J w' → S i v w' → (∀ j ∈ surv i, ∀ u, S j u w → S j u w') → K (a.put o.dst v) w') →
      (Region.wanted o (yielded ops a.tmps) = true → o.wp P a w K noQ) ∧ (Region.wanted o (yielded ops a.tmps) = false → K (a.put o.dst undef) w)
/-- the same, where something holds from the start on ('I0') that some of the operations end -/
def StepI (P : Program) (ops : Array Oper) (J : World → Prop) (S : Nat → Value → World → Prop) (dep : Nat → List (Nat × Nat)) (olds : Nat → List Nat) (surv : Nat → List Nat) (a0 : Act) (I0 : World → Prop) (ends : List Nat) (i : Nat) (o : Oper) : Prop :=
  ∀ (F : Nat → Value) (a : Act) (w : World), J w → SatD S F a w (dep i) → OldD a0 a (olds i) → I0 w →
    ∀ K : Act → World → Prop, (∀ v w', J w' → S i v w' → (∀ j ∈ surv i, ∀ u, S j u w → S j u w') → (i ∉ ends → I0 w') → K (a.put o.dst v) w') →
      (Region.wanted o (yielded ops a.tmps) = true → o.wp P a w K noQ) ∧ (Region.wanted o (yielded ops a.tmps) = false → K (a.put o.dst undef) w)
/-- the same, where the last operation ('e') tells what all has come to -/
def StepT (P : Program) (ops : Array Oper) (J : World → Prop) (S : Nat → Value → World → Prop) (dep : Nat → List (Nat × Nat)) (olds : Nat → List Nat) (surv : Nat → List Nat) (a0 : Act) (I0 : World → Prop) (ends : List Nat) (T : (Nat → Value) → World → Prop) (e : Nat) (i : Nat) (o : Oper) : Prop :=
  ∀ (F : Nat → Value) (a : Act) (w : World), J w → SatD S F a w (dep i) → OldD a0 a (olds i) → I0 w →
    ∀ K : Act → World → Prop, (∀ v w', J w' → S i v w' → (∀ j ∈ surv i, ∀ u, S j u w → S j u w') → (i ∉ ends → I0 w') → (i = e → T (fun k => if k = i then v else F k) w') → K (a.put o.dst v) w') →
      (Region.wanted o (yielded ops a.tmps) = true → o.wp P a w K noQ) ∧ (Region.wanted o (yielded ops a.tmps) = false → K (a.put o.dst undef) w)
/-- the same, where the operations of the list 'late' do without what held at the start -/
def StepU (P : Program) (ops : Array Oper) (J : World → Prop) (S : Nat → Value → World → Prop) (dep : Nat → List (Nat × Nat)) (olds : Nat → List Nat) (surv : Nat → List Nat) (a0 : Act) (I0 : World → Prop) (ends late : List Nat) (T : (Nat → Value) → World → Prop) (e : Nat) (i : Nat) (o : Oper) : Prop :=
  ∀ (F : Nat → Value) (a : Act) (w : World), J w → SatD S F a w (dep i) → OldD a0 a (olds i) → (i ∉ late → I0 w) →
    ∀ K : Act → World → Prop, (∀ v w', J w' → S i v w' → (∀ j ∈ surv i, ∀ u, S j u w → S j u w') → (i ∉ ends → I0 w') → (i = e → T (fun k => if k = i then v else F k) w') → K (a.put o.dst v) w') →
      (Region.wanted o (yielded ops a.tmps) = true → o.wp P a w K noQ) ∧ (Region.wanted o (yielded ops a.tmps) = false → K (a.put o.dst undef) w)
/-- one operation stands behind all others -/
def lastB (ops : Array Oper) (m : List Nat) (e : Nat) : Bool := (List.range ops.size).all fun i => i == e || bef m i e
/-- what the operations that end it stand behind -/
def endsB (ops : Array Oper) (m : List Nat) (ends : List Nat) (late : List Nat := []) : Bool := (List.range ops.size).all fun i => late.contains i || ends.all fun k => k == i || bef m i k
def AllL (R : Nat → Oper → Prop) : Nat → List Oper → Prop
  | _, [] => True
  | k, o :: r => R k o ∧ AllL R (k + 1) r
theorem AllL.get {R : Nat → Oper → Prop} : ∀ {l : List Oper} {k i : Nat} {o : Oper}, AllL R k l → l[i]? = some o → R (k + i) o
  | [], _, _, _, _, h => by simp at h
  | x :: r, k, 0, o, ha, h => by simp at h; subst h; exact ha.1
  | x :: r, k, i + 1, o, ha, h => by
    have := AllL.get ha.2 (by simpa using h)
    rwa [Nat.add_assoc, Nat.add_comm 1 i] at this

/-- the check of a plan: what an operation leans on stands before it; what others may do in between leaves it as it was; the slots it leans on besides are nobody's -/
def planB (ops : Array Oper) (dep : Nat → List (Nat × Nat)) (olds : Nat → List Nat) (surv : Nat → List Nat) (fin : List Nat) (m : List Nat) (size : Nat) : Bool :=
  let n := ops.size
  distinctB ops && masksB ops m &&
  ((List.range n).all fun i => match ops[i]? with
    | none => true
    | some o => o.after.all (fun e => !Region.binds .any e || decide (e.on < i)) && (match o.dst with | some d => decide (d < size) | none => true) &&
        ((dep i).all fun p => decide (p.1 < n) && decide ((ops[p.1]?).bind (·.dst) = some p.2) && bef m p.1 i && decide (p.2 < size)) &&
        ((olds i).all fun t => (List.range n).all fun j => decide ((ops[j]?).bind (·.dst) ≠ some t) || bef m i j || j == i) &&
        ((dep i).all fun p => (List.range n).all fun k => k == p.1 || k == i || bef m k p.1 || bef m i k || (surv k).contains p.1)) &&
  (fin.all fun j => decide (j < n) && (List.range n).all fun k => k == j || bef m k j || (surv k).contains j)

def putL (F : Nat → Value) : Nat → List Oper → Act → Act
  | _, [], a => a
  | k, o :: r, a => putL F (k + 1) r (a.put o.dst (F k))

theorem putL_facts (F : Nat → Value) : ∀ (l : List Oper) (k : Nat) (a : Act), (putL F k l a).defers = a.defers ∧ (putL F k l a).tmps.size = a.tmps.size ∧
      (∀ t : Nat, (∀ o ∈ l, o.dst ≠ some t) → (putL F k l a).tmps[t]? = a.tmps[t]?) ∧
      (∀ (i : Nat) (o : Oper) (d : Nat), l[i]? = some o → o.dst = some d → d < a.tmps.size → (∀ (j : Nat) (oj : Oper), l[j]? = some oj → oj.dst = some d → j = i) → (putL F k l a).tmps[d]? = some (F (k + i)))
  | [], k, a => ⟨rfl, rfl, fun _ _ => rfl, fun i o d h => by simp at h⟩
  | o :: r, k, a => by
    obtain ⟨h1, h2, h3, h4⟩ := putL_facts F r (k + 1) (a.put o.dst (F k))
    have p1 : (a.put o.dst (F k)).defers = a.defers := by cases h : o.dst <;> rfl
    have p2 : (a.put o.dst (F k)).tmps.size = a.tmps.size := by cases h : o.dst <;> simp [Act.put]
    refine ⟨h1.trans p1, h2.trans p2, fun t ht => ?_, fun i oi d hi hd hs hu => ?_⟩
    · show (putL F (k + 1) r (a.put o.dst (F k))).tmps[t]? = _
      rw [h3 t fun o' ho' => ht o' (List.mem_cons_of_mem _ ho')]
      cases h : o.dst with
      | none => rfl
      | some d => simp only [Act.put]; rw [Array.getElem?_setIfInBounds_ne (fun e => ht o (List.mem_cons_self ..) (by rw [h, e]))]
    · show (putL F (k + 1) r (a.put o.dst (F k))).tmps[d]? = _
      cases i with
      | zero =>
        simp at hi; subst hi
        rw [h3 d fun o' ho' hd' => ?_]
        · simp only [hd, Act.put, Nat.add_zero]; rw [Array.getElem?_setIfInBounds_self_of_lt hs]
        · obtain ⟨j, hj⟩ := List.getElem?_of_mem ho'
          have := hu (j + 1) o' (by simpa using hj) hd'
          omega
      | succ i =>
        rw [h4 i oi d (by simpa using hi) hd (by rw [p2]; exact hs) fun j oj hj hdj => by have := hu (j + 1) oj (by simpa using hj) hdj; omega]
        congr 2
        omega

theorem Act.same {a b : Act} (h1 : a.defers = b.defers) (h2 : ∀ t : Nat, a.tmps[t]? = b.tmps[t]?) : a = b := by
  obtain ⟨x, y⟩ := a
  obtain ⟨x', y'⟩ := b
  simp only at h1 h2
  subst h1
  have : x = x' := Array.ext_getElem? h2
  rw [this]

theorem LinF.all {l : Array Bool} {F : Nat → Value} {a0 a : Act} (hd : distinctB ops = true) (h : LinF ops l F a0 a) (hs : ∀ (i : Nat) (o : Oper) (d : Nat), ops[i]? = some o → o.dst = some d → d < a0.tmps.size)
    (hl : ∀ j, j < ops.size → Ls l j) : a = putL F 0 ops.toList a0 := by
  obtain ⟨p1, p2, p3, p4⟩ := putL_facts F ops.toList 0 a0
  refine Act.same (h.defers.trans p1.symm) fun t => ?_
  by_cases ht : ∃ (j : Nat) (o : Oper), ops[j]? = some o ∧ o.dst = some t
  · obtain ⟨j, o, hj, hdj⟩ := ht
    have hlt := (Array.getElem?_eq_some_iff.1 hj).1
    rw [h.put j o t hj hdj (hl j hlt) (hs j o t hj hdj), p4 j o t (by simpa using hj) hdj (hs j o t hj hdj) fun k ok hk hdk => distinct_spec hd (by simpa using hk) hj hdk hdj]
    simp
  · rw [h.old t fun j o hj _ hdj => ht ⟨j, o, hj, hdj⟩, p3 t fun o ho hdo => ?_]
    obtain ⟨j, hj⟩ := List.getElem?_of_mem ho
    exact ht ⟨j, o, by simpa using hj, hdo⟩

structure LinI (ops : Array Oper) (m : List Nat) (J : World → Prop) (S : Nat → Value → World → Prop) (surv : Nat → List Nat) (I0 : World → Prop) (ends : List Nat) (T : (Nat → Value) → World → Prop) (e : Nat) (l : Array Bool) (F : Nat → Value) (a0 a : Act) (w : World) : Prop where
  sz : l.size = ops.size
  closed : Closed ops l
  j : J w
  fr : LinF ops l F a0 a
  i0 : (∀ k ∈ ends, ¬ Ls l k) → I0 w
  t : Ls l e → T F w
  sat : ∀ j, j < ops.size → Ls l j → (∀ k, Ls l k → k ≠ j → bef m k j = false → j ∈ surv k) → S j (F j) w

theorem count_le {l : Array Bool} {i : Nat} (h : l.getD i true = false) : (l.setIfInBounds i true).toList.count false + 1 = l.toList.count false := by
  have hlt : i < l.size := by
    rcases Nat.lt_or_ge i l.size with h' | h'
    · exact h'
    · simp [Array.getElem?_eq_none h'] at h
  obtain ⟨l⟩ := l
  have hi : l[i]? = some false := by
    have h' : l[i]?.getD true = false := by simpa using h
    cases hq : l[i]? with
    | none => rw [hq] at h'; cases h'
    | some b => rw [hq] at h'; simp at h'; rw [h']
  clear h hlt
  simp only [List.setIfInBounds_toArray]
  induction l generalizing i with
  | nil => simp at hi
  | cons x r ih =>
    cases i with
    | zero => simp at hi; subst hi; simp
    | succ i =>
      have := ih (i := i) (by simpa using hi)
      simp only [List.set_cons_succ, List.count_cons]
      omega

theorem lin_go {J : World → Prop} {S : Nat → Value → World → Prop} {dep : Nat → List (Nat × Nat)} {olds surv : Nat → List Nat} {fin m : List Nat} {I0 : World → Prop} {ends late : List Nat} {T : (Nat → Value) → World → Prop} {e0 : Nat} {a0 : Act} (hp : planB ops dep olds surv fin m a0.tmps.size = true) (he : endsB ops m ends late = true) (hla : lastB ops m e0 = true ∨ ops.size ≤ e0)
    (hstep : AllL (StepU P ops J S dep olds surv a0 I0 ends late T e0) 0 ops.toList)
    (hfin : ∀ F w, J w → Sat S F w fin → (e0 < ops.size → T F w) → Q .normal (putL F 0 ops.toList a0) w) :
    ∀ fuel (l : Array Bool) (F : Nat → Value) (a : Act) (w : World), l.toList.count false ≤ fuel → LinI ops m J S surv I0 ends T e0 l F a0 a w → wpAny P .any ops Q fuel l a w := by
  unfold planB at hp
  simp only [Bool.and_eq_true] at hp
  obtain ⟨⟨⟨hdist, hmask⟩, hall⟩, hfinB⟩ := hp
  rw [List.all_eq_true] at hall hfinB
  have hop : ∀ (i : Nat) (o : Oper), ops[i]? = some o → (∀ e ∈ o.after, Region.binds .any e = true → e.on < i) ∧ (∀ d, o.dst = some d → d < a0.tmps.size) ∧
      (∀ p ∈ dep i, p.1 < ops.size ∧ (ops[p.1]?).bind (·.dst) = some p.2 ∧ bef m p.1 i = true ∧ p.2 < a0.tmps.size) ∧
      (∀ t ∈ olds i, ∀ j, j < ops.size → (ops[j]?).bind (·.dst) ≠ some t ∨ bef m i j = true ∨ j = i) ∧
      (∀ p ∈ dep i, ∀ k, k < ops.size → k = p.1 ∨ k = i ∨ bef m k p.1 = true ∨ bef m i k = true ∨ p.1 ∈ surv k) := by
    intro i o hi
    have h := hall i (List.mem_range.2 (Array.getElem?_eq_some_iff.1 hi).1)
    simp only [hi, Bool.and_eq_true, List.all_eq_true] at h
    obtain ⟨⟨⟨⟨h1, h2⟩, h3⟩, h4⟩, h5⟩ := h
    refine ⟨fun e he hb => ?_, fun d hd => by rw [hd] at h2; simpa using h2, fun p hp => ?_, fun t ht j hj => ?_, fun p hp k hk => ?_⟩
    · have := Array.all_eq_true_iff_forall_mem.1 h1 e he
      simpa [hb] using this
    · have := h3 p hp
      simp only [decide_eq_true_eq] at this
      exact ⟨this.1.1.1, this.1.1.2, this.1.2, this.2⟩
    · have := h4 t ht j (List.mem_range.2 hj)
      simp only [Bool.or_eq_true, decide_eq_true_eq, beq_iff_eq, or_assoc] at this
      exact this
    · have := h5 p hp k (List.mem_range.2 hk)
      simp only [Bool.or_eq_true, beq_iff_eq, List.contains_iff_mem] at this
      rcases this with (((h | h) | h) | h) | h
      · exact .inl h
      · exact .inr (.inl h)
      · exact .inr (.inr (.inl h))
      · exact .inr (.inr (.inr (.inl h)))
      · exact .inr (.inr (.inr (.inr h)))
  have hend : ∀ (l : Array Bool) (F : Nat → Value) (a : Act) (w : World), LinI ops m J S surv I0 ends T e0 l F a0 a w → Region.ready .any ops l = [] → Q .normal a w := by
    intro l F a w hI hr
    have hl : ∀ n j, j ≤ n → j < ops.size → Ls l j := by
      intro n
      induction n with
      | zero =>
        intro j hj hjs
        have hj0 : j = 0 := by omega
        subst hj0
        by_cases h : Ls l 0
        · exact h
        · exfalso
          have : (0 : Nat) ∈ Region.ready .any ops l := mem_ready.2 ⟨by
            unfold Ls at h
            have hlt : 0 < l.size := by rw [hI.sz]; exact hjs
            simp [hlt] at h ⊢; exact h, ops[0], by simp [hjs], fun e he hb => by have := (hop 0 ops[0] (by simp [hjs])).1 e he hb; omega⟩
          rw [hr] at this; cases this
      | succ n ih =>
        intro j hj hjs
        by_cases h : Ls l j
        · exact h
        · exfalso
          have : j ∈ Region.ready .any ops l := mem_ready.2 ⟨by
            unfold Ls at h
            have hlt : j < l.size := by rw [hI.sz]; exact hjs
            simp [hlt] at h ⊢; exact h, ops[j], by simp [hjs], fun e he hb => by
              have hlt := (hop j ops[j] (by simp [hjs])).1 e he hb
              exact ih e.on (by omega) (by omega)⟩
          rw [hr] at this; cases this
    have hall2 : ∀ j, j < ops.size → Ls l j := fun j hj => hl j j (Nat.le_refl _) hj
    rw [hI.fr.all hdist (fun i o d hi hd => (hop i o hi).2.1 d hd) hall2]
    refine hfin F w hI.j ?_ (fun h => hI.t (hall2 e0 h))
    have : ∀ js : List Nat, (∀ j ∈ js, j ∈ fin) → Sat S F w js := by
      intro js
      induction js with
      | nil => intro _; trivial
      | cons j r ih =>
        intro h
        have hj := hfinB j (h j (List.mem_cons_self ..))
        simp only [Bool.and_eq_true, decide_eq_true_eq, List.all_eq_true] at hj
        refine ⟨hI.sat j hj.1 (hall2 j hj.1) fun k hk hne hb => ?_, ih fun x hx => h x (List.mem_cons_of_mem _ hx)⟩
        have hks : k < ops.size := by
          rw [← hI.sz]
          rcases Nat.lt_or_ge k l.size with h' | h'
          · exact h'
          · unfold Ls at hk; simp [Array.getElem?_eq_none h'] at hk
        have := hj.2 k (List.mem_range.2 hks)
        simp only [Bool.or_eq_true, beq_iff_eq, List.contains_iff_mem, hb, hne, false_or, Bool.false_eq_true] at this
        exact this
    exact this fin fun _ h => h
  intro fuel
  induction fuel with
  | zero =>
    intro l F a w hc hI
    have hr : Region.ready .any ops l = [] := by
      refine List.eq_nil_iff_forall_not_mem.2 fun i hi => ?_
      have := count_le (mem_ready.1 hi).1
      omega
    exact ⟨hr, hend l F a w hI hr⟩
  | succ fuel ih =>
    intro l F a w hc hI
    refine ⟨hend l F a w hI, fun i hi => ?_⟩
    obtain ⟨hun, o, ho, hdeps⟩ := mem_ready.1 hi
    have hcnt := count_le hun
    have his : i < ops.size := (Array.getElem?_eq_some_iff.1 ho).1
    have hil : i < l.size := by rw [hI.sz]; exact his
    have hnl : ¬ Ls l i := fun h => by unfold Ls at h; simp [hil] at h hun; rw [hun] at h; cases h
    obtain ⟨g1, g2, g3, g4, g5⟩ := hop i o ho
    have hbl : ∀ k j, k < ops.size → j < ops.size → bef m k j = true → Ls l j → Ls l k := fun k j hk hj hb hl => bef_listed hmask hI.closed _ j k (Nat.lt_succ_self _) hj hk hb fun o' ho' => hI.closed j o' ho' hl
    have hst := AllL.get hstep (i := i) (o := o) (by simpa using ho)
    rw [Nat.zero_add] at hst
    have hsat : ∀ ps : List (Nat × Nat), (∀ p ∈ ps, p ∈ dep i) → SatD S F a w ps := by
      intro ps
      induction ps with
      | nil => intro _; trivial
      | cons p r ihp =>
        intro h
        have hp := h p (List.mem_cons_self ..)
        obtain ⟨e0, e1, e2, e3⟩ := g3 p hp
        have hpl : Ls l p.1 := bef_listed hmask hI.closed _ i p.1 (Nat.lt_succ_self _) his e0 e2 (fun o' ho' => by rw [ho] at ho'; cases ho'; exact hdeps)
        obtain ⟨op, hop1, hop2⟩ : ∃ op, ops[p.1]? = some op ∧ op.dst = some p.2 := by
          cases hq : ops[p.1]? with
          | none => rw [hq] at e1; cases e1
          | some op => rw [hq] at e1; exact ⟨op, rfl, by simpa using e1⟩
        refine ⟨hI.sat p.1 (Array.getElem?_eq_some_iff.1 hop1).1 hpl fun k hk hne hb => ?_, hI.fr.put p.1 op p.2 hop1 hop2 hpl e3, ihp fun x hx => h x (List.mem_cons_of_mem _ hx)⟩
        have hks : k < ops.size := by
          rw [← hI.sz]
          rcases Nat.lt_or_ge k l.size with h' | h'
          · exact h'
          · unfold Ls at hk; simp [Array.getElem?_eq_none h'] at hk
        rcases g5 p hp k hks with h1 | h1 | h1 | h1 | h1
        · exact absurd h1 hne
        · exact absurd (h1 ▸ hk) hnl
        · rw [hb] at h1; cases h1
        · exact absurd (hbl _ _ his hks h1 hk) hnl
        · exact h1
    have hold : ∀ ts : List Nat, (∀ t ∈ ts, t ∈ olds i) → OldD a0 a ts := by
      intro ts
      induction ts with
      | nil => intro _; trivial
      | cons t r iht =>
        intro h
        refine ⟨hI.fr.old t fun j oj hj hlj hd => ?_, iht fun x hx => h x (List.mem_cons_of_mem _ hx)⟩
        have hjs := (Array.getElem?_eq_some_iff.1 hj).1
        rcases g4 t (h t (List.mem_cons_self ..)) j hjs with h1 | h1 | h1
        · exact h1 (by rw [hj]; simpa using hd)
        · exact hnl (hbl _ _ his hjs h1 hlj)
        · exact hnl (h1 ▸ hlj)
    have hend0 : i ∉ late → ∀ k ∈ ends, ¬ Ls l k := by
      intro hlate k hk hkl
      unfold endsB at he
      have h0 := List.all_eq_true.1 he i (List.mem_range.2 his)
      simp only [Bool.or_eq_true, List.contains_iff_mem] at h0
      have h1 := List.all_eq_true.1 (h0.resolve_left hlate) k hk
      simp only [Bool.or_eq_true, beq_iff_eq] at h1
      rcases h1 with h1 | h1
      · exact hnl (h1 ▸ hkl)
      · have hks : k < ops.size := by
          rw [← hI.sz]
          rcases Nat.lt_or_ge k l.size with h' | h'
          · exact h'
          · unfold Ls at hkl; simp [Array.getElem?_eq_none h'] at hkl
        exact hnl (hbl _ _ his hks h1 hkl)
    have hnext : ∀ v w', J w' → S i v w' → (∀ j ∈ surv i, ∀ u, S j u w → S j u w') → (i ∉ ends → I0 w') → (i = e0 → T (fun k => if k = i then v else F k) w') → wpAny P .any ops Q fuel (l.setIfInBounds i true) (a.put o.dst v) w' := by
      intro v w' hJ hS hsv hi0 hti
      refine ih (l.setIfInBounds i true) (fun k => if k = i then v else F k) (a.put o.dst v) w' (by omega) ⟨by simpa using hI.sz, ?_, hJ, hI.fr.step hdist ho hil v, ?_, ?_, ?_⟩
      · intro k ok hk hkl e he hb
        rcases Ls.set.1 hkl with h | ⟨h, _⟩
        · exact Ls.set.2 (.inl (hI.closed k ok hk h e he hb))
        · subst h; rw [ho] at hk; cases hk; exact Ls.set.2 (.inl (hdeps e he hb))
      · intro hnew
        exact hi0 (fun hm => hnew i hm (Ls.set.2 (.inr ⟨rfl, hil⟩)))
      · intro hle
        rcases Ls.set.1 hle with h | ⟨h, _⟩
        · have hes : e0 < ops.size := by
            rw [← hI.sz]
            rcases Nat.lt_or_ge e0 l.size with h' | h'
            · exact h'
            · unfold Ls at h; simp [Array.getElem?_eq_none h'] at h
          rcases hla with hla | hla
          · unfold lastB at hla
            have h1 := List.all_eq_true.1 hla i (List.mem_range.2 his)
            simp only [Bool.or_eq_true, beq_iff_eq] at h1
            rcases h1 with h1 | h1
            · exact hti h1
            · exact absurd (hbl _ _ his hes h1 h) hnl
          · omega
        · exact hti h.symm
      · intro k hks hkl hk
        by_cases hki : k = i
        · subst hki; rw [if_pos rfl]; exact hS
        · rw [if_neg hki]
          have hkl' := (Ls.set.1 hkl).resolve_right fun e => hki e.1
          have h1 := hI.sat k hks hkl' fun m hm hne hb => hk m (Ls.set.2 (.inl hm)) hne hb
          by_cases hb : bef m i k = true
          · exact absurd (hbl _ _ his hks hb hkl') hnl
          · exact hsv k (hk i (Ls.set.2 (.inr ⟨rfl, hil⟩)) (Ne.symm hki) (by simpa using hb)) _ h1
    obtain ⟨s1, s2⟩ := hst F a w hI.j (hsat _ fun _ h => h) (hold _ fun _ h => h) (fun hlate => hI.i0 (hend0 hlate)) (wpAny P .any ops Q fuel (l.setIfInBounds i true)) hnext
    unfold wpOp
    simp only [ho]
    split
    · rename_i hw; exact .inl (wp_noQ (s1 hw))
    · rename_i hw; exact s2 (by simpa using hw)

theorem ls_none (n i : Nat) : ¬ Ls (Array.replicate n false) i := by
  unfold Ls
  intro h
  by_cases hi : i < n
  · simp [hi] at h
  · simp [hi] at h

theorem stepI_of {ops : Array Oper} {J : World → Prop} {S : Nat → Value → World → Prop} {dep : Nat → List (Nat × Nat)} {olds surv : Nat → List Nat} {a0 : Act} : ∀ {l : List Oper} {k : Nat},
    AllL (StepL P ops J S dep olds surv a0) k l → AllL (StepI P ops J S dep olds surv a0 (fun _ => True) []) k l
  | [], _, _ => trivial
  | _ :: _, _, h => ⟨fun F a w hJ hS hO _ K hK => h.1 F a w hJ hS hO K (fun v w' h1 h2 h3 => hK v w' h1 h2 h3 (fun _ => trivial)), stepI_of h.2⟩
theorem stepT_of {ops : Array Oper} {J : World → Prop} {S : Nat → Value → World → Prop} {dep : Nat → List (Nat × Nat)} {olds surv : Nat → List Nat} {a0 : Act} {I0 : World → Prop} {ends : List Nat} {e : Nat} : ∀ {l : List Oper} {k : Nat},
    AllL (StepI P ops J S dep olds surv a0 I0 ends) k l → AllL (StepT P ops J S dep olds surv a0 I0 ends (fun _ _ => True) e) k l
  | [], _, _ => trivial
  | _ :: _, _, h => ⟨fun F a w hJ hS hO hI K hK => h.1 F a w hJ hS hO hI K (fun v w' h1 h2 h3 h4 => hK v w' h1 h2 h3 h4 (fun _ => trivial)), stepT_of h.2⟩
theorem stepU_of {ops : Array Oper} {J : World → Prop} {S : Nat → Value → World → Prop} {dep : Nat → List (Nat × Nat)} {olds surv : Nat → List Nat} {a0 : Act} {I0 : World → Prop} {ends : List Nat} {T : (Nat → Value) → World → Prop} {e : Nat} : ∀ {l : List Oper} {k : Nat},
    AllL (StepT P ops J S dep olds surv a0 I0 ends T e) k l → AllL (StepU P ops J S dep olds surv a0 I0 ends [] T e) k l
  | [], _, _ => trivial
  | _ :: _, _, h => ⟨fun F a w hJ hS hO hI K hK => h.1 F a w hJ hS hO (hI (by simp)) K hK, stepU_of h.2⟩
/-- a region that draws its order, in the widest form -/
theorem wp_region_linU {id : Nat} {os : List Oper} (hm : P.follows .mixedOrders = true) (J : World → Prop) (S : Nat → Value → World → Prop) (dep : Nat → List (Nat × Nat)) (olds surv : Nat → List Nat) (fin : List Nat) (m : List Nat) (I0 : World → Prop) (ends late : List Nat) (T : (Nat → Value) → World → Prop) (e : Nat) {a0 : Act} {w0 : World} (size : Nat)
    (hsz : a0.tmps.size = size) (hp : planB os.toArray dep olds surv fin m size = true) (he : endsB os.toArray m ends late = true) (hla : lastB os.toArray m e = true ∨ os.toArray.size ≤ e) (hJ : J w0.drew) (hI : I0 w0.drew) (hstep : AllL (StepU P os.toArray J S dep olds surv a0 I0 ends late T e) 0 os)
    (hfin : ∀ F w, J w → Sat S F w fin → (e < os.toArray.size → T F w) → Q .normal (putL F 0 os a0) w) : (Code.region id os.toArray true).wp P Q a0 w0 := by
  refine wp_region_any hm ?_
  subst hsz
  refine lin_go (J := J) (S := S) hp he hla (by simpa using hstep) (by simpa using hfin) _ _ (fun _ => undef) a0 w0.drew (by simp) ⟨by simp, ?_, hJ, ⟨rfl, rfl, ?_, fun _ _ => rfl⟩, fun _ => hI, fun h => absurd h (ls_none _ _), ?_⟩
  · intro i o _ h; exact absurd h (ls_none _ _)
  · intro j o d _ _ h; exact absurd h (ls_none _ _)
  · intro j _ h; exact absurd h (ls_none _ _)
/-- a region that draws its order: each operation by itself, then what follows; something holds till its last operations; the last one tells what all has come to -/
theorem wp_region_linT {id : Nat} {os : List Oper} (hm : P.follows .mixedOrders = true) (J : World → Prop) (S : Nat → Value → World → Prop) (dep : Nat → List (Nat × Nat)) (olds surv : Nat → List Nat) (fin : List Nat) (m : List Nat) (I0 : World → Prop) (ends : List Nat) (T : (Nat → Value) → World → Prop) (e : Nat) {a0 : Act} {w0 : World} (size : Nat)
    (hsz : a0.tmps.size = size) (hp : planB os.toArray dep olds surv fin m size = true) (he : endsB os.toArray m ends = true) (hla : lastB os.toArray m e = true ∨ os.toArray.size ≤ e) (hJ : J w0.drew) (hI : I0 w0.drew) (hstep : AllL (StepT P os.toArray J S dep olds surv a0 I0 ends T e) 0 os)
    (hfin : ∀ F w, J w → Sat S F w fin → (e < os.toArray.size → T F w) → Q .normal (putL F 0 os a0) w) : (Code.region id os.toArray true).wp P Q a0 w0 :=
  wp_region_linU hm J S dep olds surv fin m I0 ends [] T e size hsz hp he hla hJ hI (stepU_of hstep) hfin
/-- a region that draws its order: each operation by itself, then what follows; something holds till its last operations -/
theorem wp_region_linI {id : Nat} {os : List Oper} (hm : P.follows .mixedOrders = true) (J : World → Prop) (S : Nat → Value → World → Prop) (dep : Nat → List (Nat × Nat)) (olds surv : Nat → List Nat) (fin : List Nat) (m : List Nat) (I0 : World → Prop) (ends : List Nat) {a0 : Act} {w0 : World} (size : Nat)
    (hsz : a0.tmps.size = size) (hp : planB os.toArray dep olds surv fin m size = true) (he : endsB os.toArray m ends = true) (hJ : J w0.drew) (hI : I0 w0.drew) (hstep : AllL (StepI P os.toArray J S dep olds surv a0 I0 ends) 0 os)
    (hfin : ∀ F w, J w → Sat S F w fin → Q .normal (putL F 0 os a0) w) : (Code.region id os.toArray true).wp P Q a0 w0 :=
  wp_region_linT hm J S dep olds surv fin m I0 ends (fun _ _ => True) os.toArray.size size hsz hp he (.inr (Nat.le_refl _)) hJ hI (stepT_of hstep) (fun F w h1 h2 _ => hfin F w h1 h2)
/-- a region that draws its order: each operation by itself, then what follows -/
theorem wp_region_lin {id : Nat} {os : List Oper} (hm : P.follows .mixedOrders = true) (J : World → Prop) (S : Nat → Value → World → Prop) (dep : Nat → List (Nat × Nat)) (olds surv : Nat → List Nat) (fin : List Nat) (m : List Nat) {a0 : Act} {w0 : World} (size : Nat)
    (hsz : a0.tmps.size = size) (hp : planB os.toArray dep olds surv fin m size = true) (hJ : J w0.drew) (hstep : AllL (StepL P os.toArray J S dep olds surv a0) 0 os)
    (hfin : ∀ F w, J w → Sat S F w fin → Q .normal (putL F 0 os a0) w) : (Code.region id os.toArray true).wp P Q a0 w0 :=
  wp_region_linI hm J S dep olds surv fin m (fun _ => True) [] size hsz hp (by unfold endsB; simp) hJ trivial (stepI_of hstep) hfin

/-- an operation without a guard -/
theorem stepU_plain {ops : Array Oper} {J : World → Prop} {S : Nat → Value → World → Prop} {dep : Nat → List (Nat × Nat)} {olds surv : Nat → List Nat} {a0 : Act} {I0 : World → Prop} {ends late : List Nat} {T : (Nat → Value) → World → Prop} {e : Nat} {i : Nat} {o : Oper} (hg : o.guard = none)
    (h : ∀ (F : Nat → Value) (a : Act) (w : World), J w → SatD S F a w (dep i) → OldD a0 a (olds i) → (i ∉ late → I0 w) →
      ∀ K : Act → World → Prop, (∀ v w', J w' → S i v w' → (∀ j ∈ surv i, ∀ u, S j u w → S j u w') → (i ∉ ends → I0 w') → (i = e → T (fun k => if k = i then v else F k) w') → K (a.put o.dst v) w') → o.wp P a w K noQ) : StepU P ops J S dep olds surv a0 I0 ends late T e i o :=
  fun F a w hJ hS hO hI K hK => ⟨fun _ => h F a w hJ hS hO hI K hK, fun hw => by simp [Region.wanted, hg] at hw⟩
theorem stepL_plain {ops : Array Oper} {J : World → Prop} {S : Nat → Value → World → Prop} {dep : Nat → List (Nat × Nat)} {olds surv : Nat → List Nat} {a0 : Act} {i : Nat} {o : Oper} (hg : o.guard = none)
    (h : ∀ (F : Nat → Value) (a : Act) (w : World), J w → SatD S F a w (dep i) → OldD a0 a (olds i) →
      ∀ K : Act → World → Prop, (∀ v w', J w' → S i v w' → (∀ j ∈ surv i, ∀ u, S j u w → S j u w') → K (a.put o.dst v) w') → o.wp P a w K noQ) : StepL P ops J S dep olds surv a0 i o :=
  fun F a w hJ hS hO K hK => ⟨fun _ => h F a w hJ hS hO K hK, fun hw => by simp [Region.wanted, hg] at hw⟩
end
end Go.Proofs.Ytkkkdjkjggofkaa
