/- Numbers as lists of digits of base 2: what the reference's functions compute, in plain Lean. No program. -/
namespace Go.Proofs.Ytahneblnbafpoaa

def val : List Bool → Nat
  | [] => 0
  | b :: r => b.toNat + 2 * val r
def atN (l : List Bool) (i : Nat) : Nat := (l.getD i false).toNat
theorem toNat_le1 (b : Bool) : b.toNat ≤ 1 := by cases b <;> simp
theorem atN_le (l : List Bool) (i : Nat) : atN l i ≤ 1 := toNat_le1 _
theorem val_append : ∀ (a b : List Bool), val (a ++ b) = val a + 2 ^ a.length * val b
  | [], b => by simp [val]
  | x :: a, b => by
    simp only [List.cons_append, val, val_append a b, List.length_cons, Nat.pow_succ]
    rw [Nat.mul_add, Nat.mul_comm (2 ^ a.length) 2, Nat.mul_assoc]; omega
theorem val_lt : ∀ (a : List Bool), val a < 2 ^ a.length
  | [] => by simp [val]
  | x :: a => by
    have := val_lt a
    have := toNat_le1 x
    simp only [val, List.length_cons, Nat.pow_succ]; omega
theorem val_snoc (a : List Bool) (b : Bool) : val (a ++ [b]) = val a + b.toNat * 2 ^ a.length := by
  rw [val_append]; simp [val, Nat.mul_comm]
theorem val_take_succ (l : List Bool) (i : Nat) : val (l.take (i + 1)) = val (l.take i) + atN l i * 2 ^ i := by
  by_cases h : i < l.length
  · rw [List.take_succ_eq_append_getElem h, val_snoc, List.length_take, Nat.min_eq_left (by omega)]
    simp [atN, h]
  · rw [List.take_of_length_le (by omega), List.take_of_length_le (by omega)]
    simp [atN, List.getD, List.getElem?_eq_none (Nat.le_of_not_lt h)]
theorem val_take_ge (l : List Bool) (i : Nat) (h : l.length ≤ i) : val (l.take i) = val l := by rw [List.take_of_length_le h]
theorem val_split (l : List Bool) (i : Nat) : val l = val (l.take i) + 2 ^ i * val (l.drop i) := by
  by_cases h : i ≤ l.length
  · have := val_append (l.take i) (l.drop i)
    rw [List.take_append_drop, List.length_take, Nat.min_eq_left h] at this
    exact this
  · rw [List.take_of_length_le (by omega), List.drop_eq_nil_of_le (by omega)]; simp [val]
theorem val_drop (l : List Bool) (i : Nat) : val (l.drop i) = atN l i + 2 * val (l.drop (i + 1)) := by
  by_cases h : i < l.length
  · rw [List.drop_eq_getElem_cons h]; simp [val, atN, h]
  · rw [List.drop_eq_nil_of_le (by omega), List.drop_eq_nil_of_le (by omega)]
    simp [val, atN, List.getD, List.getElem?_eq_none (Nat.le_of_not_lt h)]
theorem val_take_lt (l : List Bool) (i : Nat) : val (l.take i) < 2 ^ i := by
  refine Nat.lt_of_lt_of_le (val_lt _) (Nat.pow_le_pow_right (by omega) ?_)
  rw [List.length_take]; omega
theorem val_drop_of_lt (l : List Bool) (i : Nat) (h : val l < 2 ^ i) : val (l.drop i) = 0 := by
  have := val_split l i
  rcases Nat.eq_zero_or_pos (val (l.drop i)) with h0 | h0
  · exact h0
  · have : 2 ^ i * 1 ≤ 2 ^ i * val (l.drop i) := Nat.mul_le_mul_left _ h0
    omega
theorem val_take_of_lt (l : List Bool) (i : Nat) (h : val l < 2 ^ i) : val (l.take i) = val l := by
  have := val_split l i
  rw [val_drop_of_lt l i h] at this
  omega
theorem val_replicate (i : Nat) : val (List.replicate i false) = 0 := by
  induction i with
  | zero => rfl
  | succ n ih => rw [List.replicate_succ, val, ih]; rfl

/-! ### less -/
theorem less_at {a b : List Bool} {i : Nat} (h : val (a.drop (i + 1)) = val (b.drop (i + 1))) (hl : atN a i < atN b i) : val a < val b := by
  have h1 := val_split a i
  have h2 := val_split b i
  rw [val_drop, h] at h1
  rw [val_drop] at h2
  have h3 := val_take_lt a i
  generalize val (b.drop (i + 1)) = D at *
  have ha : atN a i = 0 := by have := atN_le b i; omega
  have hb : atN b i = 1 := by have := atN_le b i; omega
  rw [ha] at h1
  rw [hb, Nat.mul_add] at h2
  have : 2 ^ i * (0 + 2 * D) = 2 ^ i * (2 * D) := by rw [Nat.zero_add]
  omega
theorem less_same {a b : List Bool} {i : Nat} (h : val (a.drop (i + 1)) = val (b.drop (i + 1))) (hl : atN a i = atN b i) : val (a.drop i) = val (b.drop i) := by
  rw [val_drop, val_drop b, h, hl]

/-! ### plus -/
def PlusI (a b o : List Bool) (i more : Nat) : Prop := o.length = i ∧ more ≤ 1 ∧ val o + more * 2 ^ i = val (a.take i) + val (b.take i)
theorem plus_start (a b : List Bool) : PlusI a b [] 0 0 := ⟨rfl, by omega, by simp [val]⟩
theorem plus_step {a b o : List Bool} {i more : Nat} (h : PlusI a b o i more) :
    PlusI a b (o ++ [(atN a i + atN b i + more) % 2 == 1]) (i + 1) ((atN a i + atN b i + more) / 2) := by
  obtain ⟨h1, h2, h3⟩ := h
  have ha := atN_le a i
  have hb := atN_le b i
  refine ⟨by simp [h1], by omega, ?_⟩
  rw [val_snoc, val_take_succ, val_take_succ, h1]
  have e : ((atN a i + atN b i + more) % 2 == 1).toNat = (atN a i + atN b i + more) % 2 := by
    rcases Nat.mod_two_eq_zero_or_one (atN a i + atN b i + more) with h | h <;> rw [h] <;> rfl
  rw [e]
  have hs : (atN a i + atN b i + more) % 2 + 2 * ((atN a i + atN b i + more) / 2) = atN a i + atN b i + more := by omega
  generalize (atN a i + atN b i + more) % 2 = m at *
  generalize (atN a i + atN b i + more) / 2 = d at *
  have hp : d * 2 ^ (i + 1) = 2 * d * 2 ^ i := by rw [Nat.pow_succ]; rw [Nat.mul_comm (2 ^ i) 2, ← Nat.mul_assoc, Nat.mul_comm d 2]
  rw [hp]
  have : (m + 2 * d) * 2 ^ i = (atN a i + atN b i + more) * 2 ^ i := by rw [hs]
  simp only [Nat.add_mul] at this
  omega
theorem plus_end {a b o : List Bool} {i more : Nat} (h : PlusI a b o i more) (hi : i = max a.length b.length + 1) : val o = val a + val b ∧ o.length = max a.length b.length + 1 := by
  obtain ⟨h1, h2, h3⟩ := h
  rw [val_take_ge a i (by omega), val_take_ge b i (by omega)] at h3
  have ha := val_lt a
  have hb := val_lt b
  have ha' : 2 ^ a.length ≤ 2 ^ (max a.length b.length) := Nat.pow_le_pow_right (by omega) (by omega)
  have hb' : 2 ^ b.length ≤ 2 ^ (max a.length b.length) := Nat.pow_le_pow_right (by omega) (by omega)
  subst hi
  rw [Nat.pow_succ] at h3
  have : more = 0 := by
    rcases Nat.eq_zero_or_pos more with h | h
    · exact h
    · have : more = 1 := by omega
      subst this; omega
  subst this
  exact ⟨by omega, h1⟩

/-! ### minus -/
def MinusI (a b o : List Bool) (i less : Nat) : Prop := o.length = i ∧ less ≤ 1 ∧ val o + val (b.take i) = val (a.take i) + less * 2 ^ i
theorem minus_start (a b : List Bool) : MinusI a b [] 0 0 := ⟨rfl, by omega, by simp [val]⟩
theorem minus_step0 {a b o : List Bool} {i less : Nat} (h : MinusI a b o i less) (s : Int) (hs : s = (atN a i : Int) - atN b i - less) (h0 : 0 ≤ s) : MinusI a b (o ++ [s == 1]) (i + 1) 0 := by
  obtain ⟨h1, h2, h3⟩ := h
  have ha := atN_le a i
  have hb := atN_le b i
  refine ⟨by simp [h1], by omega, ?_⟩
  rw [val_snoc, val_take_succ, val_take_succ, h1]
  obtain ⟨k, rfl⟩ := Int.eq_ofNat_of_zero_le h0
  have hk : k + atN b i + less = atN a i := by omega
  have hk1 : k ≤ 1 := by omega
  have e : (((k : Int) == 1)).toNat = k := by
    rcases (by omega : k = 0 ∨ k = 1) with rfl | rfl <;> rfl
  rw [e]
  have : (k + atN b i + less) * 2 ^ i = atN a i * 2 ^ i := by rw [hk]
  simp only [Nat.add_mul] at this
  omega
theorem minus_step1 {a b o : List Bool} {i less : Nat} (h : MinusI a b o i less) (s : Int) (hs : s = (atN a i : Int) - atN b i - less) (h0 : s < 0) : MinusI a b (o ++ [s + 2 == 1]) (i + 1) 1 := by
  obtain ⟨h1, h2, h3⟩ := h
  have ha := atN_le a i
  have hb := atN_le b i
  refine ⟨by simp [h1], by omega, ?_⟩
  rw [val_snoc, val_take_succ, val_take_succ, h1]
  obtain ⟨k, hk⟩ := Int.eq_ofNat_of_zero_le (a := s + 2) (by omega)
  have hk2 : k + atN b i + less = atN a i + 2 := by omega
  have hk1 : k ≤ 1 := by omega
  have e : ((s + 2 == 1)).toNat = k := by
    rw [hk]; rcases (by omega : k = 0 ∨ k = 1) with rfl | rfl <;> rfl
  rw [e]
  have : (k + atN b i + less) * 2 ^ i = (atN a i + 2) * 2 ^ i := by rw [hk2]
  simp only [Nat.add_mul] at this
  have hp : 1 * 2 ^ (i + 1) = 2 * 2 ^ i := by rw [Nat.pow_succ]; omega
  rw [hp]
  omega
theorem minus_end {a b o : List Bool} {i less : Nat} (h : MinusI a b o i less) (hi : i = a.length) (hle : val b ≤ val a) : val o = val a - val b ∧ o.length = a.length := by
  obtain ⟨h1, h2, h3⟩ := h
  have ha := val_lt a
  subst hi
  rw [val_take_ge a _ (Nat.le_refl _), val_take_of_lt b _ (by omega)] at h3
  have ho := val_lt o
  rw [h1] at ho
  have : less = 0 := by
    rcases Nat.eq_zero_or_pos less with h | h
    · exact h
    · have : less = 1 := by omega
      subst this; omega
  subst this
  exact ⟨by omega, h1⟩

/-! ### short -/
theorem short_step {l : List Bool} {n : Nat} (h : val (l.take (n + 1)) = val l) (hn : l.getD n false = false) : val (l.take n) = val l := by
  rw [val_take_succ] at h
  simp only [atN, hn] at h
  simpa using h
theorem short_pos {l : List Bool} {n : Nat} (hn : l.getD n false = true) (h : val (l.take (n + 1)) = val l) : 2 ^ n ≤ val l := by
  rw [val_take_succ] at h
  simp only [atN, hn] at h
  simp at h
  omega

/-! ### products -/
theorem mul_step1 {a b o o' : List Bool} {i : Nat} (h : val o = val (a.take i) * val b) (hi : a.getD i false = true) (ho : val o' = val o + val (List.replicate i false ++ b)) : val o' = val (a.take (i + 1)) * val b := by
  rw [ho, h, val_take_succ, val_append, val_replicate, List.length_replicate, atN, hi, Nat.add_mul]
  simp
theorem mul_step0 {a b o : List Bool} {i : Nat} (h : val o = val (a.take i) * val b) (hi : a.getD i false = false) : val o = val (a.take (i + 1)) * val b := by
  rw [h, val_take_succ, atN, hi]; simp

/-! ### quotients -/
def DivI (a b out rest : List Bool) (k : Nat) : Prop :=
  out.length = a.length ∧ (∀ j, j < k → out.getD j false = false) ∧ val (a.drop k) = val b * val (out.drop k) + val rest ∧ val rest < val b
theorem div_start (a b : List Bool) (hb : 0 < val b) : DivI a b (List.replicate a.length false) [] a.length :=
  ⟨by simp, fun j hj => by simp [hj], by simp [val], by simpa [val] using hb⟩
theorem div_step0 {a b out rest rest' : List Bool} {i : Nat} (h : DivI a b out rest (i + 1)) (hr : val rest' = atN a i + 2 * val rest) (hlt : val rest' < val b) : DivI a b out rest' i := by
  obtain ⟨h1, h2, h3, h4⟩ := h
  refine ⟨h1, fun j hj => h2 j (by omega), ?_, hlt⟩
  have ho : atN out i = 0 := by rw [atN, h2 i (by omega)]; rfl
  rw [val_drop, val_drop out, h3, ho, hr, Nat.mul_add, Nat.mul_add, Nat.mul_left_comm]
  omega
theorem div_step1 {a b out rest r1 rest' : List Bool} {i : Nat} (h : DivI a b out rest (i + 1)) (hi : i < a.length) (hr : val r1 = atN a i + 2 * val rest) (hge : ¬ val r1 < val b) (hr' : val rest' = val r1 - val b) :
    DivI a b (out.set i true) rest' i := by
  obtain ⟨h1, h2, h3, h4⟩ := h
  have := atN_le a i
  refine ⟨by simpa using h1, fun j hj => ?_, ?_, by omega⟩
  · have := h2 j (by omega)
    simp only [List.getD_eq_getElem?_getD, List.getElem?_set] at this ⊢
    rw [if_neg (by omega)]; exact this
  · have ho : atN (out.set i true) i = 1 := by simp [atN, h1, hi]
    have hd : (out.set i true).drop (i + 1) = out.drop (i + 1) := by rw [List.drop_set_of_lt (by omega)]
    rw [val_drop, val_drop (out.set i true), h3, ho, hd, hr', hr, Nat.mul_add, Nat.mul_add, Nat.mul_left_comm]
    omega
theorem div_end {a b out rest : List Bool} (h : DivI a b out rest 0) (hb : 0 < val b) : val out = val a / val b ∧ val rest = val a % val b := by
  obtain ⟨h1, h2, h3, h4⟩ := h
  simp only [List.drop_zero] at h3
  have := (Nat.div_mod_unique hb (a := val a) (c := val rest) (d := val out)).2 ⟨by omega, h4⟩
  exact ⟨this.1.symm, this.2.symm⟩

/-! ### floors -/
/-- the floor of a quotient, whatever the signs -/
def flo (a b : Int) : Int := if 0 < b then a / b else (-a) / (-b)
theorem flo_pp (p q : Nat) (hq : 0 < q) : flo p q = ((p / q : Nat) : Int) := by unfold flo; rw [if_pos (by omega)]; simp
theorem flo_nn (p q : Nat) (hq : 0 < q) : flo (-(p : Int)) (-(q : Int)) = ((p / q : Nat) : Int) := by unfold flo; rw [if_neg (by omega)]; simp
theorem neg_floor (p q : Nat) (hq : 0 < q) : (-(p : Int)) / (q : Int) = -((p / q : Nat) : Int) - (if p % q = 0 then 0 else 1) := by
  have hd := Nat.div_add_mod p q
  have hm := Nat.mod_lt p hq
  have hd' : (q : Int) * ((p / q : Nat) : Int) + ((p % q : Nat) : Int) = (p : Int) := by exact_mod_cast hd
  generalize ((p / q : Nat) : Int) = d at *
  by_cases h : p % q = 0
  · rw [if_pos h]
    rw [h] at hd'
    refine ((Int.ediv_emod_unique (by omega : (0 : Int) < q) (r := 0)).2 ⟨?_, by omega, by omega⟩).1
    rw [Int.sub_zero, Int.mul_neg]; omega
  · rw [if_neg h]
    refine ((Int.ediv_emod_unique (by omega : (0 : Int) < q) (r := (q : Int) - ((p % q : Nat) : Int))).2 ⟨?_, by omega, by omega⟩).1
    rw [Int.mul_sub, Int.mul_neg]; omega
theorem flo_np (p q : Nat) (hq : 0 < q) : flo (-(p : Int)) q = -((p / q : Nat) : Int) - (if p % q = 0 then 0 else 1) := by unfold flo; rw [if_pos (by omega)]; exact neg_floor p q hq
theorem flo_pn (p q : Nat) (hq : 0 < q) : flo p (-(q : Int)) = -((p / q : Nat) : Int) - (if p % q = 0 then 0 else 1) := by unfold flo; rw [if_neg (by omega), Int.neg_neg]; exact neg_floor p q hq
end Go.Proofs.Ytahneblnbafpoaa
