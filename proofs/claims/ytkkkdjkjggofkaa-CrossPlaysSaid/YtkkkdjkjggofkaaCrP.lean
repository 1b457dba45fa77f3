/- Layer 20: items of a row without margins (plain laws, and what Place makes of them). -/
import Derived.Test.YtkkkdjkjggofkaaCrO
namespace Go.Proofs.Ytkkkdjkjggofkaa
open Go.RowKit
def sumL (l : List Int) (p : Nat) : Int := (l.take p).foldl (fun t x => t + x) 0
theorem sumL_0 (l : List Int) : sumL l 0 = 0 := by simp [sumL]
theorem sumL_step {l : List Int} {p : Nat} {x : Int} (h : l[p]? = some x) : sumL l (p + 1) = sumL l p + x := by
  unfold sumL
  rw [takeS h, List.foldl_append]; rfl
theorem sumL_bd {l : List Int} (h : ∀ x ∈ l, 0 ≤ x ∧ x ≤ 65535) : ∀ p, p ≤ l.length → 0 ≤ sumL l p ∧ sumL l p ≤ 65535 * (p : Int) := by
  intro p
  induction p with
  | zero => intro _; simp [sumL]
  | succ p ih =>
    intro hp
    have h1 := ih (by omega)
    have hx : l[p]? = some l[p] := List.getElem?_eq_getElem (by omega)
    have h2 := h _ (List.mem_of_getElem? hx)
    rw [sumL_step hx]
    omega
def jsS (n : Nat) : List Sty := List.replicate n (stK 1 0 0)
def jsU (l : List Int) : List Us := l.map fun x => ⟨x, 0, 0⟩
section
variable {l : List Int} {c : Int}
theorem js_it {i : Nat} {x : Int} (h : l[i]? = some x) : mIt c (jsS l.length) (jsU l) [] zsty i = ⟨stK 1 0 0, 0, 0, x, 0, 0, 0, 0, 0, 0, false⟩ := by
  have hl := (List.getElem?_eq_some_iff.1 h).1
  have h1 : (jsS l.length).getD i zsty = stK 1 0 0 := by simp [jsS, List.getD_eq_getElem?_getD, hl]
  have h2 : (jsU l).getD i ⟨0, 0, 0⟩ = ⟨x, 0, 0⟩ := by rw [jsU, List.getD_eq_getElem?_getD, List.getElem?_map, h]; rfl
  rw [mIt, h1, h2]
  simp [resV, frameA, frameD]
theorem js_sum : ∀ p, p ≤ l.length → sumV (mIt c (jsS l.length) (jsU l) [] zsty) ((List.range l.length).take p) = sumL l p := by
  intro p
  induction p with
  | zero => intro _; simp [sumV, sumL]
  | succ p ih =>
    intro hp
    have hx : l[p]? = some l[p] := List.getElem?_eq_getElem (by omega)
    have hr : (List.range l.length)[p]? = some p := List.getElem?_range (by omega)
    rw [takeS hr, sumV_snoc, ih (by omega), sumL_step hx, js_it hx]
    simp
end
/-- items side by side -/
def JustOut (l : List Int) (j free : Int) (w : World) (e : Ending) (w' : World) : Prop := ∃ gF gB t, e = .returned (.tuple #[.slice (some ⟨gF, 0, none⟩) l.length l.length, .int .i64 t, .slice (some ⟨gB, 0, none⟩) l.length l.length]) ∧ gF < w'.heap.size ∧
  (∀ (i : Nat) (x : Int), l[i]? = some x → w'.cell? ⟨gF, i * 5, none⟩ = some (.int .i64 (sumL l i + moveV j free i l.length)) ∧ w'.cell? ⟨gF, i * 5 + 2, none⟩ = some (.int .i64 x)) ∧ Ext w w'
theorem just_place (l : List Int) (c j : Int) (hl : 0 < l.length ∧ l.length ≤ 60) (hb : ∀ x ∈ l, 0 ≤ x ∧ x ≤ 65535) (hc : 0 ≤ c ∧ c ≤ 4294967295) (hj : 0 ≤ j ∧ j ≤ 3) (Ak Au Aq : Option Addr) (gr ck cu cq : Nat) (w : World)
    (b1 : Rd w 43 Ak l.length (recs styC (jsS l.length))) (b2 : Rd w 3 Au l.length (recs usC (jsU l))) (b4 : Blk w gr 50 #[.slice Aq l.length cq]) (b5 : Rd w 1 Aq l.length (ints (castL (List.range l.length)))) :
    Calls Try.prog 10 #[.agg (stK 2 j 0).cells, .int .i64 c, .slice Ak l.length ck, .slice Au l.length cu, .slice none 0 0, .slice (some ⟨gr, 0, none⟩) 1 1] w (JustOut l j (c - sumL l l.length) w) := by
  have hnd : [List.range l.length].flatten.Nodup := by simpa using List.nodup_range
  have ho : RowsOk [List.range l.length] l.length := ⟨hnd, fun ks hks k hk => by
    rw [List.mem_singleton.1 hks] at hk
    exact List.mem_range.1 hk⟩
  have hrd : RdR w 0 (some ⟨gr, 0, none⟩) 1 (fun r => castL ([List.range l.length].getD r [])) := ⟨fun i hi => by
    obtain rfl : i = 0 := by omega
    have hcl : (castL (List.range l.length)).length = l.length := by rw [castL_len, List.length_range]
    refine ⟨gr, 0, Aq, cq, rfl, Nat.zero_le _, b4.lt, ?_, ?_, fun _ _ _ => Nat.zero_le _⟩
    · show w.cell? ⟨gr, 0 + 0, none⟩ = some (.slice Aq (castL (List.range l.length)).length cq)
      rw [b4.cell, hcl]; rfl
    · show Rd w 1 Aq (castL (List.range l.length)).length (ints (castL (List.range l.length)))
      rw [hcl]; exact b5⟩
  have hI : ∀ i, i < l.length → ∃ x, l[i]? = some x ∧ mIt c (jsS l.length) (jsU l) [] zsty i = ⟨stK 1 0 0, 0, 0, x, 0, 0, 0, 0, 0, 0, false⟩ ∧ 0 ≤ x ∧ x ≤ 65535 := fun i hi => by
    have hx : l[i]? = some l[i] := List.getElem?_eq_getElem hi
    exact ⟨_, hx, js_it hx, hb _ (List.mem_of_getElem? hx)⟩
  have h := place_any (stK 2 j 0) c Ak Au none (some ⟨gr, 0, none⟩) l.length ck l.length cu 0 0 1 1 (jsS l.length) (jsU l) [] zsty [List.range l.length] w b1 b2 (Rd.nil _ _ _) hrd rfl (by omega) (by omega) (by omega) (fun s hs => by
      rw [(List.mem_replicate.1 hs).2]; exact stK_ok 1 0 0) (fun u hu => by
      obtain ⟨x, hx, rfl⟩ := List.mem_map.1 hu
      have := hb x hx
      simp only; omega) (fun i hi => by
      obtain ⟨x, _, h2, h3⟩ := hI i hi
      rw [h2]
      exact ⟨stK_h 1 0 0, by simp, by simp, by simp only; omega, by simp, by simp, by simp, by simp⟩) (by simp only; omega) (stK_h 2 j 0) ho (fun i hi => all_st (rs := [List.range l.length]) hnd (n := l.length) (fun i hi => by simpa using hi) i hi)
  refine h.mono ?_
  rintro e w' ⟨gF, gB, rfl, hF, hB, hx⟩
  refine ⟨gF, gB, _, rfl, hF.lt, fun i x hxi => ?_, hx⟩
  have hi := (List.getElem?_eq_some_iff.1 hxi).1
  have hk : ([List.range l.length].getD 0 [])[i]? = some i := by show (List.range l.length)[i]? = some i; simp [hi]
  have hJ := topN_fin (s := stK 2 j 0) (c := c) (nr := 1) (I := mIt c (jsS l.length) (jsU l) [] zsty) hnd hk 1 (by omega) (Nat.le_refl _)
  have hxb := hb x (List.mem_of_getElem? hxi)
  have hsb := sumL_bd hb i (by omega)
  have hsn := sumL_bd hb l.length (Nat.le_refl _)
  have hmb := moveV_bd (j := j) (f := c - sumL l l.length) (by omega) hi (show l.length ≤ 70 by omega)
  have hmb2 : -1000000000000 ≤ moveV j (c - sumL l l.length) i l.length ∧ moveV j (c - sumL l l.length) i l.length ≤ 500000000000 := by
    unfold moveV
    split
    · omega
    · split
      · omega
      · split
        · unfold betV
          split
          · omega
          · obtain ⟨q, hq⟩ : ∃ q : Nat, c - sumL l l.length = q := ⟨(c - sumL l l.length).toNat, by omega⟩
            have h1 : i * q ≤ 60 * 4294967295 := mul_small (by omega) (by omega)
            rw [hq, show ((i : Int) * (q : Int)) = ((i * q : Nat) : Int) by simp]
            have h3 : 0 ≤ ((i * q : Nat) : Int) / ((l.length : Int) - 1) := Int.ediv_nonneg (by omega) (by omega)
            have h4 : ((i * q : Nat) : Int) / ((l.length : Int) - 1) ≤ ((i * q : Nat) : Int) := Int.ediv_le_self _ (by omega)
            omega
        · omega
  have e1 : ((topN (stK 2 j 0) c 1 [List.range l.length] (mIt c (jsS l.length) (jsU l) [] zsty) 1).2 i).x = sumL l i + moveV j (c - sumL l l.length) i l.length := by
    rw [hJ]
    show sumV _ ((List.range l.length).take i) + (mIt c (jsS l.length) (jsU l) [] zsty i).left + moveV j (c - sumV _ (List.range l.length)) i (List.range l.length).length = _
    have hs := js_sum (l := l) (c := c) l.length (Nat.le_refl _)
    rw [List.take_of_length_le (by simp)] at hs
    rw [js_sum i (by omega), hs, js_it hxi, List.length_range]
    simp
  have e2 : ((topN (stK 2 j 0) c 1 [List.range l.length] (mIt c (jsS l.length) (jsU l) [] zsty) 1).2 i).wide = x := by
    rw [hJ]
    show (mIt c (jsS l.length) (jsU l) [] zsty i).wide = x
    rw [js_it hxi]
  have f0 := hF.cell i hi
  refine ⟨?_, ?_⟩
  · have := f0 0 _ rfl
    rw [Nat.add_zero] at this
    rw [this]
    show some (Value.int .i64 (cutV _)) = _
    rw [e1, (cut_in (by omega)).1]
  · have := f0 2 _ rfl
    rw [this]
    show some (Value.int .i64 (cutV _)) = _
    rw [e2, (cut_in (by omega)).1]
/-! ### gaps -/
theorem move_0 (free : Int) (p n : Nat) : moveV 0 free p n = 0 := by simp [moveV]
theorem move_1 (free : Int) (p n : Nat) : moveV 1 free p n = free := by simp [moveV]
theorem move_2 (free : Int) (p n : Nat) : moveV 2 free p n = free / 2 := by simp [moveV]
theorem move_3 (free : Int) (p n : Nat) : moveV 3 free p n = betV free p n := by simp [moveV]
theorem bet_no {free : Int} (h : free ≤ 0) (p n : Nat) : betV free p n = 0 := by rw [betV, if_pos (.inl h)]
theorem bet_first (free : Int) (n : Nat) : betV free 0 n = 0 := by
  unfold betV
  split
  · rfl
  · simp
theorem bet_last {free : Int} (h : 0 < free) {m : Nat} (hm : 0 < m) : betV free m (m + 1) = free := by
  rw [betV, if_neg (by omega), show ((m + 1 : Nat) : Int) - 1 = (m : Int) by omega, Int.mul_ediv_cancel_left _ (by omega)]
theorem bet_step {free : Int} (h : 0 < free) {m : Nat} (hm : 0 < m) (p : Nat) : free / (m : Int) ≤ betV free (p + 1) (m + 1) - betV free p (m + 1) ∧ betV free (p + 1) (m + 1) - betV free p (m + 1) ≤ free / (m : Int) + 1 ∧ 0 ≤ free / (m : Int) := by
  rw [betV, betV, if_neg (by omega), if_neg (by omega), show ((m + 1 : Nat) : Int) - 1 = (m : Int) by omega]
  have hm0 : (0 : Int) < m := by omega
  have e : ((p + 1 : Nat) : Int) * free = (p : Int) * free + free := by rw [show ((p + 1 : Nat) : Int) = (p : Int) + 1 by omega, Int.add_mul, Int.one_mul]
  rw [e]
  generalize (p : Int) * free = a
  have h1 := div_facts a m hm0
  have h2 := div_facts free m hm0
  have h3 := div_facts (a + free) m hm0
  obtain ⟨q1, r1, e1⟩ : ∃ q r, a / (m : Int) = q ∧ a % (m : Int) = r := ⟨_, _, rfl, rfl⟩
  obtain ⟨q2, r2, e2⟩ : ∃ q r, free / (m : Int) = q ∧ free % (m : Int) = r := ⟨_, _, rfl, rfl⟩
  obtain ⟨q3, r3, e3⟩ : ∃ q r, (a + free) / (m : Int) = q ∧ (a + free) % (m : Int) = r := ⟨_, _, rfl, rfl⟩
  rw [e1.1, e1.2] at h1
  rw [e2.1, e2.2] at h2
  rw [e3.1, e3.2] at h3
  rw [e1.1, e2.1, e3.1]
  have hk : (m : Int) * (q3 - q1 - q2) = r1 + r2 - r3 := by rw [Int.mul_sub, Int.mul_sub]; omega
  have hlo : 0 ≤ q3 - q1 - q2 := by
    by_cases hn : 0 ≤ q3 - q1 - q2
    · exact hn
    · have : (m : Int) * (q3 - q1 - q2) ≤ (m : Int) * (-1) := Int.mul_le_mul_of_nonneg_left (by omega) (by omega)
      omega
  have hhi : q3 - q1 - q2 ≤ 1 := by
    by_cases hn : q3 - q1 - q2 ≤ 1
    · exact hn
    · have : (m : Int) * 2 ≤ (m : Int) * (q3 - q1 - q2) := Int.mul_le_mul_of_nonneg_left (by omega) (by omega)
      omega
  have hq2 : 0 ≤ q2 := by rw [← e2.1]; exact Int.ediv_nonneg (by omega) (by omega)
  omega
end Go.Proofs.Ytkkkdjkjggofkaa
