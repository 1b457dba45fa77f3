/- Layer 20: items without bounds of their heights lie in their rows (plain laws). -/
import Derived.Test.YtkkkdjkjggofkaaCsT
namespace Go.Proofs.Ytkkkdjkjggofkaa
open Go.RowKit
theorem cut_le {x : Int} (h : -1099511627776 ≤ x ∧ x ≤ 1099511627776) : cutV x = x := by
  unfold cutV; rw [if_neg (by omega), if_neg (by omega)]
/-- what the law asks of an item -/
structure KidR (s : Sty) (u : Us) (h : Int) : Prop where
  ok : KidOk s
  (hk : s.h.k = 0) (lk : s.minh.k = 0) (gk : s.maxh.k = 0)
  (w : 0 ≤ u.w ∧ u.w ≤ 1073741824) (l : 0 ≤ u.l ∧ u.l ≤ 1073741824) (r : 0 ≤ u.r ∧ u.r ≤ 1073741824) (hh : 0 ≤ h ∧ h ≤ 1073741824)
  (k0 : s.m0.k ≠ 2) (k2 : s.m2.k ≠ 2) (n0 : 0 ≤ s.m0.n ∧ s.m0.n ≤ 1073741824) (n2 : 0 ≤ s.m2.n ∧ s.m2.n ≤ 1073741824)
  (b0 : s.b0 ≤ 1073741824) (b1 : s.b1 ≤ 1073741824) (b2 : s.b2 ≤ 1073741824) (b3 : s.b3 ≤ 1073741824)
  (p0 : s.p0 ≤ 1073741824) (p1 : s.p1 ≤ 1073741824) (p2 : s.p2 ≤ 1073741824) (p3 : s.p3 ≤ 1073741824)
  big : frameD s ≤ h
theorem res_num {l : Ln} {lo lop c : Int} (h : lenMayB l lo lop = true) (hk : l.k ≠ 2) : resV l c = l.n := by
  unfold resV
  unfold lenMayB at h
  by_cases h0 : l.k = 0
  · rw [if_pos h0] at h
    rw [if_neg (by omega), if_neg hk]
    simp at h; omega
  · by_cases h1 : l.k = 1
    · rw [if_pos h1]
    · rw [if_neg h0, if_neg h1, if_neg hk] at h; cases h
/-- an item of the law -/
structure ItR (x : It) : Prop where
  (hk : x.s.h.k = 0) (lk : x.s.minh.k = 0) (gk : x.s.maxh.k = 0)
  (left : 0 ≤ x.left ∧ x.left ≤ 1073741824) (right : 0 ≤ x.right ∧ x.right ≤ 1073741824) (wide : 0 ≤ x.wide ∧ x.wide ≤ 5368709120) (high : 0 ≤ x.high ∧ x.high ≤ 1073741824)
  (down : 0 ≤ x.down ∧ x.down ≤ x.high) (above : 0 ≤ x.above ∧ x.above ≤ 1073741824) (below : 0 ≤ x.below ∧ x.below ≤ 1073741824)
theorem ItR.bd {x : It} (h : ItR x) : ItBd x := by
  obtain ⟨h1, h2, h3, h4, h5, h6, h7, h8, h9, h10⟩ := h
  exact ⟨⟨fun h => by omega, fun h => by omega, fun h => by omega⟩, by omega, by omega, by omega, by omega, by omega, by omega, by omega⟩
theorem KidR.it {s : Sty} {u : Us} {h : Int} (k : KidR s u h) (c : Int) : ItR ⟨s, u.l, u.r, u.w + frameA s, h, frameD s, resV s.m0 c, resV s.m2 c, 0, 0, false⟩ ∧ resV s.m0 c = s.m0.n ∧ resV s.m2 c = s.m2.n := by
  obtain ⟨hed, _⟩ := may_facts k.ok.may
  have e0 := res_num (c := c) hed.m0 k.k0
  have e2 := res_num (c := c) hed.m2 k.k2
  obtain ⟨⟨a1, _⟩, ⟨a2, _⟩, ⟨a3, _⟩, ⟨a4, _⟩, ⟨a5, _⟩, ⟨a6, _⟩, ⟨a7, _⟩, ⟨a8, _⟩⟩ := hed.thin
  obtain ⟨_, h1, h2, h3, h4, h5, h6, h7, _, _, h8, h9, q0, q1, q2, q3, r0, r1, r2, r3, hb⟩ := k
  refine ⟨⟨h1, h2, h3, h5, h6, ?_, h7, ?_, ?_, ?_⟩, e0, e2⟩
  · show 0 ≤ u.w + (s.b3 + s.b1 + s.p3 + s.p1) ∧ u.w + (s.b3 + s.b1 + s.p3 + s.p1) ≤ _; omega
  · show 0 ≤ s.b0 + s.b2 + s.p0 + s.p2 ∧ s.b0 + s.b2 + s.p0 + s.p2 ≤ h
    exact ⟨by omega, hb⟩
  · show 0 ≤ resV s.m0 c ∧ resV s.m0 c ≤ _; rw [e0]; exact h8
  · show 0 ≤ resV s.m2 c ∧ resV s.m2 c ≤ _; rw [e2]; exact h9
section
variable {I : Nat → It} {ks : List Nat} {s : Sty} {c top : Int} {nr : Nat}
theorem tall_ge : ∀ (l : List Nat) (t : Int), t ≤ l.foldl (fun t k => max t ((I k).high + (I k).above + (I k).below)) t ∧ ∀ k ∈ l, (I k).high + (I k).above + (I k).below ≤ l.foldl (fun t k => max t ((I k).high + (I k).above + (I k).below)) t
  | [], t => ⟨Int.le_refl _, fun k h => by cases h⟩
  | q :: l, t => by
    obtain ⟨h1, h2⟩ := tall_ge l (max t ((I q).high + (I q).above + (I q).below))
    rw [List.foldl_cons]
    refine ⟨by omega, fun k hk => ?_⟩
    rcases List.mem_cons.1 hk with rfl | hk
    · omega
    · exact h2 k hk
theorem tall_item {k : Nat} (hk : k ∈ ks) : (I k).high + (I k).above + (I k).below ≤ tallV I ks := (tall_ge ks 0).2 k hk
theorem tall_le (h : ∀ k ∈ ks, ItR (I k)) : 0 ≤ tallV I ks ∧ tallV I ks ≤ 3221225472 := by
  have : ∀ (l : List Nat) (t : Int), (∀ k ∈ l, ItR (I k)) → 0 ≤ t ∧ t ≤ 3221225472 → 0 ≤ l.foldl (fun t k => max t ((I k).high + (I k).above + (I k).below)) t ∧ l.foldl (fun t k => max t ((I k).high + (I k).above + (I k).below)) t ≤ 3221225472 := by
    intro l
    induction l with
    | nil => intro t _ h; exact h
    | cons q l ih =>
      intro t hl ht
      obtain ⟨_, _, _, _, _, _, h1, _, h2, h3⟩ := hl q (List.mem_cons_self ..)
      rw [List.foldl_cons]
      exact ih _ (fun k hk => hl k (List.mem_cons_of_mem _ hk)) (by omega)
  exact this ks 0 h (by omega)
theorem sum_le : ∀ (l : List Nat), (∀ k ∈ l, ItR (I k)) → 0 ≤ sumV I l ∧ sumV I l ≤ 7516192768 * (l.length : Int) := by
  have : ∀ (l : List Nat) (t : Int), (∀ k ∈ l, ItR (I k)) → 0 ≤ t → 0 ≤ l.foldl (fun t k => t + ((I k).left + (I k).wide + (I k).right)) t ∧ l.foldl (fun t k => t + ((I k).left + (I k).wide + (I k).right)) t ≤ t + 7516192768 * (l.length : Int) := by
    intro l
    induction l with
    | nil => intro t _ h; exact ⟨h, by simp⟩
    | cons q l ih =>
      intro t hl ht
      obtain ⟨_, _, _, h1, h2, h3, _, _, _, _⟩ := hl q (List.mem_cons_self ..)
      rw [List.foldl_cons]
      have := ih (t + ((I q).left + (I q).wide + (I q).right)) (fun k hk => hl k (List.mem_cons_of_mem _ hk)) (by omega)
      rw [List.length_cons]
      omega
  intro l h
  have := this l 0 h (by omega)
  unfold sumV
  omega
/-- the height that an item is given -/
theorem newH_R {k : Nat} (hk : k ∈ ks) (h : ∀ k ∈ ks, ItR (I k)) : newH s (tallV I ks) (I k) = if s.items = 3 then tallV I ks - (I k).above - (I k).below else (I k).high := by
  obtain ⟨h1, h2, h3, _, _, _, h4, h5, h6, h7⟩ := h k hk
  have ht := tall_item (I := I) hk
  unfold newH
  by_cases hs : s.items = 3
  · rw [if_pos ⟨hs, h1⟩, if_pos hs]
    unfold highV
    simp only
    rw [if_neg (by omega), if_neg (by omega), if_neg (by omega)]
    omega
  · rw [if_neg (fun h => hs h.1), if_neg hs]
/-- how far down it stands: the law's tests -/
theorem y_R {k : Nat} (hk : k ∈ ks) (h : ∀ k ∈ ks, ItR (I k)) (hs : ¬ s.h.k = 1) :
    ∃ y H : Int, yV s top (rowH s nr I ks) (I k) = top + y ∧ newH s (rowH s nr I ks) (I k) = H ∧ (I k).above ≤ y ∧ y + H + (I k).below ≤ tallV I ks ∧ 0 ≤ H ∧ (¬ s.items = 3 → H = (I k).high) ∧ (s.items = 3 → H = tallV I ks - (I k).above - (I k).below) := by
  have e : rowH s nr I ks = tallV I ks := by unfold rowH; rw [if_neg (fun h => hs h.2)]
  rw [e, yV, leftV, newH_R hk h]
  obtain ⟨_, _, _, _, _, _, h4, h5, h6, h7⟩ := h k hk
  have ht := tall_item (I := I) hk
  generalize tallV I ks = T at *
  by_cases h3 : s.items = 3
  · rw [if_pos h3, if_neg (by omega), if_neg (by omega)]
    exact ⟨(I k).above, _, by omega, rfl, by omega, by omega, by omega, fun h => absurd h3 h, fun _ => rfl⟩
  · rw [if_neg h3]
    by_cases h1 : s.items = 1
    · rw [if_pos h1]
      exact ⟨(I k).above + (T - (I k).high - (I k).above - (I k).below), _, by omega, rfl, by omega, by omega, by omega, fun _ => rfl, fun h => absurd h h3⟩
    · rw [if_neg h1]
      by_cases h2 : s.items = 2
      · rw [if_pos h2]
        exact ⟨(I k).above + (T - (I k).high - (I k).above - (I k).below) / 2, _, by omega, rfl, by omega, by omega, by omega, fun _ => rfl, fun h => absurd h h3⟩
      · rw [if_neg h2]
        exact ⟨(I k).above, _, by omega, rfl, by omega, by omega, by omega, fun _ => rfl, fun h => absurd h h3⟩
theorem mono_move {j free : Int} {p n : Nat} (hp : p + 1 < n) : moveV j free p n ≤ moveV j free (p + 1) n := by
  unfold moveV
  split
  · omega
  · split
    · omega
    · split
      · by_cases hf : 0 < free
        · obtain ⟨m, rfl⟩ : ∃ m, n = m + 1 := ⟨n - 1, by omega⟩
          have := bet_step hf (show 0 < m by omega) p
          omega
        · rw [bet_no (by omega), bet_no (by omega)]; omega
      · omega
theorem move_le {j free : Int} {p n : Nat} (hp : p < n) : moveV j free p n ≤ max free 0 ∧ min free 0 ≤ moveV j free p n := by
  unfold moveV
  split
  · omega
  · split
    · omega
    · split
      · by_cases hf : 0 < free
        · have h0 : ∀ q, q < n → 0 ≤ betV free q n := by
            intro q
            induction q with
            | zero => intro _; rw [bet_first]; omega
            | succ q ih =>
              intro hq
              obtain ⟨m, rfl⟩ : ∃ m, n = m + 1 := ⟨n - 1, by omega⟩
              have h1 := ih (by omega)
              have := bet_step hf (show 0 < m by omega) q
              omega
          have h1 : ∀ d q, q + d + 1 = n → betV free q n ≤ free := by
            intro d
            induction d with
            | zero =>
              intro q hq
              rcases Nat.eq_zero_or_pos q with rfl | hq0
              · rw [bet_first]; omega
              · rw [← hq, Nat.add_zero, bet_last hf hq0]; omega
            | succ d ih =>
              intro q hq
              obtain ⟨m, rfl⟩ : ∃ m, n = m + 1 := ⟨n - 1, by omega⟩
              have h1 := ih (q + 1) (by omega)
              have := bet_step hf (show 0 < m by omega) q
              omega
          have a := h0 p hp
          have b := h1 (n - 1 - p) p (by omega)
          omega
        · rw [bet_no (by omega)]; omega
      · omega
/-- how far to the right -/
def xR (s : Sty) (c : Int) (I : Nat → It) (ks : List Nat) (p k : Nat) : Int := sumV I (ks.take p) + (I k).left + moveV s.justify (c - sumV I ks) p ks.length
theorem x_step {p k k' : Nat} (hk : ks[p]? = some k) (hk' : ks[p + 1]? = some k') : xR s c I ks p k + (I k).wide + (I k).right + (I k').left ≤ xR s c I ks (p + 1) k' := by
  unfold xR
  rw [takeS hk, sumV_snoc]
  have := mono_move (j := s.justify) (free := c - sumV I ks) (show p + 1 < ks.length from (List.getElem?_eq_some_iff.1 hk').1)
  omega
theorem sum_part (h : ∀ k ∈ ks, ItR (I k)) {p k : Nat} (hk : ks[p]? = some k) : 0 ≤ sumV I (ks.take p) ∧ sumV I (ks.take p) + (I k).left + (I k).wide + (I k).right ≤ sumV I ks := by
  have h1 := (sum_le (ks.take p) (fun k hk => h k (List.mem_of_mem_take hk))).1
  have h2 := takeS hk
  have h3 : ks = ks.take (p + 1) ++ ks.drop (p + 1) := (List.take_append_drop _ _).symm
  have h4 : ∀ (l m : List Nat), (∀ k ∈ m, ItR (I k)) → sumV I l ≤ sumV I (l ++ m) := by
    intro l m
    induction m generalizing l with
    | nil => intro _; simp
    | cons q m ih =>
      intro hm
      have := ih (l ++ [q]) (fun k hk => hm k (List.mem_cons_of_mem _ hk))
      rw [List.append_assoc] at this
      obtain ⟨_, _, _, a1, a2, a3, _⟩ := hm q (List.mem_cons_self ..)
      rw [sumV_snoc] at this
      simp only [List.singleton_append] at this
      omega
  have h5 := h4 (ks.take (p + 1)) (ks.drop (p + 1)) (fun k hk => h k (List.mem_of_mem_drop hk))
  rw [← h3, h2, sumV_snoc] at h5
  omega
theorem x_bd (h : ∀ k ∈ ks, ItR (I k)) (hl : ks.length ≤ 60) (hc : 0 ≤ c ∧ c ≤ 1099511627776) {p k : Nat} (hk : ks[p]? = some k) : -1099511627776 ≤ xR s c I ks p k ∧ xR s c I ks p k ≤ 1099511627776 := by
  obtain ⟨h1, h2⟩ := sum_part h hk
  have h3 := sum_le ks h
  obtain ⟨_, _, _, a1, a2, a3, _⟩ := h k (List.mem_of_getElem? hk)
  have h4 := move_le (j := s.justify) (free := c - sumV I ks) (show p < ks.length from (List.getElem?_eq_some_iff.1 hk).1)
  unfold xR
  omega
theorem top_R {rs : List (List Nat)} (h : ∀ ks ∈ rs, ∀ k ∈ ks, ItR (I k)) (hs : ¬ s.h.k = 1) : ∀ r, r ≤ rs.length → 0 ≤ topS s nr I rs r ∧ topS s nr I rs r ≤ 3221225472 * (r : Int) := by
  intro r
  induction r with
  | zero => intro _; simp [topS]
  | succ r ih =>
    intro hr
    have h1 := ih (by omega)
    have hm : rs.getD r [] ∈ rs := by rw [List.getD_eq_getElem?_getD, List.getElem?_eq_getElem (by omega)]; exact List.getElem_mem _
    have h2 := tall_le (I := I) (h _ hm)
    have e : rowH s nr I (rs.getD r []) = tallV I (rs.getD r []) := by unfold rowH; rw [if_neg (fun h => hs h.2)]
    show 0 ≤ topS s nr I rs r + rowH s nr I (rs.getD r []) ∧ topS s nr I rs r + rowH s nr I (rs.getD r []) ≤ _
    rw [e]
    omega
theorem top_step {rs : List (List Nat)} (hs : ¬ s.h.k = 1) (r : Nat) : topS s nr I rs (r + 1) = topS s nr I rs r + tallV I (rs.getD r []) := by
  have e : rowH s nr I (rs.getD r []) = tallV I (rs.getD r []) := by unfold rowH; rw [if_neg (fun h => hs h.2)]
  show topS s nr I rs r + rowH s nr I (rs.getD r []) = _
  rw [e]
/-- where the item k stands, the p-th of the row r: what the law asks -/
structure FrIs (s : Sty) (top tall x : Int) (i : It) (F : Fr) : Prop where
  (x : F.x = x) (w : F.w = i.wide) (yl : top + i.above ≤ F.y) (yh : F.y + F.h + i.below ≤ top + tall) (h0 : 0 ≤ F.h)
  (hn : ¬ s.items = 3 → F.h = i.high) (hs : s.items = 3 → F.h = tall - i.above - i.below)
theorem fr_R {rs : List (List Nat)} (hnd : rs.flatten.Nodup) (h : ∀ ks ∈ rs, ∀ k ∈ ks, ItR (I k)) (hs : ¬ s.h.k = 1) (hl : ∀ ks ∈ rs, ks.length ≤ 60) (hnr : rs.length ≤ 60) (hc : 0 ≤ c ∧ c ≤ 1099511627776) {r p k : Nat} (hk : (rs.getD r [])[p]? = some k) :
    FrIs s (topS s nr I rs r) (tallV I (rs.getD r [])) (xR s c I (rs.getD r []) p k) (I k) (frV ((topN s c nr rs I rs.length).2 k)) := by
  have hr : r < rs.length := by
    rcases Nat.lt_or_ge r rs.length with h | h
    · exact h
    · rw [List.getD_eq_getElem?_getD, List.getElem?_eq_none h] at hk; simp at hk
  have hm : rs.getD r [] ∈ rs := by rw [List.getD_eq_getElem?_getD, List.getElem?_eq_getElem hr]; exact List.getElem_mem _
  have hkm := List.mem_of_getElem? hk
  rw [topN_fin (s := s) (c := c) (nr := nr) (I := I) hnd hk rs.length hr (Nat.le_refl _)]
  obtain ⟨y, H, e1, e2, f1, f2, f3, f4, f5⟩ := y_R (top := topS s nr I rs r) (nr := nr) hkm (h _ hm) hs
  have hx := x_bd (s := s) (h _ hm) (hl _ hm) hc hk
  have ht := top_R (nr := nr) h hs r (by omega)
  have htl := tall_le (I := I) (h _ hm)
  obtain ⟨_, _, _, a1, a2, a3, a4, a5, a6, a7⟩ := h _ hm k hkm
  have c1 : cutV (finI s c nr (topS s nr I rs r) I (rs.getD r []) p (I k)).x = xR s c I (rs.getD r []) p k := cut_le hx
  have c2 : cutV (finI s c nr (topS s nr I rs r) I (rs.getD r []) p (I k)).y = topS s nr I rs r + y := by
    show cutV (yV s (topS s nr I rs r) (rowH s nr I (rs.getD r [])) (I k)) = _
    rw [e1, cut_le (by omega)]
  have c3 : cutV (finI s c nr (topS s nr I rs r) I (rs.getD r []) p (I k)).wide = (I k).wide := cut_le (by show _ ≤ (I k).wide ∧ (I k).wide ≤ _; omega)
  have c4 : cutV (finI s c nr (topS s nr I rs r) I (rs.getD r []) p (I k)).high = H := by
    show cutV (newH s (rowH s nr I (rs.getD r [])) (I k)) = _
    rw [e2, cut_le (by omega)]
  unfold frV
  rw [c1, c2, c3, c4]
  exact ⟨rfl, rfl, by show _ ≤ topS s nr I rs r + y; omega, by show topS s nr I rs r + y + H + _ ≤ _; omega, f3, f4, f5⟩
end
end Go.Proofs.Ytkkkdjkjggofkaa
