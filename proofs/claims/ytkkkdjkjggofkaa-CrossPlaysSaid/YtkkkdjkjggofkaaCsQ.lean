/- Layer 20: the items of a case, its rows, and where they stand under the conditions of CrossRows. -/
import Derived.Test.YtkkkdjkjggofkaaCsP
import Derived.Test.YtkkkdjkjggofkaaCrR
import Derived.Test.YtkkkdjkjggofkaaCrM
namespace Go.Proofs.Ytkkkdjkjggofkaa
open Go.RowKit
theorem getD_in {α : Type} (l : List α) (i : Nat) (d : α) : l.getD i d ∈ l ∨ l.getD i d = d := by
  rcases Nat.lt_or_ge i l.length with h | h
  · left; rw [List.getD_eq_getElem?_getD, List.getElem?_eq_getElem h]; exact List.getElem_mem h
  · right; rw [List.getD_eq_getElem?_getD, List.getElem?_eq_none h]; rfl
theorem it_bd {ks : List Sty} {us : List Us} {hs : List Int} {c : Int} (hk : ∀ s ∈ ks, KidOk s) (hu : ∀ u ∈ us, UsOk u) (hh : ∀ h ∈ hs, 0 ≤ h ∧ h ≤ 1099511627776) (hc : 0 ≤ c ∧ c ≤ 1099511627776) {i : Nat} (hi : i < ks.length) (z : Sty) : ItBd (mIt c ks us hs z i) := by
  have hs' : ks.getD i z ∈ ks := by rw [List.getD_eq_getElem?_getD, List.getElem?_eq_getElem hi]; exact List.getElem_mem hi
  have ok := hk _ hs'
  obtain ⟨hed, _⟩ := may_facts ok.may
  have e0 := lenM_bd (c := c) hed.m0 hc
  have e2 := lenM_bd (c := c) hed.m2 hc
  obtain ⟨⟨a1, b1⟩, ⟨a2, b2⟩, ⟨a3, b3⟩, ⟨a4, b4⟩, ⟨a5, b5⟩, ⟨a6, b6⟩, ⟨a7, b7⟩, ⟨a8, b8⟩⟩ := hed.thin
  have U : UsOk (us.getD i ⟨0, 0, 0⟩) := by
    rcases getD_in us i ⟨0, 0, 0⟩ with h | h
    · exact hu _ h
    · rw [h]; exact ⟨by decide, by decide, by decide⟩
  have H : 0 ≤ hs.getD i 0 ∧ hs.getD i 0 ≤ 1099511627776 := by
    rcases getD_in hs i 0 with h | h
    · exact hh _ h
    · rw [h]; decide
  obtain ⟨u1, u2, u3⟩ := U
  refine ⟨ok.hi.sh, ?_, ?_, ?_, ?_, ?_, ?_, ?_⟩
  · show _ ≤ (us.getD i ⟨0, 0, 0⟩).l ∧ (us.getD i ⟨0, 0, 0⟩).l ≤ _; omega
  · show _ ≤ (us.getD i ⟨0, 0, 0⟩).r ∧ (us.getD i ⟨0, 0, 0⟩).r ≤ _; omega
  · show 0 ≤ (us.getD i ⟨0, 0, 0⟩).w + ((ks.getD i z).b3 + (ks.getD i z).b1 + (ks.getD i z).p3 + (ks.getD i z).p1) ∧ (us.getD i ⟨0, 0, 0⟩).w + ((ks.getD i z).b3 + (ks.getD i z).b1 + (ks.getD i z).p3 + (ks.getD i z).p1) ≤ _; omega
  · show 0 ≤ hs.getD i 0 ∧ hs.getD i 0 ≤ _; omega
  · show 0 ≤ (ks.getD i z).b0 + (ks.getD i z).b2 + (ks.getD i z).p0 + (ks.getD i z).p2 ∧ (ks.getD i z).b0 + (ks.getD i z).b2 + (ks.getD i z).p0 + (ks.getD i z).p2 ≤ _; omega
  · show _ ≤ resV (ks.getD i z).m0 c ∧ resV (ks.getD i z).m0 c ≤ _; omega
  · show _ ≤ resV (ks.getD i z).m2 c ∧ resV (ks.getD i z).m2 c ≤ _; omega
/-- rows that hold each of n items once -/
structure RowsP (rs : List (List Nat)) (n nr : Nat) : Prop where
  (perm : rs.flatten.Perm (List.range n)) (len : rs.length = nr) (le : nr ≤ n)
section
variable {rs : List (List Nat)} {n nr : Nat}
theorem RowsP.nd (h : RowsP rs n nr) : rs.flatten.Nodup := h.perm.nodup_iff.2 List.nodup_range
theorem RowsP.all (h : RowsP rs n nr) {i : Nat} (hi : i < n) : i ∈ rs.flatten := h.perm.mem_iff.2 (List.mem_range.2 hi)
theorem RowsP.lt (h : RowsP rs n nr) {ks : List Nat} (hk : ks ∈ rs) {k : Nat} (hm : k ∈ ks) : k < n := List.mem_range.1 (h.perm.mem_iff.1 (List.mem_flatten.2 ⟨ks, hk, hm⟩))
theorem RowsP.ok (h : RowsP rs n nr) : RowsOk rs n := ⟨h.nd, fun _ hk _ hm => h.lt hk hm⟩
theorem RowsP.flen (h : RowsP rs n nr) : rs.flatten.length = n := by rw [h.perm.length_eq, List.length_range]
theorem RowsP.rlen (h : RowsP rs n nr) {ks : List Nat} (hk : ks ∈ rs) : ks.length ≤ n := by
  have h1 := h.flen
  have : ∀ (l : List (List Nat)), ks ∈ l → ks.length ≤ l.flatten.length := by
    intro l
    induction l with
    | nil => intro h; cases h
    | cons a l ih =>
      intro h
      rw [List.flatten_cons, List.length_append]
      rcases List.mem_cons.1 h with rfl | h
      · omega
      · have := ih h; omega
  have := this rs hk
  omega
theorem RowsP.getD (h : RowsP rs n nr) {r : Nat} (hr : r < nr) : rs.getD r [] ∈ rs := by
  have := h.len
  rw [List.getD_eq_getElem?_getD, List.getElem?_eq_getElem (by omega)]; exact List.getElem_mem _
theorem RowsP.ltD (h : RowsP rs n nr) {r p k : Nat} (hk : (rs.getD r [])[p]? = some k) : k < n ∧ r < nr := by
  have hr : r < rs.length := by
    rcases Nat.lt_or_ge r rs.length with h | h
    · exact h
    · rw [List.getD_eq_getElem?_getD, List.getElem?_eq_none h] at hk; simp at hk
  have := h.len
  exact ⟨h.lt (h.getD (by omega)) (List.mem_of_getElem? hk), by omega⟩
end
/-- the items so far -/
def KR (ks : List Sty) (us : List Us) (hs : List Int) (k : Nat) : Prop := k ≤ us.length ∧ k ≤ hs.length ∧ ∀ i s u h, i < k → ks[i]? = some s → us[i]? = some u → hs[i]? = some h → KidR s u h
/-- an item of the law, its style and what is told of it -/
structure ItF (c : Int) (ks : List Sty) (us : List Us) (hs : List Int) (k : Nat) (s : Sty) (u : Us) (z : Int) : Prop where
  (eks : ks[k]? = some s) (eus : us[k]? = some u) (ehs : hs[k]? = some z)
  kid : KidR s u z
  (high : (mIt c ks us hs zsty k).high = z) (above : (mIt c ks us hs zsty k).above = s.m0.n) (below : (mIt c ks us hs zsty k).below = s.m2.n)
  (left : (mIt c ks us hs zsty k).left = u.l) (right : (mIt c ks us hs zsty k).right = u.r)
  it : ItR (mIt c ks us hs zsty k)
theorem KR.it {ks : List Sty} {us : List Us} {hs : List Int} {n : Nat} (h : KR ks us hs n) (hn : ks.length = n) (c : Int) {k : Nat} (hk : k < n) : ∃ s u z, ItF c ks us hs k s u z := by
  obtain ⟨h1, h2, h3⟩ := h
  have e1 : ks[k]? = some ks[k] := List.getElem?_eq_getElem (by omega)
  have e2 : us[k]? = some us[k] := List.getElem?_eq_getElem (by omega)
  have e3 : hs[k]? = some hs[k] := List.getElem?_eq_getElem (by omega)
  have hK := h3 k _ _ _ hk e1 e2 e3
  obtain ⟨a, b, d⟩ := hK.it c
  have e : mIt c ks us hs zsty k = ⟨ks[k], us[k].l, us[k].r, us[k].w + frameA ks[k], hs[k], frameD ks[k], resV ks[k].m0 c, resV ks[k].m2 c, 0, 0, false⟩ := by
    simp only [mIt, List.getD_eq_getElem?_getD, e1, e2, e3, Option.getD_some]
  exact ⟨_, _, _, e1, e2, e3, hK, by rw [e], by rw [e]; exact b, by rw [e]; exact d, by rw [e], by rw [e], by rw [e]; exact a⟩
/-- where the rows stand -/
structure RowPl (w : World) (s : Sty) (c : Int) (nr gF : Nat) (rs : List (List Nat)) (I : Nat → It) : Prop where
  lt : gF < w.heap.size
  fr : ∀ r p k, (rs.getD r [])[p]? = some k → ∃ F : Fr, FrIs s (topS s nr I rs r) (tallV I (rs.getD r [])) (xR s c I (rs.getD r []) p k) (I k) F ∧ w.rangeAt gF (k * 5) (frC F)
def PlIs (w : World) (s : Sty) (c : Int) (n nr : Nat) (rs : List (List Nat)) (I : Nat → It) (e : Ending) (w' : World) : Prop :=
  ∃ gF gB, e = .returned (.tuple #[.slice (some ⟨gF, 0, none⟩) n n, .int .i64 (topS s nr I rs nr), .slice (some ⟨gB, 0, none⟩) n n]) ∧ RowPl w' s c nr gF rs I ∧ Ext w w'
theorem RowPl.ext {w w' : World} {s : Sty} {c : Int} {nr gF : Nat} {rs : List (List Nat)} {I : Nat → It} (h : RowPl w s c nr gF rs I) (hx : Ext w w') : RowPl w' s c nr gF rs I :=
  ⟨Nat.lt_of_lt_of_le h.lt hx.size, fun r p k hk => by
    obtain ⟨F, h1, h2⟩ := h.fr r p k hk
    exact ⟨F, h1, fun j v hv => (hx.cells.1 gF _ h.lt).trans (h2 j v hv)⟩⟩
theorem places_any (s : Sty) (c : Int) (ak au ah Ar : Option Addr) (n ck nu cu nh ch nr cr : Nat) (ks : List Sty) (us : List Us) (hs : List Int) (rs : List (List Nat)) (w : World) (hk : Rd w 43 ak n (recs styC ks)) (hu : Rd w 3 au nu (recs usC us)) (hh : Rd w 1 ah nh (ints hs))
    (hr : RdR w 0 Ar nr (fun r => castL (rs.getD r []))) (hrs : RowsP rs n nr) (hn : n ≤ 60) (hc : 0 ≤ c ∧ c ≤ 1099511627776) (hkn : ks.length = n) (hok : ∀ s ∈ ks, KidOk s) (hub : ∀ u ∈ us, UsOk u) (hhb : ∀ h ∈ hs, 0 ≤ h ∧ h ≤ 1099511627776)
    (hsj : 0 ≤ s.justify ∧ s.justify ≤ 255) (hsh : HiOk s) (hsk : s.h.k = 0) (hK : KR ks us hs n) :
    Calls Try.prog 10 #[.agg s.cells, .int .i64 c, .slice ak n ck, .slice au nu cu, .slice ah nh ch, .slice Ar nr cr] w (PlIs w s c n nr rs (mIt c ks us hs zsty)) := by
  have hI : ∀ ks' ∈ rs, ∀ k ∈ ks', ItR (mIt c ks us hs zsty k) := fun ks' h1 k h2 => by
    obtain ⟨_, _, _, h⟩ := hK.it hkn c (hrs.lt h1 h2)
    exact h.it
  have hst : ∀ i, i < n → ((topN s c nr rs (mIt c ks us hs zsty) nr).2 i).st = true := fun i hi => by
    have := all_st (s := s) (c := c) (nr := nr) (rs := rs) (I := mIt c ks us hs zsty) hrs.nd (n := n) (fun i hi => hrs.all hi) i hi
    rwa [hrs.len] at this
  have hs1 : ¬ s.h.k = 1 := by omega
  have ht := top_R (s := s) (nr := nr) (I := mIt c ks us hs zsty) hI hs1 nr (by have := hrs.len; omega)
  have ht2 : (topN s c nr rs (mIt c ks us hs zsty) nr).1 = topS s nr (mIt c ks us hs zsty) rs nr := topN_top hrs.nd nr (by have := hrs.len; omega)
  have hle := hrs.le
  refine (place_any s c ak au ah Ar n ck nu cu nh ch nr cr ks us hs zsty rs w hk hu hh hr hrs.len (by omega) (by omega) hc (fun s hs => (may_facts (hok s hs).may).1.ok) (fun u hu => (hub u hu).w) (fun i hi => it_bd hok hub hhb hc (by omega) zsty) hsj hsh.sh hrs.ok hst).mono ?_
  rintro e w' ⟨gF, gB, rfl, hF, hB, hx⟩
  refine ⟨gF, gB, ?_, ⟨hF.lt, fun r p k hk => ⟨_, ?_, hF.cell k (hrs.ltD hk).1⟩⟩, hx⟩
  · rw [ht2, cut_le (by omega)]
  · have := fr_R (s := s) (c := c) (nr := nr) (I := mIt c ks us hs zsty) (rs := rs) hrs.nd hI hs1 (fun ks' h => by have := hrs.rlen h; omega) (by have := hrs.len; omega) hc hk
    rwa [hrs.len] at this
theorem Rd.recAt {α : Type} {f : α → List Value} {k : Nat} (hk : ∀ x, (f x).length = k) {w : World} {b off n : Nat} {l : List α} (h : Rd w k (some ⟨b, off, none⟩) n (recs f l)) {i : Nat} {x : α} (hi : l[i]? = some x) (hk0 : 0 < k) :
    b < w.heap.size ∧ ∀ j u, (f x)[j]? = some u → w.cell? ⟨b, off + i * k + j, none⟩ = some u := by
  obtain ⟨b', off', e, h1, h2⟩ := h.rec_ hk hi hk0
  injection e with e; injection e with e1 e2
  subst e1 e2
  exact ⟨h1, h2⟩
theorem Rd.intAt {w : World} {b off n : Nat} {l : List Int} (h : Rd w 1 (some ⟨b, off, none⟩) n (ints l)) {i : Nat} {x : Int} (hx : l[i]? = some x) : b < w.heap.size ∧ w.cell? ⟨b, off + i, none⟩ = some (.int .i64 x) := by
  obtain ⟨b', off', e, h1, h2⟩ := h.intIn hx
  injection e with e; injection e with e1 e2
  subst e1 e2
  exact ⟨h1, h2⟩
/-- the first loop over a row: how high it is so far, where the item ahead ends -/
def RowA (s : Sty) (c : Int) (I : Nat → It) (row : List Nat) (i : Nat) (t a : Int) : Prop :=
  t = tallV I (row.take i) ∧ (0 ≤ t ∧ t ≤ 3221225472) ∧ (-1099511627776 ≤ a ∧ a ≤ 1110000000000) ∧ ∀ k', 0 < i → row[i]? = some k' → a + (I k').left ≤ xR s c I row i k'
theorem RowA.zero (s : Sty) (c : Int) (I : Nat → It) (row : List Nat) : RowA s c I row 0 0 0 := ⟨by simp [tallV], by omega, by omega, fun k' h => by omega⟩
theorem RowA.step {s : Sty} {c : Int} {I : Nat → It} {row : List Nat} {i k : Nat} {t a : Int} (h : RowA s c I row i t a) (hI : ∀ k ∈ row, ItR (I k)) (hl : row.length ≤ 60) (hc : 0 ≤ c ∧ c ≤ 1099511627776) (hk : row[i]? = some k) {X W z ab be rt : Int} (hX : X = xR s c I row i k) (hW : W = (I k).wide)
    (hz : (I k).high = z) (ha : (I k).above = ab) (hb : (I k).below = be) (hr : (I k).right = rt) : RowA s c I row (i + 1) (max t (z + ab + be)) (X + W + rt) := by
  obtain ⟨h1, h2, h3, h4⟩ := h
  obtain ⟨_, _, _, _, a2, a3, _⟩ := hI k (List.mem_of_getElem? hk)
  have hb1 := x_bd (s := s) hI hl hc hk
  have e : max t (z + ab + be) = tallV I (row.take (i + 1)) := by rw [takeS hk, tallV_snoc, h1, hz, ha, hb]
  have ht := tall_le (I := I) (ks := row.take (i + 1)) (fun k hk => hI k (List.mem_of_mem_take hk))
  refine ⟨e, by rw [e]; exact ht, by rw [hX, hW, ← hr]; omega, fun k' _ hk' => ?_⟩
  have := x_step (s := s) (c := c) (I := I) hk hk'
  rw [hX, hW, ← hr]
  exact this
theorem RowA.all {s : Sty} {c : Int} {I : Nat → It} {row : List Nat} {t a : Int} (h : RowA s c I row row.length t a) : t = tallV I row := by
  have := h.1
  rwa [List.take_of_length_le (Nat.le_refl _)] at this
end Go.Proofs.Ytkkkdjkjggofkaa
