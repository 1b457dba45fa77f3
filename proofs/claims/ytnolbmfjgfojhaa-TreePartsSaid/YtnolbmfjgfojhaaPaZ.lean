/- Trees: a node with all below it as a tree of its own (plain laws; for TreeParts). Trees: the law TreeParts (walk). -/
import Derived.Test.YtnolbmfjgfojhaaCpZ
import Derived.Test.YtnolbmfjgfojhaaTyB
import Derived.BigQuiet
namespace Go.Proofs.Ytnolbmfjgfojhaa
open Go.RowKit
def cutNd (k j : Nat) (n : Nd) : Nd := ⟨if j = 0 then -1 else n.p - (k : Int), n.s⟩
/-- the nodes from k on, m of them -/
def partN (ns : List Nd) (k : Nat) : Nat → List Nd
  | 0 => []
  | m + 1 => match ns[k + m]? with
    | some n => partN ns k m ++ [cutNd k m n]
    | none => partN ns k m
section
variable {ns : List Nd} {k : Nat}
theorem partN_succ {m : Nat} {n : Nd} (h : ns[k + m]? = some n) : partN ns k (m + 1) = partN ns k m ++ [cutNd k m n] := by rw [partN, h]
theorem partN_len : ∀ {m : Nat}, k + m ≤ ns.length → (partN ns k m).length = m
  | 0, _ => rfl
  | m + 1, h => by rw [partN_succ (List.getElem?_eq_getElem (show k + m < ns.length by omega)), List.length_append, partN_len (by omega)]; rfl
theorem partN_get {n : Nd} : ∀ {m j : Nat}, k + m ≤ ns.length → j < m → ns[k + j]? = some n → (partN ns k m)[j]? = some (cutNd k j n)
  | 0, _, _, h, _ => by omega
  | m + 1, j, hm, hj, hn => by
    rw [partN_succ (List.getElem?_eq_getElem (show k + m < ns.length by omega))]
    have hl := partN_len (ns := ns) (k := k) (m := m) (by omega)
    by_cases e : j = m
    · subst e
      rw [List.getElem?_append_right (by omega), hl, Nat.sub_self]
      rw [List.getElem?_eq_getElem (show k + j < ns.length by omega)] at hn
      rw [Option.some.inj hn]; rfl
    · rw [List.getElem?_append_left (by omega)]
      exact partN_get (by omega) (by omega) hn
end
theorem part_par0 (ns : List Nd) (k L : Nat) : parN (partN ns k L) 0 = -1 := by
  have := parN_lt (partN ns k L) 0
  omega
section
variable {ns : List Nd} (hT : TOk ns) {k L : Nat} (hk : k < ns.length) (hL : k + L = endN ns k)
include hk hL
theorem part_le : k + L ≤ ns.length ∧ 0 < L := by
  have h1 := endN_gt ns k
  have h2 := endN_le (ns := ns) hk
  omega
theorem part_at {j : Nat} (hj : j < L) : ∃ n, ns[k + j]? = some n ∧ (partN ns k L)[j]? = some (cutNd k j n) := by
  have h1 := part_le hk hL
  have hn := List.getElem?_eq_getElem (show k + j < ns.length by omega)
  exact ⟨_, hn, partN_get h1.1 hj hn⟩
theorem part_nK {j : Nat} (hj : j < L) : nK (partN ns k L) j = nK ns (k + j) := by
  obtain ⟨n, h1, h2⟩ := part_at hk hL hj
  unfold nK
  rw [h1, h2]; rfl
include hT
theorem part_par {j : Nat} (h0 : 0 < j) (hj : j < L) : ∃ p : Nat, p < j ∧ parN (partN ns k L) j = p ∧ parN ns (k + j) = ((k + p : Nat) : Int) ∧ nP (partN ns k L) j = p ∧ nP ns (k + j) = ((k + p : Nat) : Int) := by
  have h1 := part_le hk hL
  obtain ⟨n, h2, h3⟩ := part_at hk hL hj
  obtain ⟨q, hq, hlt⟩ := hT.par (show 0 < k + j by omega) (show k + j < ns.length by omega)
  have hpq := (hT.parN (show k + j < ns.length by omega)).trans hq
  have hs := ok_stretch hT (i := k) (j := k + j) (by omega)
  have hne : ¬ k + j = k := by omega
  rw [decide_eq_true (by omega), sub, bel_par hpq, decide_eq_false hne, Bool.false_or] at hs
  have hkq := sub_le hs
  obtain ⟨p, rfl⟩ : ∃ p, q = k + p := ⟨q - k, by omega⟩
  have hnp : n.p = ((k + p : Nat) : Int) := by
    have : nP ns (k + j) = n.p := by unfold nP; rw [h2]
    rw [← this]; exact hq
  have hcp : nP (partN ns k L) j = p := by
    unfold nP
    rw [h3]
    have hj0 : ¬ j = 0 := by omega
    simp only [cutNd, hj0, if_false]
    omega
  refine ⟨p, by omega, ?_, hpq, hcp, hq⟩
  rw [parN, hcp, par, if_pos (by omega)]
theorem part_dep {j : Nat} (hj : j < L) : dep (partN ns k L) j + dep ns k = dep ns (k + j) + 1 := by
  induction j using Nat.strongRecOn with
  | _ j ih =>
    by_cases h0 : j = 0
    · subst h0
      rw [dep_eq, part_par0, depI, if_neg (by omega), show k + 0 = k from rfl]; omega
    · obtain ⟨p, h1, h2, h3, _⟩ := part_par hT hk hL (by omega) hj
      rw [dep_eq, h2, dep_eq ns (k + j), h3, depI, depI, if_pos (by omega), if_pos (by omega), Int.toNat_natCast, Int.toNat_natCast]
      have := ih p h1 (by omega)
      omega
theorem part_bel (o : Nat) {j : Nat} (hj : j < L) : bel (partN ns k L) (o : Int) j = bel ns ((k + o : Nat) : Int) (k + j) := by
  induction j using Nat.strongRecOn with
  | _ j ih =>
    by_cases h0 : j = 0
    · subst h0
      rw [bel_no (by rw [part_par0]; omega)]
      cases h : bel ns ((k + o : Nat) : Int) (k + 0)
      · rfl
      · have := bel_lt _ h; omega
    · obtain ⟨p, h1, h2, h3, _⟩ := part_par hT hk hL (by omega) hj
      rw [bel_par h2, bel_par h3, sub, sub, ih p h1 (by omega)]
      congr 1
      rw [Bool.eq_iff_iff]; simp
theorem part_first (p : Nat) {j : Nat} (hj : j ≤ L) : ∀ (d q : Nat), j - q = d → 0 < q →
    (firstN (partN ns k L) (p : Int) j q = -1 ∧ firstN ns ((k + p : Nat) : Int) (k + j) (k + q) = -1) ∨
    ∃ m : Nat, q ≤ m ∧ m < j ∧ firstN (partN ns k L) (p : Int) j q = m ∧ firstN ns ((k + p : Nat) : Int) (k + j) (k + q) = ((k + m : Nat) : Int)
  | 0, q, hd, _ => by
    left
    rw [firstN, if_neg (by omega), firstN, if_neg (by omega)]
    exact ⟨rfl, rfl⟩
  | d + 1, q, hd, h0 => by
    obtain ⟨r, h1, h2, h3, _⟩ := part_par hT hk hL h0 (show q < L by omega)
    rw [firstN.eq_def (partN ns k L) (p : Int) j q, if_pos (show q < j by omega), h2, firstN.eq_def ns ((k + p : Nat) : Int) (k + j) (k + q), if_pos (show k + q < k + j by omega), h3]
    by_cases e : r = p
    · subst e
      right
      rw [if_pos rfl, if_pos rfl]
      exact ⟨q, by omega, by omega, rfl, rfl⟩
    · rw [if_neg (show ¬ (r : Int) = (p : Int) by omega), if_neg (show ¬ ((k + r : Nat) : Int) = ((k + p : Nat) : Int) by omega)]
      rcases part_first p hj d (q + 1) (by omega) (by omega) with h | ⟨m, h4, h5, h6, h7⟩
      · exact .inl h
      · exact .inr ⟨m, by omega, h5, h6, h7⟩
theorem part_node (hb : nK ns k = 1) (hl : ∀ n, ns[k]? = some n → looseV n.s = false) {j : Nat} (hj : j < L) : nodeV (partN ns k L) j = 0 := by
  have h1 := part_le hk hL
  obtain ⟨n, h2, h3⟩ := part_at hk hL hj
  have h := hT.bad (k + j) (by omega)
  rw [nodeV_of h2] at h
  rw [nodeV_of h3]
  have hd := part_dep hT hk hL hj
  have hdk := dep_le ns k
  unfold nodeE at h ⊢
  have c1 : ¬ ((k + j = 0 ∧ n.p ≠ -1) ∨ (0 < k + j ∧ n.p ≠ ((k + j : Nat) : Int) - 1 ∧ (n.p < 0 ∨ ((k + j : Nat) : Int) ≤ n.p ∨ bel ns n.p (k + j - 1) = false))) := fun hc => by rw [if_pos hc] at h; cases h
  rw [if_neg c1] at h
  have c2 : ¬ 65536 < n.s.ul := fun hc => by rw [if_pos hc] at h; cases h
  rw [if_neg c2] at h
  have c3 : ¬ 512 < dep ns (k + j) := fun hc => by rw [if_pos hc] at h; cases h
  rw [if_neg c3] at h
  have c4 : ¬ rightV n.s = false := fun hc => by rw [if_pos hc] at h; cases h
  rw [if_neg c4] at h
  have hcs : (cutNd k j n).s = n.s := rfl
  by_cases h0 : j = 0
  · subst h0
    have hk1 : n.s.kind = 1 := by
      rw [nK, show ns[k]? = some n from h2] at hb; exact hb
    have hl1 := hl n h2
    rw [if_neg (by rintro (⟨_, hx⟩ | ⟨hx, _⟩); exact hx rfl; omega), hcs, if_neg c2, if_neg (by omega), if_neg c4, if_pos rfl, if_neg (by rw [hk1, hl1]; simp)]
  · obtain ⟨p, p1, p2, p3, p4, p5⟩ := part_par hT hk hL (by omega) hj
    have hnp : n.p = ((k + p : Nat) : Int) := by
      have : nP ns (k + j) = n.p := by unfold nP; rw [h2]
      rw [← this]; exact p5
    have hcp : (cutNd k j n).p = (p : Int) := by
      have : nP (partN ns k L) j = (cutNd k j n).p := by unfold nP; rw [h3]
      rw [← this]; exact p4
    rw [hcs, hcp]
    rw [hnp] at h c1
    have hbl := part_bel hT hk hL p (show j - 1 < L by omega)
    rw [show k + (j - 1) = k + j - 1 by omega] at hbl
    rw [if_neg (by
      rintro (⟨hx, _⟩ | ⟨_, hx, hy⟩)
      · exact h0 hx
      · refine c1 (.inr ⟨by omega, by omega, ?_⟩)
        rcases hy with hy | hy | hy
        · omega
        · omega
        · right; right; rw [← hbl]; exact hy), if_neg c2, if_neg (by omega), if_neg c4, if_neg h0, Int.toNat_natCast, part_nK hk hL (show p < L by omega)]
    rw [if_neg (show ¬ k + j = 0 by omega), Int.toNat_natCast] at h
    split
    · rename_i hx; rw [if_pos hx] at h; exact h
    · rename_i hx
      rw [if_neg hx] at h
      split
      · rename_i hy; rw [if_pos hy] at h; exact h
      · rename_i hy
        rw [if_neg hy] at h
        rcases part_first hT hk hL p (Nat.le_of_lt hj) _ (p + 1) rfl (by omega) with ⟨f1, f2⟩ | ⟨m, f3, f4, f5, f6⟩
        · rw [f1, if_neg (by omega)]
        · rw [f5, Int.toNat_natCast, part_nK hk hL (show m < L by omega)]
          rw [show k + p + 1 = k + (p + 1) by omega, f6, Int.toNat_natCast] at h
          have e0 : (0 : Int) ≤ ((k + m : Nat) : Int) := by omega
          have e1 : (0 : Int) ≤ (m : Int) := by omega
          simp only [e0, e1, true_and] at h ⊢
          exact h
theorem part_tok (hb : nK ns k = 1) (hl : ∀ n, ns[k]? = some n → looseV n.s = false) : TOk (partN ns k L) := by
  have h1 := part_le hk hL
  have h2 := partN_len (ns := ns) (k := k) h1.1
  exact ⟨by omega, by have := hT.few; omega, fun i hi => part_node hT hk hL hb hl (by omega)⟩
theorem part_check {av : List Int} {view : Int} (hc : (checkV ns av view).2 = 0) (hn : ns.length ≤ 65536) (hb : nK ns k = 1) (hl : ∀ n, ns[k]? = some n → looseV n.s = false) : checkV (partN ns k L) av view = (0, 0) := by
  have h1 := part_le hk hL
  have h2 := partN_len (ns := ns) (k := k) h1.1
  obtain ⟨w1, w2, w3⟩ := whole_zero (.inl hc)
  rw [check_whole, if_pos (whole_same w1 (by omega) (by omega))]
  exact bad_ok _ 0 rfl fun j _ hj => part_node hT hk hL hb hl (by omega)
theorem part_last {j : Nat} (hj : j < L) : k + lastK (partN ns k L) j L = lastK ns (k + j) ns.length := by
  have h1 := part_le hk hL
  obtain ⟨a1, a2⟩ := lastK_is (partN ns k L) j L
  obtain ⟨b1, b2⟩ := lastK_is ns (k + j) ns.length
  have up : k + lastK (partN ns k L) j L ≤ lastK ns (k + j) ns.length := by
    rcases a1 with e | ⟨_, e2, e3⟩
    · rw [e]; rcases b1 with e2 | ⟨e2, _⟩ <;> omega
    · rw [part_bel hT hk hL j e2] at e3
      exact b2 _ (by omega) e3
  have dn : lastK ns (k + j) ns.length ≤ k + lastK (partN ns k L) j L := by
    rcases b1 with e | ⟨e1, e2, e3⟩
    · rw [e]; rcases a1 with e2 | ⟨e2, _⟩ <;> omega
    · have hs := ok_stretch hT (i := k) (j := k + j) (by omega)
      rw [decide_eq_true (by omega)] at hs
      have hs2 := sub_trans (lastK ns (k + j) ns.length) hs (by rw [sub, e3, Bool.or_true])
      rw [ok_stretch hT e2] at hs2
      have hlt := of_decide_eq_true hs2
      obtain ⟨b, hb⟩ : ∃ b, lastK ns (k + j) ns.length = k + b := ⟨lastK ns (k + j) ns.length - k, by omega⟩
      rw [hb] at e3 hlt ⊢
      rw [← part_bel hT hk hL j (show b < L by omega)] at e3
      have := a2 b (by omega) e3
      omega
  omega
theorem part_kids {j : Nat} (hj : j < L) : (kidsN (partN ns k L) L j).map (· + (k : Int)) = kidsN ns ns.length (k + j) := by
  have h1 := part_le hk hL
  have hg := kids_gap (ns := ns) (i := k + j) (a := k + L) ns.length h1.1 (fun c h2 h3 hp => by
    have hs := ok_stretch hT (i := k) (j := k + j) (by omega)
    rw [decide_eq_true (by omega)] at hs
    have hs2 : sub ns k c = true := sub_trans c hs (by rw [sub, bel_par hp, sub_self, Bool.or_true])
    rw [ok_stretch hT h3] at hs2
    have := of_decide_eq_true hs2
    omega)
  rw [hg]
  have key : ∀ m, m ≤ L → (kidsN (partN ns k L) m j).map (· + (k : Int)) = kidsN ns (k + m) (k + j) := by
    intro m
    induction m with
    | zero =>
      intro _
      rw [Nat.add_zero, kids_gap (ns := ns) (i := k + j) (a := 0) k (by omega) (fun c _ h3 hp => by have := parN_lt ns c; omega), kidsN_0, kidsN_0]; rfl
    | succ m ih =>
      intro hm
      rw [kidsN_succ, ← Nat.add_assoc, kidsN_succ ns (k + m), ← ih (by omega)]
      by_cases h0 : m = 0
      · subst h0
        rw [part_par0, if_neg (by omega), if_neg (by have := parN_lt ns (k + 0); omega)]
      · obtain ⟨p, p1, p2, p3, _⟩ := part_par hT hk hL (show 0 < m by omega) (by omega)
        rw [p2, p3]
        by_cases e : p = j
        · subst e
          rw [if_pos rfl, if_pos rfl, List.map_append]
          congr 1
          simp; omega
        · rw [if_neg (show ¬ (p : Int) = (j : Int) by omega), if_neg (show ¬ ((k + p : Nat) : Int) = ((k + j : Nat) : Int) by omega)]
  exact key L (Nat.le_refl _)
theorem part_root {j : Nat} (h0 : 0 < j) (hj : j < L) : rootN (partN ns k L) j = rootN ns (k + j) := by
  obtain ⟨n, h2, h3⟩ := part_at hk hL hj
  obtain ⟨p, p1, p2, p3, _⟩ := part_par hT hk hL h0 hj
  unfold rootN
  rw [h2, h3, p2, p3]
  simp only [Int.toNat_natCast, part_nK hk hL (show p < L by omega)]
  have e1 : decide (j = 0) = false := by simp; omega
  have e2 : decide (k + j = 0) = false := by simp; omega
  have e3 : decide ((0 : Int) ≤ (p : Int)) = true := by simp
  have e4 : decide ((0 : Int) ≤ ((k + p : Nat) : Int)) = true := by simp; omega
  rw [e1, e2, e3, e4]; rfl
omit hT in
theorem part_root0 (hb : nK ns k = 1) : rootN (partN ns k L) 0 = true := by
  obtain ⟨n, h2, h3⟩ := part_at hk hL (part_le hk hL).2
  rw [nK, show ns[k]? = some n from h2] at hb
  unfold rootN
  rw [h3]
  simp [cutNd, hb]
omit hT in
theorem part_units : ∀ m, m ≤ L → unitsV (partN ns k L) m + unitsV ns k = unitsV ns (k + m)
  | 0, _ => by rw [Nat.add_zero]; simp [unitsV]
  | m + 1, hm => by
    obtain ⟨n, h2, h3⟩ := part_at hk hL (show m < L by omega)
    rw [unitsV_succ h3, ← Nat.add_assoc, unitsV_succ h2]
    have := part_units m (by omega)
    have e : (cutNd k m n).s = n.s := rfl
    rw [e]; omega
omit hT in
theorem part_vast {al : Nat} (h : vastV ns al = false) : vastV (partN ns k L) al = false := by
  have h1 := part_le hk hL
  have h2 := partN_len (ns := ns) (k := k) h1.1
  have h3 := part_units hk hL L (Nat.le_refl _)
  have h4 := unitsV_le ns (k := k + L) h1.1
  have h5 := of_decide_eq_false h
  rw [vastV, h2]
  exact decide_eq_false (by omega)
end
end Go.Proofs.Ytnolbmfjgfojhaa
namespace Go.Proofs.Ytnolbmfjgfojhaa
open Go.RowKit
theorem cut0 (k : Nat) (p : Int) (s : Sty) (v : Value) : ((Nd.cells ⟨p, s⟩).toArray.setIfInBounds 0 v).setIfInBounds 0 (.int .i64 (-1)) = (cutNd k 0 ⟨p, s⟩).cells.toArray := rfl
theorem cut1 (k m : Nat) (hm : ¬ m = 0) (p : Int) (s : Sty) : (Nd.cells ⟨p, s⟩).toArray.setIfInBounds 0 (.int .i64 (p - (k : Int))) = (cutNd k m ⟨p, s⟩).cells.toArray := by
  rw [cutNd, if_neg hm]; rfl
theorem Rd.intAt {w : World} {b off n : Nat} {l : List Int} (h : Rd w 1 (some ⟨b, off, none⟩) n (ints l)) {i : Nat} {x : Int} (hx : l[i]? = some x) : b < w.heap.size ∧ w.cell? ⟨b, off + i, none⟩ = some (.int .i64 x) := by
  have hi := (List.getElem?_eq_some_iff.1 hx).1
  have hl := h.len
  rw [ints_len, Nat.mul_one] at hl
  obtain ⟨b', off', e, hb, hc⟩ := h.at_ (by omega)
  injection e with e
  injection e with e1 e2
  subst e1 e2
  exact ⟨hb, hc i _ (by rw [ints, List.getElem?_map, hx]; rfl)⟩
theorem RdR.rowAt {w : World} {B b off n : Nat} {L : Nat → List Int} (h : RdR w B (some ⟨b, off, none⟩) n L) {i : Nat} (hi : i < n) : ∃ Ai ci, b < w.heap.size ∧ w.cell? ⟨b, off + i, none⟩ = some (.slice Ai (L i).length ci) ∧ Rd w 1 Ai (L i).length (ints (L i)) := by
  obtain ⟨b', off', Ai, ci, e, _, hb, hc, hr, _⟩ := h.at_ i hi
  injection e with e
  injection e with e1 e2
  subst e1 e2
  exact ⟨Ai, ci, hb, hc, hr⟩
theorem kids_in {ns : List Nd} {n i : Nat} {q : Nat} {x : Int} (h : (kidsN ns n i)[q]? = some x) : 0 ≤ x ∧ x < n := by
  have hm := List.mem_of_getElem? h
  unfold kidsN at hm
  obtain ⟨y, hy, rfl⟩ := List.mem_map.1 hm
  have := List.mem_range.1 (List.mem_filter.1 hy).1
  omega
section
variable (t : Tr) (ns : List Nd) (av : List Int)
set_option maxRecDepth 100000 in
set_option maxHeartbeats 16000000 in
theorem law_tyParts (x : Int) (hx : 0 ≤ x ∧ x ≤ 65535) (w : World) (h : TrIn w t ns av) (hm : t.nl ≤ 17592186044415) (ha : t.al ≤ 17592186044415) :
    Calls Try.prog 8 #[.agg t.cs, .int .u16 x] w fun e w' => e = .returned (.bool true) ∧ Ext w w' := by
  have cm := fun w h => hide (small05_any t ns av w h hm ha)
  obtain ⟨q, hq⟩ : ∃ q, (!vastV ns t.al && decide (t.nl ≤ 700)) = q := ⟨_, rfl⟩
  rw [hq] at cm
  have cW := fun w => hide (works05_any w)
  go_enter Try.func8, Try.ntmps8
  go_wp2_with fail
  refine (unhide (cm _ (h.ext ((Ext.refl _).alloc _)))).mono ?_
  rintro e w1 ⟨rfl, hx2⟩
  have BT : Blk w1 w.heap.size 25 t.cs := (Blk.new _ _ _).ext hx2
  have E1 : Ext w w1 := ((Ext.refl _).alloc _).trans hx2
  clear hx2 cm
  have c1 := BT.cell
  have l1 := BT.lt
  cases q
  · go_wp2_with fail
    refine (unhide (cW _)).mono ?_
    rintro e w9 ⟨rfl, hx⟩
    go_wp2_with fail
    go_ret
    exact ⟨rfl, E1.trans hx⟩
  rw [Bool.and_eq_true] at hq
  have hv : vastV ns t.al = false := by simpa using hq.1
  by_cases h200 : 200 < t.nl
  · have hI : (200 : Int) < (t.nl : Int) := by omega
    go_wp2_with fail
    refine (unhide (cW _)).mono ?_
    rintro e w9 ⟨rfl, hx⟩
    go_wp2_with fail
    go_ret
    exact ⟨rfl, E1.trans hx⟩
  have hI : ¬ (200 : Int) < (t.nl : Int) := by omega
  obtain ⟨ha5, hu5⟩ := vast_units hv
  have hl := h.nodes.nlen
  obtain ⟨na, nl, nc, aa, al, ac, view⟩ := t
  simp only at hm ha h200 hv hl ha5 BT c1 h hI
  have HV := hide hv
  have c3 := hide (check_any ⟨na, nl, nc, aa, al, ac, view⟩ ns av w1 (h.ext E1) (by simp only; omega) (by unfold maxLen; simp only; omega))
  clear hq hm ha hv hu5
  obtain ⟨CV, hCV⟩ : ∃ CV, checkV ns av view = CV := ⟨_, rfl⟩
  have c3' := unhide c3
  rw [show (Tr.mk na nl nc aa al ac view).view = view from rfl, hCV] at c3'
  clear c3
  have c3 := hide c3'
  clear c3'
  have HCV := hide hCV
  obtain ⟨C1, C2⟩ := CV
  simp only at c3
  have HL := hide hl
  have hA := h.advs
  have hN := h.nodes
  simp only at hA hN
  clear hCV hl h
  generalize hg : w.heap.size = g at *
  have HG := hide hg
  clear hg
  go_wp2_with fail
  refine (unhide c3).mono ?_
  rintro e w3 ⟨rfl, hx3⟩
  simp only []
  replace E1 := E1.trans hx3
  replace BT := BT.ext hx3
  clear hx3 c1 l1 c3 w1 hI
  have c1 := BT.cell
  have l1 := BT.lt
  by_cases hC : C2 = 0
  rotate_left
  · have hCb : (C2 != 0) = true := by simpa using hC
    go_wp2_with fail
    refine (unhide (cW _)).mono ?_
    rintro e w9 ⟨rfl, hx⟩
    go_wp2_with fail
    go_ret
    exact ⟨rfl, E1.trans hx⟩
  have hCb : (C2 != 0) = false := by simpa using hC
  have hT := TOk.of (ns := ns) (av := av) (view := view) (by have := unhide HL; omega) (by rw [unhide HCV]; exact hC)
  have hpos := hT.pos
  rw [unhide HL] at hpos
  obtain ⟨b, off, hna, hb, -⟩ := hN.at_ hpos
  subst hna
  obtain ⟨k, hk0⟩ : ∃ k : Nat, x.tmod (nl : Int) = k := ⟨(x.tmod (nl : Int)).toNat, by
    rw [Int.tmod_eq_emod_of_nonneg hx.1]; have := Int.emod_nonneg x (b := (nl : Int)) (by omega); omega⟩
  have hk1 : k < nl := by
    have := Int.emod_lt_of_pos x (b := (nl : Int)) (by omega)
    rw [Int.tmod_eq_emod_of_nonneg hx.1] at hk0
    omega
  have hkn : k < ns.length := by rw [unhide HL]; exact hk1
  obtain ⟨n, hn⟩ : ∃ n, ns[k]? = some n := ⟨_, List.getElem?_eq_getElem hkn⟩
  obtain ⟨b', off', hna', -, hmid⟩ := hN.node hn
  injection hna' with hna'; injection hna' with hna1 hna2
  subst hna1 hna2
  obtain ⟨p, s⟩ := n
  have M2 := hide (show ∀ (y : Nat) (v : Value), s.cells.toList[y]? = some v → w.cell? ⟨b, off + k * 44 + 1 + y, none⟩ = some v from fun y v hv => by
    have := hmid (y + 1) v hv
    rwa [show off + k * 44 + (y + 1) = off + k * 44 + 1 + y by omega] at this)
  have nlz : ((nl : Int) == 0) = false := by simp; omega
  have nlz2 : ¬ (nl : Int) = 0 := by omega
  have nlz3 : ¬ nl = 0 := by omega
  have hxw : IntKind.i64.wrap x = x := IntWalk.i64_in _ (by omega)
  have hxl : 0 ≤ x := hx.1
  have hxh : x ≤ 65535 := hx.2
  have hin : (0 : Int) ≤ (k : Int) ∧ (k : Int) < (nl : Int) := by omega
  have HT := hide hT
  have HKN := hide hkn
  have HN := hide hn
  have HC := hide hC
  have HX := hide hx
  clear hmid hT hkn hn hC hpos hx
  go_upto_region 7 with fail
  clear nlz nlz2 nlz3 hxw hxl hxh hk0 hCb
  iterate 16 go_step
  refine wpList_load_mid rfl 45 _ rfl b (off + k * 44 + 1) rfl s.cells.toList _ (fun y v hv => (E1.cells.1 b _ hb).trans ((unhide M2) y v hv)) Try.underlying45 rfl (info_style s) ?_
  simp only [Act.put, List.setIfInBounds_toArray, List.set_cons_succ, List.set_cons_zero]
  refine wpList_alloc_var rfl 45 rfl zst.cells zero_st ?_
  intro wa Ba Ea za
  simp only [Act.put, List.setIfInBounds_toArray, List.set_cons_succ, List.set_cons_zero]
  refine wpList_store_blk rfl 45 _ _ rfl w3.heap.size rfl s.cells rfl 45 zst.cells Ba (info_style s) rfl (by kernel_rfl) ?_
  intro w4 BS hg4 zs
  simp only [Act.put]
  have E4 : Ext w w4 := Ext.grown (E1.trans Ea) hg4 (fun q e => by injection e with e; have := E1.size; omega)
  have BT4 := (BT.ext Ea).grown hg4 (fun e => by injection e with e; omega)
  have d0 : w4.cell? ⟨w3.heap.size, 0, none⟩ = some (.int .u8 s.kind) := BS.cell 0
  have d2 : w4.cell? ⟨w3.heap.size, 2, none⟩ = some (.int .u8 s.float) := BS.cell 2
  have d3 : w4.cell? ⟨w3.heap.size, 3, none⟩ = some (.int .u8 s.clear) := BS.cell 3
  have ls := BS.lt
  clear Ba Ea za hg4 zs E1 BT c1 l1 wa BS
  generalize w3.heap.size = gs at *
  clear w3
  by_cases k1 : s.kind = 1
  rotate_left
  · have e1 : (s.kind != 1) = true := by simpa using k1
    go_wp2_with fail
    refine (unhide (cW _)).mono ?_
    rintro e w9 ⟨rfl, hx⟩
    go_wp2_with fail
    go_ret
    exact ⟨rfl, E4.trans hx⟩
  by_cases k2 : s.float = 0
  rotate_left
  · have e1 : (s.kind != 1) = false := by simpa using k1
    have e2 : (s.float != 0) = true := by simpa using k2
    go_wp2_with fail
    refine (unhide (cW _)).mono ?_
    rintro e w9 ⟨rfl, hx⟩
    go_wp2_with fail
    go_ret
    exact ⟨rfl, E4.trans hx⟩
  by_cases k3 : s.clear = 0
  rotate_left
  · have e1 : (s.kind != 1) = false := by simpa using k1
    have e2 : (s.float != 0) = false := by simpa using k2
    have e3 : (s.clear != 0) = true := by simpa using k3
    go_wp2_with fail
    refine (unhide (cW _)).mono ?_
    rintro e w9 ⟨rfl, hx⟩
    go_wp2_with fail
    go_ret
    exact ⟨rfl, E4.trans hx⟩
  have e1 : (s.kind != 1) = false := by simpa using k1
  have e2 : (s.float != 0) = false := by simpa using k2
  have e3 : (s.clear != 0) = false := by simpa using k3
  obtain ⟨L, hL⟩ : ∃ L, k + L = endN ns k := ⟨endN ns k - k, by have := endN_gt ns k; omega⟩
  have hkn := unhide HKN
  have hT := unhide HT
  have hb1 : nK ns k = 1 := by rw [nK, unhide HN]; exact k1
  have hlo : ∀ n, ns[k]? = some n → looseV n.s = false := fun n hn => by
    rw [unhide HN] at hn
    obtain rfl := Option.some.inj hn
    simp [looseV, k2, k3]
  have hLL := part_le hkn hL
  have PCK := hide (part_check hT hkn hL (av := av) (view := view) (by rw [unhide HCV]; exact unhide HC) (by have := unhide HL; omega) hb1 hlo)
  have PVA := hide (part_vast hkn hL (unhide HV))
  have HLL := hide hL
  have HB1 := hide hb1
  have hLe : lastK ns k ns.length + 1 = k + L := by rw [last_end hT hkn]; omega
  have hLn : k + L ≤ nl := by have := unhide HL; omega
  have hL0 : 0 < L := hLL.2
  rw [unhide HL] at hLe
  have cLt : ∀ w, Rd w 44 (some ⟨b, off, none⟩) nl (nds ns) → Hid (Calls Try.prog 26 #[.agg (Tr.cs ⟨some ⟨b, off, none⟩, nl, nc, aa, al, ac, view⟩)] w (IntsOut w (lastsN ns))) := fun w h => hide (last_any ⟨some ⟨b, off, none⟩, nl, nc, aa, al, ac, view⟩ ns w h (by simp only; omega))
  have cDt : ∀ w, Rd w 44 (some ⟨b, off, none⟩) nl (nds ns) → Hid (Calls Try.prog 24 #[.agg (Tr.cs ⟨some ⟨b, off, none⟩, nl, nc, aa, al, ac, view⟩)] w (IntsOut w (depsN ns))) := fun w h => hide (depths_any ⟨some ⟨b, off, none⟩, nl, nc, aa, al, ac, view⟩ ns w h (by simp only; omega))
  have cKt : ∀ w, Rd w 44 (some ⟨b, off, none⟩) nl (nds ns) → Hid (Calls Try.prog 21 #[.agg (Tr.cs ⟨some ⟨b, off, none⟩, nl, nc, aa, al, ac, view⟩)] w (RowsOut w nl (kidsN ns nl))) := fun w h => hide (kids_any ⟨some ⟨b, off, none⟩, nl, nc, aa, al, ac, view⟩ ns w h (by simp only; omega))
  have c1 := BT4.cell
  have l1 := BT4.lt
  clear hb1 hlo hLL hT hkn hL k1 k2 k3 HC HCV HV
  go_wp2_with fail
  refine (unhide (cLt _ (hN.ext E4))).mono ?_
  rintro e w5 ⟨Al, cl, rfl, RL, hx⟩
  rw [lastsN_len, unhide HL] at RL
  have hll : (lastsN ns).length = nl := by rw [lastsN_len, unhide HL]
  rw [hll]
  replace E4 := E4.trans hx
  replace BT4 := BT4.ext hx
  clear hx c1 l1 cLt w4 hll d0 d2 d3 ls e1 e2 e3
  have c1 := BT4.cell
  have l1 := BT4.lt
  go_wp2_with fail
  refine (unhide (cDt _ (hN.ext E4))).mono ?_
  rintro e w6 ⟨Ad, cd, rfl, RD, hx⟩
  rw [depsN_len, unhide HL] at RD
  have hll : (depsN ns).length = nl := by rw [depsN_len, unhide HL]
  rw [hll]
  replace E4 := E4.trans hx
  replace BT4 := BT4.ext hx
  replace RL := RL.ext hx
  clear hx c1 l1 cDt w5 hll
  have c1 := BT4.cell
  have l1 := BT4.lt
  go_wp2_with fail
  refine (unhide (cKt _ (hN.ext E4))).mono ?_
  rintro e w7 ⟨Ak, rfl, RK, hx⟩
  have hgs := E4.size
  replace RK := RK.mono (C := g) (by have := unhide HG; omega)
  replace E4 := E4.trans hx
  replace BT4 := BT4.ext hx
  replace RL := RL.ext hx
  replace RD := RD.ext hx
  clear hx c1 l1 cKt hgs w6
  have c1 := BT4.cell
  have l1 := BT4.lt
  have hpos : 0 < nl := by omega
  obtain ⟨bd, od, -, hAd, -, -, -⟩ := RD.get hk1
  subst hAd
  obtain ⟨bk, ok, -, -, hAk, -⟩ := RK.at_ k hk1
  subst hAk
  obtain ⟨bl, ol, ul, hAl, hbl, hul, hcl⟩ := RL.get hk1
  subst hAl
  rw [ints, List.getElem?_map, lastsN_get (by rw [unhide HL]; exact hk1), unhide HL] at hul
  obtain rfl := Option.some.inj hul
  obtain ⟨lk, hlk⟩ : ∃ lk, lastK ns k nl = lk := ⟨_, rfl⟩
  rw [hlk] at hcl hLe
  have HLK := hide hlk
  have g1 : decide ((lk : Int) < (k : Int)) = false := by simp; omega
  have g2 : decide ((nl : Int) ≤ (lk : Int)) = false := by simp; omega
  have g5 : decide (lk < k) = false := by simp; omega
  have g6 : decide (nl ≤ lk) = false := by simp; omega
  have g3 : ((nl : Int) == (nl : Int)) = true := by simp
  have g4 : ((nl : Int) != (nl : Int)) = false := by simp
  clear hul hlk hpos
  go_upto_region 13 with fail
  go_quiet (fail)
  have HCL := hide hcl
  have HBL := hide hbl
  clear g1 g2 g3 g4 g5 g6 hcl c1 l1
  have hx : Ext w7 (w7.drewN nq) := (Ext.refl _).drewN nq
  replace E4 := E4.trans hx
  replace BT4 := BT4.ext hx
  replace RL := RL.ext hx
  replace RD := RD.ext hx
  replace RK := RK.ext hx
  have HCB := hide ((hx.cells.1 bl _ hbl).trans (unhide HCL))
  replace hbl := Nat.lt_of_lt_of_le hbl hx.size
  clear hx HCL HBL M2 HN
  generalize w7.drewN nq = wB at *
  clear w7
  have c1 := BT4.cell
  have l1 := BT4.lt
  go_upto_region 16 with fail
  have BV : Blk (wB.alloc (.cells #[.slice none 0 0, .slice aa al ac, .int .i64 view] 25)) wB.heap.size 25 #[.slice none 0 0, .slice aa al ac, .int .i64 view] := Blk.new _ _ _
  have E5 : Ext wB (wB.alloc (.cells #[.slice none 0 0, .slice aa al ac, .int .i64 view] 25)) := (Ext.refl _).alloc _
  generalize hw1 : wB.alloc (.cells #[.slice none 0 0, .slice aa al ac, .int .i64 view] 25) = w1 at *
  have hs1 : w1.heap.size = wB.heap.size + 1 := by rw [← hw1]; simp
  generalize hgv : wB.heap.size = gv at *
  have HGV := hide hgv
  clear hw1 hgv c1 l1
  have c1 := (BT4.ext E5).cell
  have l1 := (BT4.ext E5).lt
  go_wp2_with fail
  clear c1 l1
  obtain ⟨i0, hi0, hz0, hz1, hz2⟩ := node_all
  have HI := hide (And.intro hi0 (And.intro hz0 (And.intro hz1 hz2)))
  clear hi0 hz0 hz1 hz2
  go_loopw [13] (fun v wr => ∃ (i m : Nat) (A : Option Addr) (c : Nat), v = .int .i64 i ∧ Hid (i = k + m) ∧ m ≤ L ∧ Ext wB wr ∧ Blk wr gv 25 #[.slice A m c, .slice aa al ac, .int .i64 view] ∧ wr.ownsRow (gv + 1) 47 44 (.slice A m c) m (nds (partN ns k m))) (fun v _ => nl + 1 - (intOf v).toNat)
  case atStart => exact ⟨k, 0, none, 0, rfl, hide rfl, by omega, E5, BV, ⟨rfl, .inl ⟨rfl, rfl⟩⟩⟩
  case round =>
    clear E5 BV hs1 w1
    obtain ⟨i, m, A, c, rfl, HI2, m1, E5, BV, OW⟩ := hrel
    have hcl := (E5.cells.1 bl _ (by rw [unhide HGV]; exact hbl)).trans (unhide HCB)
    by_cases hmL : m < L
    · have hi := unhide HI2
      have hle : (i : Int) ≤ (lk : Int) := by omega
      have hin2 : (0 : Int) ≤ (i : Int) ∧ (i : Int) < (nl : Int) := by omega
      have hil : i < ns.length := by have := unhide HL; omega
      obtain ⟨n, hn⟩ : ∃ n, ns[i]? = some n := ⟨_, List.getElem?_eq_getElem hil⟩
      obtain ⟨b', off', hna', -, hmid⟩ := hN.node hn
      injection hna' with hna'; injection hna' with hna1 hna2
      subst hna1 hna2
      have hnp : nP ns i = n.p := by rw [nP, hn]
      have hpb : -1 ≤ n.p ∧ n.p < (nl : Int) := by
        rw [← hnp]
        by_cases h0 : i = 0
        · rw [h0, (unhide HT).par0]; omega
        · obtain ⟨y, hy, hy2⟩ := (unhide HT).par (show 0 < i by omega) hil
          rw [hy]; omega
      obtain ⟨p, s⟩ := n
      simp only at hpb
      have HMID := hide hmid
      have HNI := hide (show ns[k + m]? = some ⟨p, s⟩ by rw [← hi]; exact hn)
      have c1 := (BT4.ext E5).cell
      have l1 := (BT4.ext E5).lt
      have hEw := E4.trans E5
      clear hmid hn hnp hil hi
      go_upto_region 19 with fail
      iterate 13 go_step
      refine wpList_load_mid rfl 47 _ rfl b (off + i * 44) rfl (Nd.cells ⟨p, s⟩) _ (fun j v hv => (hEw.cells.1 b _ hb).trans ((unhide HMID) j v hv)) Try.underlying47 rfl (info_nd' ⟨p, s⟩) ?_
      simp only [Act.put, List.setIfInBounds_toArray, List.set_cons_succ, List.set_cons_zero]
      refine wpList_alloc_var rfl 47 rfl znd.cells.toArray zero_nd ?_
      intro wa Ba Ea za
      simp only [Act.put, List.setIfInBounds_toArray, List.set_cons_succ, List.set_cons_zero]
      refine wpList_store_blk rfl 47 _ _ rfl wr.heap.size rfl (Nd.cells ⟨p, s⟩).toArray rfl 47 znd.cells.toArray Ba (info_nd' ⟨p, s⟩) rfl (by kernel_rfl) ?_
      intro w3 BN hg3 zs
      simp only [Act.put]
      have F3 : Ext wr w3 := Ext.grown Ea hg3 (fun q e => by injection e with e; omega)
      generalize hgn : wr.heap.size = gn at *
      clear Ba Ea za hg3 zs c1 l1 wa hcl hle HMID hEw
      have d0 : w3.cell? ⟨gn, 0, none⟩ = some (.int .i64 p) := BN.cell 0
      have f0 : w3.frozen? ⟨gn, 0, none⟩ = false := BN.frozen 0
      have ln := BN.lt
      have e1 : IntKind.i64.wrap (p - (k : Int)) = p - (k : Int) := IntWalk.i64_in _ (by omega)
      by_cases hm0 : m = 0
      · have hi := unhide HI2
        subst hm0
        have hik : i = k := by omega
        subst hik
        clear hi
        have e2 : ((i : Int) == (i : Int)) = true := by simp
        go_upto_region 23 with fail
        have BN2 : Blk ((w3.setCell ⟨gn, 0, none⟩ (.int .i64 (p - (i : Int)))).setCell ⟨gn, 0, none⟩ (.int .i64 (-1))) gn 47 (cutNd i 0 ⟨p, s⟩).cells.toArray := by
          have := (BN.set_ 0 (.int .i64 (p - (i : Int)))).set_ 0 (.int .i64 (-1))
          rwa [cut0] at this
        have F6 : Ext wr ((w3.setCell ⟨gn, 0, none⟩ (.int .i64 (p - (i : Int)))).setCell ⟨gn, 0, none⟩ (.int .i64 (-1))) := (F3.set (by rw [hgn]; simp) _).set (by rw [hgn]; simp) _
        generalize (w3.setCell ⟨gn, 0, none⟩ (.int .i64 (p - (i : Int)))).setCell ⟨gn, 0, none⟩ (.int .i64 (-1)) = w6 at *
        clear F3 BN d0 f0 ln e1 e2 w3
        have BV6 := BV.ext F6
        have OW6 := own_far OW F6
        have E6 := E5.trans F6
        have hs6 : gn + 1 ≤ w6.heap.size := BN2.lt
        have HSU := hide (partN_succ (unhide HNI))
        clear F6 BV OW E5 HNI
        generalize hn' : cutNd i 0 ⟨p, s⟩ = n' at *
        clear hn'
        have c1 := BV6.cell
        have l1 := BV6.lt
        iterate 7 go_step
        refine wpList_load_blk rfl 47 _ rfl gn rfl 47 n'.cells.toArray _ BN2 Try.underlying47 rfl (info_nd' n') ?_
        simp only [Act.put, List.setIfInBounds_toArray, List.set_cons_succ, List.set_cons_zero]
        refine wpList_nodes rfl 1 _ rfl [n'] (by decide) (by simp only [List.map_toArray, List.map_cons, List.map_nil]; exact fill_one n') ?_
        intro w7 B7 E7 z7
        simp only [Act.put, List.setIfInBounds_toArray, List.set_cons_succ, List.set_cons_zero]
        have RS : Rd w7 44 (some ⟨w6.heap.size, 0, none⟩) 1 (nds [n']) := by have := B7.rdk (n := 1) (k := 44) (by rw [List.size_toArray, nds_len]; rfl); simpa using this
        have OW7 := own_far OW6 E7
        refine wpList_append_rd rfl (.tmp 141) (.tmp 143) _ rfl (gv + 1) 47 i0 _ 44 328 Try.underlying22 (unhide HI).1 (unhide HI).2.1 (unhide HI).2.2.1 (unhide HI).2.2.2 rfl (by omega) _ 0 (nds (partN ns i 0)) rfl OW7 _ 1 1 (nds [n']) rfl RS (nodes_one _) (by simp only [maxLen]; omega) (by omega) (by omega) ?_
        intro A8 c8 w8 own8 g8 at8
        simp only [Act.put, List.setIfInBounds_toArray, List.set_cons_succ, List.set_cons_zero]
        have r8 : ∀ q, Value.ownBlock (.slice A 0 c) = some q → gv + 1 ≤ q := fun q e => (OW7.lt q e).1
        have hgv := unhide HGV
        have E8 : Ext wB w8 := Ext.grown (E6.trans E7) g8 (fun j e => by have := r8 j e; omega)
        have BV8 := (BV6.ext E7).grown g8 (fun e => by have := r8 _ e; omega)
        iterate 3 go_step
        refine wpList_store_cell rfl 22 _ _ rfl gv 0 rfl (.slice A8 (0 + 1) c8) rfl rfl 25 #[.slice A 0 c, .slice aa al ac, .int .i64 view] BV8 (show 0 < 3 by decide) (by kernel_rfl) ?_
        intro w9 BV9 g9 z9
        simp only [Act.put]
        have E9 : Ext wB w9 := Ext.grown E8 g9 (fun q e => by injection e with e; omega)
        have O9 : w9.ownsRow (gv + 1) 47 44 (.slice A8 (0 + 1) c8) (0 + 1) (nds (partN ns i 0) ++ nds [n']) := own8.kept g9 (by
          cases e : Value.ownBlock (.slice A8 (0 + 1) c8) with
          | none => exact .inl rfl
          | some q => exact .inr (fun e2 => by have := (own8.lt q e).1; have e2 := Option.some.inj e2; omega))
        rw [← nds_append, ← unhide HSU] at O9
        have BV9' : Blk w9 gv 25 #[.slice A8 (0 + 1) c8, .slice aa al ac, .int .i64 view] := by simpa using BV9
        clear own8 g8 at8 r8 g9 E8 BV8 OW7 RS B7 E7 z7 c1 l1 BV9 OW6 BV6 BN2 E6
        go_wp2_with fail
        go_roundw
        case rel => exact ⟨i + 1, 0 + 1, A8, c8, by go_num, hide (by have := unhide HI2; omega), by omega, E9, BV9', O9⟩
        case measure => simp [intOf]; omega
      · have hi := unhide HI2
        have e2 : ((i : Int) == (k : Int)) = false := by simp; omega
        clear hi
        go_upto_region 23 with fail
        have BN2 : Blk (w3.setCell ⟨gn, 0, none⟩ (.int .i64 (p - (k : Int)))) gn 47 (cutNd k m ⟨p, s⟩).cells.toArray := by
          have := BN.set_ 0 (.int .i64 (p - (k : Int)))
          rwa [cut1 k m hm0] at this
        have F6 : Ext wr (w3.setCell ⟨gn, 0, none⟩ (.int .i64 (p - (k : Int)))) := F3.set (by rw [hgn]; simp) _
        generalize w3.setCell ⟨gn, 0, none⟩ (.int .i64 (p - (k : Int))) = w6 at *
        clear F3 BN d0 f0 ln e1 e2 w3
        have BV6 := BV.ext F6
        have OW6 := own_far OW F6
        have E6 := E5.trans F6
        have hs6 : gn + 1 ≤ w6.heap.size := BN2.lt
        have HSU := hide (partN_succ (unhide HNI))
        clear F6 BV OW E5 HNI
        generalize hn' : cutNd k m ⟨p, s⟩ = n' at *
        clear hn'
        have c1 := BV6.cell
        have l1 := BV6.lt
        iterate 7 go_step
        refine wpList_load_blk rfl 47 _ rfl gn rfl 47 n'.cells.toArray _ BN2 Try.underlying47 rfl (info_nd' n') ?_
        simp only [Act.put, List.setIfInBounds_toArray, List.set_cons_succ, List.set_cons_zero]
        refine wpList_nodes rfl 1 _ rfl [n'] (by decide) (by simp only [List.map_toArray, List.map_cons, List.map_nil]; exact fill_one n') ?_
        intro w7 B7 E7 z7
        simp only [Act.put, List.setIfInBounds_toArray, List.set_cons_succ, List.set_cons_zero]
        have RS : Rd w7 44 (some ⟨w6.heap.size, 0, none⟩) 1 (nds [n']) := by have := B7.rdk (n := 1) (k := 44) (by rw [List.size_toArray, nds_len]; rfl); simpa using this
        have OW7 := own_far OW6 E7
        refine wpList_append_rd rfl (.tmp 141) (.tmp 143) _ rfl (gv + 1) 47 i0 _ 44 328 Try.underlying22 (unhide HI).1 (unhide HI).2.1 (unhide HI).2.2.1 (unhide HI).2.2.2 rfl (by omega) _ m (nds (partN ns k m)) rfl OW7 _ 1 1 (nds [n']) rfl RS (nodes_one _) (by simp only [maxLen]; omega) (by omega) (by omega) ?_
        intro A8 c8 w8 own8 g8 at8
        simp only [Act.put, List.setIfInBounds_toArray, List.set_cons_succ, List.set_cons_zero]
        have r8 : ∀ q, Value.ownBlock (.slice A m c) = some q → gv + 1 ≤ q := fun q e => (OW7.lt q e).1
        have hgv := unhide HGV
        have E8 : Ext wB w8 := Ext.grown (E6.trans E7) g8 (fun j e => by have := r8 j e; omega)
        have BV8 := (BV6.ext E7).grown g8 (fun e => by have := r8 _ e; omega)
        iterate 3 go_step
        refine wpList_store_cell rfl 22 _ _ rfl gv 0 rfl (.slice A8 (m + 1) c8) rfl rfl 25 #[.slice A m c, .slice aa al ac, .int .i64 view] BV8 (show 0 < 3 by decide) (by kernel_rfl) ?_
        intro w9 BV9 g9 z9
        simp only [Act.put]
        have E9 : Ext wB w9 := Ext.grown E8 g9 (fun q e => by injection e with e; omega)
        have O9 : w9.ownsRow (gv + 1) 47 44 (.slice A8 (m + 1) c8) (m + 1) (nds (partN ns k m) ++ nds [n']) := own8.kept g9 (by
          cases e : Value.ownBlock (.slice A8 (m + 1) c8) with
          | none => exact .inl rfl
          | some q => exact .inr (fun e2 => by have := (own8.lt q e).1; have e2 := Option.some.inj e2; omega))
        rw [← nds_append, ← unhide HSU] at O9
        have BV9' : Blk w9 gv 25 #[.slice A8 (m + 1) c8, .slice aa al ac, .int .i64 view] := by simpa using BV9
        clear own8 g8 at8 r8 g9 E8 BV8 OW7 RS B7 E7 z7 c1 l1 BV9 OW6 BV6 BN2 E6
        go_wp2_with fail
        go_roundw
        case rel => exact ⟨i + 1, m + 1, A8, c8, by go_num, hide (by have := unhide HI2; omega), by omega, E9, BV9', O9⟩
        case measure => simp [intOf]; omega
    · have hmL2 : m = L := by omega
      have hi := unhide HI2
      have hle : ¬ (i : Int) ≤ (lk : Int) := by omega
      clear hi HI HI2 m1 hmL
      subst hmL2
      have RU := Rd.of_own OW
      have EB := E5
      have BU := BV
      have BT5 := BT4.ext E5
      have hU : TrIn wr ⟨A, m, c, aa, al, ac, view⟩ (partN ns k m) av := ⟨RU, hA.ext (E4.trans E5)⟩
      have c4 := check_any ⟨A, m, c, aa, al, ac, view⟩ (partN ns k m) av wr hU (by simp only; omega) (by unfold maxLen; simp only; omega)
      rw [show (Tr.mk A m c aa al ac view).view = view from rfl, unhide PCK] at c4
      replace c4 := hide c4
      have hU2 : ∀ w', Ext wr w' → TrIn w' ⟨A, m, c, aa, al, ac, view⟩ (partN ns k m) av := fun w' hx => hU.ext hx
      have cV := fun w h => vast_any ⟨A, m, c, aa, al, ac, view⟩ (partN ns k m) av w h (by simp only; omega) (by simp only; omega)
      rw [show (Tr.mk A m c aa al ac view).al = al from rfl, unhide PVA] at cV
      have cV2 := fun w h => hide (cV w h)
      have cLu : ∀ w, Rd w 44 A m (nds (partN ns k m)) → Hid (Calls Try.prog 26 #[.agg (Tr.cs ⟨A, m, c, aa, al, ac, view⟩)] w (IntsOut w (lastsN (partN ns k m)))) := fun w h => hide (last_any ⟨A, m, c, aa, al, ac, view⟩ (partN ns k m) w h (by simp only; omega))
      have cDu : ∀ w, Rd w 44 A m (nds (partN ns k m)) → Hid (Calls Try.prog 24 #[.agg (Tr.cs ⟨A, m, c, aa, al, ac, view⟩)] w (IntsOut w (depsN (partN ns k m)))) := fun w h => hide (depths_any ⟨A, m, c, aa, al, ac, view⟩ (partN ns k m) w h (by simp only; omega))
      have cKu : ∀ w, Rd w 44 A m (nds (partN ns k m)) → Hid (Calls Try.prog 21 #[.agg (Tr.cs ⟨A, m, c, aa, al, ac, view⟩)] w (RowsOut w m (kidsN (partN ns k m) m))) := fun w h => hide (kids_any ⟨A, m, c, aa, al, ac, view⟩ (partN ns k m) w h (by simp only; omega))
      have cRu : ∀ z w, Rd w 44 A m (nds (partN ns k m)) → Hid (Calls Try.prog 28 #[.agg (Tr.cs ⟨A, m, c, aa, al, ac, view⟩), .int .i64 z] w fun e w' => e = .returned (.bool (rootI (partN ns k m) z)) ∧ Ext w w') := fun z w h => hide (root_all ⟨A, m, c, aa, al, ac, view⟩ (partN ns k m) z w h (by unfold maxLen; simp only; omega))
      have cRt : ∀ z w, Rd w 44 (some ⟨b, off, none⟩) nl (nds ns) → Hid (Calls Try.prog 28 #[.agg (Tr.cs ⟨some ⟨b, off, none⟩, nl, nc, aa, al, ac, view⟩), .int .i64 z] w fun e w' => e = .returned (.bool (rootI ns z)) ∧ Ext w w') := fun z w h => hide (root_all ⟨some ⟨b, off, none⟩, nl, nc, aa, al, ac, view⟩ ns z w h (by unfold maxLen; simp only; omega))
      have HUL := hide (partN_len (ns := ns) (k := k) (m := m) (by have := unhide HL; omega))
      clear hA cV PCK PVA OW hU BT4 BV E5
      have c1 := BU.cell
      have l1 := BU.lt
      go_wp2_with fail
      refine (unhide c4).mono ?_
      rintro e w2 ⟨rfl, hx⟩
      simp only []
      replace EB := EB.trans hx
      replace BU := BU.ext hx
      replace BT5 := BT5.ext hx
      replace RU := RU.ext hx
      have hU3 := hU2 _ hx
      clear hx c1 l1 c4 hcl hle hU2
      have c1 := BU.cell
      have l1 := BU.lt
      go_wp2_with fail
      refine (unhide (cV2 _ hU3)).mono ?_
      rintro e w3 ⟨rfl, hx⟩
      replace EB := EB.trans hx
      replace BU := BU.ext hx
      replace BT5 := BT5.ext hx
      replace RU := RU.ext hx
      clear hx c1 l1 cV2 hU3 w2
      have c1 := BU.cell
      have l1 := BU.lt
      go_wp2_with fail
      refine (unhide (cLu _ RU)).mono ?_
      rintro e w4 ⟨Al2, cl2, rfl, RL2, hx⟩
      rw [lastsN_len, unhide HUL] at RL2
      have hll : (lastsN (partN ns k m)).length = m := by rw [lastsN_len, unhide HUL]
      rw [hll]
      replace EB := EB.trans hx
      replace BU := BU.ext hx
      replace BT5 := BT5.ext hx
      replace RU := RU.ext hx
      clear hx c1 l1 cLu w3 hll
      have c1 := BU.cell
      have l1 := BU.lt
      go_wp2_with fail
      refine (unhide (cDu _ RU)).mono ?_
      rintro e w5 ⟨Ad2, cd2, rfl, RD2, hx⟩
      rw [depsN_len, unhide HUL] at RD2
      have hll : (depsN (partN ns k m)).length = m := by rw [depsN_len, unhide HUL]
      rw [hll]
      replace EB := EB.trans hx
      replace BU := BU.ext hx
      replace BT5 := BT5.ext hx
      replace RU := RU.ext hx
      replace RL2 := RL2.ext hx
      clear hx c1 l1 cDu w4 hll
      have c1 := BU.cell
      have l1 := BU.lt
      go_wp2_with fail
      refine (unhide (cKu _ RU)).mono ?_
      rintro e wC ⟨Ak2, rfl, RK2, hx⟩
      replace EB := EB.trans hx
      replace BU := BU.ext hx
      replace BT5 := BT5.ext hx
      replace RU := RU.ext hx
      replace RL2 := RL2.ext hx
      replace RD2 := RD2.ext hx
      clear hx c1 l1 cKu
      have RLc := RL.ext EB
      have RDc := RD.ext EB
      have RKc := RK.ext EB
      have EC := E4.trans EB
      obtain ⟨bl2, ol2, -, hAl, -, -, -⟩ := RL2.get hL0
      subst hAl
      obtain ⟨bd2, od2, -, hAd, -, -, -⟩ := RD2.get hL0
      subst hAd
      obtain ⟨bk2, ok2, -, -, hAk, -⟩ := RK2.at_ 0 hL0
      subst hAk
      have RK2' := RK2.mono (Nat.zero_le _)
      have RKc' := RKc.mono (Nat.zero_le _)
      have QL := fun (j : Nat) (hj : j < m) => part_last (unhide HT) (unhide HKN) (unhide HLL) hj
      have QD := fun (j : Nat) (hj : j < m) => part_dep (unhide HT) (unhide HKN) (unhide HLL) hj
      have QK := fun (j : Nat) (hj : j < m) => part_kids (unhide HT) (unhide HKN) (unhide HLL) hj
      have QR := fun (j : Nat) (h0 : 0 < j) (hj : j < m) => part_root (unhide HT) (unhide HKN) (unhide HLL) h0 hj
      have QR0 := hide (part_root0 (unhide HKN) (unhide HLL) (unhide HB1))
      rw [unhide HL] at QL QK
      replace QL := hide QL
      replace QD := hide QD
      replace QK := hide QK
      replace QR := hide QR
      have HLE := hide hLe
      have d3 := depsN_get (unhide HKN)
      obtain ⟨D3, hD3⟩ : ∃ D3, dep ns k = D3 := ⟨_, rfl⟩
      rw [hD3] at d3 QD
      have hD3b : D3 ≤ 201 := by have := dep_le ns k; omega
      obtain ⟨hbd, hd3⟩ := RDc.intAt d3
      have HD3 := hide hd3
      clear RK2 RKc RL RD RK hd3 d3 hD3 HCB hbl hLe EB E4 HT HB1 w5 wr
      have c1 := BU.cell
      have l1 := BU.lt
      go_wp2_with fail
      clear c1 l1
      go_loopw [20] (fun v wr => ∃ j : Nat, v = .int .i64 j ∧ j ≤ m ∧ Ext wC wr) (fun v _ => m - (intOf v).toNat)
      case atStart => exact ⟨0, rfl, by omega, Ext.refl _⟩
      case round =>
        obtain ⟨j, rfl, j1, E7⟩ := hrel
        have B1 := BT5.ext E7
        have B2 := BU.ext E7
        have d1 := B2.cell
        have k1 := B2.lt
        by_cases hj : j < m
        · obtain ⟨la, hla⟩ : ∃ la, lastK (partN ns k m) j m = la := ⟨_, rfl⟩
          obtain ⟨lka, hlka⟩ : ∃ lka, k + la = lka := ⟨_, rfl⟩
          obtain ⟨kj, hkj⟩ : ∃ kj, k + j = kj := ⟨_, rfl⟩
          have q1 := (unhide QL) j hj
          have q2 := (unhide QD) j hj
          have q3 := (unhide QK) j hj
          have q4 := (unhide QR) j
          rw [hla, hlka, hkj] at q1
          rw [hkj] at q2 q3 q4
          have hkjn : kj < nl := by omega
          have hkjs : kj < ns.length := by rw [unhide HL]; exact hkjn
          have hju : j < (partN ns k m).length := by rw [unhide HUL]; exact hj
          obtain ⟨D1, hD1⟩ : ∃ D1, dep (partN ns k m) j = D1 := ⟨_, rfl⟩
          obtain ⟨D2, hD2⟩ : ∃ D2, dep ns kj = D2 := ⟨_, rfl⟩
          rw [hD1, hD2] at q2
          have x1 := (RL2.ext E7).intAt (lastsN_get hju)
          have x2 := (RLc.ext E7).intAt (lastsN_get hkjs)
          have x3 := (RD2.ext E7).intAt (depsN_get hju)
          have x4 := (RDc.ext E7).intAt (depsN_get hkjs)
          rw [unhide HUL, hla] at x1
          rw [unhide HL, ← q1] at x2
          rw [hD1] at x3
          rw [hD2] at x4
          obtain ⟨y1, x1⟩ := x1
          obtain ⟨y2, x2⟩ := x2
          obtain ⟨y3, x3⟩ := x3
          obtain ⟨y4, x4⟩ := x4
          obtain ⟨A1, z1, y5, x5, R1⟩ := (RK2'.ext E7).rowAt hj
          obtain ⟨A2, z2, y6, x6, R2⟩ := (RKc'.ext E7).rowAt hkjn
          have hKL : (kidsN ns nl kj).length = (kidsN (partN ns k m) m j).length := by rw [← q3, List.length_map]
          rw [hKL] at x6 R2
          obtain ⟨KL, hKK⟩ : ∃ KL, (kidsN (partN ns k m) m j).length = KL := ⟨_, rfl⟩
          rw [hKK] at x5 x6 R1 R2
          have hKLb : KL ≤ m := by rw [← hKK]; exact kidsN_len _ _ _
          have x7 := (E7.cells.1 bd _ hbd).trans (unhide HD3)
          have y7 : bd < wr.heap.size := Nat.lt_of_lt_of_le hbd E7.size
          have hla2 : la ≤ 400 := by
            have h1 := (lastK_is (partN ns k m) j m).1
            rw [hla] at h1
            omega
          have hd1b : D1 ≤ 401 := by have := dep_le (partN ns k m) j; omega
          have hd2b : D2 ≤ 401 := by have := dep_le ns kj; omega
          have hin2 : (0 : Int) ≤ (j : Int) ∧ (j : Int) < (m : Int) := by omega
          have hin3 : (0 : Int) ≤ (kj : Int) ∧ (kj : Int) < (nl : Int) := by omega
          have w1 : IntKind.i64.wrap ((la : Int) + (k : Int)) = (lka : Int) := by rw [IntWalk.i64_in _ (by omega)]; omega
          have w2 : IntKind.i64.wrap ((j : Int) + (k : Int)) = (kj : Int) := by rw [IntWalk.i64_in _ (by omega)]; omega
          obtain ⟨DD, hDD⟩ : ∃ DD : Int, (D2 : Int) - (D3 : Int) = DD := ⟨_, rfl⟩
          have w3 : IntKind.i64.wrap ((D2 : Int) - (D3 : Int)) = DD := by rw [IntWalk.i64_in _ (by omega)]; exact hDD
          have w4 : IntKind.i64.wrap (DD + 1) = (D1 : Int) := by rw [IntWalk.i64_in _ (by omega)]; omega
          have W1 := hide w1
          have W2 := hide w2
          have W3 := hide w3
          have W4 := hide w4
          have Q3 := hide q3
          have HKK := hide hKK
          have X1 := hide x1
          have X2 := hide x2
          have X3 := hide x3
          have X4 := hide x4
          have X5 := hide x5
          have X6 := hide x6
          have X7 := hide x7
          have RN := hN.ext (EC.trans E7)
          have RM := RU.ext E7
          clear w1 w2 w3 w4 x1 x2 x3 x4 x5 x6 x7 q1 q2 q3 hla hlka hkj hD1 hD2 hKL hKK hDD hkjs hju R1 R2
          by_cases hj0 : 0 < j
          · have hr := q4 hj0 hj
            obtain ⟨rr, hrr⟩ : ∃ rr, rootN (partN ns k m) j = rr := ⟨_, rfl⟩
            rw [hrr] at hr
            have cu := cRu (j : Int)
            have ct := cRt (kj : Int)
            rw [rootI_nat, hrr] at cu
            rw [rootI_nat, ← hr] at ct
            clear hr hrr q4
            go_upto_region 35 with fail
            clear d1 k1
            refine wp_region_lin (by kernel_rfl) (fun w' => (ExtX wr w' [])) (fun ii vv ww => match ii with | 0 => vv = .slice (some ⟨bl2, ol2, none⟩) m cl2 | 1 => vv = .int .i64 (j : Int) | 2 => vv = .pointer (some ⟨bl2, ol2 + j, none⟩) | 3 => vv = .int .i64 (la : Int) | 4 => vv = .int .i64 (k : Int) | 5 => vv = .int .i64 (lka : Int) | 6 => vv = .slice (some ⟨bl, ol, none⟩) nl cl | 7 => vv = .int .i64 (j : Int) | 8 => vv = .int .i64 (k : Int) | 9 => vv = .int .i64 (kj : Int) | 10 => vv = .pointer (some ⟨bl, ol + kj, none⟩) | 11 => vv = .int .i64 (lka : Int) | 12 => vv = .bool false | 13 => vv = .bool false | 14 => vv = .slice (some ⟨bd2, od2, none⟩) m cd2 | 15 => vv = .int .i64 (j : Int) | 16 => vv = .pointer (some ⟨bd2, od2 + j, none⟩) | 17 => vv = .int .i64 (D1 : Int) | 18 => vv = .slice (some ⟨bd, od, none⟩) nl cd | 19 => vv = .int .i64 (j : Int) | 20 => vv = .int .i64 (k : Int) | 21 => vv = .int .i64 (kj : Int) | 22 => vv = .pointer (some ⟨bd, od + kj, none⟩) | 23 => vv = .int .i64 (D2 : Int) | 24 => vv = .slice (some ⟨bd, od, none⟩) nl cd | 25 => vv = .int .i64 (k : Int) | 26 => vv = .pointer (some ⟨bd, od + k, none⟩) | 27 => vv = .int .i64 (D3 : Int) | 28 => vv = .int .i64 DD | 29 => vv = .int .i64 (D1 : Int) | 30 => vv = .bool false | 31 => vv = .bool false | 32 => vv = .bool false | 33 => vv = .slice (some ⟨bk2, ok2, none⟩) m m | 34 => vv = .int .i64 (j : Int) | 35 => vv = .pointer (some ⟨bk2, ok2 + j, none⟩) | 36 => vv = .slice A1 KL z1 | 37 => vv = .int .i64 (KL : Int) | 38 => vv = .slice (some ⟨bk, ok, none⟩) nl nl | 39 => vv = .int .i64 (j : Int) | 40 => vv = .int .i64 (k : Int) | 41 => vv = .int .i64 (kj : Int) | 42 => vv = .pointer (some ⟨bk, ok + kj, none⟩) | 43 => vv = .slice A2 KL z2 | 44 => vv = .int .i64 (KL : Int) | 45 => vv = .bool false | 46 => vv = .bool false | 47 => vv = .bool false | 48 => vv = .int .i64 (j : Int) | 49 => vv = .bool true | 50 => vv = .bool true | 51 => vv = .agg (Tr.cs ⟨A, m, c, aa, al, ac, view⟩) | 52 => vv = .int .i64 (j : Int) | 53 => vv = .bool rr | 54 => vv = .agg (Tr.cs ⟨some ⟨b, off, none⟩, nl, nc, aa, al, ac, view⟩) | 55 => vv = .int .i64 (j : Int) | 56 => vv = .int .i64 (k : Int) | 57 => vv = .int .i64 (kj : Int) | 58 => vv = .bool rr | 59 => vv = .bool false | 60 => vv = .bool false | 61 => vv = .bool false | _ => True) (fun ii => match ii with | 2 => [(0, 196), (1, 197)] | 3 => [(2, 198)] | 5 => [(3, 199), (4, 200)] | 9 => [(7, 203), (8, 204)] | 10 => [(6, 202), (9, 205)] | 11 => [(10, 206)] | 12 => [(5, 201), (11, 207)] | 13 => [(12, 208)] | 14 => [(13, 209)] | 15 => [(13, 209)] | 16 => [(14, 210), (15, 211), (13, 209)] | 17 => [(16, 212), (13, 209)] | 18 => [(13, 209)] | 19 => [(13, 209)] | 20 => [(13, 209)] | 21 => [(19, 215), (20, 216), (13, 209)] | 22 => [(18, 214), (21, 217), (13, 209)] | 23 => [(22, 218), (13, 209)] | 24 => [(13, 209)] | 25 => [(13, 209)] | 26 => [(24, 220), (25, 221), (13, 209)] | 27 => [(26, 222), (13, 209)] | 28 => [(23, 219), (27, 223), (13, 209)] | 29 => [(28, 224), (13, 209)] | 30 => [(17, 213), (29, 225), (13, 209)] | 31 => [(13, 209), (30, 226)] | 32 => [(31, 227)] | 33 => [(32, 228)] | 34 => [(32, 228)] | 35 => [(33, 229), (34, 230), (32, 228)] | 36 => [(35, 231), (32, 228)] | 37 => [(36, 232), (32, 228)] | 38 => [(32, 228)] | 39 => [(32, 228)] | 40 => [(32, 228)] | 41 => [(39, 235), (40, 236), (32, 228)] | 42 => [(38, 234), (41, 237), (32, 228)] | 43 => [(42, 238), (32, 228)] | 44 => [(43, 239), (32, 228)] | 45 => [(37, 233), (44, 240), (32, 228)] | 46 => [(32, 228), (45, 241)] | 47 => [(46, 242)] | 48 => [(47, 243)] | 49 => [(48, 244), (47, 243)] | 50 => [(49, 245), (47, 243)] | 51 => [(50, 246)] | 52 => [(50, 246)] | 53 => [(51, 247), (52, 248), (50, 246)] | 54 => [(50, 246)] | 55 => [(50, 246)] | 56 => [(50, 246)] | 57 => [(55, 251), (56, 252), (50, 246)] | 58 => [(54, 250), (57, 253), (50, 246)] | 59 => [(53, 249), (58, 254), (50, 246)] | 60 => [(50, 246), (59, 255), (47, 243)] | 61 => [(47, 243), (60, 256)] | _ => []) (fun ii => match ii with | 0 => [17] | 1 => [20] | 4 => [7] | 6 => [9] | 7 => [20] | 8 => [7] | 14 => [18] | 15 => [20] | 18 => [10] | 19 => [20] | 20 => [7] | 24 => [10] | 25 => [7] | 33 => [19] | 34 => [20] | 38 => [11] | 39 => [20] | 40 => [7] | 48 => [20] | 51 => [12] | 52 => [20] | 54 => [2] | 55 => [20] | 56 => [7] | _ => []) (fun ii => match ii with | 0 => [1, 4, 7, 8, 6, 9, 10, 11] | 1 => [0, 4, 7, 8, 6, 9, 10, 11] | 2 => [4, 7, 8, 6, 9, 10, 11] | 3 => [4, 7, 8, 6, 9, 10, 11] | 4 => [0, 1, 2, 3, 7, 8, 6, 9, 10, 11] | 5 => [7, 8, 6, 9, 10, 11] | 6 => [0, 1, 2, 3, 4, 7, 8, 9, 5] | 7 => [0, 1, 2, 3, 4, 8, 6, 5] | 8 => [0, 1, 2, 3, 4, 7, 6, 5] | 9 => [0, 1, 2, 3, 4, 6, 5] | 10 => [0, 1, 2, 3, 4, 5] | 11 => [0, 1, 2, 3, 4, 5] | 14 => [13, 15, 19, 20, 18, 21, 22, 24, 25, 26, 23, 27, 28, 29] | 15 => [13, 14, 19, 20, 18, 21, 22, 24, 25, 26, 23, 27, 28, 29] | 16 => [13, 19, 20, 18, 21, 22, 24, 25, 26, 23, 27, 28, 29] | 17 => [13, 19, 20, 18, 21, 22, 24, 25, 26, 23, 27, 28, 29] | 18 => [13, 14, 15, 16, 19, 20, 21, 24, 25, 26, 27, 17] | 19 => [13, 14, 15, 16, 20, 18, 24, 25, 26, 27, 17] | 20 => [13, 14, 15, 16, 19, 18, 24, 25, 26, 27, 17] | 21 => [13, 14, 15, 16, 18, 24, 25, 26, 27, 17] | 22 => [13, 14, 15, 16, 24, 25, 26, 27, 17] | 23 => [13, 14, 15, 16, 24, 25, 26, 27, 17] | 24 => [13, 14, 15, 16, 19, 20, 18, 21, 22, 25, 23, 17] | 25 => [13, 14, 15, 16, 19, 20, 18, 21, 22, 24, 23, 17] | 26 => [13, 14, 15, 16, 19, 20, 18, 21, 22, 23, 17] | 27 => [13, 14, 15, 16, 19, 20, 18, 21, 22, 23, 17] | 28 => [13, 14, 15, 16, 17] | 29 => [13, 14, 15, 16, 17] | 30 => [13] | 33 => [32, 34, 39, 40, 38, 41, 42, 43, 44] | 34 => [32, 33, 39, 40, 38, 41, 42, 43, 44] | 35 => [32, 39, 40, 38, 41, 42, 43, 44] | 36 => [32, 39, 40, 38, 41, 42, 43, 44] | 37 => [32, 39, 40, 38, 41, 42, 43, 44] | 38 => [32, 33, 34, 35, 36, 39, 40, 41, 37] | 39 => [32, 33, 34, 35, 36, 40, 38, 37] | 40 => [32, 33, 34, 35, 36, 39, 38, 37] | 41 => [32, 33, 34, 35, 36, 38, 37] | 42 => [32, 33, 34, 35, 36, 37] | 43 => [32, 33, 34, 35, 36, 37] | 44 => [32, 33, 34, 35, 36, 37] | 45 => [32] | 48 => [47] | 49 => [47] | 50 => [47] | 51 => [50, 52, 55, 56, 54, 57, 47] | 52 => [50, 51, 55, 56, 54, 57, 47] | 53 => [50, 55, 56, 54, 57, 47] | 54 => [50, 51, 52, 55, 56, 57, 53, 47] | 55 => [50, 51, 52, 56, 54, 53, 47] | 56 => [50, 51, 52, 55, 54, 53, 47] | 57 => [50, 51, 52, 54, 53, 47] | 58 => [53, 50, 47] | 59 => [50, 47] | 60 => [47] | _ => []) [61] [0, 0, 3, 7, 0, 31, 0, 0, 0, 384, 960, 1984, 4095, 8191, 16383, 16383, 65535, 131071, 16383, 16383, 16383, 1589247, 3948543, 8142847, 16383, 16383, 50348031, 117456895, 268189695, 536625151, 1073741823, 2147483647, 4294967295, 8589934591, 8589934591, 34359738367, 68719476735, 137438953471, 8589934591, 8589934591, 8589934591, 1657857376255, 4131758538751, 8529805049855, 17325898072063, 35184372088831, 70368744177663, 140737488355327, 281474976710655, 562949953421311, 1125899906842623, 2251799813685247, 2251799813685247, 9007199254740991, 2251799813685247, 2251799813685247, 2251799813685247, 110338190870577151, 288230376151711743, 576460752303423487, 1152921504606846975, 2305843009213693951] 291 rfl (by kernel_rfl) (ExtX.start _ _) ?_ ?_
            · rename_i hcont; clear hcont
              refine ⟨?_, ?_, ?_, ?_, ?_, ?_, ?_, ?_, ?_, ?_, ?_, ?_, ?_, ?_, ?_, ?_, ?_, ?_, ?_, ?_, ?_, ?_, ?_, ?_, ?_, ?_, ?_, ?_, ?_, ?_, ?_, ?_, ?_, ?_, ?_, ?_, ?_, ?_, ?_, ?_, ?_, ?_, ?_, ?_, ?_, ?_, ?_, ?_, ?_, ?_, ?_, ?_, ?_, ?_, ?_, ?_, ?_, ?_, ?_, ?_, ?_, ?_, trivial⟩
              · refine stepL_plain rfl ?_
                rintro F a w1 jE - ⟨t17, -⟩ K hK
                have t17 : a.tmps[17]? = some (.slice (some ⟨bl2, ol2, none⟩) m cl2) := t17
                go_simp
                exact hK _ _ jE rfl (fun _ _ _ h => h)
              · refine stepL_plain rfl ?_
                rintro F a w1 jE - ⟨t20, -⟩ K hK
                have t20 : a.tmps[20]? = some (.int .i64 (j : Int)) := t20
                go_simp
                exact hK _ _ jE rfl (fun _ _ _ h => h)
              · refine stepL_plain rfl ?_
                rintro F a w1 jE ⟨h0, t196, h1, t197, -⟩ - K hK
                have h0 : (F 0) = .slice (some ⟨bl2, ol2, none⟩) m cl2 := h0
                rw [h0] at t196
                clear h0
                have h1 : (F 1) = .int .i64 (j : Int) := h1
                rw [h1] at t197
                clear h1
                go_simp
                exact hK _ _ jE rfl (fun _ _ _ h => h)
              · refine stepL_plain rfl ?_
                rintro F a w1 jE ⟨h2, t198, -⟩ - K hK
                have h2 : (F 2) = .pointer (some ⟨bl2, ol2 + j, none⟩) := h2
                rw [h2] at t198
                clear h2
                have c := ((jE.ext (Ext.refl _) (by simp)).cells.1 bl2 _ y1).trans (unhide X1)
                go_simp
                exact hK _ _ jE rfl (fun _ _ _ h => h)
              · refine stepL_plain rfl ?_
                rintro F a w1 jE - ⟨t7, -⟩ K hK
                have t7 : a.tmps[7]? = some (.int .i64 (k : Int)) := t7
                go_simp
                exact hK _ _ jE rfl (fun _ _ _ h => h)
              · refine stepL_plain rfl ?_
                rintro F a w1 jE ⟨h3, t199, h4, t200, -⟩ - K hK
                have h3 : (F 3) = .int .i64 (la : Int) := h3
                rw [h3] at t199
                clear h3
                have h4 : (F 4) = .int .i64 (k : Int) := h4
                rw [h4] at t200
                clear h4
                have e1 := unhide W1
                go_simp
                exact hK _ _ jE rfl (fun _ _ _ h => h)
              · refine stepL_plain rfl ?_
                rintro F a w1 jE - ⟨t9, -⟩ K hK
                have t9 : a.tmps[9]? = some (.slice (some ⟨bl, ol, none⟩) nl cl) := t9
                go_simp
                exact hK _ _ jE rfl (fun _ _ _ h => h)
              · refine stepL_plain rfl ?_
                rintro F a w1 jE - ⟨t20, -⟩ K hK
                have t20 : a.tmps[20]? = some (.int .i64 (j : Int)) := t20
                go_simp
                exact hK _ _ jE rfl (fun _ _ _ h => h)
              · refine stepL_plain rfl ?_
                rintro F a w1 jE - ⟨t7, -⟩ K hK
                have t7 : a.tmps[7]? = some (.int .i64 (k : Int)) := t7
                go_simp
                exact hK _ _ jE rfl (fun _ _ _ h => h)
              · refine stepL_plain rfl ?_
                rintro F a w1 jE ⟨h7, t203, h8, t204, -⟩ - K hK
                have h7 : (F 7) = .int .i64 (j : Int) := h7
                rw [h7] at t203
                clear h7
                have h8 : (F 8) = .int .i64 (k : Int) := h8
                rw [h8] at t204
                clear h8
                have e1 := unhide W2
                go_simp
                exact hK _ _ jE rfl (fun _ _ _ h => h)
              · refine stepL_plain rfl ?_
                rintro F a w1 jE ⟨h6, t202, h9, t205, -⟩ - K hK
                have h6 : (F 6) = .slice (some ⟨bl, ol, none⟩) nl cl := h6
                rw [h6] at t202
                clear h6
                have h9 : (F 9) = .int .i64 (kj : Int) := h9
                rw [h9] at t205
                clear h9
                go_simp
                exact hK _ _ jE rfl (fun _ _ _ h => h)
              · refine stepL_plain rfl ?_
                rintro F a w1 jE ⟨h10, t206, -⟩ - K hK
                have h10 : (F 10) = .pointer (some ⟨bl, ol + kj, none⟩) := h10
                rw [h10] at t206
                clear h10
                have c := ((jE.ext (Ext.refl _) (by simp)).cells.1 bl _ y2).trans (unhide X2)
                go_simp
                exact hK _ _ jE rfl (fun _ _ _ h => h)
              · refine stepL_plain rfl ?_
                rintro F a w1 jE ⟨h5, t201, h11, t207, -⟩ - K hK
                have h5 : (F 5) = .int .i64 (lka : Int) := h5
                rw [h5] at t201
                clear h5
                have h11 : (F 11) = .int .i64 (lka : Int) := h11
                rw [h11] at t207
                clear h11
                have e1 : ((lka : Int) != (lka : Int)) = false := by simp
                go_simp
                exact hK _ _ jE rfl (fun _ _ _ h => h)
              · refine stepL_plain rfl ?_
                rintro F a w1 jE ⟨h12, t208, -⟩ - K hK
                have h12 : (F 12) = .bool false := h12
                rw [h12] at t208
                clear h12
                go_simp
                exact hK _ _ jE rfl (fun _ _ _ h => h)
              · refine stepL_of ?_
                rintro F a w1 jE ⟨h13, t209, -⟩ ⟨t18, -⟩ K hK
                have h13 : (F 13) = .bool false := h13
                rw [h13] at t209
                clear h13
                have t18 : a.tmps[18]? = some (.slice (some ⟨bd2, od2, none⟩) m cd2) := t18
                refine stepY ((wanted_of 13 false 209 _ rfl rfl t209).trans rfl) ?_
                go_simp
                exact hK _ _ jE rfl (fun _ _ _ h => h)
              · refine stepL_of ?_
                rintro F a w1 jE ⟨h13, t209, -⟩ ⟨t20, -⟩ K hK
                have h13 : (F 13) = .bool false := h13
                rw [h13] at t209
                clear h13
                have t20 : a.tmps[20]? = some (.int .i64 (j : Int)) := t20
                refine stepY ((wanted_of 13 false 209 _ rfl rfl t209).trans rfl) ?_
                go_simp
                exact hK _ _ jE rfl (fun _ _ _ h => h)
              · refine stepL_of ?_
                rintro F a w1 jE ⟨h14, t210, h15, t211, h13, t209, -⟩ - K hK
                have h14 : (F 14) = .slice (some ⟨bd2, od2, none⟩) m cd2 := h14
                rw [h14] at t210
                clear h14
                have h15 : (F 15) = .int .i64 (j : Int) := h15
                rw [h15] at t211
                clear h15
                have h13 : (F 13) = .bool false := h13
                rw [h13] at t209
                clear h13
                refine stepY ((wanted_of 13 false 209 _ rfl rfl t209).trans rfl) ?_
                go_simp
                exact hK _ _ jE rfl (fun _ _ _ h => h)
              · refine stepL_of ?_
                rintro F a w1 jE ⟨h16, t212, h13, t209, -⟩ - K hK
                have h16 : (F 16) = .pointer (some ⟨bd2, od2 + j, none⟩) := h16
                rw [h16] at t212
                clear h16
                have h13 : (F 13) = .bool false := h13
                rw [h13] at t209
                clear h13
                refine stepY ((wanted_of 13 false 209 _ rfl rfl t209).trans rfl) ?_
                have c := ((jE.ext (Ext.refl _) (by simp)).cells.1 bd2 _ y3).trans (unhide X3)
                go_simp
                exact hK _ _ jE rfl (fun _ _ _ h => h)
              · refine stepL_of ?_
                rintro F a w1 jE ⟨h13, t209, -⟩ ⟨t10, -⟩ K hK
                have h13 : (F 13) = .bool false := h13
                rw [h13] at t209
                clear h13
                have t10 : a.tmps[10]? = some (.slice (some ⟨bd, od, none⟩) nl cd) := t10
                refine stepY ((wanted_of 13 false 209 _ rfl rfl t209).trans rfl) ?_
                go_simp
                exact hK _ _ jE rfl (fun _ _ _ h => h)
              · refine stepL_of ?_
                rintro F a w1 jE ⟨h13, t209, -⟩ ⟨t20, -⟩ K hK
                have h13 : (F 13) = .bool false := h13
                rw [h13] at t209
                clear h13
                have t20 : a.tmps[20]? = some (.int .i64 (j : Int)) := t20
                refine stepY ((wanted_of 13 false 209 _ rfl rfl t209).trans rfl) ?_
                go_simp
                exact hK _ _ jE rfl (fun _ _ _ h => h)
              · refine stepL_of ?_
                rintro F a w1 jE ⟨h13, t209, -⟩ ⟨t7, -⟩ K hK
                have h13 : (F 13) = .bool false := h13
                rw [h13] at t209
                clear h13
                have t7 : a.tmps[7]? = some (.int .i64 (k : Int)) := t7
                refine stepY ((wanted_of 13 false 209 _ rfl rfl t209).trans rfl) ?_
                go_simp
                exact hK _ _ jE rfl (fun _ _ _ h => h)
              · refine stepL_of ?_
                rintro F a w1 jE ⟨h19, t215, h20, t216, h13, t209, -⟩ - K hK
                have h19 : (F 19) = .int .i64 (j : Int) := h19
                rw [h19] at t215
                clear h19
                have h20 : (F 20) = .int .i64 (k : Int) := h20
                rw [h20] at t216
                clear h20
                have h13 : (F 13) = .bool false := h13
                rw [h13] at t209
                clear h13
                refine stepY ((wanted_of 13 false 209 _ rfl rfl t209).trans rfl) ?_
                have e1 := unhide W2
                go_simp
                exact hK _ _ jE rfl (fun _ _ _ h => h)
              · refine stepL_of ?_
                rintro F a w1 jE ⟨h18, t214, h21, t217, h13, t209, -⟩ - K hK
                have h18 : (F 18) = .slice (some ⟨bd, od, none⟩) nl cd := h18
                rw [h18] at t214
                clear h18
                have h21 : (F 21) = .int .i64 (kj : Int) := h21
                rw [h21] at t217
                clear h21
                have h13 : (F 13) = .bool false := h13
                rw [h13] at t209
                clear h13
                refine stepY ((wanted_of 13 false 209 _ rfl rfl t209).trans rfl) ?_
                go_simp
                exact hK _ _ jE rfl (fun _ _ _ h => h)
              · refine stepL_of ?_
                rintro F a w1 jE ⟨h22, t218, h13, t209, -⟩ - K hK
                have h22 : (F 22) = .pointer (some ⟨bd, od + kj, none⟩) := h22
                rw [h22] at t218
                clear h22
                have h13 : (F 13) = .bool false := h13
                rw [h13] at t209
                clear h13
                refine stepY ((wanted_of 13 false 209 _ rfl rfl t209).trans rfl) ?_
                have c := ((jE.ext (Ext.refl _) (by simp)).cells.1 bd _ y4).trans (unhide X4)
                go_simp
                exact hK _ _ jE rfl (fun _ _ _ h => h)
              · refine stepL_of ?_
                rintro F a w1 jE ⟨h13, t209, -⟩ ⟨t10, -⟩ K hK
                have h13 : (F 13) = .bool false := h13
                rw [h13] at t209
                clear h13
                have t10 : a.tmps[10]? = some (.slice (some ⟨bd, od, none⟩) nl cd) := t10
                refine stepY ((wanted_of 13 false 209 _ rfl rfl t209).trans rfl) ?_
                go_simp
                exact hK _ _ jE rfl (fun _ _ _ h => h)
              · refine stepL_of ?_
                rintro F a w1 jE ⟨h13, t209, -⟩ ⟨t7, -⟩ K hK
                have h13 : (F 13) = .bool false := h13
                rw [h13] at t209
                clear h13
                have t7 : a.tmps[7]? = some (.int .i64 (k : Int)) := t7
                refine stepY ((wanted_of 13 false 209 _ rfl rfl t209).trans rfl) ?_
                go_simp
                exact hK _ _ jE rfl (fun _ _ _ h => h)
              · refine stepL_of ?_
                rintro F a w1 jE ⟨h24, t220, h25, t221, h13, t209, -⟩ - K hK
                have h24 : (F 24) = .slice (some ⟨bd, od, none⟩) nl cd := h24
                rw [h24] at t220
                clear h24
                have h25 : (F 25) = .int .i64 (k : Int) := h25
                rw [h25] at t221
                clear h25
                have h13 : (F 13) = .bool false := h13
                rw [h13] at t209
                clear h13
                refine stepY ((wanted_of 13 false 209 _ rfl rfl t209).trans rfl) ?_
                go_simp
                exact hK _ _ jE rfl (fun _ _ _ h => h)
              · refine stepL_of ?_
                rintro F a w1 jE ⟨h26, t222, h13, t209, -⟩ - K hK
                have h26 : (F 26) = .pointer (some ⟨bd, od + k, none⟩) := h26
                rw [h26] at t222
                clear h26
                have h13 : (F 13) = .bool false := h13
                rw [h13] at t209
                clear h13
                refine stepY ((wanted_of 13 false 209 _ rfl rfl t209).trans rfl) ?_
                have c := ((jE.ext (Ext.refl _) (by simp)).cells.1 bd _ y7).trans (unhide X7)
                go_simp
                exact hK _ _ jE rfl (fun _ _ _ h => h)
              · refine stepL_of ?_
                rintro F a w1 jE ⟨h23, t219, h27, t223, h13, t209, -⟩ - K hK
                have h23 : (F 23) = .int .i64 (D2 : Int) := h23
                rw [h23] at t219
                clear h23
                have h27 : (F 27) = .int .i64 (D3 : Int) := h27
                rw [h27] at t223
                clear h27
                have h13 : (F 13) = .bool false := h13
                rw [h13] at t209
                clear h13
                refine stepY ((wanted_of 13 false 209 _ rfl rfl t209).trans rfl) ?_
                have e1 := unhide W3
                go_simp
                exact hK _ _ jE rfl (fun _ _ _ h => h)
              · refine stepL_of ?_
                rintro F a w1 jE ⟨h28, t224, h13, t209, -⟩ - K hK
                have h28 : (F 28) = .int .i64 DD := h28
                rw [h28] at t224
                clear h28
                have h13 : (F 13) = .bool false := h13
                rw [h13] at t209
                clear h13
                refine stepY ((wanted_of 13 false 209 _ rfl rfl t209).trans rfl) ?_
                have e1 := unhide W4
                go_simp
                exact hK _ _ jE rfl (fun _ _ _ h => h)
              · refine stepL_of ?_
                rintro F a w1 jE ⟨h17, t213, h29, t225, h13, t209, -⟩ - K hK
                have h17 : (F 17) = .int .i64 (D1 : Int) := h17
                rw [h17] at t213
                clear h17
                have h29 : (F 29) = .int .i64 (D1 : Int) := h29
                rw [h29] at t225
                clear h29
                have h13 : (F 13) = .bool false := h13
                rw [h13] at t209
                clear h13
                refine stepY ((wanted_of 13 false 209 _ rfl rfl t209).trans rfl) ?_
                have e1 : ((D1 : Int) != (D1 : Int)) = false := by simp
                go_simp
                exact hK _ _ jE rfl (fun _ _ _ h => h)
              · refine stepL_plain rfl ?_
                rintro F a w1 jE ⟨h13, t209, h30, t226, -⟩ - K hK
                have h13 : (F 13) = .bool false := h13
                rw [h13] at t209
                clear h13
                have h30 : (F 30) = .bool false := h30
                rw [h30] at t226
                clear h30
                go_simp
                exact hK _ _ jE rfl (fun _ _ _ h => h)
              · refine stepL_plain rfl ?_
                rintro F a w1 jE ⟨h31, t227, -⟩ - K hK
                have h31 : (F 31) = .bool false := h31
                rw [h31] at t227
                clear h31
                go_simp
                exact hK _ _ jE rfl (fun _ _ _ h => h)
              · refine stepL_of ?_
                rintro F a w1 jE ⟨h32, t228, -⟩ ⟨t19, -⟩ K hK
                have h32 : (F 32) = .bool false := h32
                rw [h32] at t228
                clear h32
                have t19 : a.tmps[19]? = some (.slice (some ⟨bk2, ok2, none⟩) m m) := t19
                refine stepY ((wanted_of 32 false 228 _ rfl rfl t228).trans rfl) ?_
                go_simp
                exact hK _ _ jE rfl (fun _ _ _ h => h)
              · refine stepL_of ?_
                rintro F a w1 jE ⟨h32, t228, -⟩ ⟨t20, -⟩ K hK
                have h32 : (F 32) = .bool false := h32
                rw [h32] at t228
                clear h32
                have t20 : a.tmps[20]? = some (.int .i64 (j : Int)) := t20
                refine stepY ((wanted_of 32 false 228 _ rfl rfl t228).trans rfl) ?_
                go_simp
                exact hK _ _ jE rfl (fun _ _ _ h => h)
              · refine stepL_of ?_
                rintro F a w1 jE ⟨h33, t229, h34, t230, h32, t228, -⟩ - K hK
                have h33 : (F 33) = .slice (some ⟨bk2, ok2, none⟩) m m := h33
                rw [h33] at t229
                clear h33
                have h34 : (F 34) = .int .i64 (j : Int) := h34
                rw [h34] at t230
                clear h34
                have h32 : (F 32) = .bool false := h32
                rw [h32] at t228
                clear h32
                refine stepY ((wanted_of 32 false 228 _ rfl rfl t228).trans rfl) ?_
                go_simp
                exact hK _ _ jE rfl (fun _ _ _ h => h)
              · refine stepL_of ?_
                rintro F a w1 jE ⟨h35, t231, h32, t228, -⟩ - K hK
                have h35 : (F 35) = .pointer (some ⟨bk2, ok2 + j, none⟩) := h35
                rw [h35] at t231
                clear h35
                have h32 : (F 32) = .bool false := h32
                rw [h32] at t228
                clear h32
                refine stepY ((wanted_of 32 false 228 _ rfl rfl t228).trans rfl) ?_
                have c := ((jE.ext (Ext.refl _) (by simp)).cells.1 bk2 _ y5).trans (unhide X5)
                go_simp
                exact hK _ _ jE rfl (fun _ _ _ h => h)
              · refine stepL_of ?_
                rintro F a w1 jE ⟨h36, t232, h32, t228, -⟩ - K hK
                have h36 : (F 36) = .slice A1 KL z1 := h36
                rw [h36] at t232
                clear h36
                have h32 : (F 32) = .bool false := h32
                rw [h32] at t228
                clear h32
                refine stepY ((wanted_of 32 false 228 _ rfl rfl t228).trans rfl) ?_
                go_simp
                exact hK _ _ jE rfl (fun _ _ _ h => h)
              · refine stepL_of ?_
                rintro F a w1 jE ⟨h32, t228, -⟩ ⟨t11, -⟩ K hK
                have h32 : (F 32) = .bool false := h32
                rw [h32] at t228
                clear h32
                have t11 : a.tmps[11]? = some (.slice (some ⟨bk, ok, none⟩) nl nl) := t11
                refine stepY ((wanted_of 32 false 228 _ rfl rfl t228).trans rfl) ?_
                go_simp
                exact hK _ _ jE rfl (fun _ _ _ h => h)
              · refine stepL_of ?_
                rintro F a w1 jE ⟨h32, t228, -⟩ ⟨t20, -⟩ K hK
                have h32 : (F 32) = .bool false := h32
                rw [h32] at t228
                clear h32
                have t20 : a.tmps[20]? = some (.int .i64 (j : Int)) := t20
                refine stepY ((wanted_of 32 false 228 _ rfl rfl t228).trans rfl) ?_
                go_simp
                exact hK _ _ jE rfl (fun _ _ _ h => h)
              · refine stepL_of ?_
                rintro F a w1 jE ⟨h32, t228, -⟩ ⟨t7, -⟩ K hK
                have h32 : (F 32) = .bool false := h32
                rw [h32] at t228
                clear h32
                have t7 : a.tmps[7]? = some (.int .i64 (k : Int)) := t7
                refine stepY ((wanted_of 32 false 228 _ rfl rfl t228).trans rfl) ?_
                go_simp
                exact hK _ _ jE rfl (fun _ _ _ h => h)
              · refine stepL_of ?_
                rintro F a w1 jE ⟨h39, t235, h40, t236, h32, t228, -⟩ - K hK
                have h39 : (F 39) = .int .i64 (j : Int) := h39
                rw [h39] at t235
                clear h39
                have h40 : (F 40) = .int .i64 (k : Int) := h40
                rw [h40] at t236
                clear h40
                have h32 : (F 32) = .bool false := h32
                rw [h32] at t228
                clear h32
                refine stepY ((wanted_of 32 false 228 _ rfl rfl t228).trans rfl) ?_
                have e1 := unhide W2
                go_simp
                exact hK _ _ jE rfl (fun _ _ _ h => h)
              · refine stepL_of ?_
                rintro F a w1 jE ⟨h38, t234, h41, t237, h32, t228, -⟩ - K hK
                have h38 : (F 38) = .slice (some ⟨bk, ok, none⟩) nl nl := h38
                rw [h38] at t234
                clear h38
                have h41 : (F 41) = .int .i64 (kj : Int) := h41
                rw [h41] at t237
                clear h41
                have h32 : (F 32) = .bool false := h32
                rw [h32] at t228
                clear h32
                refine stepY ((wanted_of 32 false 228 _ rfl rfl t228).trans rfl) ?_
                go_simp
                exact hK _ _ jE rfl (fun _ _ _ h => h)
              · refine stepL_of ?_
                rintro F a w1 jE ⟨h42, t238, h32, t228, -⟩ - K hK
                have h42 : (F 42) = .pointer (some ⟨bk, ok + kj, none⟩) := h42
                rw [h42] at t238
                clear h42
                have h32 : (F 32) = .bool false := h32
                rw [h32] at t228
                clear h32
                refine stepY ((wanted_of 32 false 228 _ rfl rfl t228).trans rfl) ?_
                have c := ((jE.ext (Ext.refl _) (by simp)).cells.1 bk _ y6).trans (unhide X6)
                go_simp
                exact hK _ _ jE rfl (fun _ _ _ h => h)
              · refine stepL_of ?_
                rintro F a w1 jE ⟨h43, t239, h32, t228, -⟩ - K hK
                have h43 : (F 43) = .slice A2 KL z2 := h43
                rw [h43] at t239
                clear h43
                have h32 : (F 32) = .bool false := h32
                rw [h32] at t228
                clear h32
                refine stepY ((wanted_of 32 false 228 _ rfl rfl t228).trans rfl) ?_
                go_simp
                exact hK _ _ jE rfl (fun _ _ _ h => h)
              · refine stepL_of ?_
                rintro F a w1 jE ⟨h37, t233, h44, t240, h32, t228, -⟩ - K hK
                have h37 : (F 37) = .int .i64 (KL : Int) := h37
                rw [h37] at t233
                clear h37
                have h44 : (F 44) = .int .i64 (KL : Int) := h44
                rw [h44] at t240
                clear h44
                have h32 : (F 32) = .bool false := h32
                rw [h32] at t228
                clear h32
                refine stepY ((wanted_of 32 false 228 _ rfl rfl t228).trans rfl) ?_
                have e1 : ((KL : Int) != (KL : Int)) = false := by simp
                go_simp
                exact hK _ _ jE rfl (fun _ _ _ h => h)
              · refine stepL_plain rfl ?_
                rintro F a w1 jE ⟨h32, t228, h45, t241, -⟩ - K hK
                have h32 : (F 32) = .bool false := h32
                rw [h32] at t228
                clear h32
                have h45 : (F 45) = .bool false := h45
                rw [h45] at t241
                clear h45
                go_simp
                exact hK _ _ jE rfl (fun _ _ _ h => h)
              · refine stepL_plain rfl ?_
                rintro F a w1 jE ⟨h46, t242, -⟩ - K hK
                have h46 : (F 46) = .bool false := h46
                rw [h46] at t242
                clear h46
                go_simp
                exact hK _ _ jE rfl (fun _ _ _ h => h)
              · refine stepL_of ?_
                rintro F a w1 jE ⟨h47, t243, -⟩ ⟨t20, -⟩ K hK
                have h47 : (F 47) = .bool false := h47
                rw [h47] at t243
                clear h47
                have t20 : a.tmps[20]? = some (.int .i64 (j : Int)) := t20
                refine stepY ((wanted_of 47 false 243 _ rfl rfl t243).trans rfl) ?_
                go_simp
                exact hK _ _ jE rfl (fun _ _ _ h => h)
              · refine stepL_of ?_
                rintro F a w1 jE ⟨h48, t244, h47, t243, -⟩ - K hK
                have h48 : (F 48) = .int .i64 (j : Int) := h48
                rw [h48] at t244
                clear h48
                have h47 : (F 47) = .bool false := h47
                rw [h47] at t243
                clear h47
                refine stepY ((wanted_of 47 false 243 _ rfl rfl t243).trans rfl) ?_
                have e1 : (0 : Int) < (j : Int) := by omega
                have e2 : decide ((0 : Int) < (j : Int)) = true := by simp; omega
                go_simp
                exact hK _ _ jE rfl (fun _ _ _ h => h)
              · refine stepL_of ?_
                rintro F a w1 jE ⟨h49, t245, h47, t243, -⟩ - K hK
                have h49 : (F 49) = .bool true := h49
                rw [h49] at t245
                clear h49
                have h47 : (F 47) = .bool false := h47
                rw [h47] at t243
                clear h47
                refine stepY ((wanted_of 47 false 243 _ rfl rfl t243).trans rfl) ?_
                go_simp
                exact hK _ _ jE rfl (fun _ _ _ h => h)
              · refine stepL_of ?_
                rintro F a w1 jE ⟨h50, t246, -⟩ ⟨t12, -⟩ K hK
                have h50 : (F 50) = .bool true := h50
                rw [h50] at t246
                clear h50
                have t12 : a.tmps[12]? = some (.pointer (some ⟨gv, 0, none⟩)) := t12
                refine stepY ((wanted_of 50 true 246 _ rfl rfl t246).trans rfl) ?_
                refine wp_load_blk 25 _ rfl gv (eval_tmp t12) 25 (Tr.cs ⟨A, m, c, aa, al, ac, view⟩) _ (jE.blk B2 (by simp)) Try.underlying25 rfl (info_tree _) ?_
                exact hK _ _ jE rfl (fun _ _ _ h => h)
              · refine stepL_of ?_
                rintro F a w1 jE ⟨h50, t246, -⟩ ⟨t20, -⟩ K hK
                have h50 : (F 50) = .bool true := h50
                rw [h50] at t246
                clear h50
                have t20 : a.tmps[20]? = some (.int .i64 (j : Int)) := t20
                refine stepY ((wanted_of 50 true 246 _ rfl rfl t246).trans rfl) ?_
                go_simp
                exact hK _ _ jE rfl (fun _ _ _ h => h)
              · refine stepL_of ?_
                rintro F a w1 jE ⟨h51, t247, h52, t248, h50, t246, -⟩ - K hK
                have h51 : (F 51) = .agg (Tr.cs ⟨A, m, c, aa, al, ac, view⟩) := h51
                rw [h51] at t247
                clear h51
                have h52 : (F 52) = .int .i64 (j : Int) := h52
                rw [h52] at t248
                clear h52
                have h50 : (F 50) = .bool true := h50
                rw [h50] at t246
                clear h50
                refine stepY ((wanted_of 50 true 246 _ rfl rfl t246).trans rfl) ?_
                go_simp
                with_reducible refine (unhide (cu _ (RM.ext (jE.ext (Ext.refl _) (by simp))))).mono ?_
                rintro e w2 ⟨rfl, hx⟩
                exact hK _ _ (jE.trans hx) (rfl) (by intro jq hj uq h; have hj : jq ∈ [50, 55, 56, 54, 57, 47] := hj; simp only [List.mem_cons, List.not_mem_nil, or_false] at hj; rcases hj with rfl | rfl | rfl | rfl | rfl | rfl; exact h; exact h; exact h; exact h; exact h; exact h)
              · refine stepL_of ?_
                rintro F a w1 jE ⟨h50, t246, -⟩ ⟨t2, -⟩ K hK
                have h50 : (F 50) = .bool true := h50
                rw [h50] at t246
                clear h50
                have t2 : a.tmps[2]? = some (.pointer (some ⟨g, 0, none⟩)) := t2
                refine stepY ((wanted_of 50 true 246 _ rfl rfl t246).trans rfl) ?_
                refine wp_load_blk 25 _ rfl g (eval_tmp t2) 25 (Tr.cs ⟨some ⟨b, off, none⟩, nl, nc, aa, al, ac, view⟩) _ (jE.blk B1 (by simp)) Try.underlying25 rfl (info_tree _) ?_
                exact hK _ _ jE rfl (fun _ _ _ h => h)
              · refine stepL_of ?_
                rintro F a w1 jE ⟨h50, t246, -⟩ ⟨t20, -⟩ K hK
                have h50 : (F 50) = .bool true := h50
                rw [h50] at t246
                clear h50
                have t20 : a.tmps[20]? = some (.int .i64 (j : Int)) := t20
                refine stepY ((wanted_of 50 true 246 _ rfl rfl t246).trans rfl) ?_
                go_simp
                exact hK _ _ jE rfl (fun _ _ _ h => h)
              · refine stepL_of ?_
                rintro F a w1 jE ⟨h50, t246, -⟩ ⟨t7, -⟩ K hK
                have h50 : (F 50) = .bool true := h50
                rw [h50] at t246
                clear h50
                have t7 : a.tmps[7]? = some (.int .i64 (k : Int)) := t7
                refine stepY ((wanted_of 50 true 246 _ rfl rfl t246).trans rfl) ?_
                go_simp
                exact hK _ _ jE rfl (fun _ _ _ h => h)
              · refine stepL_of ?_
                rintro F a w1 jE ⟨h55, t251, h56, t252, h50, t246, -⟩ - K hK
                have h55 : (F 55) = .int .i64 (j : Int) := h55
                rw [h55] at t251
                clear h55
                have h56 : (F 56) = .int .i64 (k : Int) := h56
                rw [h56] at t252
                clear h56
                have h50 : (F 50) = .bool true := h50
                rw [h50] at t246
                clear h50
                refine stepY ((wanted_of 50 true 246 _ rfl rfl t246).trans rfl) ?_
                have e1 := unhide W2
                go_simp
                exact hK _ _ jE rfl (fun _ _ _ h => h)
              · refine stepL_of ?_
                rintro F a w1 jE ⟨h54, t250, h57, t253, h50, t246, -⟩ - K hK
                have h54 : (F 54) = .agg (Tr.cs ⟨some ⟨b, off, none⟩, nl, nc, aa, al, ac, view⟩) := h54
                rw [h54] at t250
                clear h54
                have h57 : (F 57) = .int .i64 (kj : Int) := h57
                rw [h57] at t253
                clear h57
                have h50 : (F 50) = .bool true := h50
                rw [h50] at t246
                clear h50
                refine stepY ((wanted_of 50 true 246 _ rfl rfl t246).trans rfl) ?_
                go_simp
                with_reducible refine (unhide (ct _ (RN.ext (jE.ext (Ext.refl _) (by simp))))).mono ?_
                rintro e w2 ⟨rfl, hx⟩
                exact hK _ _ (jE.trans hx) (rfl) (by intro jq hj uq h; have hj : jq ∈ [53, 50, 47] := hj; simp only [List.mem_cons, List.not_mem_nil, or_false] at hj; rcases hj with rfl | rfl | rfl; exact h; exact h; exact h)
              · refine stepL_of ?_
                rintro F a w1 jE ⟨h53, t249, h58, t254, h50, t246, -⟩ - K hK
                have h53 : (F 53) = .bool rr := h53
                rw [h53] at t249
                clear h53
                have h58 : (F 58) = .bool rr := h58
                rw [h58] at t254
                clear h58
                have h50 : (F 50) = .bool true := h50
                rw [h50] at t246
                clear h50
                refine stepY ((wanted_of 50 true 246 _ rfl rfl t246).trans rfl) ?_
                have e1 : (rr != rr) = false := by simp
                go_simp
                exact hK _ _ jE rfl (fun _ _ _ h => h)
              · refine stepL_of ?_
                rintro F a w1 jE ⟨h50, t246, h59, t255, h47, t243, -⟩ - K hK
                have h50 : (F 50) = .bool true := h50
                rw [h50] at t246
                clear h50
                have h59 : (F 59) = .bool false := h59
                rw [h59] at t255
                clear h59
                have h47 : (F 47) = .bool false := h47
                rw [h47] at t243
                clear h47
                refine stepY ((wanted_of 47 false 243 _ rfl rfl t243).trans rfl) ?_
                go_simp
                exact hK _ _ jE rfl (fun _ _ _ h => h)
              · refine stepL_plain rfl ?_
                rintro F a w1 jE ⟨h47, t243, h60, t256, -⟩ - K hK
                have h47 : (F 47) = .bool false := h47
                rw [h47] at t243
                clear h47
                have h60 : (F 60) = .bool false := h60
                rw [h60] at t256
                clear h60
                go_simp
                exact hK _ _ jE rfl (fun _ _ _ h => h)
            · rintro F w9 jE ⟨h61, -⟩
              have h61 : (F 61) = .bool false := h61
              have hx := jE.ext (Ext.refl _) (by simp)
              replace E7 := E7.trans hx
              clear jE hx B1 B2 RN RM W1 W3 W4 X1 X2 X3 X4 X5 X6 X7 y1 y2 y3 y4 y5 y6 y7
              simp only [putL, Act.put, Nat.reduceAdd, Nat.zero_add, List.setIfInBounds_toArray, List.set_cons_succ, List.set_cons_zero]
              rw [h61]
              clear h61
              clear wr
              go_wp2_with fail
              go_loopw [21] (fun v wr => ∃ q : Nat, v = .int .i64 q ∧ q ≤ KL ∧ Ext wC wr) (fun v _ => KL - (intOf v).toNat)
              case atStart => exact ⟨0, rfl, by omega, E7⟩
              case round =>
                clear E7 w9
                obtain ⟨q, rfl, q1, E7⟩ := hrel
                obtain ⟨A1', z1', y5, x5, R1⟩ := (RK2'.ext E7).rowAt hj
                obtain ⟨A2', z2', y6, x6, R2⟩ := (RKc'.ext E7).rowAt hkjn
                have hKL : (kidsN ns nl kj).length = (kidsN (partN ns k m) m j).length := by rw [← unhide Q3, List.length_map]
                rw [hKL, unhide HKK] at x6 R2
                rw [unhide HKK] at x5 R1
                clear hKL
                have w2 := unhide W2
                by_cases hq : q < KL
                · obtain ⟨z, hz⟩ : ∃ z, (kidsN (partN ns k m) m j)[q]? = some z := ⟨_, List.getElem?_eq_getElem (by rw [unhide HKK]; exact hq)⟩
                  have hzb := kids_in hz
                  have hz2 : (kidsN ns nl kj)[q]? = some (z + (k : Int)) := by rw [← unhide Q3, List.getElem?_map, hz]; rfl
                  obtain ⟨b3, o3, -, hA3, -, -, -⟩ := R1.get hq
                  subst hA3
                  obtain ⟨b4, o4, -, hA4, -, -, -⟩ := R2.get hq
                  subst hA4
                  obtain ⟨-, x8⟩ := R1.intAt hz
                  obtain ⟨-, x9⟩ := R2.intAt hz2
                  have hqI : (q : Int) < (KL : Int) := by omega
                  have hqN : (0 : Int) ≤ (q : Int) ∧ (q : Int) < (KL : Int) := by omega
                  obtain ⟨zk, hzk⟩ : ∃ zk : Int, z + (k : Int) = zk := ⟨_, rfl⟩
                  rw [hzk] at x9
                  have w5 : IntKind.i64.wrap (z + (k : Int)) = zk := by rw [IntWalk.i64_in _ (by omega)]; exact hzk
                  have w6 : (zk != zk) = false := by simp
                  have w7 : (zk == zk) = true := by simp
                  clear hz hz2 R1 R2 hzb hzk
                  go_upto_region 40 with fail
                  go_quiet (fail)
                  replace E7 := E7.drewN nq
                  clear x5 x6 x8 x9 w2 w5 w6 w7 hqI hqN y5 y6
                  generalize wr.drewN nq = w8 at *
                  go_wp2_with fail
                  go_roundw
                  case rel => exact ⟨q + 1, by go_num, by omega, E7⟩
                  case measure => simp [intOf]; omega
                · have hqI : ¬ (q : Int) < (KL : Int) := by omega
                  clear q1 R1 R2
                  go_wp2_with fail
                  go_roundw
                  case rel => exact ⟨j + 1, by go_num, by omega, E7⟩
                  case measure => simp [intOf]; omega
          · have hjI : ¬ (0 : Int) < (j : Int) := by omega
            clear q4
            go_upto_region 35 with fail
            clear d1 k1
            refine wp_region_lin (by kernel_rfl) (fun w' => (ExtX wr w' [])) (fun ii vv ww => match ii with | 0 => vv = .slice (some ⟨bl2, ol2, none⟩) m cl2 | 1 => vv = .int .i64 (j : Int) | 2 => vv = .pointer (some ⟨bl2, ol2 + j, none⟩) | 3 => vv = .int .i64 (la : Int) | 4 => vv = .int .i64 (k : Int) | 5 => vv = .int .i64 (lka : Int) | 6 => vv = .slice (some ⟨bl, ol, none⟩) nl cl | 7 => vv = .int .i64 (j : Int) | 8 => vv = .int .i64 (k : Int) | 9 => vv = .int .i64 (kj : Int) | 10 => vv = .pointer (some ⟨bl, ol + kj, none⟩) | 11 => vv = .int .i64 (lka : Int) | 12 => vv = .bool false | 13 => vv = .bool false | 14 => vv = .slice (some ⟨bd2, od2, none⟩) m cd2 | 15 => vv = .int .i64 (j : Int) | 16 => vv = .pointer (some ⟨bd2, od2 + j, none⟩) | 17 => vv = .int .i64 (D1 : Int) | 18 => vv = .slice (some ⟨bd, od, none⟩) nl cd | 19 => vv = .int .i64 (j : Int) | 20 => vv = .int .i64 (k : Int) | 21 => vv = .int .i64 (kj : Int) | 22 => vv = .pointer (some ⟨bd, od + kj, none⟩) | 23 => vv = .int .i64 (D2 : Int) | 24 => vv = .slice (some ⟨bd, od, none⟩) nl cd | 25 => vv = .int .i64 (k : Int) | 26 => vv = .pointer (some ⟨bd, od + k, none⟩) | 27 => vv = .int .i64 (D3 : Int) | 28 => vv = .int .i64 DD | 29 => vv = .int .i64 (D1 : Int) | 30 => vv = .bool false | 31 => vv = .bool false | 32 => vv = .bool false | 33 => vv = .slice (some ⟨bk2, ok2, none⟩) m m | 34 => vv = .int .i64 (j : Int) | 35 => vv = .pointer (some ⟨bk2, ok2 + j, none⟩) | 36 => vv = .slice A1 KL z1 | 37 => vv = .int .i64 (KL : Int) | 38 => vv = .slice (some ⟨bk, ok, none⟩) nl nl | 39 => vv = .int .i64 (j : Int) | 40 => vv = .int .i64 (k : Int) | 41 => vv = .int .i64 (kj : Int) | 42 => vv = .pointer (some ⟨bk, ok + kj, none⟩) | 43 => vv = .slice A2 KL z2 | 44 => vv = .int .i64 (KL : Int) | 45 => vv = .bool false | 46 => vv = .bool false | 47 => vv = .bool false | 48 => vv = .int .i64 (j : Int) | 49 => vv = .bool false | 50 => vv = .bool false | 51 => vv = undef | 52 => vv = undef | 53 => vv = undef | 54 => vv = undef | 55 => vv = undef | 56 => vv = undef | 57 => vv = undef | 58 => vv = undef | 59 => vv = undef | 60 => vv = .bool false | 61 => vv = .bool false | _ => True) (fun ii => match ii with | 2 => [(0, 196), (1, 197)] | 3 => [(2, 198)] | 5 => [(3, 199), (4, 200)] | 9 => [(7, 203), (8, 204)] | 10 => [(6, 202), (9, 205)] | 11 => [(10, 206)] | 12 => [(5, 201), (11, 207)] | 13 => [(12, 208)] | 14 => [(13, 209)] | 15 => [(13, 209)] | 16 => [(14, 210), (15, 211), (13, 209)] | 17 => [(16, 212), (13, 209)] | 18 => [(13, 209)] | 19 => [(13, 209)] | 20 => [(13, 209)] | 21 => [(19, 215), (20, 216), (13, 209)] | 22 => [(18, 214), (21, 217), (13, 209)] | 23 => [(22, 218), (13, 209)] | 24 => [(13, 209)] | 25 => [(13, 209)] | 26 => [(24, 220), (25, 221), (13, 209)] | 27 => [(26, 222), (13, 209)] | 28 => [(23, 219), (27, 223), (13, 209)] | 29 => [(28, 224), (13, 209)] | 30 => [(17, 213), (29, 225), (13, 209)] | 31 => [(13, 209), (30, 226)] | 32 => [(31, 227)] | 33 => [(32, 228)] | 34 => [(32, 228)] | 35 => [(33, 229), (34, 230), (32, 228)] | 36 => [(35, 231), (32, 228)] | 37 => [(36, 232), (32, 228)] | 38 => [(32, 228)] | 39 => [(32, 228)] | 40 => [(32, 228)] | 41 => [(39, 235), (40, 236), (32, 228)] | 42 => [(38, 234), (41, 237), (32, 228)] | 43 => [(42, 238), (32, 228)] | 44 => [(43, 239), (32, 228)] | 45 => [(37, 233), (44, 240), (32, 228)] | 46 => [(32, 228), (45, 241)] | 47 => [(46, 242)] | 48 => [(47, 243)] | 49 => [(48, 244), (47, 243)] | 50 => [(49, 245), (47, 243)] | 51 => [(50, 246)] | 52 => [(50, 246)] | 53 => [(51, 247), (52, 248), (50, 246)] | 54 => [(50, 246)] | 55 => [(50, 246)] | 56 => [(50, 246)] | 57 => [(55, 251), (56, 252), (50, 246)] | 58 => [(54, 250), (57, 253), (50, 246)] | 59 => [(53, 249), (58, 254), (50, 246)] | 60 => [(50, 246), (59, 255), (47, 243)] | 61 => [(47, 243), (60, 256)] | _ => []) (fun ii => match ii with | 0 => [17] | 1 => [20] | 4 => [7] | 6 => [9] | 7 => [20] | 8 => [7] | 14 => [18] | 15 => [20] | 18 => [10] | 19 => [20] | 20 => [7] | 24 => [10] | 25 => [7] | 33 => [19] | 34 => [20] | 38 => [11] | 39 => [20] | 40 => [7] | 48 => [20] | 51 => [12] | 52 => [20] | 54 => [2] | 55 => [20] | 56 => [7] | _ => []) (fun ii => match ii with | 0 => [1, 4, 7, 8, 6, 9, 10, 11] | 1 => [0, 4, 7, 8, 6, 9, 10, 11] | 2 => [4, 7, 8, 6, 9, 10, 11] | 3 => [4, 7, 8, 6, 9, 10, 11] | 4 => [0, 1, 2, 3, 7, 8, 6, 9, 10, 11] | 5 => [7, 8, 6, 9, 10, 11] | 6 => [0, 1, 2, 3, 4, 7, 8, 9, 5] | 7 => [0, 1, 2, 3, 4, 8, 6, 5] | 8 => [0, 1, 2, 3, 4, 7, 6, 5] | 9 => [0, 1, 2, 3, 4, 6, 5] | 10 => [0, 1, 2, 3, 4, 5] | 11 => [0, 1, 2, 3, 4, 5] | 14 => [13, 15, 19, 20, 18, 21, 22, 24, 25, 26, 23, 27, 28, 29] | 15 => [13, 14, 19, 20, 18, 21, 22, 24, 25, 26, 23, 27, 28, 29] | 16 => [13, 19, 20, 18, 21, 22, 24, 25, 26, 23, 27, 28, 29] | 17 => [13, 19, 20, 18, 21, 22, 24, 25, 26, 23, 27, 28, 29] | 18 => [13, 14, 15, 16, 19, 20, 21, 24, 25, 26, 27, 17] | 19 => [13, 14, 15, 16, 20, 18, 24, 25, 26, 27, 17] | 20 => [13, 14, 15, 16, 19, 18, 24, 25, 26, 27, 17] | 21 => [13, 14, 15, 16, 18, 24, 25, 26, 27, 17] | 22 => [13, 14, 15, 16, 24, 25, 26, 27, 17] | 23 => [13, 14, 15, 16, 24, 25, 26, 27, 17] | 24 => [13, 14, 15, 16, 19, 20, 18, 21, 22, 25, 23, 17] | 25 => [13, 14, 15, 16, 19, 20, 18, 21, 22, 24, 23, 17] | 26 => [13, 14, 15, 16, 19, 20, 18, 21, 22, 23, 17] | 27 => [13, 14, 15, 16, 19, 20, 18, 21, 22, 23, 17] | 28 => [13, 14, 15, 16, 17] | 29 => [13, 14, 15, 16, 17] | 30 => [13] | 33 => [32, 34, 39, 40, 38, 41, 42, 43, 44] | 34 => [32, 33, 39, 40, 38, 41, 42, 43, 44] | 35 => [32, 39, 40, 38, 41, 42, 43, 44] | 36 => [32, 39, 40, 38, 41, 42, 43, 44] | 37 => [32, 39, 40, 38, 41, 42, 43, 44] | 38 => [32, 33, 34, 35, 36, 39, 40, 41, 37] | 39 => [32, 33, 34, 35, 36, 40, 38, 37] | 40 => [32, 33, 34, 35, 36, 39, 38, 37] | 41 => [32, 33, 34, 35, 36, 38, 37] | 42 => [32, 33, 34, 35, 36, 37] | 43 => [32, 33, 34, 35, 36, 37] | 44 => [32, 33, 34, 35, 36, 37] | 45 => [32] | 48 => [47] | 49 => [47] | 50 => [47] | 51 => [50, 52, 55, 56, 54, 57, 47] | 52 => [50, 51, 55, 56, 54, 57, 47] | 53 => [50, 55, 56, 54, 57, 47] | 54 => [50, 51, 52, 55, 56, 57, 53, 47] | 55 => [50, 51, 52, 56, 54, 53, 47] | 56 => [50, 51, 52, 55, 54, 53, 47] | 57 => [50, 51, 52, 54, 53, 47] | 58 => [53, 50, 47] | 59 => [50, 47] | 60 => [47] | _ => []) [61] [0, 0, 3, 7, 0, 31, 0, 0, 0, 384, 960, 1984, 4095, 8191, 16383, 16383, 65535, 131071, 16383, 16383, 16383, 1589247, 3948543, 8142847, 16383, 16383, 50348031, 117456895, 268189695, 536625151, 1073741823, 2147483647, 4294967295, 8589934591, 8589934591, 34359738367, 68719476735, 137438953471, 8589934591, 8589934591, 8589934591, 1657857376255, 4131758538751, 8529805049855, 17325898072063, 35184372088831, 70368744177663, 140737488355327, 281474976710655, 562949953421311, 1125899906842623, 2251799813685247, 2251799813685247, 9007199254740991, 2251799813685247, 2251799813685247, 2251799813685247, 110338190870577151, 288230376151711743, 576460752303423487, 1152921504606846975, 2305843009213693951] 291 rfl (by kernel_rfl) (ExtX.start _ _) ?_ ?_
            · rename_i hcont; clear hcont
              refine ⟨?_, ?_, ?_, ?_, ?_, ?_, ?_, ?_, ?_, ?_, ?_, ?_, ?_, ?_, ?_, ?_, ?_, ?_, ?_, ?_, ?_, ?_, ?_, ?_, ?_, ?_, ?_, ?_, ?_, ?_, ?_, ?_, ?_, ?_, ?_, ?_, ?_, ?_, ?_, ?_, ?_, ?_, ?_, ?_, ?_, ?_, ?_, ?_, ?_, ?_, ?_, ?_, ?_, ?_, ?_, ?_, ?_, ?_, ?_, ?_, ?_, ?_, trivial⟩
              · refine stepL_plain rfl ?_
                rintro F a w1 jE - ⟨t17, -⟩ K hK
                have t17 : a.tmps[17]? = some (.slice (some ⟨bl2, ol2, none⟩) m cl2) := t17
                go_simp
                exact hK _ _ jE rfl (fun _ _ _ h => h)
              · refine stepL_plain rfl ?_
                rintro F a w1 jE - ⟨t20, -⟩ K hK
                have t20 : a.tmps[20]? = some (.int .i64 (j : Int)) := t20
                go_simp
                exact hK _ _ jE rfl (fun _ _ _ h => h)
              · refine stepL_plain rfl ?_
                rintro F a w1 jE ⟨h0, t196, h1, t197, -⟩ - K hK
                have h0 : (F 0) = .slice (some ⟨bl2, ol2, none⟩) m cl2 := h0
                rw [h0] at t196
                clear h0
                have h1 : (F 1) = .int .i64 (j : Int) := h1
                rw [h1] at t197
                clear h1
                go_simp
                exact hK _ _ jE rfl (fun _ _ _ h => h)
              · refine stepL_plain rfl ?_
                rintro F a w1 jE ⟨h2, t198, -⟩ - K hK
                have h2 : (F 2) = .pointer (some ⟨bl2, ol2 + j, none⟩) := h2
                rw [h2] at t198
                clear h2
                have c := ((jE.ext (Ext.refl _) (by simp)).cells.1 bl2 _ y1).trans (unhide X1)
                go_simp
                exact hK _ _ jE rfl (fun _ _ _ h => h)
              · refine stepL_plain rfl ?_
                rintro F a w1 jE - ⟨t7, -⟩ K hK
                have t7 : a.tmps[7]? = some (.int .i64 (k : Int)) := t7
                go_simp
                exact hK _ _ jE rfl (fun _ _ _ h => h)
              · refine stepL_plain rfl ?_
                rintro F a w1 jE ⟨h3, t199, h4, t200, -⟩ - K hK
                have h3 : (F 3) = .int .i64 (la : Int) := h3
                rw [h3] at t199
                clear h3
                have h4 : (F 4) = .int .i64 (k : Int) := h4
                rw [h4] at t200
                clear h4
                have e1 := unhide W1
                go_simp
                exact hK _ _ jE rfl (fun _ _ _ h => h)
              · refine stepL_plain rfl ?_
                rintro F a w1 jE - ⟨t9, -⟩ K hK
                have t9 : a.tmps[9]? = some (.slice (some ⟨bl, ol, none⟩) nl cl) := t9
                go_simp
                exact hK _ _ jE rfl (fun _ _ _ h => h)
              · refine stepL_plain rfl ?_
                rintro F a w1 jE - ⟨t20, -⟩ K hK
                have t20 : a.tmps[20]? = some (.int .i64 (j : Int)) := t20
                go_simp
                exact hK _ _ jE rfl (fun _ _ _ h => h)
              · refine stepL_plain rfl ?_
                rintro F a w1 jE - ⟨t7, -⟩ K hK
                have t7 : a.tmps[7]? = some (.int .i64 (k : Int)) := t7
                go_simp
                exact hK _ _ jE rfl (fun _ _ _ h => h)
              · refine stepL_plain rfl ?_
                rintro F a w1 jE ⟨h7, t203, h8, t204, -⟩ - K hK
                have h7 : (F 7) = .int .i64 (j : Int) := h7
                rw [h7] at t203
                clear h7
                have h8 : (F 8) = .int .i64 (k : Int) := h8
                rw [h8] at t204
                clear h8
                have e1 := unhide W2
                go_simp
                exact hK _ _ jE rfl (fun _ _ _ h => h)
              · refine stepL_plain rfl ?_
                rintro F a w1 jE ⟨h6, t202, h9, t205, -⟩ - K hK
                have h6 : (F 6) = .slice (some ⟨bl, ol, none⟩) nl cl := h6
                rw [h6] at t202
                clear h6
                have h9 : (F 9) = .int .i64 (kj : Int) := h9
                rw [h9] at t205
                clear h9
                go_simp
                exact hK _ _ jE rfl (fun _ _ _ h => h)
              · refine stepL_plain rfl ?_
                rintro F a w1 jE ⟨h10, t206, -⟩ - K hK
                have h10 : (F 10) = .pointer (some ⟨bl, ol + kj, none⟩) := h10
                rw [h10] at t206
                clear h10
                have c := ((jE.ext (Ext.refl _) (by simp)).cells.1 bl _ y2).trans (unhide X2)
                go_simp
                exact hK _ _ jE rfl (fun _ _ _ h => h)
              · refine stepL_plain rfl ?_
                rintro F a w1 jE ⟨h5, t201, h11, t207, -⟩ - K hK
                have h5 : (F 5) = .int .i64 (lka : Int) := h5
                rw [h5] at t201
                clear h5
                have h11 : (F 11) = .int .i64 (lka : Int) := h11
                rw [h11] at t207
                clear h11
                have e1 : ((lka : Int) != (lka : Int)) = false := by simp
                go_simp
                exact hK _ _ jE rfl (fun _ _ _ h => h)
              · refine stepL_plain rfl ?_
                rintro F a w1 jE ⟨h12, t208, -⟩ - K hK
                have h12 : (F 12) = .bool false := h12
                rw [h12] at t208
                clear h12
                go_simp
                exact hK _ _ jE rfl (fun _ _ _ h => h)
              · refine stepL_of ?_
                rintro F a w1 jE ⟨h13, t209, -⟩ ⟨t18, -⟩ K hK
                have h13 : (F 13) = .bool false := h13
                rw [h13] at t209
                clear h13
                have t18 : a.tmps[18]? = some (.slice (some ⟨bd2, od2, none⟩) m cd2) := t18
                refine stepY ((wanted_of 13 false 209 _ rfl rfl t209).trans rfl) ?_
                go_simp
                exact hK _ _ jE rfl (fun _ _ _ h => h)
              · refine stepL_of ?_
                rintro F a w1 jE ⟨h13, t209, -⟩ ⟨t20, -⟩ K hK
                have h13 : (F 13) = .bool false := h13
                rw [h13] at t209
                clear h13
                have t20 : a.tmps[20]? = some (.int .i64 (j : Int)) := t20
                refine stepY ((wanted_of 13 false 209 _ rfl rfl t209).trans rfl) ?_
                go_simp
                exact hK _ _ jE rfl (fun _ _ _ h => h)
              · refine stepL_of ?_
                rintro F a w1 jE ⟨h14, t210, h15, t211, h13, t209, -⟩ - K hK
                have h14 : (F 14) = .slice (some ⟨bd2, od2, none⟩) m cd2 := h14
                rw [h14] at t210
                clear h14
                have h15 : (F 15) = .int .i64 (j : Int) := h15
                rw [h15] at t211
                clear h15
                have h13 : (F 13) = .bool false := h13
                rw [h13] at t209
                clear h13
                refine stepY ((wanted_of 13 false 209 _ rfl rfl t209).trans rfl) ?_
                go_simp
                exact hK _ _ jE rfl (fun _ _ _ h => h)
              · refine stepL_of ?_
                rintro F a w1 jE ⟨h16, t212, h13, t209, -⟩ - K hK
                have h16 : (F 16) = .pointer (some ⟨bd2, od2 + j, none⟩) := h16
                rw [h16] at t212
                clear h16
                have h13 : (F 13) = .bool false := h13
                rw [h13] at t209
                clear h13
                refine stepY ((wanted_of 13 false 209 _ rfl rfl t209).trans rfl) ?_
                have c := ((jE.ext (Ext.refl _) (by simp)).cells.1 bd2 _ y3).trans (unhide X3)
                go_simp
                exact hK _ _ jE rfl (fun _ _ _ h => h)
              · refine stepL_of ?_
                rintro F a w1 jE ⟨h13, t209, -⟩ ⟨t10, -⟩ K hK
                have h13 : (F 13) = .bool false := h13
                rw [h13] at t209
                clear h13
                have t10 : a.tmps[10]? = some (.slice (some ⟨bd, od, none⟩) nl cd) := t10
                refine stepY ((wanted_of 13 false 209 _ rfl rfl t209).trans rfl) ?_
                go_simp
                exact hK _ _ jE rfl (fun _ _ _ h => h)
              · refine stepL_of ?_
                rintro F a w1 jE ⟨h13, t209, -⟩ ⟨t20, -⟩ K hK
                have h13 : (F 13) = .bool false := h13
                rw [h13] at t209
                clear h13
                have t20 : a.tmps[20]? = some (.int .i64 (j : Int)) := t20
                refine stepY ((wanted_of 13 false 209 _ rfl rfl t209).trans rfl) ?_
                go_simp
                exact hK _ _ jE rfl (fun _ _ _ h => h)
              · refine stepL_of ?_
                rintro F a w1 jE ⟨h13, t209, -⟩ ⟨t7, -⟩ K hK
                have h13 : (F 13) = .bool false := h13
                rw [h13] at t209
                clear h13
                have t7 : a.tmps[7]? = some (.int .i64 (k : Int)) := t7
                refine stepY ((wanted_of 13 false 209 _ rfl rfl t209).trans rfl) ?_
                go_simp
                exact hK _ _ jE rfl (fun _ _ _ h => h)
              · refine stepL_of ?_
                rintro F a w1 jE ⟨h19, t215, h20, t216, h13, t209, -⟩ - K hK
                have h19 : (F 19) = .int .i64 (j : Int) := h19
                rw [h19] at t215
                clear h19
                have h20 : (F 20) = .int .i64 (k : Int) := h20
                rw [h20] at t216
                clear h20
                have h13 : (F 13) = .bool false := h13
                rw [h13] at t209
                clear h13
                refine stepY ((wanted_of 13 false 209 _ rfl rfl t209).trans rfl) ?_
                have e1 := unhide W2
                go_simp
                exact hK _ _ jE rfl (fun _ _ _ h => h)
              · refine stepL_of ?_
                rintro F a w1 jE ⟨h18, t214, h21, t217, h13, t209, -⟩ - K hK
                have h18 : (F 18) = .slice (some ⟨bd, od, none⟩) nl cd := h18
                rw [h18] at t214
                clear h18
                have h21 : (F 21) = .int .i64 (kj : Int) := h21
                rw [h21] at t217
                clear h21
                have h13 : (F 13) = .bool false := h13
                rw [h13] at t209
                clear h13
                refine stepY ((wanted_of 13 false 209 _ rfl rfl t209).trans rfl) ?_
                go_simp
                exact hK _ _ jE rfl (fun _ _ _ h => h)
              · refine stepL_of ?_
                rintro F a w1 jE ⟨h22, t218, h13, t209, -⟩ - K hK
                have h22 : (F 22) = .pointer (some ⟨bd, od + kj, none⟩) := h22
                rw [h22] at t218
                clear h22
                have h13 : (F 13) = .bool false := h13
                rw [h13] at t209
                clear h13
                refine stepY ((wanted_of 13 false 209 _ rfl rfl t209).trans rfl) ?_
                have c := ((jE.ext (Ext.refl _) (by simp)).cells.1 bd _ y4).trans (unhide X4)
                go_simp
                exact hK _ _ jE rfl (fun _ _ _ h => h)
              · refine stepL_of ?_
                rintro F a w1 jE ⟨h13, t209, -⟩ ⟨t10, -⟩ K hK
                have h13 : (F 13) = .bool false := h13
                rw [h13] at t209
                clear h13
                have t10 : a.tmps[10]? = some (.slice (some ⟨bd, od, none⟩) nl cd) := t10
                refine stepY ((wanted_of 13 false 209 _ rfl rfl t209).trans rfl) ?_
                go_simp
                exact hK _ _ jE rfl (fun _ _ _ h => h)
              · refine stepL_of ?_
                rintro F a w1 jE ⟨h13, t209, -⟩ ⟨t7, -⟩ K hK
                have h13 : (F 13) = .bool false := h13
                rw [h13] at t209
                clear h13
                have t7 : a.tmps[7]? = some (.int .i64 (k : Int)) := t7
                refine stepY ((wanted_of 13 false 209 _ rfl rfl t209).trans rfl) ?_
                go_simp
                exact hK _ _ jE rfl (fun _ _ _ h => h)
              · refine stepL_of ?_
                rintro F a w1 jE ⟨h24, t220, h25, t221, h13, t209, -⟩ - K hK
                have h24 : (F 24) = .slice (some ⟨bd, od, none⟩) nl cd := h24
                rw [h24] at t220
                clear h24
                have h25 : (F 25) = .int .i64 (k : Int) := h25
                rw [h25] at t221
                clear h25
                have h13 : (F 13) = .bool false := h13
                rw [h13] at t209
                clear h13
                refine stepY ((wanted_of 13 false 209 _ rfl rfl t209).trans rfl) ?_
                go_simp
                exact hK _ _ jE rfl (fun _ _ _ h => h)
              · refine stepL_of ?_
                rintro F a w1 jE ⟨h26, t222, h13, t209, -⟩ - K hK
                have h26 : (F 26) = .pointer (some ⟨bd, od + k, none⟩) := h26
                rw [h26] at t222
                clear h26
                have h13 : (F 13) = .bool false := h13
                rw [h13] at t209
                clear h13
                refine stepY ((wanted_of 13 false 209 _ rfl rfl t209).trans rfl) ?_
                have c := ((jE.ext (Ext.refl _) (by simp)).cells.1 bd _ y7).trans (unhide X7)
                go_simp
                exact hK _ _ jE rfl (fun _ _ _ h => h)
              · refine stepL_of ?_
                rintro F a w1 jE ⟨h23, t219, h27, t223, h13, t209, -⟩ - K hK
                have h23 : (F 23) = .int .i64 (D2 : Int) := h23
                rw [h23] at t219
                clear h23
                have h27 : (F 27) = .int .i64 (D3 : Int) := h27
                rw [h27] at t223
                clear h27
                have h13 : (F 13) = .bool false := h13
                rw [h13] at t209
                clear h13
                refine stepY ((wanted_of 13 false 209 _ rfl rfl t209).trans rfl) ?_
                have e1 := unhide W3
                go_simp
                exact hK _ _ jE rfl (fun _ _ _ h => h)
              · refine stepL_of ?_
                rintro F a w1 jE ⟨h28, t224, h13, t209, -⟩ - K hK
                have h28 : (F 28) = .int .i64 DD := h28
                rw [h28] at t224
                clear h28
                have h13 : (F 13) = .bool false := h13
                rw [h13] at t209
                clear h13
                refine stepY ((wanted_of 13 false 209 _ rfl rfl t209).trans rfl) ?_
                have e1 := unhide W4
                go_simp
                exact hK _ _ jE rfl (fun _ _ _ h => h)
              · refine stepL_of ?_
                rintro F a w1 jE ⟨h17, t213, h29, t225, h13, t209, -⟩ - K hK
                have h17 : (F 17) = .int .i64 (D1 : Int) := h17
                rw [h17] at t213
                clear h17
                have h29 : (F 29) = .int .i64 (D1 : Int) := h29
                rw [h29] at t225
                clear h29
                have h13 : (F 13) = .bool false := h13
                rw [h13] at t209
                clear h13
                refine stepY ((wanted_of 13 false 209 _ rfl rfl t209).trans rfl) ?_
                have e1 : ((D1 : Int) != (D1 : Int)) = false := by simp
                go_simp
                exact hK _ _ jE rfl (fun _ _ _ h => h)
              · refine stepL_plain rfl ?_
                rintro F a w1 jE ⟨h13, t209, h30, t226, -⟩ - K hK
                have h13 : (F 13) = .bool false := h13
                rw [h13] at t209
                clear h13
                have h30 : (F 30) = .bool false := h30
                rw [h30] at t226
                clear h30
                go_simp
                exact hK _ _ jE rfl (fun _ _ _ h => h)
              · refine stepL_plain rfl ?_
                rintro F a w1 jE ⟨h31, t227, -⟩ - K hK
                have h31 : (F 31) = .bool false := h31
                rw [h31] at t227
                clear h31
                go_simp
                exact hK _ _ jE rfl (fun _ _ _ h => h)
              · refine stepL_of ?_
                rintro F a w1 jE ⟨h32, t228, -⟩ ⟨t19, -⟩ K hK
                have h32 : (F 32) = .bool false := h32
                rw [h32] at t228
                clear h32
                have t19 : a.tmps[19]? = some (.slice (some ⟨bk2, ok2, none⟩) m m) := t19
                refine stepY ((wanted_of 32 false 228 _ rfl rfl t228).trans rfl) ?_
                go_simp
                exact hK _ _ jE rfl (fun _ _ _ h => h)
              · refine stepL_of ?_
                rintro F a w1 jE ⟨h32, t228, -⟩ ⟨t20, -⟩ K hK
                have h32 : (F 32) = .bool false := h32
                rw [h32] at t228
                clear h32
                have t20 : a.tmps[20]? = some (.int .i64 (j : Int)) := t20
                refine stepY ((wanted_of 32 false 228 _ rfl rfl t228).trans rfl) ?_
                go_simp
                exact hK _ _ jE rfl (fun _ _ _ h => h)
              · refine stepL_of ?_
                rintro F a w1 jE ⟨h33, t229, h34, t230, h32, t228, -⟩ - K hK
                have h33 : (F 33) = .slice (some ⟨bk2, ok2, none⟩) m m := h33
                rw [h33] at t229
                clear h33
                have h34 : (F 34) = .int .i64 (j : Int) := h34
                rw [h34] at t230
                clear h34
                have h32 : (F 32) = .bool false := h32
                rw [h32] at t228
                clear h32
                refine stepY ((wanted_of 32 false 228 _ rfl rfl t228).trans rfl) ?_
                go_simp
                exact hK _ _ jE rfl (fun _ _ _ h => h)
              · refine stepL_of ?_
                rintro F a w1 jE ⟨h35, t231, h32, t228, -⟩ - K hK
                have h35 : (F 35) = .pointer (some ⟨bk2, ok2 + j, none⟩) := h35
                rw [h35] at t231
                clear h35
                have h32 : (F 32) = .bool false := h32
                rw [h32] at t228
                clear h32
                refine stepY ((wanted_of 32 false 228 _ rfl rfl t228).trans rfl) ?_
                have c := ((jE.ext (Ext.refl _) (by simp)).cells.1 bk2 _ y5).trans (unhide X5)
                go_simp
                exact hK _ _ jE rfl (fun _ _ _ h => h)
              · refine stepL_of ?_
                rintro F a w1 jE ⟨h36, t232, h32, t228, -⟩ - K hK
                have h36 : (F 36) = .slice A1 KL z1 := h36
                rw [h36] at t232
                clear h36
                have h32 : (F 32) = .bool false := h32
                rw [h32] at t228
                clear h32
                refine stepY ((wanted_of 32 false 228 _ rfl rfl t228).trans rfl) ?_
                go_simp
                exact hK _ _ jE rfl (fun _ _ _ h => h)
              · refine stepL_of ?_
                rintro F a w1 jE ⟨h32, t228, -⟩ ⟨t11, -⟩ K hK
                have h32 : (F 32) = .bool false := h32
                rw [h32] at t228
                clear h32
                have t11 : a.tmps[11]? = some (.slice (some ⟨bk, ok, none⟩) nl nl) := t11
                refine stepY ((wanted_of 32 false 228 _ rfl rfl t228).trans rfl) ?_
                go_simp
                exact hK _ _ jE rfl (fun _ _ _ h => h)
              · refine stepL_of ?_
                rintro F a w1 jE ⟨h32, t228, -⟩ ⟨t20, -⟩ K hK
                have h32 : (F 32) = .bool false := h32
                rw [h32] at t228
                clear h32
                have t20 : a.tmps[20]? = some (.int .i64 (j : Int)) := t20
                refine stepY ((wanted_of 32 false 228 _ rfl rfl t228).trans rfl) ?_
                go_simp
                exact hK _ _ jE rfl (fun _ _ _ h => h)
              · refine stepL_of ?_
                rintro F a w1 jE ⟨h32, t228, -⟩ ⟨t7, -⟩ K hK
                have h32 : (F 32) = .bool false := h32
                rw [h32] at t228
                clear h32
                have t7 : a.tmps[7]? = some (.int .i64 (k : Int)) := t7
                refine stepY ((wanted_of 32 false 228 _ rfl rfl t228).trans rfl) ?_
                go_simp
                exact hK _ _ jE rfl (fun _ _ _ h => h)
              · refine stepL_of ?_
                rintro F a w1 jE ⟨h39, t235, h40, t236, h32, t228, -⟩ - K hK
                have h39 : (F 39) = .int .i64 (j : Int) := h39
                rw [h39] at t235
                clear h39
                have h40 : (F 40) = .int .i64 (k : Int) := h40
                rw [h40] at t236
                clear h40
                have h32 : (F 32) = .bool false := h32
                rw [h32] at t228
                clear h32
                refine stepY ((wanted_of 32 false 228 _ rfl rfl t228).trans rfl) ?_
                have e1 := unhide W2
                go_simp
                exact hK _ _ jE rfl (fun _ _ _ h => h)
              · refine stepL_of ?_
                rintro F a w1 jE ⟨h38, t234, h41, t237, h32, t228, -⟩ - K hK
                have h38 : (F 38) = .slice (some ⟨bk, ok, none⟩) nl nl := h38
                rw [h38] at t234
                clear h38
                have h41 : (F 41) = .int .i64 (kj : Int) := h41
                rw [h41] at t237
                clear h41
                have h32 : (F 32) = .bool false := h32
                rw [h32] at t228
                clear h32
                refine stepY ((wanted_of 32 false 228 _ rfl rfl t228).trans rfl) ?_
                go_simp
                exact hK _ _ jE rfl (fun _ _ _ h => h)
              · refine stepL_of ?_
                rintro F a w1 jE ⟨h42, t238, h32, t228, -⟩ - K hK
                have h42 : (F 42) = .pointer (some ⟨bk, ok + kj, none⟩) := h42
                rw [h42] at t238
                clear h42
                have h32 : (F 32) = .bool false := h32
                rw [h32] at t228
                clear h32
                refine stepY ((wanted_of 32 false 228 _ rfl rfl t228).trans rfl) ?_
                have c := ((jE.ext (Ext.refl _) (by simp)).cells.1 bk _ y6).trans (unhide X6)
                go_simp
                exact hK _ _ jE rfl (fun _ _ _ h => h)
              · refine stepL_of ?_
                rintro F a w1 jE ⟨h43, t239, h32, t228, -⟩ - K hK
                have h43 : (F 43) = .slice A2 KL z2 := h43
                rw [h43] at t239
                clear h43
                have h32 : (F 32) = .bool false := h32
                rw [h32] at t228
                clear h32
                refine stepY ((wanted_of 32 false 228 _ rfl rfl t228).trans rfl) ?_
                go_simp
                exact hK _ _ jE rfl (fun _ _ _ h => h)
              · refine stepL_of ?_
                rintro F a w1 jE ⟨h37, t233, h44, t240, h32, t228, -⟩ - K hK
                have h37 : (F 37) = .int .i64 (KL : Int) := h37
                rw [h37] at t233
                clear h37
                have h44 : (F 44) = .int .i64 (KL : Int) := h44
                rw [h44] at t240
                clear h44
                have h32 : (F 32) = .bool false := h32
                rw [h32] at t228
                clear h32
                refine stepY ((wanted_of 32 false 228 _ rfl rfl t228).trans rfl) ?_
                have e1 : ((KL : Int) != (KL : Int)) = false := by simp
                go_simp
                exact hK _ _ jE rfl (fun _ _ _ h => h)
              · refine stepL_plain rfl ?_
                rintro F a w1 jE ⟨h32, t228, h45, t241, -⟩ - K hK
                have h32 : (F 32) = .bool false := h32
                rw [h32] at t228
                clear h32
                have h45 : (F 45) = .bool false := h45
                rw [h45] at t241
                clear h45
                go_simp
                exact hK _ _ jE rfl (fun _ _ _ h => h)
              · refine stepL_plain rfl ?_
                rintro F a w1 jE ⟨h46, t242, -⟩ - K hK
                have h46 : (F 46) = .bool false := h46
                rw [h46] at t242
                clear h46
                go_simp
                exact hK _ _ jE rfl (fun _ _ _ h => h)
              · refine stepL_of ?_
                rintro F a w1 jE ⟨h47, t243, -⟩ ⟨t20, -⟩ K hK
                have h47 : (F 47) = .bool false := h47
                rw [h47] at t243
                clear h47
                have t20 : a.tmps[20]? = some (.int .i64 (j : Int)) := t20
                refine stepY ((wanted_of 47 false 243 _ rfl rfl t243).trans rfl) ?_
                go_simp
                exact hK _ _ jE rfl (fun _ _ _ h => h)
              · refine stepL_of ?_
                rintro F a w1 jE ⟨h48, t244, h47, t243, -⟩ - K hK
                have h48 : (F 48) = .int .i64 (j : Int) := h48
                rw [h48] at t244
                clear h48
                have h47 : (F 47) = .bool false := h47
                rw [h47] at t243
                clear h47
                refine stepY ((wanted_of 47 false 243 _ rfl rfl t243).trans rfl) ?_
                have e1 : ¬ (0 : Int) < (j : Int) := by omega
                have e2 : decide (0 < j) = false := by simp; omega
                go_simp
                exact hK _ _ jE rfl (fun _ _ _ h => h)
              · refine stepL_of ?_
                rintro F a w1 jE ⟨h49, t245, h47, t243, -⟩ - K hK
                have h49 : (F 49) = .bool false := h49
                rw [h49] at t245
                clear h49
                have h47 : (F 47) = .bool false := h47
                rw [h47] at t243
                clear h47
                refine stepY ((wanted_of 47 false 243 _ rfl rfl t243).trans rfl) ?_
                go_simp
                exact hK _ _ jE rfl (fun _ _ _ h => h)
              · refine stepL_of ?_
                rintro F a w1 jE ⟨h50, t246, -⟩ ⟨t12, -⟩ K hK
                have h50 : (F 50) = .bool false := h50
                rw [h50] at t246
                clear h50
                have t12 : a.tmps[12]? = some (.pointer (some ⟨gv, 0, none⟩)) := t12
                exact stepN ((wanted_of 50 true 246 _ rfl rfl t246).trans rfl) (hK undef _ jE rfl (fun _ _ _ h => h))
              · refine stepL_of ?_
                rintro F a w1 jE ⟨h50, t246, -⟩ ⟨t20, -⟩ K hK
                have h50 : (F 50) = .bool false := h50
                rw [h50] at t246
                clear h50
                have t20 : a.tmps[20]? = some (.int .i64 (j : Int)) := t20
                exact stepN ((wanted_of 50 true 246 _ rfl rfl t246).trans rfl) (hK undef _ jE rfl (fun _ _ _ h => h))
              · refine stepL_of ?_
                rintro F a w1 jE ⟨h51, t247, h52, t248, h50, t246, -⟩ - K hK
                have h51 : (F 51) = undef := h51
                rw [h51] at t247
                clear h51
                have h52 : (F 52) = undef := h52
                rw [h52] at t248
                clear h52
                have h50 : (F 50) = .bool false := h50
                rw [h50] at t246
                clear h50
                exact stepN ((wanted_of 50 true 246 _ rfl rfl t246).trans rfl) (hK undef _ jE rfl (fun _ _ _ h => h))
              · refine stepL_of ?_
                rintro F a w1 jE ⟨h50, t246, -⟩ ⟨t2, -⟩ K hK
                have h50 : (F 50) = .bool false := h50
                rw [h50] at t246
                clear h50
                have t2 : a.tmps[2]? = some (.pointer (some ⟨g, 0, none⟩)) := t2
                exact stepN ((wanted_of 50 true 246 _ rfl rfl t246).trans rfl) (hK undef _ jE rfl (fun _ _ _ h => h))
              · refine stepL_of ?_
                rintro F a w1 jE ⟨h50, t246, -⟩ ⟨t20, -⟩ K hK
                have h50 : (F 50) = .bool false := h50
                rw [h50] at t246
                clear h50
                have t20 : a.tmps[20]? = some (.int .i64 (j : Int)) := t20
                exact stepN ((wanted_of 50 true 246 _ rfl rfl t246).trans rfl) (hK undef _ jE rfl (fun _ _ _ h => h))
              · refine stepL_of ?_
                rintro F a w1 jE ⟨h50, t246, -⟩ ⟨t7, -⟩ K hK
                have h50 : (F 50) = .bool false := h50
                rw [h50] at t246
                clear h50
                have t7 : a.tmps[7]? = some (.int .i64 (k : Int)) := t7
                exact stepN ((wanted_of 50 true 246 _ rfl rfl t246).trans rfl) (hK undef _ jE rfl (fun _ _ _ h => h))
              · refine stepL_of ?_
                rintro F a w1 jE ⟨h55, t251, h56, t252, h50, t246, -⟩ - K hK
                have h55 : (F 55) = undef := h55
                rw [h55] at t251
                clear h55
                have h56 : (F 56) = undef := h56
                rw [h56] at t252
                clear h56
                have h50 : (F 50) = .bool false := h50
                rw [h50] at t246
                clear h50
                exact stepN ((wanted_of 50 true 246 _ rfl rfl t246).trans rfl) (hK undef _ jE rfl (fun _ _ _ h => h))
              · refine stepL_of ?_
                rintro F a w1 jE ⟨h54, t250, h57, t253, h50, t246, -⟩ - K hK
                have h54 : (F 54) = undef := h54
                rw [h54] at t250
                clear h54
                have h57 : (F 57) = undef := h57
                rw [h57] at t253
                clear h57
                have h50 : (F 50) = .bool false := h50
                rw [h50] at t246
                clear h50
                exact stepN ((wanted_of 50 true 246 _ rfl rfl t246).trans rfl) (hK undef _ jE rfl (fun _ _ _ h => h))
              · refine stepL_of ?_
                rintro F a w1 jE ⟨h53, t249, h58, t254, h50, t246, -⟩ - K hK
                have h53 : (F 53) = undef := h53
                rw [h53] at t249
                clear h53
                have h58 : (F 58) = undef := h58
                rw [h58] at t254
                clear h58
                have h50 : (F 50) = .bool false := h50
                rw [h50] at t246
                clear h50
                exact stepN ((wanted_of 50 true 246 _ rfl rfl t246).trans rfl) (hK undef _ jE rfl (fun _ _ _ h => h))
              · refine stepL_of ?_
                rintro F a w1 jE ⟨h50, t246, h59, t255, h47, t243, -⟩ - K hK
                have h50 : (F 50) = .bool false := h50
                rw [h50] at t246
                clear h50
                have h59 : (F 59) = undef := h59
                rw [h59] at t255
                clear h59
                have h47 : (F 47) = .bool false := h47
                rw [h47] at t243
                clear h47
                refine stepY ((wanted_of 47 false 243 _ rfl rfl t243).trans rfl) ?_
                go_simp
                exact hK _ _ jE rfl (fun _ _ _ h => h)
              · refine stepL_plain rfl ?_
                rintro F a w1 jE ⟨h47, t243, h60, t256, -⟩ - K hK
                have h47 : (F 47) = .bool false := h47
                rw [h47] at t243
                clear h47
                have h60 : (F 60) = .bool false := h60
                rw [h60] at t256
                clear h60
                go_simp
                exact hK _ _ jE rfl (fun _ _ _ h => h)
            · rintro F w9 jE ⟨h61, -⟩
              have h61 : (F 61) = .bool false := h61
              have hx := jE.ext (Ext.refl _) (by simp)
              replace E7 := E7.trans hx
              clear jE hx B1 B2 RN RM W1 W3 W4 X1 X2 X3 X4 X5 X6 X7 y1 y2 y3 y4 y5 y6 y7
              simp only [putL, Act.put, Nat.reduceAdd, Nat.zero_add, List.setIfInBounds_toArray, List.set_cons_succ, List.set_cons_zero]
              rw [h61]
              clear h61
              clear wr
              go_wp2_with fail
              go_loopw [21] (fun v wr => ∃ q : Nat, v = .int .i64 q ∧ q ≤ KL ∧ Ext wC wr) (fun v _ => KL - (intOf v).toNat)
              case atStart => exact ⟨0, rfl, by omega, E7⟩
              case round =>
                clear E7 w9
                obtain ⟨q, rfl, q1, E7⟩ := hrel
                obtain ⟨A1', z1', y5, x5, R1⟩ := (RK2'.ext E7).rowAt hj
                obtain ⟨A2', z2', y6, x6, R2⟩ := (RKc'.ext E7).rowAt hkjn
                have hKL : (kidsN ns nl kj).length = (kidsN (partN ns k m) m j).length := by rw [← unhide Q3, List.length_map]
                rw [hKL, unhide HKK] at x6 R2
                rw [unhide HKK] at x5 R1
                clear hKL
                have w2 := unhide W2
                by_cases hq : q < KL
                · obtain ⟨z, hz⟩ : ∃ z, (kidsN (partN ns k m) m j)[q]? = some z := ⟨_, List.getElem?_eq_getElem (by rw [unhide HKK]; exact hq)⟩
                  have hzb := kids_in hz
                  have hz2 : (kidsN ns nl kj)[q]? = some (z + (k : Int)) := by rw [← unhide Q3, List.getElem?_map, hz]; rfl
                  obtain ⟨b3, o3, -, hA3, -, -, -⟩ := R1.get hq
                  subst hA3
                  obtain ⟨b4, o4, -, hA4, -, -, -⟩ := R2.get hq
                  subst hA4
                  obtain ⟨-, x8⟩ := R1.intAt hz
                  obtain ⟨-, x9⟩ := R2.intAt hz2
                  have hqI : (q : Int) < (KL : Int) := by omega
                  have hqN : (0 : Int) ≤ (q : Int) ∧ (q : Int) < (KL : Int) := by omega
                  obtain ⟨zk, hzk⟩ : ∃ zk : Int, z + (k : Int) = zk := ⟨_, rfl⟩
                  rw [hzk] at x9
                  have w5 : IntKind.i64.wrap (z + (k : Int)) = zk := by rw [IntWalk.i64_in _ (by omega)]; exact hzk
                  have w6 : (zk != zk) = false := by simp
                  have w7 : (zk == zk) = true := by simp
                  clear hz hz2 R1 R2 hzb hzk
                  go_upto_region 40 with fail
                  go_quiet (fail)
                  replace E7 := E7.drewN nq
                  clear x5 x6 x8 x9 w2 w5 w6 w7 hqI hqN y5 y6
                  generalize wr.drewN nq = w8 at *
                  go_wp2_with fail
                  go_roundw
                  case rel => exact ⟨q + 1, by go_num, by omega, E7⟩
                  case measure => simp [intOf]; omega
                · have hqI : ¬ (q : Int) < (KL : Int) := by omega
                  clear q1 R1 R2
                  go_wp2_with fail
                  go_roundw
                  case rel => exact ⟨j + 1, by go_num, by omega, E7⟩
                  case measure => simp [intOf]; omega
        · have hjI : ¬ (j : Int) < (m : Int) := by omega
          have cu := cRu (0 : Int)
          rw [show (0 : Int) = ((0 : Nat) : Int) from rfl, rootI_nat, unhide QR0] at cu
          go_wp2_with fail
          refine (unhide (cu _ (RU.ext E7))).mono ?_
          rintro e w9 ⟨rfl, hx⟩
          have E8 := (EC.trans E7).trans hx
          clear hx d1 k1
          go_wp2_with fail
          refine (unhide (cW _)).mono ?_
          rintro e w10 ⟨rfl, hx⟩
          go_wp2_with fail
          go_ret
          exact ⟨rfl, E8.trans hx⟩
end
end Go.Proofs.Ytnolbmfjgfojhaa
