/- Layer 20: what the document's Place is to hand back (plain laws). -/
import Derived.Test.YtkkkdjkjggofkaaCrL
import Derived.Test.YtkkkdjkjggofkaaCrR
import Derived.Test.YtkkkdjkjggofkaaCsQ
namespace Go.Proofs.Ytkkkdjkjggofkaa
open Go.RowKit
/-- what the document knows of an item -/
structure Pr where (wide above below uw ul ur high : Int)
@[reducible] def Pr.cells (x : Pr) : Array Value := #[.int .i64 x.wide, .int .i64 x.above, .int .i64 x.below, .int .i64 x.uw, .int .i64 x.ul, .int .i64 x.ur, .int .i64 x.high]
def prC (x : Pr) : List Value := x.cells.toList
theorem prC_len (x : Pr) : (prC x).length = 7 := rfl
theorem prC_one (x : Pr) : ∀ v ∈ prC x, v.oneCell' = true := by
  intro v hv
  simp only [prC, List.mem_cons, List.not_mem_nil, or_false] at hv
  rcases hv with rfl | rfl | rfl | rfl | rfl | rfl | rfl <;> rfl
def zpr : Pr := ⟨0, 0, 0, 0, 0, 0, 0⟩
theorem zero_pr : (Try.prog.info? 77).bind (·.zero) = some (.agg zpr.cells) := by kernel_rfl
theorem size_pr (x : Pr) : (Try.prog.info? 77).map (·.size) = some x.cells.size := by kernel_rfl
theorem size_prC (x : Pr) : (Try.prog.info? 77).map (·.size) = some (prC x).length := by kernel_rfl
theorem pr_info : (Try.prog.info? 77).map (fun i => (i.zero, i.size, decide (i.bytes ≤ 100000))) = some (some (.agg zpr.cells), 7, true) := by kernel_rfl
def mP (c : Int) (ks : List Sty) (us : List Us) (hs : List Int) (i : Nat) : Pr :=
  ⟨(us.getD i ⟨0, 0, 0⟩).w + frameA (ks.getD i zsty), resV (ks.getD i zsty).m0 c, resV (ks.getD i zsty).m2 c, (us.getD i ⟨0, 0, 0⟩).w, (us.getD i ⟨0, 0, 0⟩).l, (us.getD i ⟨0, 0, 0⟩).r, hs.getD i 0⟩
def partL (c : Int) (ks : List Sty) (us : List Us) (hs : List Int) (k : Nat) : List Pr := (List.range k).map (mP c ks us hs)
theorem partL_len (c : Int) (ks : List Sty) (us : List Us) (hs : List Int) (k : Nat) : (partL c ks us hs k).length = k := by simp [partL]
theorem partL_succ (c : Int) (ks : List Sty) (us : List Us) (hs : List Int) (k : Nat) : partL c ks us hs (k + 1) = partL c ks us hs k ++ [mP c ks us hs k] := by simp [partL, List.range_succ]
theorem partL_get {c : Int} {ks : List Sty} {us : List Us} {hs : List Int} {n k : Nat} (h : k < n) : (partL c ks us hs n)[k]? = some (mP c ks us hs k) := by simp [partL, h]
def PartsIs (w : World) (n : Nat) (l : List Pr) (e : Ending) (w' : World) : Prop := ∃ A cap, e = .returned (.slice A n cap) ∧ Rd w' 7 A n (recs prC l) ∧ Ext w w'
/-- a frag that is not cut yet -/
def rawF (x : It) : Fr := ⟨x.x, x.y, x.wide, x.high⟩
def cutF (f : Fr) : Fr := ⟨cutV f.x, cutV f.y, cutV f.w, cutV f.h⟩
def cutFB (f : Fr) : Bool := cutB f.x || cutB f.y || cutB f.w || cutB f.h
theorem cutF_raw (x : It) : cutF (rawF x) = frV x := rfl
theorem cutFB_raw (x : It) : cutFB (rawF x) = byB x := rfl
/-- what is left, between -/
theorem bet_parts {f : Int} {m : Nat} (_hf : 0 ≤ f) (hm : 0 < m) (p : Nat) : f / (m : Int) * (p : Int) + f % (m : Int) * (p : Int) / (m : Int) = (p : Int) * f / (m : Int) := by
  have hm0 : (0 : Int) < m := by omega
  have h : (p : Int) * f = (p : Int) * (f % (m : Int)) + (m : Int) * ((p : Int) * (f / (m : Int))) := by
    conv => lhs; rw [← Int.emod_add_mul_ediv f m]
    rw [Int.mul_add, Int.mul_left_comm]
  rw [h, Int.add_mul_ediv_left _ _ (by omega), Int.mul_comm (f / (m : Int)), Int.mul_comm (f % (m : Int)), Int.add_comm]
/-- each place of the rows is another item's -/
theorem rows_one {rs : List (List Nat)} (h : rs.flatten.Nodup) {r r' p p' k : Nat} (h1 : (rs.getD r [])[p]? = some k) (h2 : (rs.getD r' [])[p']? = some k) : r = r' ∧ p = p' := by
  induction rs generalizing r r' with
  | nil => simp at h1
  | cons l rs ih =>
    rw [List.flatten_cons, List.nodup_append] at h
    obtain ⟨ha, hb, hc⟩ := h
    have key : ∀ {r p : Nat}, (rs.getD r [])[p]? = some k → k ∈ rs.flatten := by
      intro r p h
      rcases Nat.lt_or_ge r rs.length with hr | hr
      · rw [List.getD_eq_getElem?_getD, List.getElem?_eq_getElem hr] at h
        exact List.mem_flatten.2 ⟨_, List.getElem_mem hr, List.mem_of_getElem? h⟩
      · rw [List.getD_eq_getElem?_getD, List.getElem?_eq_none hr] at h; simp at h
    cases r with
    | zero =>
      cases r' with
      | zero =>
        simp only [List.getD_cons_zero] at h1 h2
        refine ⟨rfl, ?_⟩
        obtain ⟨a1, a2⟩ := List.getElem?_eq_some_iff.1 h1
        obtain ⟨b1, b2⟩ := List.getElem?_eq_some_iff.1 h2
        exact (List.getElem_inj ha).1 (a2.trans b2.symm)
      | succ r' =>
        simp only [List.getD_cons_zero, List.getD_cons_succ] at h1 h2
        exact absurd rfl (hc k (List.mem_of_getElem? h1) k (key h2))
    | succ r =>
      cases r' with
      | zero =>
        simp only [List.getD_cons_zero, List.getD_cons_succ] at h1 h2
        exact absurd rfl (hc k (List.mem_of_getElem? h2) k (key h1))
      | succ r' =>
        simp only [List.getD_cons_succ] at h1 h2
        obtain ⟨e1, e2⟩ := ih hb h1 h2
        exact ⟨by omega, e2⟩
section
variable {s : Sty} {c : Int} {nr : Nat} {rs : List (List Nat)} {I : Nat → It}
/-- what the items of the rows so far are given; of the row r the first q -/
def OutP (s : Sty) (c : Int) (nr : Nat) (rs : List (List Nat)) (I : Nat → It) (r q : Nat) (G : Nat → Fr) : Prop :=
  ∀ r' p k, (rs.getD r' [])[p]? = some k → (r' < r ∨ r' = r ∧ p < q) → G k = rawF (finI s c nr (topS s nr I rs r') I (rs.getD r' []) p (I k))
theorem OutP.zero (G : Nat → Fr) : OutP s c nr rs I 0 0 G := fun r' p k _ h => by omega
def setG (G : Nat → Fr) (k : Nat) (f : Fr) (i : Nat) : Fr := if i = k then f else G i
theorem OutP.step {r q k : Nat} {G : Nat → Fr} (h : OutP s c nr rs I r q G) (hnd : rs.flatten.Nodup) (hk : (rs.getD r [])[q]? = some k) {f : Fr} (hf : f = rawF (finI s c nr (topS s nr I rs r) I (rs.getD r []) q (I k))) : OutP s c nr rs I r (q + 1) (setG G k f) := by
  intro r' p k' hk' hc
  unfold setG
  by_cases e : k' = k
  · subst e
    obtain ⟨rfl, rfl⟩ := rows_one hnd hk hk'
    rw [if_pos rfl, hf]
  · rw [if_neg e]
    refine h r' p k' hk' ?_
    rcases hc with hc | ⟨rfl, hc⟩
    · exact .inl hc
    · right
      refine ⟨rfl, ?_⟩
      rcases Nat.lt_or_ge p q with h1 | h1
      · exact h1
      · obtain rfl : p = q := by omega
        exact absurd (Option.some.inj (hk'.symm.trans hk)) e
theorem OutP.next {r : Nat} {G : Nat → Fr} (h : OutP s c nr rs I r (rs.getD r []).length G) : OutP s c nr rs I (r + 1) 0 G := by
  intro r' p k hk hc
  refine h r' p k hk ?_
  rcases Nat.lt_or_ge r' r with h1 | h1
  · exact .inl h1
  · obtain rfl : r' = r := by omega
    exact .inr ⟨rfl, (List.getElem?_eq_some_iff.1 hk).1⟩
theorem OutP.fin {n : Nat} {G : Nat → Fr} (h : OutP s c nr rs I nr 0 G) (hr : RowsP rs n nr) {k : Nat} (hk : k < n) : G k = rawF ((topN s c nr rs I nr).2 k) := by
  obtain ⟨row, h1, h2⟩ := List.mem_flatten.1 (hr.all hk)
  obtain ⟨r, hrl, rfl⟩ := List.getElem_of_mem h1
  obtain ⟨p, hp, he⟩ := List.getElem_of_mem h2
  have hk' : (rs.getD r [])[p]? = some k := by
    rw [List.getD_eq_getElem?_getD, List.getElem?_eq_getElem hrl, Option.getD_some, List.getElem?_eq_getElem hp, he]
  have hlen := hr.len
  rw [h r p k hk' (.inl (by omega)), topN_fin (s := s) (c := c) (nr := nr) (I := I) hr.nd hk' nr (by omega) (by omega)]
end
end Go.Proofs.Ytkkkdjkjggofkaa
