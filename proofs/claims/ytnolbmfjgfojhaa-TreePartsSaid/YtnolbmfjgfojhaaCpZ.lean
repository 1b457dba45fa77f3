/- Units that came in: what is known of them. A tree that came in, opened: what its units are. Trees: trees that are alike but for where their units lie (plain laws; for jambref05.Copy). Trees: the children of a node, one stretch behind the other (plain laws; for TreeShape). Trees: a tree in new memory (plain laws, for jambref05.Copy). Trees: a tree in new memory (walk). -/
import Derived.Test.YtnolbmfjgfojhaaStyO
import Derived.Test.YtnolbmfjgfojhaaSl
import Derived.Test.YtnolbmfjgfojhaaLaw
import Derived.Test.YtnolbmfjgfojhaaOk
import Derived.Test.YtnolbmfjgfojhaaTreeO
import Derived.Test.YtnolbmfjgfojhaaTyT
import Derived.Test.YtnolbmfjgfojhaaAl
import Derived.Test.YtnolbmfjgfojhaaTyF
import Derived.Test.YtnolbmfjgfojhaaLinB
import Derived.Lib.Builder
namespace Go.Proofs.Ytnolbmfjgfojhaa
open Go.ChangeShapes Go.WideShapes Go.ChangeAt Go.RowKit
def u16s (us : List Int) : List Value := us.map (Value.int .u16 ·)
theorem u16s_len (us : List Int) : (u16s us).length = us.length := by simp [u16s]
theorem u16s_get {us : List Int} {i : Nat} {x : Int} (h : us[i]? = some x) : (u16s us)[i]? = some (.int .u16 x) := by simp [u16s, h]
theorem u16s_one (us : List Int) : ∀ u ∈ u16s us, u.oneCell' = true := by
  intro u hu
  obtain ⟨x, _, rfl⟩ := List.mem_map.1 hu
  rfl
theorem flat_u16 : flat Try.prog 3 48 = some [.int .u16] := by kernel_rfl
theorem cells_u16 : Try.prog.cellsOf 48 = 1 := by kernel_rfl
theorem u16s_of : ∀ (xss : List (List Value)), (∀ xs ∈ xss, ∃ z, xs = [.int .u16 z]) → ∃ us, xss.flatten = u16s us
  | [], _ => ⟨[], rfl⟩
  | xs :: t, h => by
    obtain ⟨z, h1⟩ := h xs (List.mem_cons_self ..)
    obtain ⟨us, h2⟩ := u16s_of t (fun y hy => h y (List.mem_cons_of_mem _ hy))
    exact ⟨z :: us, by rw [List.flatten_cons, h1, h2]; rfl⟩
section
variable {H : Type} {enc : TypeId × Value → H} {w : World} {spare : Nat → Bool} {held : Bool}
theorem units_rd {A : Option Addr} {n c : Nat} (h : SliceOk enc Try.prog w 0 spare held 48 A n c) : ∃ us : List Int, Rd w 1 A n (u16s us) := by
  obtain ⟨xss, hl, _, hr, hx⟩ := h.rd cells_u16 (by omega)
  obtain ⟨us, hu⟩ := u16s_of xss (fun xs hm => by
    obtain ⟨x, fuel, ht⟩ := hx xs hm
    have hl := flat_ok 3 48 _ fuel xs x flat_u16 ht
    obtain ⟨v0, t0, rfl, k0, h0⟩ := hl.cons
    obtain rfl := h0.nil
    obtain ⟨z, rfl, _⟩ := k0
    exact ⟨z, rfl⟩)
  exact ⟨us, hu ▸ hr⟩
end
end Go.Proofs.Ytnolbmfjgfojhaa
namespace Go.Proofs.Ytnolbmfjgfojhaa
open Go.ChangeShapes Go.WideShapes Go.ChangeAt Go.RowKit
section
variable {H : Type} {enc : TypeId × Value → H} {w : World} {base : Nat} {spare : Nat → Bool} {held : Bool}
theorem leaves_nodeU {cs : List Value} (hl : LeavesOk enc Try.prog w 0 spare held [.int .i64, .int .u8, .bool, .int .u8, .int .u8, .int .u8, .int .i64, .int .u8, .int .i64, .int .u8, .int .i64, .int .u8, .int .i64, .int .u8, .int .i64, .int .u8, .int .i64, .int .u8, .int .i64, .int .u8, .int .i64, .int .u8, .int .i64, .int .u8, .int .i64, .int .i64, .int .i64, .int .i64, .int .i64, .int .i64, .int .i64, .int .i64, .int .i64, .int .u8, .int .i64, .bool, .int .u8, .int .u8, .int .i64, .int .i64, .int .i64, .int .u8, .int .i64, .slice 48] cs) :
    ∃ n : Nd, cs = n.cells ∧ (n.s.ul ≤ maxLen ∧ ∃ us : List Int, Rd w 1 n.s.ua n.s.ul (u16s us)) := by
  obtain ⟨v0, t0, rfl, k0, h0⟩ := hl.cons
  obtain ⟨s, rfl, _, hu⟩ := leaves_style h0
  obtain ⟨us, hr⟩ := units_rd hu
  obtain ⟨p, rfl, _⟩ := k0
  exact ⟨⟨p, s⟩, rfl, Nat.le_trans hu.1 hu.2.1, us, hr⟩
end
theorem nds_ofU {w : World} : ∀ (xss : List (List Value)), (∀ xs ∈ xss, ∃ n : Nd, xs = n.cells ∧ (n.s.ul ≤ maxLen ∧ ∃ us : List Int, Rd w 1 n.s.ua n.s.ul (u16s us))) → ∃ l : List Nd, xss.flatten = nds l ∧ ∀ n ∈ l, (n.s.ul ≤ maxLen ∧ ∃ us : List Int, Rd w 1 n.s.ua n.s.ul (u16s us))
  | [], _ => ⟨[], rfl, by simp⟩
  | xs :: t, h => by
    obtain ⟨n, h1, h2⟩ := h xs (List.mem_cons_self ..)
    obtain ⟨l, h3, h4⟩ := nds_ofU t (fun y hy => h y (List.mem_cons_of_mem _ hy))
    refine ⟨n :: l, by rw [List.flatten_cons, h1, h3]; rfl, fun m hm => ?_⟩
    rcases List.mem_cons.1 hm with rfl | hm
    · exact h2
    · exact h4 m hm
section
variable {H : Type} {enc : TypeId × Value → H} {w : World} {spare : Nat → Bool} {held : Bool}
theorem open_treeU {r : Reach} {b0 : Nat} {v : Value} {d : DataW H} {p : List MemPlace} (hv : Value.okWide Try.prog w r b0 25 v) (h : DataW.Trod enc Try.prog w 0 spare held 25 v d p) :
    ∃ (t : Tr) (ns : List Nd) (av : List Int), v = .agg t.cs ∧ TrIn w t ns av ∧ t.nl ≤ maxLen ∧ t.al ≤ maxLen ∧ (-9223372036854775808 ≤ t.view ∧ t.view ≤ 9223372036854775807) ∧ (∀ n ∈ ns, (n.s.ul ≤ maxLen ∧ ∃ us : List Int, Rd w 1 n.s.ua n.s.ul (u16s us))) ∧ t.nl ≤ t.nc := by
  obtain ⟨cs, rfl, _⟩ := okWide_struct Try.underlying25 hv
  obtain ⟨fuel, hf⟩ := h
  have hl := flat_ok 3 25 _ fuel _ _ flat_tree hf
  obtain ⟨v0, t0, e0, k0, h0⟩ := hl.cons
  obtain ⟨v1, t1, e1, k1, h1⟩ := h0.cons
  obtain ⟨v2, t2, e2, k2, h2⟩ := h1.cons
  obtain rfl := h2.nil
  obtain ⟨na, nl, nc, rfl, hn⟩ := k0
  obtain ⟨aa, al, ac, rfl, ha⟩ := k1
  obtain ⟨view, rfl, hview⟩ := k2
  subst e2
  subst e1
  have hcs : cs = #[.slice na nl nc, .slice aa al ac, .int .i64 view] := Array.toList_inj.1 e0
  obtain ⟨xss, _, _, hr, hx⟩ := hn.rd cells_node (by omega)
  obtain ⟨ns, hns, hwf⟩ := nds_ofU xss (fun xs hm => by
    obtain ⟨x, fuel, ht⟩ := hx xs hm
    exact leaves_nodeU (flat_ok 5 47 _ fuel xs x flat_node ht))
  obtain ⟨yss, _, _, hr2, hy⟩ := ha.rd cells_int (by omega)
  obtain ⟨av, hav⟩ := ints_of yss (fun xs hm => by
    obtain ⟨x, fuel, ht⟩ := hy xs hm
    have hl := flat_ok 3 2 _ fuel xs x flat_int ht
    obtain ⟨v0, t0, rfl, k0, h0⟩ := hl.cons
    obtain rfl := h0.nil
    obtain ⟨z, rfl, _⟩ := k0
    exact ⟨z, rfl⟩)
  exact ⟨⟨na, nl, nc, aa, al, ac, view⟩, ns, av, by rw [hcs], ⟨hns ▸ hr, hav ▸ hr2⟩, Nat.le_trans hn.1 hn.2.1, Nat.le_trans ha.1 ha.2.1, bd_i64 hview, hwf, hn.1⟩
end
end Go.Proofs.Ytnolbmfjgfojhaa
namespace Go.Proofs.Ytnolbmfjgfojhaa
open Go.RowKit
/-- a style whose units lie elsewhere -/
@[reducible] def Sty.moved (s : Sty) (A : Option Addr) (c : Nat) : Sty := { s with ua := A, uc := c }
theorem mgV_moved (s : Sty) (A : Option Addr) (c k : Nat) : mgV (s.moved A c) k = mgV s k := by
  have key : ∀ d k, 4 - k = d → mgV (s.moved A c) k = mgV s k := by
    intro d
    induction d with
    | zero => intro k h; rw [mgV.eq_def (s.moved A c), if_neg (show ¬ k < 4 by omega), mgV.eq_def s, if_neg (show ¬ k < 4 by omega)]
    | succ d ih => intro k h; rw [mgV.eq_def (s.moved A c), if_pos (show k < 4 by omega), mgV.eq_def s, if_pos (show k < 4 by omega), ih (k + 1) (by omega)]; rfl
  exact key _ k rfl
theorem wdV_moved (s : Sty) (A : Option Addr) (c k : Nat) : wdV (s.moved A c) k = wdV s k := by
  have key : ∀ d k, 4 - k = d → wdV (s.moved A c) k = wdV s k := by
    intro d
    induction d with
    | zero => intro k h; rw [wdV.eq_def (s.moved A c), if_neg (show ¬ k < 4 by omega), wdV.eq_def s, if_neg (show ¬ k < 4 by omega)]
    | succ d ih => intro k h; rw [wdV.eq_def (s.moved A c), if_pos (show k < 4 by omega), wdV.eq_def s, if_pos (show k < 4 by omega), ih (k + 1) (by omega)]; rfl
  exact key _ k rfl
theorem hgV_moved (s : Sty) (A : Option Addr) (c k : Nat) : hgV (s.moved A c) k = hgV s k := by
  have key : ∀ d k, 3 - k = d → hgV (s.moved A c) k = hgV s k := by
    intro d
    induction d with
    | zero => intro k h; rw [hgV.eq_def (s.moved A c), if_neg (show ¬ k < 3 by omega), hgV.eq_def s, if_neg (show ¬ k < 3 by omega)]
    | succ d ih => intro k h; rw [hgV.eq_def (s.moved A c), if_pos (show k < 3 by omega), hgV.eq_def s, if_pos (show k < 3 by omega), ih (k + 1) (by omega)]; rfl
  exact key _ k rfl
theorem zbV_moved (s : Sty) (A : Option Addr) (c k : Nat) : zbV (s.moved A c) k = zbV s k := by
  have key : ∀ d k, 4 - k = d → zbV (s.moved A c) k = zbV s k := by
    intro d
    induction d with
    | zero => intro k h; rw [zbV.eq_def (s.moved A c), if_neg (show ¬ k < 4 by omega), zbV.eq_def s, if_neg (show ¬ k < 4 by omega)]
    | succ d ih => intro k h; rw [zbV.eq_def (s.moved A c), if_pos (show k < 4 by omega), zbV.eq_def s, if_pos (show k < 4 by omega), ih (k + 1) (by omega)]; rfl
  exact key _ k rfl
theorem zlV_moved (s : Sty) (A : Option Addr) (c k : Nat) : zlV (s.moved A c) k = zlV s k := by
  have key : ∀ d k, 11 - k = d → zlV (s.moved A c) k = zlV s k := by
    intro d
    induction d with
    | zero => intro k h; rw [zlV.eq_def (s.moved A c), if_neg (show ¬ k < 11 by omega), zlV.eq_def s, if_neg (show ¬ k < 11 by omega)]
    | succ d ih => intro k h; rw [zlV.eq_def (s.moved A c), if_pos (show k < 11 by omega), zlV.eq_def s, if_pos (show k < 11 by omega), ih (k + 1) (by omega)]; rfl
  exact key _ k rfl
theorem right_moved (s : Sty) (A : Option Addr) (c : Nat) : rightV (s.moved A c) = rightV s := by
  unfold rightV boxV emptyV
  rw [mgV_moved, wdV_moved, hgV_moved, zbV_moved, zlV_moved]; rfl
theorem loose_moved (s : Sty) (A : Option Addr) (c : Nat) : looseV (s.moved A c) = looseV s := rfl
/-- the same nodes, but for where their units lie -/
def LikeN (ns ms : List Nd) : Prop := ns.length = ms.length ∧ ∀ (i : Nat) (n m : Nd), ns[i]? = some n → ms[i]? = some m → m.p = n.p ∧ ∃ A c, m.s = n.s.moved A c
section
variable {ns ms : List Nd} (L : LikeN ns ms)
include L
theorem like_none {i : Nat} (h : ns[i]? = none) : ms[i]? = none := by
  rw [List.getElem?_eq_none_iff] at h ⊢; rw [← L.1]; exact h
theorem like_some {i : Nat} {n : Nd} (h : ns[i]? = some n) : ∃ m, ms[i]? = some m ∧ m.p = n.p ∧ ∃ A c, m.s = n.s.moved A c := by
  have hi := (List.getElem?_eq_some_iff.1 h).1
  have hm : ms[i]? = some (ms[i]'(by rw [← L.1]; exact hi)) := List.getElem?_eq_getElem _
  exact ⟨_, hm, L.2 i n _ h hm⟩
theorem like_p (i : Nat) : nP ms i = nP ns i := by
  unfold nP
  cases h : ns[i]? with
  | none => rw [like_none L h]
  | some n => obtain ⟨m, hm, hp, _⟩ := like_some L h; rw [hm]; exact hp
theorem like_par (i : Nat) : parN ms i = parN ns i := by unfold parN; rw [like_p L]
theorem like_dep (i : Nat) : dep ms i = dep ns i := by
  induction i using Nat.strongRecOn with
  | _ i ih =>
    rw [dep_eq, dep_eq, like_par L, depI, depI]
    split
    · exact congrArg (· + 1) (ih _ (by have := parN_lt ns i; omega))
    · rfl
theorem like_bel (o : Int) (i : Nat) : bel ms o i = bel ns o i := by
  induction i using Nat.strongRecOn with
  | _ i ih =>
    rw [bel_eq, bel_eq, like_par L, belI, belI]
    split
    · rw [ih _ (by have := parN_lt ns i; omega)]
    · rfl
theorem like_first (p : Int) (i k : Nat) : firstN ms p i k = firstN ns p i k := by
  have key : ∀ d k, i - k = d → firstN ms p i k = firstN ns p i k := by
    intro d
    induction d with
    | zero => intro k h; rw [firstN.eq_def ms, if_neg (by omega), firstN.eq_def ns, if_neg (by omega)]
    | succ d ih =>
      intro k h
      rw [firstN.eq_def ms, if_pos (show k < i by omega), firstN.eq_def ns, if_pos (show k < i by omega), like_par L, ih (k + 1) (by omega)]
  exact key _ k rfl
theorem like_kind (i : Nat) : nK ms i = nK ns i := by
  unfold nK
  cases h : ns[i]? with
  | none => rw [like_none L h]
  | some n => obtain ⟨m, hm, _, A, c, hs⟩ := like_some L h; rw [hm]; simp only [hs]
theorem like_node (i : Nat) : nodeV ms i = nodeV ns i := by
  cases h : ns[i]? with
  | none => unfold nodeV; rw [like_none L h, h]
  | some n =>
    obtain ⟨m, hm, hp, A, c, hs⟩ := like_some L h
    rw [nodeV_of hm, nodeV_of h]
    unfold nodeE
    rw [hp, like_bel L, like_dep L, like_kind L, like_first L, like_kind L, hs, right_moved, loose_moved]
theorem like_bad (k : Nat) : badV ms k = badV ns k := by
  have key : ∀ d k, ns.length - k = d → badV ms k = badV ns k := by
    intro d
    induction d with
    | zero => intro k h; rw [badV.eq_def ms, if_neg (by rw [← L.1]; omega), badV.eq_def ns, if_neg (by omega)]
    | succ d ih =>
      intro k h
      rw [badV.eq_def ms, if_pos (show k < ms.length by rw [← L.1]; omega), badV.eq_def ns, if_pos (show k < ns.length by omega), like_node L, ih (k + 1) (by omega)]
  exact key _ k rfl
theorem like_check (av : List Int) (view : Int) : checkV ms av view = checkV ns av view := by
  unfold checkV
  rw [like_bad L, L.1]
end
end Go.Proofs.Ytnolbmfjgfojhaa
namespace Go.Proofs.Ytnolbmfjgfojhaa
open Go.RowKit
theorem last_end {ns : List Nd} (h : TOk ns) {i : Nat} (hi : i < ns.length) : lastK ns i ns.length = endN ns i - 1 := by
  obtain ⟨h1, h2⟩ := lastK_is ns i ns.length
  have g := endN_gt ns i
  have l := endN_le (ns := ns) hi
  have up : lastK ns i ns.length < endN ns i := by
    rcases h1 with e | ⟨_, hl, hb⟩
    · omega
    · have := ok_stretch h (i := i) hl
      rw [sub, hb, Bool.or_true] at this
      exact (of_decide_eq_true this.symm).2
  have dn : endN ns i - 1 ≤ lastK ns i ns.length := by
    by_cases e : endN ns i - 1 = i
    · rcases h1 with e2 | ⟨h3, _⟩ <;> omega
    · refine h2 _ (by omega) ?_
      have := ok_stretch h (i := i) (j := endN ns i - 1) (by omega)
      rw [decide_eq_true (by omega), sub, decide_eq_false e, Bool.false_or] at this
      exact this
  omega
theorem kids_gap {ns : List Nd} {i a : Nat} : ∀ b, a ≤ b → (∀ k, a ≤ k → k < b → parN ns k ≠ i) → kidsN ns b i = kidsN ns a i
  | 0, h, _ => by rw [show a = 0 by omega]
  | b + 1, h, hn => by
    by_cases e : a = b + 1
    · rw [e]
    · rw [kidsN_succ, if_neg (hn b (by omega) (by omega)), kids_gap b (by omega) (fun k h1 h2 => hn k h1 (by omega))]
theorem kids_pre {ns : List Nd} {i a : Nat} : ∀ b, a ≤ b → ∃ r, kidsN ns b i = kidsN ns a i ++ r
  | 0, h => ⟨[], by rw [show a = 0 by omega, List.append_nil]⟩
  | b + 1, h => by
    by_cases e : a = b + 1
    · exact ⟨[], by rw [e, List.append_nil]⟩
    · obtain ⟨r, hr⟩ := kids_pre (ns := ns) (i := i) b (by omega : a ≤ b)
      rw [kidsN_succ, hr]
      split
      · exact ⟨r ++ [(b : Int)], by rw [List.append_assoc]⟩
      · exact ⟨r, rfl⟩
/-- the first q children are gone through, and the next stretch begins here -/
structure ShAt (ns : List Nd) (i q next : Nat) : Prop where
  lt : i < next
  le : next ≤ endN ns i
  at_ : next = i + 1 ∨ ∃ c : Nat, c < ns.length ∧ parN ns c = i ∧ next = endN ns c
  kids : kidsN ns next i = (kidsN ns ns.length i).take q
  few : q ≤ (kidsN ns ns.length i).length
theorem sh_start {ns : List Nd} (i : Nat) : ShAt ns i 0 (i + 1) :=
  ⟨by omega, endN_gt ns i, .inl rfl, by
    rw [kids_gap (a := 0) (i + 1) (by omega) (fun k _ hk e => by have := parN_lt ns k; omega), kidsN_0, List.take_zero], by omega⟩
theorem sh_end {ns : List Nd} (h : TOk ns) {i q next : Nat} (hi : i < ns.length) (s : ShAt ns i q next) (hn : ¬ (next < ns.length ∧ parN ns next = i)) :
    next = endN ns i ∧ q = (kidsN ns ns.length i).length := by
  have l := endN_le (ns := ns) hi
  have e : next = endN ns i := by
    by_cases hl : next < ns.length
    · rcases ok_next h hl s.lt s.at_ with ⟨h1, _⟩ | ⟨_, h2⟩
      · exact absurd ⟨hl, h1⟩ hn
      · exact h2
    · have := s.le; omega
  refine ⟨e, ?_⟩
  have hg := kids_gap (ns := ns) (i := i) (a := next) ns.length (by omega) (fun k h1 h2 hp => by
    have := ok_stretch h (i := i) h2
    rw [sub, bel_par hp, sub_self, Bool.or_true] at this
    have := (of_decide_eq_true this.symm).2
    omega)
  have := congrArg List.length (hg.trans s.kids)
  rw [List.length_take] at this
  have := s.few
  omega
theorem sh_step {ns : List Nd} (h : TOk ns) {i q next : Nat} (s : ShAt ns i q next) (hl : next < ns.length) (hp : parN ns next = i) :
    (kidsN ns ns.length i)[q]? = some (next : Int) ∧ ShAt ns i (q + 1) (endN ns next) := by
  have hg := endN_gt ns next
  have hle := endN_le (ns := ns) hl
  have e1 : kidsN ns (endN ns next) i = (kidsN ns ns.length i).take q ++ [(next : Int)] := by
    rw [kids_gap (a := next + 1) (endN ns next) (by omega) (fun k h1 h2 hpk => by
      have h3 := ok_stretch h (i := next) (j := k) (by omega)
      have hne : ¬ k = next := by omega
      rw [decide_eq_true (by omega), sub, decide_eq_false hne, Bool.false_or, bel_par hpk] at h3
      have := sub_le h3
      have := s.lt
      omega), kidsN_succ, if_pos hp, s.kids]
  obtain ⟨r, hr⟩ := kids_pre (ns := ns) (i := i) ns.length hle
  have hf := s.few
  rw [e1, List.append_assoc] at hr
  have hs1 := s.lt
  generalize hL : kidsN ns ns.length i = L at *
  have hq : (L.take q).length = q := by rw [List.length_take]; omega
  have e2 : L[q]? = some (next : Int) := by
    rw [hr, List.getElem?_append_right (by omega), hq, Nat.sub_self]; rfl
  have hql : q < L.length := (List.getElem?_eq_some_iff.1 e2).1
  exact ⟨e2, by omega, ok_end_kid h hl hp, .inr ⟨next, hl, hp, rfl⟩, by rw [hL, e1, List.take_add_one, e2]; rfl, by rw [hL]; omega⟩
end Go.Proofs.Ytnolbmfjgfojhaa
namespace Go.Proofs.Ytnolbmfjgfojhaa
open Go.RowKit
theorem unitsV_ge {ns : List Nd} {k : Nat} {n : Nd} (h : ns[k]? = some n) : min n.s.ul 5000 ≤ unitsV ns ns.length := by
  have h1 := unitsV_succ h
  have h2 := unitsV_le ns (k := k + 1) (List.getElem?_eq_some_iff.1 h).1
  omega
theorem vast_units {ns : List Nd} {al : Nat} (h : vastV ns al = false) : al ≤ 5000 ∧ ∀ n ∈ ns, n.s.ul ≤ 5000 := by
  have h := of_decide_eq_false h
  refine ⟨by omega, fun n hn => ?_⟩
  obtain ⟨k, hk, hg⟩ := List.getElem_of_mem hn
  have := unitsV_ge (show ns[k]? = some n by rw [← hg]; exact List.getElem?_eq_getElem hk)
  have := List.length_pos_of_mem hn
  omega
theorem Rd.grownP {w w' : World} {k n : Nat} {A : Option Addr} {xs : List Value} (h : Rd w k A n xs) {row : Option Nat} (hg : w.grownBy w' row) (hne : 0 < n → ∀ b off, A = some ⟨b, off, none⟩ → row ≠ some b) : Rd w' k A n xs :=
  ⟨h.len, fun hn => by
    obtain ⟨b, off, rfl, hb, hc⟩ := h.at_ hn
    refine ⟨b, off, rfl, Nat.lt_of_lt_of_le hb hg.size, fun j u hu => ?_⟩
    rw [World.cell?_of_block (hg.block b hb (fun e => hne hn b off rfl e.symm))]
    exact hc j u hu⟩
/-- units lie there, behind a block gr and not in a row's block -/
structure UnAt (wr : World) (gr : Nat) (row : Option Nat) (A : Option Addr) (n : Nat) (us : List Int) : Prop where
  rd : Rd wr 1 A n (u16s us)
  far : 0 < n → ∀ b off, A = some ⟨b, off, none⟩ → row ≠ some b ∧ gr < b
section
variable {w wr wr' : World} {gr n : Nat} {row row' : Option Nat} {A : Option Addr} {us : List Int}
theorem UnAt.ext (h : UnAt wr gr row A n us) (e : Ext wr wr') : UnAt wr' gr row A n us := ⟨h.rd.ext e, h.far⟩
theorem UnAt.grow (h : UnAt wr gr row A n us) (hg : wr.grownBy wr' row) (hr : row' = row ∨ row' = some wr.heap.size) : UnAt wr' gr row' A n us := by
  refine ⟨h.rd.grownP hg (fun h0 b off e => (h.far h0 b off e).1), fun h0 b off e => ⟨?_, (h.far h0 b off e).2⟩⟩
  rcases hr with rfl | rfl
  · exact (h.far h0 b off e).1
  · obtain ⟨b', off', e', hb, _⟩ := h.rd.at_ h0
    rw [e] at e'
    injection e' with e'
    injection e' with e1 e2
    subst e1
    intro he
    have := Option.some.inj he
    omega
theorem UnAt.res (h : UnAt wr gr row A n us) (hg : wr.grownBy wr' (some gr)) : UnAt wr' gr row A n us :=
  ⟨h.rd.grownP hg (fun h0 b off e he => by have := (h.far h0 b off e).2; have := Option.some.inj he; omega), h.far⟩
end
/-- the first nodes lie there anew -/
def CopyAt (w wr : World) (gr : Nat) (row : Option Nat) (ns ms : List Nd) : Prop :=
  ∀ (j : Nat) (n m : Nd), ns[j]? = some n → ms[j]? = some m → m.p = n.p ∧ ∃ A c us, m.s = n.s.moved A c ∧ Rd w 1 n.s.ua n.s.ul (u16s us) ∧ UnAt wr gr row A n.s.ul us
section
variable {w wr wr' : World} {gr : Nat} {row row' : Option Nat} {ns ms : List Nd}
theorem CopyAt.map (h : CopyAt w wr gr row ns ms) (f : ∀ A n us, UnAt wr gr row A n us → UnAt wr' gr row' A n us) : CopyAt w wr' gr row' ns ms := by
  intro j n m hn hm
  obtain ⟨h1, A, c, us, h2, h3, h4⟩ := h j n m hn hm
  exact ⟨h1, A, c, us, h2, h3, f _ _ _ h4⟩
theorem CopyAt.nil : CopyAt w wr gr row ns [] := fun j n m _ hm => by cases hm
theorem CopyAt.push (h : CopyAt w wr gr row ns ms) {n : Nd} (hn : ns[ms.length]? = some n) {A : Option Addr} {c : Nat} {us : List Int} (hr : Rd w 1 n.s.ua n.s.ul (u16s us)) (hu : UnAt wr gr row A n.s.ul us) :
    CopyAt w wr gr row ns (ms ++ [⟨n.p, n.s.moved A c⟩]) := by
  intro j n' m' hn' hm'
  by_cases e : j < ms.length
  · rw [List.getElem?_append_left e] at hm'
    exact h j n' m' hn' hm'
  · have hj := (List.getElem?_eq_some_iff.1 hm').1
    rw [List.length_append, List.length_singleton] at hj
    obtain rfl : j = ms.length := by omega
    rw [hn] at hn'
    rw [List.getElem?_append_right (Nat.le_refl _), Nat.sub_self] at hm'
    obtain rfl := Option.some.inj hn'
    obtain rfl := Option.some.inj hm'
    exact ⟨rfl, A, c, us, rfl, hr, hu⟩
theorem CopyAt.like (h : CopyAt w wr gr row ns ms) (hl : ns.length = ms.length) : LikeN ns ms := ⟨hl, fun i n m hn hm => by
  obtain ⟨h1, A, c, _, h2, _⟩ := h i n m hn hm
  exact ⟨h1, A, c, h2⟩⟩
end
end Go.Proofs.Ytnolbmfjgfojhaa
namespace Go.Proofs.Ytnolbmfjgfojhaa
open Go.RowKit
theorem i64_parts : (Try.prog.info? 2).map (fun i => (i.zero, i.size, i.bytes)) = some (some (.int .i64 0), 1, 8) := by kernel_rfl
theorem u16_parts : (Try.prog.info? 48).map (fun i => (i.zero, i.size, i.bytes)) = some (some (.int .u16 0), 1, 2) := by kernel_rfl
theorem ints_ones (l : List Int) : ∀ u ∈ ints l, u.oneCell' = true := by
  intro u hu
  obtain ⟨x, _, rfl⟩ := List.mem_map.1 hu
  rfl
theorem info_nd' (n : Nd) : (Try.prog.info? 47).map (·.size) = some n.cells.toArray.size := by kernel_rfl
theorem nd_moved (p : Int) (s : Sty) (A : Option Addr) (c : Nat) : (Nd.cells ⟨p, s⟩).toArray.setIfInBounds 43 (.slice A s.ul c) = (Nd.cells ⟨p, s.moved A c⟩).toArray := by rfl
theorem blk_types {w : World} {q p : Nat} {t u : TypeId} {cs ds : Array Value} (h : Blk w q t cs) (k : Blk w p u ds) (hn : t ≠ u) : p ≠ q := by
  rintro rfl
  have := Option.some.inj (h.symm.trans k)
  injection this with _ h2 _
  exact hn h2
/-- a copy of a tree -/
def CopyOut (w : World) (t : Tr) (ns : List Nd) (av : List Int) (e : Ending) (w' : World) : Prop :=
  ∃ (t' : Tr) (ms : List Nd) (gv : Nat) (row : Option Nat), e = .returned (.agg t'.cs) ∧ TrIn w' t' ms av ∧ t'.nl = t.nl ∧ t'.al = t.al ∧ t'.view = t.view ∧ ms.length = ns.length ∧ CopyAt w w' gv row ns ms ∧ Ext w w'
section
variable (t : Tr) (ns : List Nd) (av : List Int)
set_option maxRecDepth 100000 in
set_option maxHeartbeats 16000000 in
theorem copy_any (w : World) (h : TrIn w t ns av) (hm : t.nl ≤ 1000000) (ha : t.al ≤ 1000000) (hu : ∀ n ∈ ns, n.s.ul ≤ 1000000 ∧ ∃ us : List Int, Rd w 1 n.s.ua n.s.ul (u16s us)) :
    Calls Try.prog 17 #[.agg t.cs] w (CopyOut w t ns av) := by
  have hl := h.nodes.nlen
  have hN := h.nodes
  have hA := h.advs
  have HU := hide hu
  obtain ⟨na, nl, nc, aa, al, ac, view⟩ := t
  simp only at hm ha hl hN hA
  have HL := hide hl
  obtain ⟨i0, hi0, hz0, hz1, hz2⟩ := node_all
  have HI := hide (And.intro hi0 (And.intro hz0 (And.intro hz1 hz2)))
  obtain ⟨i1, hi1, hy0, hy1, hy2⟩ := info_parts i64_parts
  have HI1 := hide (And.intro hi1 (And.intro hy0 (And.intro hy1 hy2)))
  obtain ⟨i2, hi2, hx0, hx1, hx2⟩ := info_parts u16_parts
  have HI2 := hide (And.intro hi2 (And.intro hx0 (And.intro hx1 hx2)))
  clear h hl hu hi0 hz0 hz1 hz2 hi1 hy0 hy1 hy2 hi2 hx0 hx1 hx2
  go_enter Try.func17, Try.ntmps17
  go_upto_region 1 with fail
  have BT : Blk ((w.alloc (.cells (Tr.cs ⟨na, nl, nc, aa, al, ac, view⟩) 25)).alloc (.cells #[.slice none 0 0, .slice none 0 0, .int .i64 0] 25)) w.heap.size 25 (Tr.cs ⟨na, nl, nc, aa, al, ac, view⟩) := (Blk.new _ _ _).alloc _
  have BR : Blk ((w.alloc (.cells (Tr.cs ⟨na, nl, nc, aa, al, ac, view⟩) 25)).alloc (.cells #[.slice none 0 0, .slice none 0 0, .int .i64 0] 25)) (w.heap.size + 1) 25 #[.slice none 0 0, .slice none 0 0, .int .i64 0] := Blk.new1 _ _ _ _
  have E1 : Ext w ((w.alloc (.cells (Tr.cs ⟨na, nl, nc, aa, al, ac, view⟩) 25)).alloc (.cells #[.slice none 0 0, .slice none 0 0, .int .i64 0] 25)) := ((Ext.refl _).alloc _).alloc _
  have hs1 : ((w.alloc (.cells (Tr.cs ⟨na, nl, nc, aa, al, ac, view⟩) 25)).alloc (.cells #[.slice none 0 0, .slice none 0 0, .int .i64 0] 25)).heap.size = w.heap.size + 2 := by simp
  have HAR := hide (hA.ext E1)
  generalize (w.alloc (.cells (Tr.cs ⟨na, nl, nc, aa, al, ac, view⟩) 25)).alloc (.cells #[.slice none 0 0, .slice none 0 0, .int .i64 0] 25) = W1 at *
  generalize hg : w.heap.size = g at *
  have HG := hide hg
  clear hg hA
  refine wp_region_linT (by kernel_rfl) (fun w' => (ExtX W1 w' [])) (fun ii vv ww => match ii with | 0 => ∃ q, vv = .slice (some ⟨q, 0, none⟩) 0 0 ∧ g + 2 ≤ q ∧ Blk ww q 2 #[] | 1 => vv = .pointer (some ⟨g, 1, none⟩) | 2 => vv = .slice aa al ac | 3 => ∃ A c, vv = .slice A al c ∧ ww.ownsRow (g + 2) 2 1 (.slice A al c) al (ints av) | 4 => vv = .pointer (some ⟨g, 2, none⟩) | 5 => vv = .int .i64 view | 6 => ∃ A c, vv = .agg #[.slice none 0 0, .slice A al c, .int .i64 view] ∧ ww.ownsRow (g + 2) 2 1 (.slice A al c) al (ints av) | 7 => ∃ q, vv = .pointer (some ⟨q, 0, none⟩) ∧ g + 2 ≤ q ∧ Blk ww q 25 #[.slice none 0 0, .slice none 0 0, .int .i64 0] | _ => True) (fun ii => match ii with | 2 => [(1, 7)] | 3 => [(0, 6), (2, 8)] | 5 => [(4, 10)] | 6 => [(3, 9), (5, 11)] | 8 => [(7, 3), (6, 12)] | _ => []) (fun ii => match ii with | 1 => [1] | 4 => [1] | _ => []) (fun ii => match ii with | 0 => [1, 2, 4, 5, 7] | 1 => [0, 4, 5, 7] | 2 => [0, 4, 5, 7] | 3 => [4, 5, 7] | 4 => [1, 0, 2, 3, 7] | 5 => [1, 0, 2, 3, 7] | 6 => [7] | 7 => [1, 0, 2, 4, 3, 5, 6] | _ => []) [] [0, 0, 2, 7, 0, 16, 63, 0, 255] (fun _ => True) [] (fun FT wT => ∃ gv A c, FT 7 = .pointer (some ⟨gv, 0, none⟩) ∧ g + 2 ≤ gv ∧ Value.ownBlock (.slice A al c) ≠ some gv ∧ Blk wT gv 25 #[.slice none 0 0, .slice A al c, .int .i64 view] ∧ wT.ownsRow (g + 2) 2 1 (.slice A al c) al (ints av)) 8 39 rfl (by kernel_rfl) (by kernel_rfl) (.inl (by kernel_rfl)) (ExtX.start _ _) trivial ?_ ?_
  · rename_i hcont; clear hcont
    refine ⟨?_, ?_, ?_, ?_, ?_, ?_, ?_, ?_, ?_, trivial⟩
    · refine stepT_plain rfl ?_
      rintro F a w1 jE - - - K hK
      have hx : Ext w1 (w1.alloc (.cells #[] 2)) := (Ext.refl _).alloc _
      have hz := jE.size
      go_simp
      exact hK _ _ (jE.trans hx) ⟨_, rfl, by omega, Blk.new _ _ _⟩ (by intro jq hj uq h; have hj : jq ∈ [1, 2, 4, 5, 7] := hj; simp only [List.mem_cons, List.not_mem_nil, or_false] at hj; rcases hj with rfl | rfl | rfl | rfl | rfl; exact h; exact h; exact h; exact h; exact (have h : ∃ q, uq = .pointer (some ⟨q, 0, none⟩) ∧ g + 2 ≤ q ∧ Blk w1 q 25 #[.slice none 0 0, .slice none 0 0, .int .i64 0] := h; h.imp fun _ k => ⟨k.1, k.2.1, k.2.2.ext hx⟩)) (fun _ => trivial) (fun he => absurd he (by decide))
    · refine stepT_plain rfl ?_
      rintro F a w1 jE - ⟨t1, -⟩ - K hK
      have t1 : a.tmps[1]? = some (.pointer (some ⟨g, 0, none⟩)) := t1
      go_simp
      exact hK _ _ jE rfl (fun _ _ _ h => h) (fun _ => trivial) (fun he => absurd he (by decide))
    · refine stepT_plain rfl ?_
      rintro F a w1 jE ⟨h1, t7, -⟩ - - K hK
      have h1 : (F 1) = .pointer (some ⟨g, 1, none⟩) := h1
      rw [h1] at t7
      clear h1
      have c := (jE.blk BT (by simp)).cell
      go_simp
      exact hK _ _ jE rfl (fun _ _ _ h => h) (fun _ => trivial) (fun he => absurd he (by decide))
    · refine stepT_plain rfl ?_
      rintro F a w1 jE ⟨h0, t6, h2, t8, -⟩ - - K hK
      have h0 : ∃ q, (F 0) = .slice (some ⟨q, 0, none⟩) 0 0 ∧ g + 2 ≤ q ∧ Blk w1 q 2 #[] := h0
      have h2 : (F 2) = .slice aa al ac := h2
      rw [h2] at t8
      clear h2
      obtain ⟨q, hv, hq, B0⟩ := h0
      rw [hv] at t6
      have hz := jE.size
      have O0 : w1.ownsRow (g + 2) 2 1 (.slice (some ⟨q, 0, none⟩) 0 0) 0 [] := ⟨rfl, .inr ⟨q, 0, #[], rfl, hq, B0, Nat.le_refl _, by simp [maxLen], rfl, rfl⟩⟩
      refine wp_append_rd (.tmp 6) (.tmp 8) _ rfl (g + 2) 2 i1 _ 1 8 Try.underlying23 (unhide HI1).1 (unhide HI1).2.1 (unhide HI1).2.2.1 (unhide HI1).2.2.2 rfl (by omega) _ 0 [] (eval_tmp t6) O0 aa al ac (ints av) (eval_tmp t8) ((unhide HAR).ext (jE.ext (Ext.refl _) (by simp))) (ints_ones _) (by simp only [maxLen]; omega) (by omega) (by omega) ?_
      intro A' c' w2 own4 g4 at4
      rw [Nat.zero_add, List.nil_append] at own4
      rw [Nat.zero_add]
      exact hK _ _ (jE.grown g4 (fun m e => by have := (O0.lt m e).1; omega)) ⟨A', c', rfl, own4⟩ (by intro jq hj uq h; have hj : jq ∈ [4, 5, 7] := hj; simp only [List.mem_cons, List.not_mem_nil, or_false] at hj; rcases hj with rfl | rfl | rfl; exact h; exact h; exact (have h : ∃ q, uq = .pointer (some ⟨q, 0, none⟩) ∧ g + 2 ≤ q ∧ Blk w1 q 25 #[.slice none 0 0, .slice none 0 0, .int .i64 0] := h; h.imp fun p k => ⟨k.1, k.2.1, k.2.2.grown g4 (fun e => by have e := Option.some.inj e; exact blk_types B0 k.2.2 (by decide) e.symm)⟩)) (fun _ => trivial) (fun he => absurd he (by decide))
    · refine stepT_plain rfl ?_
      rintro F a w1 jE - ⟨t1, -⟩ - K hK
      have t1 : a.tmps[1]? = some (.pointer (some ⟨g, 0, none⟩)) := t1
      go_simp
      exact hK _ _ jE rfl (fun _ _ _ h => h) (fun _ => trivial) (fun he => absurd he (by decide))
    · refine stepT_plain rfl ?_
      rintro F a w1 jE ⟨h4, t10, -⟩ - - K hK
      have h4 : (F 4) = .pointer (some ⟨g, 2, none⟩) := h4
      rw [h4] at t10
      clear h4
      have c := (jE.blk BT (by simp)).cell
      go_simp
      exact hK _ _ jE rfl (fun _ _ _ h => h) (fun _ => trivial) (fun he => absurd he (by decide))
    · refine stepT_plain rfl ?_
      rintro F a w1 jE ⟨h3, t9, h5, t11, -⟩ - - K hK
      have h3 : ∃ A c, (F 3) = .slice A al c ∧ w1.ownsRow (g + 2) 2 1 (.slice A al c) al (ints av) := h3
      have h5 : (F 5) = .int .i64 view := h5
      rw [h5] at t11
      clear h5
      obtain ⟨A, c, hv, OA⟩ := h3
      rw [hv] at t9
      refine wp_buildTo 25 _ rfl #[.slice none 0 0, .slice A al c, .int .i64 view] (by simp only [List.map_toArray, List.map_cons, List.map_nil]; rw [eval_tmp t9, eval_tmp t11]; kernel_rfl) ?_
      exact hK _ _ jE ⟨A, c, rfl, OA⟩ (fun _ _ _ h => h) (fun _ => trivial) (fun he => absurd he (by decide))
    · refine stepT_plain rfl ?_
      rintro F a w1 jE - - - K hK
      have hz := jE.size
      refine wp_alloc_var 25 rfl #[.slice none 0 0, .slice none 0 0, .int .i64 0] zero_tr ?_
      have hx : Ext w1 (w1.alloc (.cells #[.slice none 0 0, .slice none 0 0, .int .i64 0] 25)) := (Ext.refl _).alloc _
      exact hK _ _ (jE.trans hx) ⟨_, rfl, by omega, Blk.new _ _ _⟩ (by intro jq hj uq h; have hj : jq ∈ [1, 0, 2, 4, 3, 5, 6] := hj; simp only [List.mem_cons, List.not_mem_nil, or_false] at hj; rcases hj with rfl | rfl | rfl | rfl | rfl | rfl | rfl; exact h; exact (have h : ∃ q, uq = .slice (some ⟨q, 0, none⟩) 0 0 ∧ g + 2 ≤ q ∧ Blk w1 q 2 #[] := h; h.imp fun _ k => ⟨k.1, k.2.1, k.2.2.ext hx⟩); exact h; exact h; exact (have h : ∃ A c, uq = .slice A al c ∧ w1.ownsRow (g + 2) 2 1 (.slice A al c) al (ints av) := h; h.imp fun _ k => k.imp fun _ k => ⟨k.1, own_far k.2 hx⟩); exact h; exact (have h : ∃ A c, uq = .agg #[.slice none 0 0, .slice A al c, .int .i64 view] ∧ w1.ownsRow (g + 2) 2 1 (.slice A al c) al (ints av) := h; h.imp fun _ k => k.imp fun _ k => ⟨k.1, own_far k.2 hx⟩)) (fun _ => trivial) (fun he => absurd he (by decide))
    · refine stepT_plain rfl ?_
      rintro F a w1 jE ⟨h7, t3, h6, t12, -⟩ - - K hK
      have h7 : ∃ q, (F 7) = .pointer (some ⟨q, 0, none⟩) ∧ g + 2 ≤ q ∧ Blk w1 q 25 #[.slice none 0 0, .slice none 0 0, .int .i64 0] := h7
      have h6 : ∃ A c, (F 6) = .agg #[.slice none 0 0, .slice A al c, .int .i64 view] ∧ w1.ownsRow (g + 2) 2 1 (.slice A al c) al (ints av) := h6
      obtain ⟨gv, hv, hge, hB⟩ := h7
      rw [hv] at t3
      obtain ⟨A, c, hv2, OA⟩ := h6
      rw [hv2] at t12
      have hz := jE.size
      have hne := Lib.ownBlock_ne OA hB (by decide)
      refine wp_store_blk 25 _ _ rfl gv (eval_tmp t3) #[.slice none 0 0, .slice A al c, .int .i64 view] (eval_tmp t12) 25 #[.slice none 0 0, .slice none 0 0, .int .i64 0] hB (by kernel_rfl) rfl (by kernel_rfl) ?_
      intro w2 B2 g2 z2
      exact hK undef _ (jE.grownIn g2 (.inr (by omega))) trivial (fun _ hj _ _ => (List.not_mem_nil hj).elim) (fun _ => trivial) (fun _ => ⟨gv, A, c, hv, hge, hne, B2, OA.kept g2 (.inr hne)⟩)
  · rintro F w9 jE - hT
    obtain ⟨gv, Aa, ca, hgv, hge, hne, BV, OA⟩ := hT (by decide)
    have hx := jE.ext (Ext.refl _) (by simp)
    replace E1 := E1.trans hx
    replace BT := BT.ext hx
    replace BR := BR.ext hx
    clear jE hx HAR hT hs1
    simp only [putL, Act.put, Nat.reduceAdd, Nat.zero_add, List.setIfInBounds_toArray, List.set_cons_succ, List.set_cons_zero]
    rw [hgv]
    clear hgv
    have lv := BV.lt
    have hB : ∀ q, Value.ownBlock (.slice Aa al ca) = some q → q < w9.heap.size ∧ q ≠ gv := fun q e => ⟨(OA.lt q e).2, fun e2 => hne (by rw [e, e2])⟩
    obtain ⟨B, hBs⟩ : ∃ B, w9.heap.size = B := ⟨_, rfl⟩
    rw [hBs] at hB lv
    have HB := hide hB
    have c0 := BT.cell
    have l0 := BT.lt
    clear hne hB
    go_wp2_with fail
    clear c0 l0
    go_loopw [4] (fun v wr => ∃ (i : Nat) (An : Option Addr) (cn : Nat) (ms : List Nd), v = .int .i64 i ∧ i ≤ nl ∧ ms.length = i ∧ Ext w wr ∧ B ≤ wr.heap.size ∧ Blk wr g 25 (Tr.cs ⟨na, nl, nc, aa, al, ac, view⟩) ∧ Blk wr (g + 1) 25 #[.slice none 0 0, .slice none 0 0, .int .i64 0] ∧ Blk wr gv 25 #[.slice An i cn, .slice Aa al ca, .int .i64 view] ∧ wr.ownsRow B 47 44 (.slice An i cn) i (nds ms) ∧ wr.ownsRow (g + 2) 2 1 (.slice Aa al ca) al (ints av) ∧ CopyAt w wr gv (Value.ownBlock (.slice An i cn)) ns ms) (fun v _ => nl - (intOf v).toNat)
    case atStart => exact ⟨0, none, 0, [], rfl, by omega, rfl, E1, by omega, BT, BR, BV, ⟨rfl, .inl ⟨rfl, rfl⟩⟩, OA, CopyAt.nil⟩
    case round =>
      clear E1 BT BR BV OA hBs w9 W1
      obtain ⟨i, An, cn, ms, rfl, i1', hms, E1, hBs, BT, BR, BV, OW, OA, CA⟩ := hrel
      have c0 := BT.cell
      have l0 := BT.lt
      by_cases hi : i < nl
      · have hlen : i < ns.length := by have := unhide HL; omega
        obtain ⟨n, hn⟩ : ∃ n, ns[i]? = some n := ⟨_, List.getElem?_eq_getElem hlen⟩
        obtain ⟨b, off, hna, hb, hmid⟩ := hN.node hn
        obtain ⟨hul, us, hus⟩ := (unhide HU) n (List.mem_of_getElem? hn)
        obtain ⟨p, s⟩ := n
        subst hna
        simp only at hul hus
        have HN := hide hn
        have HMS := hide hms
        have HMID := hide hmid
        have hin : (0 : Int) ≤ (i : Int) ∧ (i : Int) < (nl : Int) := by omega
        clear hn hmid hms
        go_upto_region 5 with fail
        iterate 13 go_step
        refine wpList_load_mid rfl 47 _ rfl b (off + i * 44) rfl (Nd.cells ⟨p, s⟩) _ (fun j v hv => (E1.cells.1 b _ hb).trans ((unhide HMID) j v hv)) Try.underlying47 rfl (info_nd' ⟨p, s⟩) ?_
        simp only [Act.put, List.setIfInBounds_toArray, List.set_cons_succ, List.set_cons_zero]
        refine wpList_alloc_var rfl 47 rfl znd.cells.toArray zero_nd ?_
        intro wa Ba Ea za
        simp only [Act.put, List.setIfInBounds_toArray, List.set_cons_succ, List.set_cons_zero]
        refine wpList_store_blk rfl 47 _ _ rfl wr.heap.size rfl (Nd.cells ⟨p, s⟩).toArray rfl 47 znd.cells.toArray Ba (info_nd' ⟨p, s⟩) rfl (by kernel_rfl) ?_
        intro w3 BN hg3 zs
        simp only [Act.put]
        have F3 : Ext wr w3 := Ext.grown Ea hg3 (fun q e => by injection e with e; omega)
        generalize hgn : wr.heap.size = gn at *
        have hs3 : w3.heap.size = gn + 1 := by omega
        clear Ba Ea za hg3 zs c0 l0 wa
        go_upto_region 6 with fail
        iterate 4 go_step
        have O0 : (w3.alloc (.cells #[] 48)).ownsRow w3.heap.size 48 1 (.slice (some ⟨w3.heap.size, 0, none⟩) 0 0) 0 [] := World.ownsRow_lit (base := w3.heap.size) (e := 48) (size := 1) w3 #[] 0 (by omega) (by simp [maxLen]) rfl
        have F4 : Ext wr (w3.alloc (.cells #[] 48)) := F3.alloc _
        have BN4 := BN.alloc (.cells #[] 48)
        have hs4 : (w3.alloc (.cells #[] 48)).heap.size = gn + 2 := by simp; omega
        rw [hs3] at O0
        generalize w3.alloc (.cells #[] 48) = w4 at *
        clear F3 BN hs3 w3
        have d43 : w4.cell? ⟨gn, 43, none⟩ = some (.slice s.ua s.ul s.uc) := BN4.cell 43
        have l4 := BN4.lt
        iterate 9 go_step
        refine wpList_append_rd rfl (.tmp 25) (.tmp 28) _ rfl (gn + 1) 48 i2 _ 1 2 Try.underlying43 (unhide HI2).1 (unhide HI2).2.1 (unhide HI2).2.2.1 (unhide HI2).2.2.2 rfl (by omega) _ 0 [] rfl O0 _ s.ul s.uc (u16s us) rfl (hus.ext (E1.trans F4)) (u16s_one _) (by simp only [maxLen]; omega) (by omega) (by omega) ?_
        intro A5 c5 w5 own5 g5 at5
        rw [Nat.zero_add, List.nil_append] at own5
        have F5 : Ext wr w5 := Ext.grown F4 g5 (fun q e => by have := (O0.lt q e).1; omega)
        have BN5 := BN4.grown g5 (fun e => by have := (O0.lt _ e).1; omega)
        have hs5 := g5.size
        rw [hs4] at hs5
        rw [Nat.zero_add]
        simp only [Act.put, List.setIfInBounds_toArray, List.set_cons_succ, List.set_cons_zero]
        iterate 6 go_step
        refine wpList_store_cell rfl 43 _ _ rfl gn 43 rfl (.slice A5 s.ul c5) rfl rfl 47 (Nd.cells ⟨p, s⟩).toArray BN5 (show 43 < 44 by decide) (by kernel_rfl) ?_
        intro w6 BN6 g6 zs6
        simp only [Act.put]
        rw [nd_moved] at BN6
        have F6 : Ext wr w6 := Ext.grown F5 g6 (fun q e => by injection e with e; omega)
        have own6 := own5.kept g6 (by
          cases e : Value.ownBlock (.slice A5 s.ul c5) with
          | none => exact .inl rfl
          | some q => exact .inr (fun e2 => by have := (own5.lt q e).1; have e2 := Option.some.inj e2; omega))
        have lgv := BV.lt
        have UA : UnAt w6 gv (Value.ownBlock (.slice An i cn)) A5 s.ul us := ⟨Rd.of_own own6, fun _ q off' e => by
          subst e
          have h1 := (own6.lt q rfl).1
          refine ⟨fun e2 => ?_, by omega⟩
          have := (OW.lt q e2).2
          omega⟩
        have CA6 := (CA.map (fun A n us h => h.ext F6)).push (n := ⟨p, s⟩) (c := c5) (by rw [unhide HMS]; exact unhide HN) hus UA
        have hms6 : (ms ++ [({ p := p, s := s.moved A5 c5 } : Nd)]).length = i + 1 := by rw [List.length_append, unhide HMS]; rfl
        have E6 := E1.trans F6
        have BT6 := BT.ext F6
        have BR6 := BR.ext F6
        have BV6 := BV.ext F6
        have OW6 := own_far OW F6
        have OA6 := own_far OA F6
        have hs6 : gn + 2 ≤ w6.heap.size := by omega
        generalize hn' : ({ p := p, s := s.moved A5 c5 } : Nd) = n' at *
        have HN' := hide hn'
        have HMS6 := hide hms6
        clear hn' hms6 UA own5 own6 g5 at5 g6 zs6 F4 F5 F6 BN4 BN5 O0 hs4 hs5 w4 w5 d43 l4 hus E1 BT BR BV OW OA CA lgv
        have c1 := BV6.cell
        have l1 := BV6.lt
        go_upto_region 7 with fail
        iterate 7 go_step
        refine wpList_load_blk rfl 47 _ rfl gn rfl 47 n'.cells.toArray _ BN6 Try.underlying47 rfl (info_nd' n') ?_
        simp only [Act.put, List.setIfInBounds_toArray, List.set_cons_succ, List.set_cons_zero]
        refine wpList_nodes rfl 1 _ rfl [n'] (by decide) (by simp only [List.map_toArray, List.map_cons, List.map_nil]; exact fill_one n') ?_
        intro w7 B7 E7 z7
        simp only [Act.put, List.setIfInBounds_toArray, List.set_cons_succ, List.set_cons_zero]
        have RS : Rd w7 44 (some ⟨w6.heap.size, 0, none⟩) 1 (nds [n']) := by have := B7.rdk (n := 1) (k := 44) (by rw [List.size_toArray, nds_len]; rfl); simpa using this
        have OW7 := own_far OW6 E7
        have OA7 := own_far OA6 E7
        refine wpList_append_rd rfl (.tmp 33) (.tmp 35) _ rfl B 47 i0 _ 44 328 Try.underlying22 (unhide HI).1 (unhide HI).2.1 (unhide HI).2.2.1 (unhide HI).2.2.2 rfl (by omega) _ i (nds ms) rfl OW7 _ 1 1 (nds [n']) rfl RS (nodes_one _) (by simp only [maxLen]; omega) (by omega) (by omega) ?_
        intro A8 c8 w8 own8 g8 at8
        simp only [Act.put, List.setIfInBounds_toArray, List.set_cons_succ, List.set_cons_zero]
        have r8 : ∀ q, Value.ownBlock (.slice An i cn) = some q → B ≤ q := fun q e => (OW7.lt q e).1
        have hb8 := unhide HG
        have E8 : Ext w w8 := Ext.grown (E6.trans E7) g8 (fun j e => by have := r8 j e; omega)
        have BV8 := (BV6.ext E7).grown g8 (fun e => by have := r8 _ e; omega)
        have BT8 := (BT6.ext E7).grown g8 (fun e => by have := r8 _ e; omega)
        have BR8 := (BR6.ext E7).grown g8 (fun e => by have := r8 _ e; omega)
        have CA8 := (CA6.map (fun A n us h => h.ext E7)).map (fun A n us h => h.grow g8 at8)
        have OA8 := OA7.kept g8 (by
          cases e : Value.ownBlock (.slice Aa al ca) with
          | none => exact .inl rfl
          | some q => exact .inr (fun e2 => by have := ((unhide HB) q e).1; have := r8 q e2.symm; omega))
        iterate 3 go_step
        refine wpList_store_cell rfl 22 _ _ rfl gv 0 rfl (.slice A8 (i + 1) c8) rfl rfl 25 #[.slice An i cn, .slice Aa al ca, .int .i64 view] BV8 (show 0 < 3 by decide) (by kernel_rfl) ?_
        intro w9 BV9 g9 z9
        simp only [Act.put]
        have E9 : Ext w w9 := Ext.grown E8 g9 (fun q e => by injection e with e; omega)
        have O9 : w9.ownsRow B 47 44 (.slice A8 (i + 1) c8) (i + 1) (nds ms ++ nds [n']) := own8.kept g9 (by
          cases e : Value.ownBlock (.slice A8 (i + 1) c8) with
          | none => exact .inl rfl
          | some q => exact .inr (fun e2 => by have := (own8.lt q e).1; have e2 := Option.some.inj e2; omega))
        rw [← nds_append] at O9
        have OA9 := OA8.kept g9 (by
          cases e : Value.ownBlock (.slice Aa al ca) with
          | none => exact .inl rfl
          | some q => exact .inr (fun e2 => by have := ((unhide HB) q e).2; have e2 := Option.some.inj e2; omega))
        have CA9 := CA8.map (fun A n us h => h.res g9)
        have BV9' : Blk w9 gv 25 #[.slice A8 (i + 1) c8, .slice Aa al ca, .int .i64 view] := by simpa using BV9
        have BT9 := BT8.grown g9 (fun e => by have e := Option.some.inj e; omega)
        have BR9 := BR8.grown g9 (fun e => by have e := Option.some.inj e; omega)
        have hs9 : B ≤ w9.heap.size := by have := E7.size; have := g8.size; omega
        clear own8 g8 at8 r8 g9 E8 BV8 BT8 BR8 CA8 OA8 OW7 OA7 RS B7 E7 z7 c1 l1 CA6 BV9 OW6 OA6 BT6 BR6 BV6 BN6 E6
        go_wp2_with fail
        go_roundw
        case rel => exact ⟨i + 1, A8, c8, ms ++ [n'], by go_num, by omega, unhide HMS6, E9, hs9, BT9, BR9, BV9', O9, OA9, CA9⟩
        case measure => simp [intOf]; omega
      · have hin : ¬ (i : Int) < (nl : Int) := by omega
        have hin' : i = nl := by omega
        have HMS := hide hms
        have HIN := hide hin'
        clear hms hin'
        go_upto_region 8 with fail
        go_step
        refine wpList_load_blk rfl 25 _ rfl gv rfl 25 #[.slice An i cn, .slice Aa al ca, .int .i64 view] _ BV Try.underlying25 rfl (by kernel_rfl) ?_
        simp only [Act.put, List.setIfInBounds_toArray, List.set_cons_succ, List.set_cons_zero]
        refine wpList_store_blk rfl 25 _ _ rfl (g + 1) rfl #[.slice An i cn, .slice Aa al ca, .int .i64 view] rfl 25 #[.slice none 0 0, .slice none 0 0, .int .i64 0] BR (by kernel_rfl) rfl (by kernel_rfl) ?_
        intro w4 B4 hgr z4
        simp only [Act.put]
        have hb8 := unhide HG
        have E4 : Ext w w4 := Ext.grown E1 hgr (fun q e => by injection e with e; omega)
        have O4 := OW.kept hgr (by
          cases e : Value.ownBlock (.slice An i cn) with
          | none => exact .inl rfl
          | some q => exact .inr (fun e2 => by have := (OW.lt q e).1; have e2 := Option.some.inj e2; have := BR.lt; omega))
        have OA4 := OA.kept hgr (by
          cases e : Value.ownBlock (.slice Aa al ca) with
          | none => exact .inl rfl
          | some q => exact .inr (fun e2 => by have := (OA.lt q e).1; have e2 := Option.some.inj e2; omega))
        have CA4 := CA.map (fun A n us h => (⟨h.rd.grownP hgr (fun h0 b off e e2 => by have := (h.far h0 b off e).2; have e2 := Option.some.inj e2; omega), h.far⟩ : UnAt w4 gv (Value.ownBlock (.slice An i cn)) A n us))
        clear hgr z4 OW OA CA BV BR BT E1 c0 l0
        go_wp2_with fail
        refine bodyPost_ret (results_cell Try.results17 _ w4 (g + 1) 25 #[.slice An i cn, .slice Aa al ca, .int .i64 view] _ rfl B4 Try.underlying25 rfl (by kernel_rfl)) rfl ?_
        exact ⟨⟨An, i, cn, Aa, al, ca, view⟩, ms, gv, _, rfl, ⟨Rd.of_own O4, Rd.of_own OA4⟩, unhide HIN, rfl, rfl, (unhide HMS).trans ((unhide HIN).trans (unhide HL).symm), CA4, E4⟩
end
end Go.Proofs.Ytnolbmfjgfojhaa
