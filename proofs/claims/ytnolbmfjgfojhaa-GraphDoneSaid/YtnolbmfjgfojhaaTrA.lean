/- Trees: the small functions (walks). -/
import Derived.Test.YtnolbmfjgfojhaaTr
namespace Go.Proofs.Ytnolbmfjgfojhaa
open Go.RowKit

def nP (ns : List Nd) (i : Nat) : Int := match ns[i]? with | some n => n.p | none => 0
/-- a node's parent's number; -1: it has none -/
def parN (ns : List Nd) (i : Nat) : Int := par (nP ns i) i
theorem parN_lt (ns : List Nd) (i : Nat) : -1 ≤ parN ns i ∧ parN ns i < i := by
  unfold parN par; split <;> omega
theorem parN_of {ns : List Nd} {i : Nat} {n : Nd} (h : ns[i]? = some n) : parN ns i = par n.p i := by simp [parN, nP, h]
def dep (ns : List Nd) (i : Nat) : Nat := if 0 ≤ parN ns i then dep ns (parN ns i).toNat + 1 else 1
termination_by i
decreasing_by have := parN_lt ns i; omega
theorem dep_le (ns : List Nd) (i : Nat) : 1 ≤ dep ns i ∧ dep ns i ≤ i + 1 := by
  induction i using Nat.strongRecOn with
  | _ i ih =>
    rw [dep]
    split
    · have := parN_lt ns i
      have := ih (parN ns i).toNat (by omega)
      omega
    · omega
/-- what is left of a depth, from a parent's number on -/
def depI (ns : List Nd) (p : Int) : Nat := if 0 ≤ p then dep ns p.toNat else 0
theorem dep_eq (ns : List Nd) (i : Nat) : dep ns i = depI ns (parN ns i) + 1 := by
  rw [dep, depI]; split <;> rfl
/-- is a node below another one? -/
def bel (ns : List Nd) (o : Int) (i : Nat) : Bool := if 0 ≤ parN ns i then (parN ns i == o) || bel ns o (parN ns i).toNat else false
termination_by i
decreasing_by have := parN_lt ns i; omega
def belI (ns : List Nd) (o p : Int) : Bool := if 0 ≤ p then (p == o) || bel ns o p.toNat else false
theorem bel_eq (ns : List Nd) (o : Int) (i : Nat) : bel ns o i = belI ns o (parN ns i) := by
  rw [bel, belI]
/-- the first child of a node ahead of another one, from a number on -/
def firstN (ns : List Nd) (p : Int) (i : Nat) (k : Nat) : Int := if k < i then (if parN ns k = p then (k : Int) else firstN ns p i (k + 1)) else -1
termination_by i - k

section
variable (t : Tr) (ns : List Nd)
set_option maxHeartbeats 400000 in
theorem parent_any (i : Nat) (hi : i < ns.length) (w : World) (h : Rd w 44 t.na t.nl (nds ns)) (hm : t.nl ≤ maxLen) :
    Calls Try.prog 58 #[.agg t.cs, .int .i64 i] w fun e w' => e = .returned (.int .i64 (parN ns i)) ∧ Ext w w' := by
  have hl := h.nlen
  have hi := List.getElem?_eq_getElem hi
  rw [parN_of hi]
  have hlt := (List.getElem?_eq_some_iff.1 hi).1
  obtain ⟨b, off, ha, hb, hc⟩ := h.node hi
  have hc := hc 0 _ rfl
  generalize ns[i] = nd at *
  obtain ⟨p, s⟩ := nd
  obtain ⟨na, nl, nc, aa, al, ac, view⟩ := t
  simp only at ha hm hl h hc
  subst ha
  unfold maxLen at hm
  have hin : (0 : Int) ≤ (i : Int) ∧ (i : Int) < (nl : Int) := by omega
  simp only [Nat.add_zero] at hc
  clear hi h hl
  go_enter Try.func58, Try.ntmps58
  go_wp2
  all_goals go_ret
  all_goals exact ⟨ret1 (by unfold par; first | rw [if_pos (by omega)] | rw [if_neg (by omega)]), (Ext.refl _).alloc _⟩
set_option maxHeartbeats 400000 in
theorem up_any (i : Nat) (hi : i < ns.length) (w : World) (h : Rd w 44 t.na t.nl (nds ns)) (hm : t.nl ≤ maxLen) :
    Calls Try.prog 57 #[.agg t.cs, .int .i64 i] w fun e w' => e = .returned (.int .i64 (parN ns i)) ∧ Ext w w' := by
  have hl := h.nlen
  have hi := List.getElem?_eq_getElem hi
  rw [parN_of hi]
  have hlt := (List.getElem?_eq_some_iff.1 hi).1
  obtain ⟨b, off, ha, hb, hc⟩ := h.node hi
  have hc := hc 0 _ rfl
  generalize ns[i] = nd at *
  obtain ⟨p, s⟩ := nd
  obtain ⟨na, nl, nc, aa, al, ac, view⟩ := t
  simp only at ha hm hl h hc
  subst ha
  unfold maxLen at hm
  have hin : (0 : Int) ≤ (i : Int) ∧ (i : Int) < (nl : Int) := by omega
  simp only [Nat.add_zero] at hc
  clear hi h hl
  go_enter Try.func57, Try.ntmps57
  go_wp2
  all_goals go_ret
  all_goals exact ⟨ret1 (by unfold par; first | rw [if_pos (by omega)] | rw [if_neg (by omega)]), (Ext.refl _).alloc _⟩

set_option maxHeartbeats 1000000 in
theorem depth_any (i : Nat) (hi : i < ns.length) (w : World) (h : Rd w 44 t.na t.nl (nds ns)) (hm : t.nl ≤ maxLen) :
    Calls Try.prog 59 #[.agg t.cs, .int .i64 i] w fun e w' => e = .returned (.int .i64 (dep ns i)) ∧ Ext w w' := by
  have hl := h.nlen
  have hd := dep_le ns i
  have HE := hide (dep_eq ns i)
  have hp := parN_lt ns i
  unfold maxLen at hm
  go_enter Try.func59, Try.ntmps59
  go_wp2_with fail
  refine (parent_any t ns i hi _ (h.alloc _) hm).mono ?_
  rintro e w1 ⟨rfl, hx⟩
  have B1 : Blk w1 w.heap.size 25 t.cs := (Blk.new _ _ _).ext hx
  have E1 : Ext w w1 := ((Ext.refl _).alloc _).trans hx
  clear hx
  go_wp2_with fail
  go_loopw [5, 6] (fun n p wr => ∃ (q : Int) (m : Nat), n = .int .i64 m ∧ p = .int .i64 q ∧ -1 ≤ q ∧ q < ns.length ∧ m + depI ns q = dep ns i ∧ Ext w wr ∧ Blk wr w.heap.size 25 t.cs) (fun _ p _ => (intOf p + 1).toNat)
  case atStart => exact ⟨_, 1, rfl, rfl, by omega, by omega, by have := unhide HE; omega, E1, B1⟩
  case round =>
    clear E1 B1 HE
    obtain ⟨q, m, rfl, rfl, q1, q2, hq, E1, B1⟩ := hrel
    have c1 := B1.cell
    have l1 := B1.lt
    by_cases h0 : 0 ≤ q
    · obtain ⟨k, rfl⟩ : ∃ k : Nat, q = k := ⟨q.toNat, by omega⟩
      have hde := dep_eq ns k
      have hdl := dep_le ns k
      have hpl := parN_lt ns k
      have hdi : depI ns (k : Int) = dep ns k := by unfold depI; rw [if_pos h0]; rfl
      rw [hdi] at hq
      have HQ := hide hq
      have HD := hide hde
      have hm1 : (m : Int) + 1 ≤ ns.length := by omega
      clear hq hde hdi
      go_wp2_with fail
      refine (parent_any t ns k (by omega) _ (h.ext E1) (by unfold maxLen; omega)).mono ?_
      rintro e w2 ⟨rfl, hx⟩
      go_wp2_with fail
      go_roundw
      case rel => exact ⟨_, m + 1, by go_num, rfl, by omega, by omega, by have := unhide HQ; have := unhide HD; omega, E1.trans hx, B1.ext hx⟩
      case measure => simp [intOf]; omega
    · have hdi : depI ns q = 0 := by unfold depI; rw [if_neg h0]
      rw [hdi] at hq
      go_wp2_with fail
      go_ret
      exact ⟨ret1 (by omega), E1⟩
end
end Go.Proofs.Ytnolbmfjgfojhaa
