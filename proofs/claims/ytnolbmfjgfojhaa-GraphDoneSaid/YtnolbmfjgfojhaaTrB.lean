/- Trees: who is below whom, the first child, roots (walks). -/
import Derived.Test.YtnolbmfjgfojhaaTrA
namespace Go.Proofs.Ytnolbmfjgfojhaa
open Go.RowKit

theorem bel_not {ns : List Nd} {o : Int} {k : Nat} (h : ((k : Int) == o) = false) : belI ns o k = bel ns o k := by
  rw [belI, if_pos (by omega), h]; rfl
def nK (ns : List Nd) (i : Nat) : Int := match ns[i]? with | some n => n.s.kind | none => 0
/-- is a node a root? -/
def rootN (ns : List Nd) (i : Nat) : Bool := match ns[i]? with
  | none => false
  | some n => if n.s.kind = 3 then false else (decide (i = 0) || decide (n.s.kind = 2) || n.s.flow || decide (n.s.float ≠ 0) || (decide (0 ≤ parN ns i) && decide (nK ns (parN ns i).toNat = 2)))
def rootI (ns : List Nd) (i : Int) : Bool := if 0 ≤ i then rootN ns i.toNat else false

section
variable (t : Tr) (ns : List Nd)
set_option maxHeartbeats 1000000 in
theorem below_any (i : Nat) (hi : i < ns.length) (o : Int) (w : World) (h : Rd w 44 t.na t.nl (nds ns)) (hm : t.nl ≤ maxLen) :
    Calls Try.prog 60 #[.agg t.cs, .int .i64 i, .int .i64 o] w fun e w' => e = .returned (.bool (bel ns o i)) ∧ Ext w w' := by
  have hl := h.nlen
  have hp := parN_lt ns i
  have HE := hide (bel_eq ns o i)
  go_enter Try.func60, Try.ntmps60
  go_wp2_with fail
  refine (parent_any t ns i hi _ (h.alloc _) hm).mono ?_
  rintro e w1 ⟨rfl, hx⟩
  have B1 : Blk w1 w.heap.size 25 t.cs := (Blk.new _ _ _).ext hx
  have E1 : Ext w w1 := ((Ext.refl _).alloc _).trans hx
  clear hx
  go_wp2_with fail
  go_loopw [7] (fun p wr => ∃ (q : Int), p = .int .i64 q ∧ -1 ≤ q ∧ q < ns.length ∧ Hid (belI ns o q = bel ns o i) ∧ Ext w wr ∧ Blk wr w.heap.size 25 t.cs) (fun p _ => (intOf p + 1).toNat)
  case atStart => exact ⟨_, rfl, by omega, by omega, hide (unhide HE).symm, E1, B1⟩
  case round =>
    clear E1 B1 HE
    obtain ⟨q, rfl, q1, q2, HQ, E1, B1⟩ := hrel
    have c1 := B1.cell
    have l1 := B1.lt
    by_cases h0 : 0 ≤ q
    · obtain ⟨k, rfl⟩ : ∃ k : Nat, q = k := ⟨q.toNat, by omega⟩
      have hpl := parN_lt ns k
      cases hko : ((k : Int) == o)
      · have HD := hide ((bel_eq ns o k).symm.trans ((bel_not hko).symm.trans (unhide HQ)))
        go_wp2_with fail
        refine (parent_any t ns k (by omega) _ (h.ext E1) hm).mono ?_
        rintro e w2 ⟨rfl, hx⟩
        go_wp2_with fail
        go_roundw
        case rel => exact ⟨_, rfl, by omega, by omega, HD, E1.trans hx, B1.ext hx⟩
        case measure => simp [intOf]; omega
      · go_wp2_with fail
        go_ret
        exact ⟨ret1b (by rw [← unhide HQ, belI, if_pos h0, hko]; rfl), E1⟩
    · go_wp2_with fail
      go_ret
      exact ⟨ret1b (by rw [← unhide HQ, belI, if_neg (by omega)]), E1⟩

set_option maxHeartbeats 1000000 in
theorem first_any (p i : Nat) (hi : i ≤ ns.length) (w : World) (h : Rd w 44 t.na t.nl (nds ns)) (hm : t.nl ≤ maxLen) (hp : p < ns.length) :
    Calls Try.prog 74 #[.agg t.cs, .int .i64 p, .int .i64 i] w fun e w' => e = .returned (.int .i64 (firstN ns p i (p + 1))) ∧ Ext w w' := by
  have hl := h.nlen
  have hm' := hm
  unfold maxLen at hm'
  go_enter Try.func74, Try.ntmps74
  go_wp2_with fail
  go_loopw [7] (fun v wr => ∃ k : Nat, v = .int .i64 k ∧ k ≤ ns.length ∧ Hid (firstN ns p i k = firstN ns p i (p + 1)) ∧ Ext w wr ∧ Blk wr w.heap.size 25 t.cs) (fun v _ => i - (intOf v).toNat)
  case atStart => exact ⟨p + 1, by go_num, by omega, hide rfl, (Ext.refl _).alloc _, Blk.new _ _ _⟩
  case round =>
    obtain ⟨k, rfl, q1, HQ, E1, B1⟩ := hrel
    have c1 := B1.cell
    have l1 := B1.lt
    by_cases hk : k < i
    · cases hpk : (parN ns k == (p : Int))
      · have HD : Hid (firstN ns p i (k + 1) = firstN ns p i (p + 1)) := hide (by rw [← unhide HQ, firstN.eq_def ns p i k, if_pos hk, if_neg (by simpa using hpk)])
        go_wp2_with fail
        refine (parent_any t ns k (by omega) _ (h.ext E1) hm).mono ?_
        rintro e w2 ⟨rfl, hx⟩
        go_wp2_with fail
        go_roundw
        case rel => exact ⟨k + 1, by go_num, by omega, HD, E1.trans hx, B1.ext hx⟩
        case measure => simp [intOf]; omega
      · have HD : Hid ((k : Int) = firstN ns p i (p + 1)) := hide (by rw [← unhide HQ, firstN.eq_def ns p i k, if_pos hk, if_pos (by simpa using hpk)])
        go_wp2_with fail
        refine (parent_any t ns k (by omega) _ (h.ext E1) hm).mono ?_
        rintro e w2 ⟨rfl, hx⟩
        go_wp2_with fail
        go_ret
        exact ⟨ret1 (unhide HD), E1.trans hx⟩
    · have HD : Hid ((-1 : Int) = firstN ns p i (p + 1)) := hide (by rw [← unhide HQ, firstN.eq_def ns p i k, if_neg hk])
      go_wp2_with fail
      go_ret
      exact ⟨ret1 (unhide HD), E1⟩

end
end Go.Proofs.Ytnolbmfjgfojhaa
