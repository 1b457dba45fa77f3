/- Trees: those that a statement goes through (walk). -/
import Derived.Test.YtnolbmfjgfojhaaTrC
namespace Go.Proofs.Ytnolbmfjgfojhaa
open Go.RowKit

/-- what 'Small' tells -/
def SmallOut (w : World) (ns : List Nd) (av : List Int) (view : Int) (e : Ending) (w' : World) : Prop := ∃ b : Bool, e = .returned (.bool b) ∧ (b = true → ns.length ≤ 300 ∧ (checkV ns av view).2 = 0) ∧ Ext w w'

section
variable (t : Tr) (ns : List Nd) (av : List Int)
set_option maxRecDepth 100000 in
set_option maxHeartbeats 4000000 in
theorem small_any (w : World) (h : TrIn w t ns av) (hm : t.nl ≤ maxLen) (ha : t.al ≤ maxLen) :
    Calls Try.prog 31 #[.agg t.cs] w (SmallOut w ns av t.view) := by
  have cc := fun w h (hm : t.nl ≤ 1000000) => hide (rcheck_any t ns av w h hm ha)
  have hl := h.nodes.nlen
  obtain ⟨na, nl, nc, aa, al, ac, view⟩ := t
  simp only at hm ha hl cc
  unfold maxLen at hm
  have HL := hide hl
  generalize hCV : checkV ns av view = CV at *
  have HCV := hide hCV
  clear hl hCV
  by_cases h1 : 300 < nl
  · have h1I : (300 : Int) < (nl : Int) := by omega
    go_enter Try.func31, Try.ntmps31
    go_wp2_with fail
    go_ret
    exact ⟨false, rfl, (by intro h; cases h), (Ext.refl _).alloc _⟩
  have h1I : ¬ (300 : Int) < (nl : Int) := by omega
  have cc := fun w h => cc w h (by omega)
  go_enter Try.func31, Try.ntmps31
  go_wp2_with fail
  have BT : Blk (w.alloc (.cells (Tr.cs ⟨na, nl, nc, aa, al, ac, view⟩) 25)) w.heap.size 25 (Tr.cs ⟨na, nl, nc, aa, al, ac, view⟩) := Blk.new _ _ _
  have E0 : Ext w (w.alloc (.cells (Tr.cs ⟨na, nl, nc, aa, al, ac, view⟩) 25)) := (Ext.refl _).alloc _
  generalize w.alloc (.cells (Tr.cs ⟨na, nl, nc, aa, al, ac, view⟩) 25) = w0 at *
  have dT := BT.cell
  have lT := BT.lt
  have hN := (h.ext E0).nodes
  go_loop [3, 4] (fun n i => ∃ k m : Nat, i = .int .i64 k ∧ n = .int .i64 m ∧ k ≤ nl ∧ m ≤ 9000) (fun _ i => nl - (intOf i).toNat)
  case atStart => exact ⟨0, 0, rfl, rfl, by omega, by omega⟩
  case round =>
    obtain ⟨k, m, rfl, rfl, q1, q2⟩ := hrel
    by_cases hk : k < nl ∧ m ≤ 4000
    · obtain ⟨hk1, hk2⟩ := hk
      have hkl : k < ns.length := by rw [unhide HL]; exact hk1
      obtain ⟨b, off, hA, hb, hc⟩ := hN.node (List.getElem?_eq_getElem hkl)
      have hu : w0.cell? ⟨b, off + k * 44 + 43, none⟩ = some (.slice (ns[k]).s.ua (ns[k]).s.ul (ns[k]).s.uc) := hc 43 _ rfl
      have hA : na = some ⟨b, off, none⟩ := hA
      subst hA
      have hkI : (0 : Int) ≤ (k : Int) ∧ (k : Int) < (nl : Int) := by omega
      have hmI : (m : Int) ≤ 4000 := by omega
      clear hc
      generalize (ns[k]).s.ul = UL at *
      generalize (ns[k]).s.ua = UA at *
      generalize (ns[k]).s.uc = UC at *
      obtain ⟨y, hy⟩ : ∃ y : Int, (if (5000 : Int) < (UL : Int) then (5000 : Int) else (UL : Int)) = y := ⟨_, rfl⟩
      have hy1 : 0 ≤ y ∧ y ≤ 5000 := by rw [← hy]; split <;> omega
      clear hkl
      go_wp2_with fail
      go_round
      case rel => exact ⟨k + 1, (m + y).toNat, by go_num, congrArg (Value.int IntKind.i64) (by omega), by omega, by omega⟩
      case measure => simp [intOf]; omega
    · by_cases hk1 : k < nl
      · have hm2 : ¬ (m : Int) ≤ 4000 := by omega
        have hkI : (k : Int) < (nl : Int) := by omega
        go_wp2_with fail
        go_ret
        exact ⟨false, rfl, (by intro h; cases h), E0⟩
      · have hkI : ¬ (k : Int) < (nl : Int) := by omega
        by_cases hm2 : (m : Int) ≤ 4000
        · go_wp2_with fail
          refine (unhide (cc _ (h.ext E0))).mono ?_
          rintro e w2 ⟨rfl, hx⟩
          obtain ⟨C1, C2⟩ := CV
          go_wp2_with fail
          go_ret
          exact ⟨_, rfl, fun hb => ⟨by rw [unhide HL]; omega, by rw [unhide HCV]; simpa using hb⟩, E0.trans hx⟩
        · go_wp2_with fail
          go_ret
          exact ⟨false, rfl, (by intro h; cases h), E0⟩
end
end Go.Proofs.Ytnolbmfjgfojhaa
