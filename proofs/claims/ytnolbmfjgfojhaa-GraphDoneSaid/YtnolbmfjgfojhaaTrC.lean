/- Trees: the document's check (walk). -/
import Derived.Test.YtnolbmfjgfojhaaTrN
import Derived.Test.YtnolbmfjgfojhaaTrK
namespace Go.Proofs.Ytnolbmfjgfojhaa
open Go.RowKit

/-- a tree that is read: its nodes and its advances -/
structure TrIn (w : World) (t : Tr) (ns : List Nd) (av : List Int) : Prop where
  nodes : Rd w 44 t.na t.nl (nds ns)
  advs : Rd w 1 t.aa t.al (ints av)
theorem TrIn.ext {w w' : World} {t : Tr} {ns : List Nd} {av : List Int} (h : TrIn w t ns av) (hx : Ext w w') : TrIn w' t ns av := ⟨h.nodes.ext hx, h.advs.ext hx⟩
theorem TrIn.alen {w : World} {t : Tr} {ns : List Nd} {av : List Int} (h : TrIn w t ns av) : av.length = t.al := by
  have := h.advs.len; rw [ints_len] at this; omega

def advOk (a : Int) : Bool := decide (0 ≤ a ∧ a ≤ 1099511627776)
def advV (av : List Int) (k : Nat) : Bool := if k < av.length then (match av[k]? with | some a => advOk a | none => true) && advV av (k + 1) else true
termination_by av.length - k
/-- the first node from k on that is wrong, and why -/
def badV (ns : List Nd) (k : Nat) : Int × Int := if k < ns.length then (if nodeV ns k = 0 then badV ns (k + 1) else ((k : Int), nodeV ns k)) else (0, 0)
termination_by ns.length - k
def checkV (ns : List Nd) (av : List Int) (view : Int) : Int × Int :=
  if 65536 < ns.length ∨ 4096 < av.length then (0, 7)
  else if ns.length = 0 ∨ view < 0 ∨ 1099511627776 < view then (0, 6)
  else if advV av 0 = false then (0, 6)
  else badV ns 0

section
variable (t : Tr) (ns : List Nd) (av : List Int)
set_option maxRecDepth 100000 in
set_option maxHeartbeats 4000000 in
theorem rcheck_any (w : World) (h : TrIn w t ns av) (hm : t.nl ≤ 1000000) (ha : t.al ≤ maxLen) :
    Calls Try.prog 19 #[.agg t.cs] w fun e w' => e = .returned (.tuple #[.int .i64 (checkV ns av t.view).1, .int .i64 (checkV ns av t.view).2]) ∧ Ext w w' := by
  have cn := fun (i : Nat) (hi : i < ns.length) w h => hide (node_any t ns i hi w h hm)
  have hl := h.nodes.nlen
  have hal := h.alen
  obtain ⟨na, nl, nc, aa, al, ac, view⟩ := t
  simp only at hm ha hl hal cn
  unfold maxLen at ha
  have HC := hide (checkV.eq_1 ns av view)
  rw [hl, hal] at HC
  have HL := hide hl
  have HAL := hide hal
  generalize checkV ns av view = CV at *
  clear hl hal
  by_cases h1 : 65536 < nl
  · have HV : Hid (CV = (0, 7)) := hide (by rw [unhide HC, if_pos (.inl h1)])
    have h1I : (65536 : Int) < (nl : Int) := by omega
    go_enter Try.func19, Try.ntmps19
    go_wp2_with fail
    go_ret2
    exact ⟨ret2i (by rw [unhide HV]) (by rw [unhide HV]), (Ext.refl _).alloc _⟩
  have h1I : ¬ (65536 : Int) < (nl : Int) := by omega
  by_cases h2 : 4096 < al
  · have HV : Hid (CV = (0, 7)) := hide (by rw [unhide HC, if_pos (.inr h2)])
    have h2I : (4096 : Int) < (al : Int) := by omega
    go_enter Try.func19, Try.ntmps19
    go_wp2_with fail
    go_ret2
    exact ⟨ret2i (by rw [unhide HV]) (by rw [unhide HV]), (Ext.refl _).alloc _⟩
  have h2I : ¬ (4096 : Int) < (al : Int) := by omega
  by_cases h3 : nl = 0
  · have HV : Hid (CV = (0, 6)) := hide (by rw [unhide HC, if_neg (by omega), if_pos (.inl h3)])
    have h3I : ((nl : Int) == 0) = true := by simpa using h3
    have H3 := hide h3
    clear h3
    go_enter Try.func19, Try.ntmps19
    go_wp2_with fail
    go_ret2
    exact ⟨ret2i (by rw [unhide HV]) (by rw [unhide HV]), (Ext.refl _).alloc _⟩
  have h3I : ((nl : Int) == 0) = false := by simpa using h3
  by_cases h4 : view < 0
  · have HV : Hid (CV = (0, 6)) := hide (by rw [unhide HC, if_neg (by omega), if_pos (.inr (.inl h4))])
    go_enter Try.func19, Try.ntmps19
    go_wp2_with fail
    go_ret2
    exact ⟨ret2i (by rw [unhide HV]) (by rw [unhide HV]), (Ext.refl _).alloc _⟩
  by_cases h5 : 1099511627776 < view
  · have HV : Hid (CV = (0, 6)) := hide (by rw [unhide HC, if_neg (by omega), if_pos (.inr (.inr h5))])
    go_enter Try.func19, Try.ntmps19
    go_wp2_with fail
    go_ret2
    exact ⟨ret2i (by rw [unhide HV]) (by rw [unhide HV]), (Ext.refl _).alloc _⟩
  have HC2 : Hid (CV = if advV av 0 = false then (0, 6) else badV ns 0) := hide (by rw [unhide HC, if_neg (by omega), if_neg (by omega)])
  clear HC
  go_enter Try.func19, Try.ntmps19
  go_wp2_with fail
  have BT : Blk (w.alloc (.cells (Tr.cs ⟨na, nl, nc, aa, al, ac, view⟩) 25)) w.heap.size 25 (Tr.cs ⟨na, nl, nc, aa, al, ac, view⟩) := Blk.new _ _ _
  have E0 : Ext w (w.alloc (.cells (Tr.cs ⟨na, nl, nc, aa, al, ac, view⟩) 25)) := (Ext.refl _).alloc _
  generalize w.alloc (.cells (Tr.cs ⟨na, nl, nc, aa, al, ac, view⟩) 25) = w0 at *
  have dT := BT.cell
  have lT := BT.lt
  have hA := (h.ext E0).advs
  go_loop [4] (fun i => ∃ k : Nat, i = .int .i64 k ∧ k ≤ al ∧ Hid (advV av k = advV av 0)) (fun i => al - (intOf i).toNat)
  case atStart => exact ⟨0, rfl, by omega, hide rfl⟩
  case round =>
    obtain ⟨k, rfl, q1, HQ⟩ := hrel
    by_cases hk : k < al
    · obtain ⟨b, off, u, rfl, hb, hu, hc⟩ := hA.get hk
      have hkl : k < av.length := by rw [unhide HAL]; exact hk
      have hak := List.getElem?_eq_getElem hkl
      rw [ints_get hkl] at hu
      obtain rfl : _ = u := Option.some.inj hu
      have HN := hide (fun hf : advOk (av[k]) = false => (show CV = (0, 6) by rw [unhide HC2, if_pos (by rw [← unhide HQ, advV, if_pos hkl, hak]; simp only [hf]; simp)]))
      have HY := hide (fun hf : advOk (av[k]) = true => (show advV av (k + 1) = advV av 0 by rw [← unhide HQ, advV.eq_def av k, if_pos hkl, hak]; simp only [hf, Bool.true_and]))
      generalize (av[k]) = a at *
      have hkI : (0 : Int) ≤ (k : Int) ∧ (k : Int) < (al : Int) := by omega
      clear hak hu HQ hkl
      by_cases a1 : a < 0
      · have HV := hide (unhide HN (by simp [advOk]; omega))
        go_wp2_with fail
        go_ret2
        exact ⟨ret2i (by rw [unhide HV]) (by rw [unhide HV]), E0⟩
      by_cases a2 : 1099511627776 < a
      · have HV := hide (unhide HN (by simp [advOk]; omega))
        go_wp2_with fail
        go_ret2
        exact ⟨ret2i (by rw [unhide HV]) (by rw [unhide HV]), E0⟩
      have HV := hide (unhide HY (by simp [advOk]; omega))
      go_wp2_with fail
      go_round
      case rel => exact ⟨k + 1, by go_num, by omega, HV⟩
      case measure => simp [intOf]; omega
    · have HM : Hid (CV = badV ns 0) := hide (by rw [unhide HC2, if_neg (by rw [← unhide HQ, advV, if_neg (by rw [unhide HAL]; exact hk)]; simp)])
      have hkI : ¬ ((k : Int) < (al : Int)) := by omega
      clear HQ HC2 q1 hA
      go_wp2_with fail
      clear hk hkI dT lT
      go_loopw [5] (fun i wr => ∃ k : Nat, i = .int .i64 k ∧ k ≤ nl ∧ Hid (badV ns k = badV ns 0) ∧ Ext w wr ∧ Blk wr w.heap.size 25 (Tr.cs ⟨na, nl, nc, aa, al, ac, view⟩)) (fun i _ => nl - (intOf i).toNat)
      case atStart => exact ⟨0, rfl, by omega, hide rfl, E0, BT⟩
      case round =>
        clear E0 BT
        obtain ⟨k, rfl, q1, HQ, E1, BT⟩ := hrel
        have dT := BT.cell
        have lT := BT.lt
        by_cases hk : k < nl
        · have hkl : k < ns.length := by rw [unhide HL]; exact hk
          have c1 := cn k hkl
          have HN := hide (fun hf : ¬ nodeV ns k = 0 => (show CV = ((k : Int), nodeV ns k) by rw [unhide HM, ← unhide HQ, badV, if_pos hkl, if_neg hf]))
          have HY := hide (fun hf : nodeV ns k = 0 => (show badV ns (k + 1) = badV ns 0 by rw [← unhide HQ, badV.eq_def ns k, if_pos hkl, if_pos hf]))
          generalize nodeV ns k = V at *
          clear HQ cn hkl
          by_cases hv : V = 0
          · have HV := hide (unhide HY hv)
            have hvb : (V != 0) = false := by simpa using hv
            have HV2 := hide hv
            clear hv
            go_wp2_with fail
            refine (unhide (c1 _ (h.nodes.ext E1))).mono ?_
            rintro e w2 ⟨rfl, hx⟩
            go_wp2_with fail
            go_roundw
            case rel => exact ⟨k + 1, by go_num, by omega, HV, E1.trans hx, BT.ext hx⟩
            case measure => simp [intOf]; omega
          · have HV := hide (unhide HN hv)
            have hvb : (V != 0) = true := by simpa using hv
            go_wp2_with fail
            refine (unhide (c1 _ (h.nodes.ext E1))).mono ?_
            rintro e w2 ⟨rfl, hx⟩
            go_wp2_with fail
            go_ret2
            exact ⟨ret2i (by rw [unhide HV]) (by rw [unhide HV]), E1.trans hx⟩
        · have HV : Hid (CV = (0, 0)) := hide (by rw [unhide HM, ← unhide HQ, badV, if_neg (by rw [unhide HL]; exact hk)])
          have hkI : ¬ ((k : Int) < (nl : Int)) := by omega
          go_wp2_with fail
          go_ret2
          exact ⟨ret2i (by rw [unhide HV]) (by rw [unhide HV]), E1⟩
end
end Go.Proofs.Ytnolbmfjgfojhaa
