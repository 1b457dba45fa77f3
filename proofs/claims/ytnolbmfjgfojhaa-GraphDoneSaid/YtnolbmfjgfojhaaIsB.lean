/- Islands: any number's root, boxes, the island of a box, the island over a root (walks). -/
import Derived.Test.YtnolbmfjgfojhaaTOk
namespace Go.Proofs.Ytnolbmfjgfojhaa
open Go.RowKit

theorem rootI_out {ns : List Nd} {z : Int} (h : z < 0 ∨ (ns.length : Int) ≤ z) : rootI ns z = false := by
  unfold rootI
  split
  · rw [rootN, List.getElem?_eq_none (by omega)]
  · rfl
theorem rootI_nat (ns : List Nd) (k : Nat) : rootI ns (k : Int) = rootN ns k := by rw [rootI, if_pos (by omega), Int.toNat_natCast]
theorem rootI_lt {ns : List Nd} {z : Int} (h : rootI ns z = true) : 0 ≤ z ∧ z < ns.length := by
  by_cases hz : z < 0 ∨ (ns.length : Int) ≤ z
  · rw [rootI_out hz] at h; cases h
  · omega
def boxI (ns : List Nd) (z : Int) : Bool := decide (0 ≤ z ∧ z < ns.length) && decide (nK ns z.toNat ≠ 3)
/-- the island of a box -/
def isl (ns : List Nd) (i : Nat) : Nat := if rootN ns i = true then i else if 0 ≤ parN ns i then isl ns (parN ns i).toNat else i
termination_by i
decreasing_by
  have := parN_lt ns i
  omega
theorem isl_root {ns : List Nd} {i : Nat} (h : rootN ns i = true) : isl ns i = i := by rw [isl, if_pos h]
theorem isl_up {ns : List Nd} {i p : Nat} (h : rootN ns i = false) (hp : parN ns i = p) : isl ns i = isl ns p := by
  rw [isl, if_neg (by rw [h]; decide), hp, if_pos (by omega), Int.toNat_natCast]
def overI (ns : List Nd) (z : Int) : Int := if 0 < z ∧ rootI ns z = true then (isl ns (nP ns z.toNat).toNat : Int) else -1
theorem Rd.par {w : World} {A : Option Addr} {n b off : Nat} {l : List Nd} (h : Rd w 44 A n (nds l)) (ha : A = some ⟨b, off, none⟩) {k : Nat} (hk : k < l.length) : w.cell? ⟨b, off + k * 44, none⟩ = some (.int .i64 (nP l k)) := by
  have hk' := List.getElem?_eq_getElem hk
  obtain ⟨b', off', ha', hb', hc'⟩ := h.node hk'
  rw [ha] at ha'
  injection ha' with e
  injection e with e1 e2
  subst e1 e2
  rw [nP_of hk]
  exact hc' 0 _ rfl

section
variable (t : Tr) (ns : List Nd)
theorem root_all (z : Int) (w : World) (h : Rd w 44 t.na t.nl (nds ns)) (hm : t.nl ≤ maxLen) :
    Calls Try.prog 28 #[.agg t.cs, .int .i64 z] w fun e w' => e = .returned (.bool (rootI ns z)) ∧ Ext w w' := by
  have hl := h.nlen
  by_cases h0 : z < 0
  · rw [rootI_out (.inl h0)]
    clear hl h
    go_enter Try.func28, Try.ntmps28
    go_wp2_with fail
    go_ret
    exact ⟨rfl, (Ext.refl _).alloc _⟩
  by_cases h1 : (ns.length : Int) ≤ z
  · rw [rootI_out (.inr h1)]
    rw [hl] at h1
    clear hl h
    go_enter Try.func28, Try.ntmps28
    go_wp2_with fail
    go_ret
    exact ⟨rfl, (Ext.refl _).alloc _⟩
  obtain ⟨k, rfl⟩ : ∃ k : Nat, z = k := ⟨z.toNat, by omega⟩
  rw [rootI_nat]
  exact root_in t ns k (by omega) w h hm
theorem refroot_all (z : Int) (w : World) (h : Rd w 44 t.na t.nl (nds ns)) (hm : t.nl ≤ maxLen) :
    Calls Try.prog 29 #[.agg t.cs, .int .i64 z] w fun e w' => e = .returned (.bool (rootI ns z)) ∧ Ext w w' := by
  have hl := h.nlen
  by_cases h0 : z < 0
  · rw [rootI_out (.inl h0)]
    clear hl h
    go_enter Try.func29, Try.ntmps29
    go_wp2_with fail
    go_ret
    exact ⟨rfl, (Ext.refl _).alloc _⟩
  by_cases h1 : (ns.length : Int) ≤ z
  · rw [rootI_out (.inr h1)]
    rw [hl] at h1
    clear hl h
    go_enter Try.func29, Try.ntmps29
    go_wp2_with fail
    go_ret
    exact ⟨rfl, (Ext.refl _).alloc _⟩
  obtain ⟨k, rfl⟩ : ∃ k : Nat, z = k := ⟨z.toNat, by omega⟩
  rw [rootI_nat]
  exact refroot_in t ns k (by omega) w h hm
set_option maxHeartbeats 2000000 in
theorem box_any (z : Int) (w : World) (h : Rd w 44 t.na t.nl (nds ns)) (hm : t.nl ≤ maxLen) :
    Calls Try.prog 63 #[.agg t.cs, .int .i64 z] w fun e w' => e = .returned (.bool (boxI ns z)) ∧ Ext w w' := by
  have hl := h.nlen
  unfold maxLen at hm
  by_cases h0 : z < 0
  · have HB := hide (show boxI ns z = false by rw [boxI]; simp; omega)
    clear hl h
    go_enter Try.func63, Try.ntmps63
    go_wp2_with fail
    go_ret
    exact ⟨ret1b (unhide HB).symm, (Ext.refl _).alloc _⟩
  by_cases h1 : (ns.length : Int) ≤ z
  · have HB := hide (show boxI ns z = false by rw [boxI]; simp; omega)
    rw [hl] at h1
    clear hl h
    go_enter Try.func63, Try.ntmps63
    go_wp2_with fail
    go_ret
    exact ⟨ret1b (unhide HB).symm, (Ext.refl _).alloc _⟩
  obtain ⟨k, rfl⟩ : ∃ k : Nat, z = k := ⟨z.toNat, by omega⟩
  have hk : k < ns.length := by omega
  obtain ⟨b, off, ha, hb, _⟩ := h.at_ (by omega)
  have c1 := h.same ha hk
  have hin : (0 : Int) ≤ (k : Int) ∧ (k : Int) < (t.nl : Int) := by omega
  have HB := hide (show boxI ns k = decide (nK ns k ≠ 3) by rw [boxI, Int.toNat_natCast]; simp; omega)
  obtain ⟨na, nl, nc, aa, al, ac, view⟩ := t
  simp only at ha hm hl h hin
  subst ha
  generalize nK ns k = K at *
  clear hl h h0 h1
  by_cases k3 : K = 3
  · have k3b : (K != 3) = false := by simpa using k3
    have HB2 := hide (show boxI ns (k : Int) = false by rw [unhide HB]; simp [k3])
    clear HB
    have HK := hide k3
    clear k3
    go_enter Try.func63, Try.ntmps63
    go_wp2_with fail
    go_ret
    exact ⟨ret1b (unhide HB2).symm, (Ext.refl _).alloc _⟩
  · have k3b : (K != 3) = true := by simpa using k3
    have HB2 := hide (show boxI ns (k : Int) = true by rw [unhide HB]; simp [k3])
    clear HB
    go_enter Try.func63, Try.ntmps63
    go_wp2_with fail
    go_ret
    exact ⟨ret1b (unhide HB2).symm, (Ext.refl _).alloc _⟩
set_option maxHeartbeats 4000000 in
theorem island_any (hT : TOk ns) (i : Nat) (hi : i < ns.length) (w : World) (h : Rd w 44 t.na t.nl (nds ns)) (hm : t.nl ≤ maxLen) :
    Calls Try.prog 64 #[.agg t.cs, .int .i64 i] w fun e w' => e = .returned (.int .i64 (isl ns i)) ∧ Ext w w' := by
  have hl := h.nlen
  have hm' := hm
  unfold maxLen at hm'
  obtain ⟨b, off, ha, hb, _⟩ := h.at_ (by omega)
  have HP := hide (fun (k : Nat) (hk : k < ns.length) => h.par ha hk)
  have HT := hide hT
  have hh := h
  have cu := fun (k : Nat) (hk : k < ns.length) w h => hide (refroot_in t ns k hk w h hm)
  obtain ⟨na, nl, nc, aa, al, ac, view⟩ := t
  simp only at ha hm hm' hl h hh cu
  subst ha
  clear h hT hm
  go_enter Try.func64, Try.ntmps64
  go_wp2_with fail
  have BT : Blk (w.alloc (.cells (Tr.cs ⟨some ⟨b, off, none⟩, nl, nc, aa, al, ac, view⟩) 25)) w.heap.size 25 (Tr.cs ⟨some ⟨b, off, none⟩, nl, nc, aa, al, ac, view⟩) := Blk.new _ _ _
  have E0 : Ext w (w.alloc (.cells (Tr.cs ⟨some ⟨b, off, none⟩, nl, nc, aa, al, ac, view⟩) 25)) := (Ext.refl _).alloc _
  generalize w.alloc (.cells (Tr.cs ⟨some ⟨b, off, none⟩, nl, nc, aa, al, ac, view⟩) 25) = w0 at *
  go_loopw [1] (fun v wr => ∃ k : Nat, v = .int .i64 k ∧ k < ns.length ∧ Hid (isl ns k = isl ns i) ∧ Ext w wr ∧ Blk wr w.heap.size 25 (Tr.cs ⟨some ⟨b, off, none⟩, nl, nc, aa, al, ac, view⟩)) (fun v _ => (intOf v).toNat)
  case atStart => exact ⟨i, rfl, hi, hide rfl, E0, BT⟩
  case round =>
    clear E0 BT
    obtain ⟨k, rfl, q1, HI, E1, BT⟩ := hrel
    have c1 := BT.cell
    have l1 := BT.lt
    obtain ⟨r, hr⟩ : ∃ r, rootN ns k = r := ⟨_, rfl⟩
    have ck := cu k q1
    rw [hr] at ck
    have HR := hide hr
    clear hr
    cases r
    · obtain ⟨p, hp, hpk⟩ : ∃ p : Nat, nP ns k = p ∧ p < k := (unhide HT).par (by
        rcases Nat.eq_zero_or_pos k with h0 | h0
        · have := unhide HR
          rw [h0, (unhide HT).root0] at this
          cases this
        · exact h0) q1
      have HI2 := hide (show isl ns p = isl ns i by rw [← unhide HI, isl_up (unhide HR) (((unhide HT).parN q1).trans hp)])
      have cp := (unhide HP) k q1
      rw [hp] at cp
      clear hp
      have hin : (0 : Int) ≤ (k : Int) ∧ (k : Int) < (nl : Int) := by omega
      go_wp2_with fail
      refine (unhide (ck _ (hh.ext E1))).mono ?_
      rintro e w2 ⟨rfl, hx⟩
      replace E1 := E1.trans hx
      replace BT := BT.ext hx
      clear hx c1 l1
      have c1 := BT.cell
      have l1 := BT.lt
      have cp2 := (E1.cells.1 b _ hb).trans cp
      clear cp
      go_wp2_with fail
      go_roundw
      case rel => exact ⟨p, rfl, by omega, HI2, E1, BT⟩
      case measure => simp [intOf]; omega
    · have HI2 := hide ((isl_root (unhide HR)).symm.trans (unhide HI))
      go_wp2_with fail
      refine (unhide (ck _ (hh.ext E1))).mono ?_
      rintro e w2 ⟨rfl, hx⟩
      go_wp2_with fail
      go_ret
      exact ⟨ret1 (by rw [unhide HI2]), E1.trans hx⟩
end
end Go.Proofs.Ytnolbmfjgfojhaa
