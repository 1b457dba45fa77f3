/- Trees: roots (walks). -/
import Derived.Test.YtnolbmfjgfojhaaTrB
import Derived.Test.YtnolbmfjgfojhaaLinB
import Derived.Deep.Cut
namespace Go.Proofs.Ytnolbmfjgfojhaa
open Go.RowKit

@[reducible] def zst : Sty := ⟨0, false, 0, 0, ⟨0, 0⟩, ⟨0, 0⟩, ⟨0, 0⟩, ⟨0, 0⟩, ⟨0, 0⟩, ⟨0, 0⟩, ⟨0, 0⟩, ⟨0, 0⟩, ⟨0, 0⟩, ⟨0, 0⟩, 0, 0, 0, 0, 0, 0, 0, 0, 0, 0, false, 0, 0, 0, 0, 0, ⟨0, 0⟩, none, 0, 0⟩
theorem zero_st : (Try.prog.info? 45).bind (·.zero) = some (.agg zst.cells) := by kernel_rfl
theorem root_val {ns : List Nd} {i : Nat} {n : Nd} (h : ns[i]? = some n) : rootN ns i = (if n.s.kind = 3 then false else (decide (i = 0) || decide (n.s.kind = 2) || n.s.flow || decide (n.s.float ≠ 0) || (decide (0 ≤ parN ns i) && decide (nK ns (parN ns i).toNat = 2)))) := by
  rw [rootN, h]
theorem Rd.same {w : World} {A : Option Addr} {n b off : Nat} {l : List Nd} (h : Rd w 44 A n (nds l)) (ha : A = some ⟨b, off, none⟩) {k : Nat} (hk : k < l.length) : w.cell? ⟨b, off + k * 44 + 1, none⟩ = some (.int .u8 (nK l k)) := by
  have hk' := List.getElem?_eq_getElem hk
  obtain ⟨b', off', ha', hb', hc'⟩ := h.node hk'
  rw [ha] at ha'
  injection ha' with e
  injection e with e1 e2
  subst e1 e2
  have hK : nK l k = (l[k]).s.kind := by simp [nK, hk']
  rw [hK]
  exact hc' 1 _ rfl

section
variable (t : Tr) (ns : List Nd)
set_option maxRecDepth 100000 in
set_option maxHeartbeats 4000000 in
theorem root_in (i : Nat) (hi : i < ns.length) (w : World) (h : Rd w 44 t.na t.nl (nds ns)) (hm : t.nl ≤ maxLen) :
    Calls Try.prog 28 #[.agg t.cs, .int .i64 i] w fun e w' => e = .returned (.bool (rootN ns i)) ∧ Ext w w' := by
  have hl := h.nlen
  have hp := parN_lt ns i
  have cu := fun w h => hide (up_any t ns i hi w h hm)
  have hi' := List.getElem?_eq_getElem hi
  have HR := root_val hi'
  obtain ⟨b, off, ha, hb, hc⟩ := h.node hi'
  have c0 := hc 1 _ rfl
  have c1 := hc 2 _ rfl
  have c2 := hc 3 _ rfl
  have hmid : w.rangeAt b (off + i * 44 + 1) (ns[i]).s.cells.toList := fun j v hv => by
    have := hc (j + 1) v (by simpa using hv)
    rwa [Nat.add_comm j 1, ← Nat.add_assoc] at this
  have hk2 := fun (k : Nat) (hk : k < ns.length) => h.same ha hk
  have hh := h
  generalize ns[i].s = S at *
  obtain ⟨K0, FL, FT, hK0, hFL, hFT⟩ : ∃ K0 FL FT, S.kind = K0 ∧ S.flow = FL ∧ S.float = FT := ⟨_, _, _, rfl, rfl, rfl⟩
  rw [hK0, hFL, hFT] at HR
  rw [hK0] at c0
  rw [hFL] at c1
  rw [hFT] at c2
  obtain ⟨na, nl, nc, aa, al, ac, view⟩ := t
  simp only at ha hm hl h hc c0 c1 c2 hh cu
  subst ha
  have hm' := hm
  unfold maxLen at hm'
  have hin : (0 : Int) ≤ (i : Int) ∧ (i : Int) < (nl : Int) := by omega
  have HMID := hide hmid
  have HK2 := hide hk2
  have HK := hide hK0
  have HFL := hide hFL
  have HFT := hide hFT
  clear hi' h hc hmid hk2 hK0 hFL hFT
  by_cases k3 : K0 = 3
  · subst k3
    have HV : Hid (rootN ns i = false) := hide (by rw [HR]; simp [*])
    clear HR
    go_enter Try.func28, Try.ntmps28
    go_wp2_with fail
    go_ret
    exact ⟨ret1b (unhide HV).symm, (Ext.refl _).alloc _⟩
  have k3b : (K0 == 3) = false := by simpa using k3
  by_cases i0 : i = 0
  · have i0b : ((i : Int) == 0) = true := by simpa using i0
    have HV : Hid (rootN ns i = true) := hide (by rw [HR]; simp [*])
    clear HR
    clear i0
    go_enter Try.func28, Try.ntmps28
    go_wp2_with fail
    go_ret
    exact ⟨ret1b (unhide HV).symm, (Ext.refl _).alloc _⟩
  have i0b : ((i : Int) == 0) = false := by simp; omega
  by_cases k2 : K0 = 2
  · subst k2
    have HV : Hid (rootN ns i = true) := hide (by rw [HR]; simp [*])
    clear HR
    go_enter Try.func28, Try.ntmps28
    go_wp2_with fail
    go_ret
    exact ⟨ret1b (unhide HV).symm, (Ext.refl _).alloc _⟩
  have k2b : (K0 == 2) = false := by simpa using k2
  cases FL
  rotate_left
  · skip
    have HV : Hid (rootN ns i = true) := hide (by rw [HR]; simp [*])
    clear HR
    go_enter Try.func28, Try.ntmps28
    go_wp2_with fail
    go_ret
    exact ⟨ret1b (unhide HV).symm, (Ext.refl _).alloc _⟩
  by_cases f0 : FT = 0
  rotate_left
  · have f0b : (FT != 0) = true := by simpa using f0
    have HV : Hid (rootN ns i = true) := hide (by rw [HR]; simp [*])
    clear HR
    go_enter Try.func28, Try.ntmps28
    go_wp2_with fail
    go_ret
    exact ⟨ret1b (unhide HV).symm, (Ext.refl _).alloc _⟩
  subst f0
  by_cases h0 : 0 ≤ parN ns i
  rotate_left
  · have h1 : parN ns i = -1 := by omega
    rw [h1] at HR cu
    have HV : Hid (rootN ns i = false) := hide (by rw [HR]; simp [k3, i0, k2])
    clear HR
    clear h1 hp h0
    go_enter Try.func28, Try.ntmps28
    go_wp2_with fail
    refine (unhide (cu _ (hh.alloc _))).mono ?_
    rintro e w1 ⟨rfl, hx⟩
    obtain ⟨hcc, hff⟩ := hx.cells
    have hz := hx.size
    simp only [World.size_alloc] at hz
    go_wp2_with fail
    go_ret
    exact ⟨ret1b (unhide HV).symm, ((Ext.refl _).alloc _).trans hx⟩
  obtain ⟨k, hk⟩ : ∃ k : Nat, parN ns i = k := ⟨(parN ns i).toNat, by omega⟩
  rw [hk] at hp h0 cu HR
  rw [Int.toNat_natCast] at HR
  have hkl : k < ns.length := by omega
  have c3 := (unhide HK2) k hkl
  have hin2 : (0 : Int) ≤ (k : Int) ∧ (k : Int) < (nl : Int) := by omega
  generalize nK ns k = K at *
  clear hk
  by_cases kk : K = 2
  · subst kk
    have HV : Hid (rootN ns i = true) := hide (by rw [HR]; simp [k3])
    clear HR
    go_enter Try.func28, Try.ntmps28
    go_wp2_with fail
    refine (unhide (cu _ (hh.alloc _))).mono ?_
    rintro e w1 ⟨rfl, hx⟩
    obtain ⟨hcc, hff⟩ := hx.cells
    have hz := hx.size
    simp only [World.size_alloc] at hz
    go_wp2_with fail
    go_ret
    exact ⟨ret1b (unhide HV).symm, ((Ext.refl _).alloc _).trans hx⟩
  · have kkb : (K == 2) = false := by simpa using kk
    have HV : Hid (rootN ns i = false) := hide (by rw [HR]; simp [k3, i0, k2, kk])
    clear HR
    go_enter Try.func28, Try.ntmps28
    go_wp2_with fail
    refine (unhide (cu _ (hh.alloc _))).mono ?_
    rintro e w1 ⟨rfl, hx⟩
    obtain ⟨hcc, hff⟩ := hx.cells
    have hz := hx.size
    simp only [World.size_alloc] at hz
    go_wp2_with fail
    go_ret
    exact ⟨ret1b (unhide HV).symm, ((Ext.refl _).alloc _).trans hx⟩
set_option maxRecDepth 100000 in
set_option maxHeartbeats 4000000 in
theorem refroot_in (i : Nat) (hi : i < ns.length) (w : World) (h : Rd w 44 t.na t.nl (nds ns)) (hm : t.nl ≤ maxLen) :
    Calls Try.prog 29 #[.agg t.cs, .int .i64 i] w fun e w' => e = .returned (.bool (rootN ns i)) ∧ Ext w w' := by
  have hl := h.nlen
  have hp := parN_lt ns i
  have cu := fun w h => hide (parent_any t ns i hi w h hm)
  have hi' := List.getElem?_eq_getElem hi
  have HR := root_val hi'
  obtain ⟨b, off, ha, hb, hc⟩ := h.node hi'
  have c0 := hc 1 _ rfl
  have c1 := hc 2 _ rfl
  have c2 := hc 3 _ rfl
  have hmid : w.rangeAt b (off + i * 44 + 1) (ns[i]).s.cells.toList := fun j v hv => by
    have := hc (j + 1) v (by simpa using hv)
    rwa [Nat.add_comm j 1, ← Nat.add_assoc] at this
  have hk2 := fun (k : Nat) (hk : k < ns.length) => h.same ha hk
  have hh := h
  generalize ns[i].s = S at *
  obtain ⟨K0, FL, FT, hK0, hFL, hFT⟩ : ∃ K0 FL FT, S.kind = K0 ∧ S.flow = FL ∧ S.float = FT := ⟨_, _, _, rfl, rfl, rfl⟩
  rw [hK0, hFL, hFT] at HR
  rw [hK0] at c0
  rw [hFL] at c1
  rw [hFT] at c2
  obtain ⟨na, nl, nc, aa, al, ac, view⟩ := t
  simp only at ha hm hl h hc c0 c1 c2 hh cu
  subst ha
  have hm' := hm
  unfold maxLen at hm'
  have hin : (0 : Int) ≤ (i : Int) ∧ (i : Int) < (nl : Int) := by omega
  have HMID := hide hmid
  have HK2 := hide hk2
  have HK := hide hK0
  have HFL := hide hFL
  have HFT := hide hFT
  clear hi' h hc hmid hk2 hK0 hFL hFT
  by_cases k3 : K0 = 3
  · subst k3
    have HV : Hid (rootN ns i = false) := hide (by rw [HR]; simp [*])
    clear HR
    go_enter Try.func29, Try.ntmps29
    go_wp2_with fail
    go_ret
    exact ⟨ret1b (unhide HV).symm, (Ext.refl _).alloc _⟩
  have k3b : (K0 == 3) = false := by simpa using k3
  by_cases i0 : i = 0
  · have i0b : ((i : Int) == 0) = true := by simpa using i0
    have HV : Hid (rootN ns i = true) := hide (by rw [HR]; simp [*])
    clear HR
    clear i0
    go_enter Try.func29, Try.ntmps29
    go_upto_region 3 with fail
    iterate 16 go_step
    refine wpList_load_mid rfl 45 _ rfl b (off + i * 44 + 1) rfl S.cells.toList _ (fun j v hv => (((Ext.refl w).alloc _).cells.1 b _ hb).trans ((unhide HMID) j v hv)) Try.underlying45 rfl (by kernel_rfl) ?_
    simp only [Act.put, List.setIfInBounds_toArray, List.set_cons_succ, List.set_cons_zero]
    have BT : Blk (w.alloc (.cells (Tr.cs ⟨some ⟨b, off, none⟩, nl, nc, aa, al, ac, view⟩) 25)) w.heap.size 25 (Tr.cs ⟨some ⟨b, off, none⟩, nl, nc, aa, al, ac, view⟩) := Blk.new _ _ _
    have ET : Ext w (w.alloc (.cells (Tr.cs ⟨some ⟨b, off, none⟩, nl, nc, aa, al, ac, view⟩) 25)) := (Ext.refl _).alloc _
    have hsz : (w.alloc (.cells (Tr.cs ⟨some ⟨b, off, none⟩, nl, nc, aa, al, ac, view⟩) 25)).heap.size = w.heap.size + 1 := by simp
    generalize w.alloc (.cells (Tr.cs ⟨some ⟨b, off, none⟩, nl, nc, aa, al, ac, view⟩) 25) = wb at *
    refine wpList_alloc_var rfl 45 rfl zst.cells zero_st ?_
    intro wa Ba Ea za
    simp only [Act.put, List.setIfInBounds_toArray, List.set_cons_succ, List.set_cons_zero]
    refine wpList_store_blk rfl 45 _ _ rfl wb.heap.size rfl S.cells rfl 45 zst.cells Ba (info_style S) rfl (by kernel_rfl) ?_
    intro w3 Bs hg zs
    simp only [Act.put]
    have E3 : Ext w w3 := Ext.grown (ET.trans Ea) hg (fun g e => by injection e with e; omega)
    have BT3 := (BT.ext Ea).grown hg (fun e => by injection e with e; omega)
    clear Ba Ea za hg BT ET
    have HZ := hide hsz
    clear hsz
    generalize hgb : wb.heap.size = gb at *
    clear HZ hgb wb
    have dT := BT3.cell
    have lT := BT3.lt
    go_wp2_with fail
    refine (unhide (cu _ (hh.ext E3))).mono ?_
    rintro e w4 ⟨rfl, hx⟩
    replace E3 := E3.trans hx
    replace BT3 := BT3.ext hx
    replace Bs := Bs.ext hx
    clear hx dT lT
    have dT := BT3.cell
    have lT := BT3.lt
    have dS : ∀ i : Nat, w4.cell? ⟨gb, i, none⟩ = S.cells[i]? := Bs.cell
    have dS0 : w4.cell? ⟨gb, 0, none⟩ = some (.int .u8 K0) := by rw [← unhide HK]; exact dS 0
    have dS1 : w4.cell? ⟨gb, 1, none⟩ = some (.bool FL) := by rw [← unhide HFL]; exact dS 1
    have dS2 : w4.cell? ⟨gb, 2, none⟩ = some (.int .u8 FT) := by rw [← unhide HFT]; exact dS 2
    obtain ⟨hcc, hff⟩ := E3.cells
    have hz := Bs.lt
    clear dS
    go_wp2_with fail
    go_ret
    exact ⟨ret1b (unhide HV).symm, E3⟩
  have i0b : ((i : Int) == 0) = false := by simp; omega
  by_cases k2 : K0 = 2
  · subst k2
    have HV : Hid (rootN ns i = true) := hide (by rw [HR]; simp [*])
    clear HR
    go_enter Try.func29, Try.ntmps29
    go_upto_region 3 with fail
    iterate 16 go_step
    refine wpList_load_mid rfl 45 _ rfl b (off + i * 44 + 1) rfl S.cells.toList _ (fun j v hv => (((Ext.refl w).alloc _).cells.1 b _ hb).trans ((unhide HMID) j v hv)) Try.underlying45 rfl (by kernel_rfl) ?_
    simp only [Act.put, List.setIfInBounds_toArray, List.set_cons_succ, List.set_cons_zero]
    have BT : Blk (w.alloc (.cells (Tr.cs ⟨some ⟨b, off, none⟩, nl, nc, aa, al, ac, view⟩) 25)) w.heap.size 25 (Tr.cs ⟨some ⟨b, off, none⟩, nl, nc, aa, al, ac, view⟩) := Blk.new _ _ _
    have ET : Ext w (w.alloc (.cells (Tr.cs ⟨some ⟨b, off, none⟩, nl, nc, aa, al, ac, view⟩) 25)) := (Ext.refl _).alloc _
    have hsz : (w.alloc (.cells (Tr.cs ⟨some ⟨b, off, none⟩, nl, nc, aa, al, ac, view⟩) 25)).heap.size = w.heap.size + 1 := by simp
    generalize w.alloc (.cells (Tr.cs ⟨some ⟨b, off, none⟩, nl, nc, aa, al, ac, view⟩) 25) = wb at *
    refine wpList_alloc_var rfl 45 rfl zst.cells zero_st ?_
    intro wa Ba Ea za
    simp only [Act.put, List.setIfInBounds_toArray, List.set_cons_succ, List.set_cons_zero]
    refine wpList_store_blk rfl 45 _ _ rfl wb.heap.size rfl S.cells rfl 45 zst.cells Ba (info_style S) rfl (by kernel_rfl) ?_
    intro w3 Bs hg zs
    simp only [Act.put]
    have E3 : Ext w w3 := Ext.grown (ET.trans Ea) hg (fun g e => by injection e with e; omega)
    have BT3 := (BT.ext Ea).grown hg (fun e => by injection e with e; omega)
    clear Ba Ea za hg BT ET
    have HZ := hide hsz
    clear hsz
    generalize hgb : wb.heap.size = gb at *
    clear HZ hgb wb
    have dT := BT3.cell
    have lT := BT3.lt
    go_wp2_with fail
    refine (unhide (cu _ (hh.ext E3))).mono ?_
    rintro e w4 ⟨rfl, hx⟩
    replace E3 := E3.trans hx
    replace BT3 := BT3.ext hx
    replace Bs := Bs.ext hx
    clear hx dT lT
    have dT := BT3.cell
    have lT := BT3.lt
    have dS : ∀ i : Nat, w4.cell? ⟨gb, i, none⟩ = S.cells[i]? := Bs.cell
    have dS0 : w4.cell? ⟨gb, 0, none⟩ = some (.int .u8 2) := by rw [← unhide HK]; exact dS 0
    have dS1 : w4.cell? ⟨gb, 1, none⟩ = some (.bool FL) := by rw [← unhide HFL]; exact dS 1
    have dS2 : w4.cell? ⟨gb, 2, none⟩ = some (.int .u8 FT) := by rw [← unhide HFT]; exact dS 2
    obtain ⟨hcc, hff⟩ := E3.cells
    have hz := Bs.lt
    clear dS
    go_wp2_with fail
    go_ret
    exact ⟨ret1b (unhide HV).symm, E3⟩
  have k2b : (K0 == 2) = false := by simpa using k2
  cases FL
  rotate_left
  · skip
    have HV : Hid (rootN ns i = true) := hide (by rw [HR]; simp [*])
    clear HR
    go_enter Try.func29, Try.ntmps29
    go_upto_region 3 with fail
    iterate 16 go_step
    refine wpList_load_mid rfl 45 _ rfl b (off + i * 44 + 1) rfl S.cells.toList _ (fun j v hv => (((Ext.refl w).alloc _).cells.1 b _ hb).trans ((unhide HMID) j v hv)) Try.underlying45 rfl (by kernel_rfl) ?_
    simp only [Act.put, List.setIfInBounds_toArray, List.set_cons_succ, List.set_cons_zero]
    have BT : Blk (w.alloc (.cells (Tr.cs ⟨some ⟨b, off, none⟩, nl, nc, aa, al, ac, view⟩) 25)) w.heap.size 25 (Tr.cs ⟨some ⟨b, off, none⟩, nl, nc, aa, al, ac, view⟩) := Blk.new _ _ _
    have ET : Ext w (w.alloc (.cells (Tr.cs ⟨some ⟨b, off, none⟩, nl, nc, aa, al, ac, view⟩) 25)) := (Ext.refl _).alloc _
    have hsz : (w.alloc (.cells (Tr.cs ⟨some ⟨b, off, none⟩, nl, nc, aa, al, ac, view⟩) 25)).heap.size = w.heap.size + 1 := by simp
    generalize w.alloc (.cells (Tr.cs ⟨some ⟨b, off, none⟩, nl, nc, aa, al, ac, view⟩) 25) = wb at *
    refine wpList_alloc_var rfl 45 rfl zst.cells zero_st ?_
    intro wa Ba Ea za
    simp only [Act.put, List.setIfInBounds_toArray, List.set_cons_succ, List.set_cons_zero]
    refine wpList_store_blk rfl 45 _ _ rfl wb.heap.size rfl S.cells rfl 45 zst.cells Ba (info_style S) rfl (by kernel_rfl) ?_
    intro w3 Bs hg zs
    simp only [Act.put]
    have E3 : Ext w w3 := Ext.grown (ET.trans Ea) hg (fun g e => by injection e with e; omega)
    have BT3 := (BT.ext Ea).grown hg (fun e => by injection e with e; omega)
    clear Ba Ea za hg BT ET
    have HZ := hide hsz
    clear hsz
    generalize hgb : wb.heap.size = gb at *
    clear HZ hgb wb
    have dT := BT3.cell
    have lT := BT3.lt
    go_wp2_with fail
    refine (unhide (cu _ (hh.ext E3))).mono ?_
    rintro e w4 ⟨rfl, hx⟩
    replace E3 := E3.trans hx
    replace BT3 := BT3.ext hx
    replace Bs := Bs.ext hx
    clear hx dT lT
    have dT := BT3.cell
    have lT := BT3.lt
    have dS : ∀ i : Nat, w4.cell? ⟨gb, i, none⟩ = S.cells[i]? := Bs.cell
    have dS0 : w4.cell? ⟨gb, 0, none⟩ = some (.int .u8 K0) := by rw [← unhide HK]; exact dS 0
    have dS1 : w4.cell? ⟨gb, 1, none⟩ = some (.bool true) := by rw [← unhide HFL]; exact dS 1
    have dS2 : w4.cell? ⟨gb, 2, none⟩ = some (.int .u8 FT) := by rw [← unhide HFT]; exact dS 2
    obtain ⟨hcc, hff⟩ := E3.cells
    have hz := Bs.lt
    clear dS
    go_wp2_with fail
    go_ret
    exact ⟨ret1b (unhide HV).symm, E3⟩
  by_cases f0 : FT = 0
  rotate_left
  · have f0b : (FT != 0) = true := by simpa using f0
    have HV : Hid (rootN ns i = true) := hide (by rw [HR]; simp [*])
    clear HR
    go_enter Try.func29, Try.ntmps29
    go_upto_region 3 with fail
    iterate 16 go_step
    refine wpList_load_mid rfl 45 _ rfl b (off + i * 44 + 1) rfl S.cells.toList _ (fun j v hv => (((Ext.refl w).alloc _).cells.1 b _ hb).trans ((unhide HMID) j v hv)) Try.underlying45 rfl (by kernel_rfl) ?_
    simp only [Act.put, List.setIfInBounds_toArray, List.set_cons_succ, List.set_cons_zero]
    have BT : Blk (w.alloc (.cells (Tr.cs ⟨some ⟨b, off, none⟩, nl, nc, aa, al, ac, view⟩) 25)) w.heap.size 25 (Tr.cs ⟨some ⟨b, off, none⟩, nl, nc, aa, al, ac, view⟩) := Blk.new _ _ _
    have ET : Ext w (w.alloc (.cells (Tr.cs ⟨some ⟨b, off, none⟩, nl, nc, aa, al, ac, view⟩) 25)) := (Ext.refl _).alloc _
    have hsz : (w.alloc (.cells (Tr.cs ⟨some ⟨b, off, none⟩, nl, nc, aa, al, ac, view⟩) 25)).heap.size = w.heap.size + 1 := by simp
    generalize w.alloc (.cells (Tr.cs ⟨some ⟨b, off, none⟩, nl, nc, aa, al, ac, view⟩) 25) = wb at *
    refine wpList_alloc_var rfl 45 rfl zst.cells zero_st ?_
    intro wa Ba Ea za
    simp only [Act.put, List.setIfInBounds_toArray, List.set_cons_succ, List.set_cons_zero]
    refine wpList_store_blk rfl 45 _ _ rfl wb.heap.size rfl S.cells rfl 45 zst.cells Ba (info_style S) rfl (by kernel_rfl) ?_
    intro w3 Bs hg zs
    simp only [Act.put]
    have E3 : Ext w w3 := Ext.grown (ET.trans Ea) hg (fun g e => by injection e with e; omega)
    have BT3 := (BT.ext Ea).grown hg (fun e => by injection e with e; omega)
    clear Ba Ea za hg BT ET
    have HZ := hide hsz
    clear hsz
    generalize hgb : wb.heap.size = gb at *
    clear HZ hgb wb
    have dT := BT3.cell
    have lT := BT3.lt
    go_wp2_with fail
    refine (unhide (cu _ (hh.ext E3))).mono ?_
    rintro e w4 ⟨rfl, hx⟩
    replace E3 := E3.trans hx
    replace BT3 := BT3.ext hx
    replace Bs := Bs.ext hx
    clear hx dT lT
    have dT := BT3.cell
    have lT := BT3.lt
    have dS : ∀ i : Nat, w4.cell? ⟨gb, i, none⟩ = S.cells[i]? := Bs.cell
    have dS0 : w4.cell? ⟨gb, 0, none⟩ = some (.int .u8 K0) := by rw [← unhide HK]; exact dS 0
    have dS1 : w4.cell? ⟨gb, 1, none⟩ = some (.bool false) := by rw [← unhide HFL]; exact dS 1
    have dS2 : w4.cell? ⟨gb, 2, none⟩ = some (.int .u8 FT) := by rw [← unhide HFT]; exact dS 2
    obtain ⟨hcc, hff⟩ := E3.cells
    have hz := Bs.lt
    clear dS
    go_wp2_with fail
    go_ret
    exact ⟨ret1b (unhide HV).symm, E3⟩
  subst f0
  by_cases h0 : 0 ≤ parN ns i
  rotate_left
  · have h1 : parN ns i = -1 := by omega
    rw [h1] at HR cu
    have HV : Hid (rootN ns i = false) := hide (by rw [HR]; simp [k3, i0, k2])
    clear HR
    clear h1 hp h0
    go_enter Try.func29, Try.ntmps29
    go_upto_region 3 with fail
    iterate 16 go_step
    refine wpList_load_mid rfl 45 _ rfl b (off + i * 44 + 1) rfl S.cells.toList _ (fun j v hv => (((Ext.refl w).alloc _).cells.1 b _ hb).trans ((unhide HMID) j v hv)) Try.underlying45 rfl (by kernel_rfl) ?_
    simp only [Act.put, List.setIfInBounds_toArray, List.set_cons_succ, List.set_cons_zero]
    have BT : Blk (w.alloc (.cells (Tr.cs ⟨some ⟨b, off, none⟩, nl, nc, aa, al, ac, view⟩) 25)) w.heap.size 25 (Tr.cs ⟨some ⟨b, off, none⟩, nl, nc, aa, al, ac, view⟩) := Blk.new _ _ _
    have ET : Ext w (w.alloc (.cells (Tr.cs ⟨some ⟨b, off, none⟩, nl, nc, aa, al, ac, view⟩) 25)) := (Ext.refl _).alloc _
    have hsz : (w.alloc (.cells (Tr.cs ⟨some ⟨b, off, none⟩, nl, nc, aa, al, ac, view⟩) 25)).heap.size = w.heap.size + 1 := by simp
    generalize w.alloc (.cells (Tr.cs ⟨some ⟨b, off, none⟩, nl, nc, aa, al, ac, view⟩) 25) = wb at *
    refine wpList_alloc_var rfl 45 rfl zst.cells zero_st ?_
    intro wa Ba Ea za
    simp only [Act.put, List.setIfInBounds_toArray, List.set_cons_succ, List.set_cons_zero]
    refine wpList_store_blk rfl 45 _ _ rfl wb.heap.size rfl S.cells rfl 45 zst.cells Ba (info_style S) rfl (by kernel_rfl) ?_
    intro w3 Bs hg zs
    simp only [Act.put]
    have E3 : Ext w w3 := Ext.grown (ET.trans Ea) hg (fun g e => by injection e with e; omega)
    have BT3 := (BT.ext Ea).grown hg (fun e => by injection e with e; omega)
    clear Ba Ea za hg BT ET
    have HZ := hide hsz
    clear hsz
    generalize hgb : wb.heap.size = gb at *
    clear HZ hgb wb
    have dT := BT3.cell
    have lT := BT3.lt
    go_wp2_with fail
    refine (unhide (cu _ (hh.ext E3))).mono ?_
    rintro e w4 ⟨rfl, hx⟩
    replace E3 := E3.trans hx
    replace BT3 := BT3.ext hx
    replace Bs := Bs.ext hx
    clear hx dT lT
    have dT := BT3.cell
    have lT := BT3.lt
    have dS : ∀ i : Nat, w4.cell? ⟨gb, i, none⟩ = S.cells[i]? := Bs.cell
    have dS0 : w4.cell? ⟨gb, 0, none⟩ = some (.int .u8 K0) := by rw [← unhide HK]; exact dS 0
    have dS1 : w4.cell? ⟨gb, 1, none⟩ = some (.bool false) := by rw [← unhide HFL]; exact dS 1
    have dS2 : w4.cell? ⟨gb, 2, none⟩ = some (.int .u8 0) := by rw [← unhide HFT]; exact dS 2
    obtain ⟨hcc, hff⟩ := E3.cells
    have hz := Bs.lt
    clear dS
    go_wp2_with fail
    go_ret
    exact ⟨ret1b (unhide HV).symm, E3⟩
  obtain ⟨k, hk⟩ : ∃ k : Nat, parN ns i = k := ⟨(parN ns i).toNat, by omega⟩
  rw [hk] at hp h0 cu HR
  rw [Int.toNat_natCast] at HR
  have hkl : k < ns.length := by omega
  have c3 := (unhide HK2) k hkl
  have hin2 : (0 : Int) ≤ (k : Int) ∧ (k : Int) < (nl : Int) := by omega
  generalize nK ns k = K at *
  clear hk
  by_cases kk : K = 2
  · subst kk
    have HV : Hid (rootN ns i = true) := hide (by rw [HR]; simp [k3])
    clear HR
    go_enter Try.func29, Try.ntmps29
    go_upto_region 3 with fail
    iterate 16 go_step
    refine wpList_load_mid rfl 45 _ rfl b (off + i * 44 + 1) rfl S.cells.toList _ (fun j v hv => (((Ext.refl w).alloc _).cells.1 b _ hb).trans ((unhide HMID) j v hv)) Try.underlying45 rfl (by kernel_rfl) ?_
    simp only [Act.put, List.setIfInBounds_toArray, List.set_cons_succ, List.set_cons_zero]
    have BT : Blk (w.alloc (.cells (Tr.cs ⟨some ⟨b, off, none⟩, nl, nc, aa, al, ac, view⟩) 25)) w.heap.size 25 (Tr.cs ⟨some ⟨b, off, none⟩, nl, nc, aa, al, ac, view⟩) := Blk.new _ _ _
    have ET : Ext w (w.alloc (.cells (Tr.cs ⟨some ⟨b, off, none⟩, nl, nc, aa, al, ac, view⟩) 25)) := (Ext.refl _).alloc _
    have hsz : (w.alloc (.cells (Tr.cs ⟨some ⟨b, off, none⟩, nl, nc, aa, al, ac, view⟩) 25)).heap.size = w.heap.size + 1 := by simp
    generalize w.alloc (.cells (Tr.cs ⟨some ⟨b, off, none⟩, nl, nc, aa, al, ac, view⟩) 25) = wb at *
    refine wpList_alloc_var rfl 45 rfl zst.cells zero_st ?_
    intro wa Ba Ea za
    simp only [Act.put, List.setIfInBounds_toArray, List.set_cons_succ, List.set_cons_zero]
    refine wpList_store_blk rfl 45 _ _ rfl wb.heap.size rfl S.cells rfl 45 zst.cells Ba (info_style S) rfl (by kernel_rfl) ?_
    intro w3 Bs hg zs
    simp only [Act.put]
    have E3 : Ext w w3 := Ext.grown (ET.trans Ea) hg (fun g e => by injection e with e; omega)
    have BT3 := (BT.ext Ea).grown hg (fun e => by injection e with e; omega)
    clear Ba Ea za hg BT ET
    have HZ := hide hsz
    clear hsz
    generalize hgb : wb.heap.size = gb at *
    clear HZ hgb wb
    have dT := BT3.cell
    have lT := BT3.lt
    go_wp2_with fail
    refine (unhide (cu _ (hh.ext E3))).mono ?_
    rintro e w4 ⟨rfl, hx⟩
    replace E3 := E3.trans hx
    replace BT3 := BT3.ext hx
    replace Bs := Bs.ext hx
    clear hx dT lT
    have dT := BT3.cell
    have lT := BT3.lt
    have dS : ∀ i : Nat, w4.cell? ⟨gb, i, none⟩ = S.cells[i]? := Bs.cell
    have dS0 : w4.cell? ⟨gb, 0, none⟩ = some (.int .u8 K0) := by rw [← unhide HK]; exact dS 0
    have dS1 : w4.cell? ⟨gb, 1, none⟩ = some (.bool false) := by rw [← unhide HFL]; exact dS 1
    have dS2 : w4.cell? ⟨gb, 2, none⟩ = some (.int .u8 0) := by rw [← unhide HFT]; exact dS 2
    obtain ⟨hcc, hff⟩ := E3.cells
    have hz := Bs.lt
    clear dS
    go_wp2_with fail
    go_ret
    exact ⟨ret1b (unhide HV).symm, E3⟩
  · have kkb : (K == 2) = false := by simpa using kk
    have HV : Hid (rootN ns i = false) := hide (by rw [HR]; simp [k3, i0, k2, kk])
    clear HR
    go_enter Try.func29, Try.ntmps29
    go_upto_region 3 with fail
    iterate 16 go_step
    refine wpList_load_mid rfl 45 _ rfl b (off + i * 44 + 1) rfl S.cells.toList _ (fun j v hv => (((Ext.refl w).alloc _).cells.1 b _ hb).trans ((unhide HMID) j v hv)) Try.underlying45 rfl (by kernel_rfl) ?_
    simp only [Act.put, List.setIfInBounds_toArray, List.set_cons_succ, List.set_cons_zero]
    have BT : Blk (w.alloc (.cells (Tr.cs ⟨some ⟨b, off, none⟩, nl, nc, aa, al, ac, view⟩) 25)) w.heap.size 25 (Tr.cs ⟨some ⟨b, off, none⟩, nl, nc, aa, al, ac, view⟩) := Blk.new _ _ _
    have ET : Ext w (w.alloc (.cells (Tr.cs ⟨some ⟨b, off, none⟩, nl, nc, aa, al, ac, view⟩) 25)) := (Ext.refl _).alloc _
    have hsz : (w.alloc (.cells (Tr.cs ⟨some ⟨b, off, none⟩, nl, nc, aa, al, ac, view⟩) 25)).heap.size = w.heap.size + 1 := by simp
    generalize w.alloc (.cells (Tr.cs ⟨some ⟨b, off, none⟩, nl, nc, aa, al, ac, view⟩) 25) = wb at *
    refine wpList_alloc_var rfl 45 rfl zst.cells zero_st ?_
    intro wa Ba Ea za
    simp only [Act.put, List.setIfInBounds_toArray, List.set_cons_succ, List.set_cons_zero]
    refine wpList_store_blk rfl 45 _ _ rfl wb.heap.size rfl S.cells rfl 45 zst.cells Ba (info_style S) rfl (by kernel_rfl) ?_
    intro w3 Bs hg zs
    simp only [Act.put]
    have E3 : Ext w w3 := Ext.grown (ET.trans Ea) hg (fun g e => by injection e with e; omega)
    have BT3 := (BT.ext Ea).grown hg (fun e => by injection e with e; omega)
    clear Ba Ea za hg BT ET
    have HZ := hide hsz
    clear hsz
    generalize hgb : wb.heap.size = gb at *
    clear HZ hgb wb
    have dT := BT3.cell
    have lT := BT3.lt
    go_wp2_with fail
    refine (unhide (cu _ (hh.ext E3))).mono ?_
    rintro e w4 ⟨rfl, hx⟩
    replace E3 := E3.trans hx
    replace BT3 := BT3.ext hx
    replace Bs := Bs.ext hx
    clear hx dT lT
    have dT := BT3.cell
    have lT := BT3.lt
    have dS : ∀ i : Nat, w4.cell? ⟨gb, i, none⟩ = S.cells[i]? := Bs.cell
    have dS0 : w4.cell? ⟨gb, 0, none⟩ = some (.int .u8 K0) := by rw [← unhide HK]; exact dS 0
    have dS1 : w4.cell? ⟨gb, 1, none⟩ = some (.bool false) := by rw [← unhide HFL]; exact dS 1
    have dS2 : w4.cell? ⟨gb, 2, none⟩ = some (.int .u8 0) := by rw [← unhide HFT]; exact dS 2
    obtain ⟨hcc, hff⟩ := E3.cells
    have hz := Bs.lt
    clear dS
    go_wp2_with fail
    go_ret
    exact ⟨ret1b (unhide HV).symm, E3⟩
end
end Go.Proofs.Ytnolbmfjgfojhaa
