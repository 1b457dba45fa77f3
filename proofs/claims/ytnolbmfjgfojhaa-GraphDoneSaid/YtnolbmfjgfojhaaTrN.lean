/- Trees: what is wrong with a node (walk). -/
import Derived.Test.YtnolbmfjgfojhaaTrR
import Derived.Test.YtnolbmfjgfojhaaSt3
namespace Go.Proofs.Ytnolbmfjgfojhaa
open Go.RowKit
@[reducible] def znd : Nd := ⟨0, zst⟩
theorem zero_nd : (Try.prog.info? 47).bind (·.zero) = some (.agg znd.cells.toArray) := by kernel_rfl
theorem info_nd (n : Nd) : (Try.prog.info? 47).map (·.size) = some n.cells.toArray.size := by kernel_rfl
def looseV (s : Sty) : Bool := ((s.float != 0) || (s.clear != 0))
/-- what is wrong with a node -/
def nodeE (ns : List Nd) (i : Nat) (n : Nd) : Int :=
  if (i = 0 ∧ n.p ≠ -1) ∨ (0 < i ∧ n.p ≠ (i : Int) - 1 ∧ (n.p < 0 ∨ (i : Int) ≤ n.p ∨ bel ns n.p (i - 1) = false)) then 6
  else if 65536 < n.s.ul then 7
  else if 512 < dep ns i then 8
  else if rightV n.s = false then 6
  else if i = 0 then (if n.s.kind ≠ 1 ∨ looseV n.s = true then 6 else 0)
  else if nK ns n.p.toNat = 3 then 6
  else if nK ns n.p.toNat = 2 then (if n.s.kind = 3 ∨ looseV n.s = true then 6 else 0)
  else if 0 ≤ firstN ns n.p i (n.p.toNat + 1) ∧ ((nK ns (firstN ns n.p i (n.p.toNat + 1)).toNat == 3) != (n.s.kind == 3)) = true then 6 else 0
def nodeV (ns : List Nd) (i : Nat) : Int := match ns[i]? with | some n => nodeE ns i n | none => 0
theorem nodeV_of {ns : List Nd} {i : Nat} {n : Nd} (h : ns[i]? = some n) : nodeV ns i = nodeE ns i n := by rw [nodeV, h]
theorem firstN_at (ns : List Nd) (p : Int) (i k : Nat) : firstN ns p i k = -1 ∨ ∃ m : Nat, firstN ns p i k = m ∧ k ≤ m ∧ m < i := by
  have key : ∀ d k, i - k = d → firstN ns p i k = -1 ∨ ∃ m : Nat, firstN ns p i k = m ∧ k ≤ m ∧ m < i := by
    intro d
    induction d with
    | zero => intro k h; left; rw [firstN, if_neg (by omega)]
    | succ d ih =>
      intro k h
      rw [firstN, if_pos (by omega)]
      split
      · exact .inr ⟨k, rfl, by omega, by omega⟩
      · rcases ih (k + 1) (by omega) with h | ⟨m, h1, h2, h3⟩
        · exact .inl h
        · exact .inr ⟨m, h1, by omega, h3⟩
  exact key _ k rfl

section
variable (t : Tr) (ns : List Nd)
set_option maxRecDepth 100000 in
set_option maxHeartbeats 16000000 in
theorem node_any (i : Nat) (hi : i < ns.length) (w : World) (h : Rd w 44 t.na t.nl (nds ns)) (hm : t.nl ≤ 1000000) :
    Calls Try.prog 55 #[.agg t.cs, .int .i64 i] w fun e w' => e = .returned (.int .i64 (nodeV ns i)) ∧ Ext w w' := by
  have hm' : t.nl ≤ maxLen := by unfold maxLen; omega
  have hl := h.nlen
  have hi' := List.getElem?_eq_getElem hi
  obtain ⟨b, off, ha, hb, hc⟩ := h.node hi'
  have HR := nodeV_of hi'
  have hmid : w.rangeAt b (off + i * 44) (ns[i]).cells := hc
  have hk2 := fun (k : Nat) (hk : k < ns.length) => h.same ha hk
  have cd := fun w h => hide (depth_any t ns i hi w h hm')
  have cb := fun (j : Nat) (hj : j < ns.length) o w h => hide (below_any t ns j hj o w h hm')
  have cf := fun (p : Nat) (hp : p < ns.length) w h => hide (first_any t ns p i (by omega) w h hm' hp)
  have HD := dep_le ns i
  generalize ns[i] = nd at *
  obtain ⟨P, S⟩ := nd
  obtain ⟨na, nl, nc, aa, al, ac, view⟩ := t
  simp only at ha hm hm' hl h cd cb cf
  subst ha
  have hh := h
  have hin : (0 : Int) ≤ (i : Int) ∧ (i : Int) < (nl : Int) := by omega
  have HMID := hide hmid
  have HK2 := hide hk2
  have HH := hide hh
  have HHR := hide HR
  generalize nodeV ns i = V at *
  have HDEP := hide (show dep ns i = dep ns i from rfl)
  clear hi' h hc hmid hk2 HR hm' HDEP
  go_enter Try.func55, Try.ntmps55
  go_upto_region 1 with fail
  iterate 13 go_step
  refine wpList_load_mid rfl 47 _ rfl b (off + i * 44) rfl (Nd.cells ⟨P, S⟩) _ (fun j v hv => (((Ext.refl w).alloc _).cells.1 b _ hb).trans ((unhide HMID) j v hv)) Try.underlying47 rfl (info_nd ⟨P, S⟩) ?_
  simp only [Act.put, List.setIfInBounds_toArray, List.set_cons_succ, List.set_cons_zero]
  have BT : Blk (w.alloc (.cells (Tr.cs ⟨some ⟨b, off, none⟩, nl, nc, aa, al, ac, view⟩) 25)) w.heap.size 25 (Tr.cs ⟨some ⟨b, off, none⟩, nl, nc, aa, al, ac, view⟩) := Blk.new _ _ _
  have ET : Ext w (w.alloc (.cells (Tr.cs ⟨some ⟨b, off, none⟩, nl, nc, aa, al, ac, view⟩) 25)) := (Ext.refl _).alloc _
  have hsz : (w.alloc (.cells (Tr.cs ⟨some ⟨b, off, none⟩, nl, nc, aa, al, ac, view⟩) 25)).heap.size = w.heap.size + 1 := by simp
  have HZ := hide hsz
  clear hsz
  generalize w.alloc (.cells (Tr.cs ⟨some ⟨b, off, none⟩, nl, nc, aa, al, ac, view⟩) 25) = wb at *
  generalize hgt : w.heap.size = gt at *
  have HGT := hide hgt
  clear hgt
  refine wpList_alloc_var rfl 47 rfl znd.cells.toArray zero_nd ?_
  intro wa Ba Ea za
  simp only [Act.put, List.setIfInBounds_toArray, List.set_cons_succ, List.set_cons_zero]
  refine wpList_store_blk rfl 47 _ _ rfl wb.heap.size rfl (Nd.cells ⟨P, S⟩).toArray rfl 47 znd.cells.toArray Ba (info_nd ⟨P, S⟩) rfl (by kernel_rfl) ?_
  intro w3 BN hg zs
  simp only [Act.put]
  have E3 : Ext w w3 := Ext.grown (ET.trans Ea) hg (fun g e => by injection e with e; have := unhide HZ; have := unhide HGT; omega)
  have BT3 := (BT.ext Ea).grown hg (fun e => by injection e with e; have := unhide HZ; omega)
  clear Ba Ea za hg BT ET zs
  generalize hgn : wb.heap.size = gn at *
  clear HZ hgn wb wa
  go_upto_region 2 with fail
  iterate 4 go_step
  refine wpList_load_mid rfl 45 _ rfl gn 1 rfl S.cells.toList _ (fun j v hv => by rw [BN.cell, Nat.add_comm]; simpa using hv) Try.underlying45 rfl (info_style S) ?_
  simp only [Act.put, List.setIfInBounds_toArray, List.set_cons_succ, List.set_cons_zero]
  refine wpList_alloc_var rfl 45 rfl zst.cells zero_st ?_
  intro wa Ba Ea za
  simp only [Act.put, List.setIfInBounds_toArray, List.set_cons_succ, List.set_cons_zero]
  refine wpList_store_blk rfl 45 _ _ rfl w3.heap.size rfl S.cells rfl 45 zst.cells Ba (info_style S) rfl (by kernel_rfl) ?_
  intro w4 BS hg zs
  simp only [Act.put]
  have lT := BT3.lt
  have lN := BN.lt
  have E4 : Ext w w4 := Ext.grown (E3.trans Ea) hg (fun g e => by injection e with e; have := E3.size; omega)
  have BT4 := (BT3.ext Ea).grown hg (fun e => by injection e with e; omega)
  have BN4 := (BN.ext Ea).grown hg (fun e => by injection e with e; omega)
  clear Ba Ea za hg BT3 BN E3 lT lN zs
  generalize hgs : w3.heap.size = gs at *
  clear hgs w3 wa
  have cN : w4.cell? ⟨gn, 0, none⟩ = some (.int .i64 P) := BN4.cell 0
  have lN := BN4.lt
  go_upto_region 4 with fail
  clear cN lN
  have E := E4
  have BT := BT4
  clear E4 BT4 BN4
  by_cases i0 : i = 0
  · have i0b : ((i : Int) == 0) = true := by simpa using i0
    have i0c : ¬ (0 : Int) < (i : Int) := by omega
    by_cases hp : P = -1
    rotate_left
    · have hpb : (P != -1) = true := by simpa using hp
      have HV : Hid ((6 : Int) = V) := hide (by rw [unhide HHR, nodeE]; rw [if_pos (.inl ⟨i0, hp⟩)])
      have HI0 := hide i0
      clear i0
      go_wp2_with fail
      go_ret
      exact ⟨ret1 (unhide HV), E⟩
    have hpb : (P != -1) = false := by simpa using hp
    have hpre : ¬ ((i = 0 ∧ P ≠ -1) ∨ (0 < i ∧ P ≠ (i : Int) - 1 ∧ (P < 0 ∨ (i : Int) ≤ P ∨ bel ns P (i - 1) = false))) := by omega
    have HI0 := hide i0
    have HP := hide hp
    have HPRE := hide hpre
    clear i0 hp hpre
    go_upto_region 6 with fail
    by_cases hu : 65536 < S.ul
    · skip
      have HV : Hid ((7 : Int) = V) := hide (by rw [unhide HHR, nodeE]; rw [if_neg (unhide HPRE), if_pos hu])
      have dT := BT.cell
      have lT := BT.lt
      have dS := BS.cell
      have lS := BS.lt
      have hul : (65536 : Int) < (S.ul : Int) := by omega
      go_wp2_with fail
      go_ret
      exact ⟨ret1 (unhide HV), E⟩
    have hul : ¬ (65536 : Int) < (S.ul : Int) := by omega
    have dT := BT.cell
    have lT := BT.lt
    have dS := BS.cell
    have lS := BS.lt
    go_upto_region 8 with fail
    go_wp2_with fail
    refine (unhide (cd _ (hh.ext E))).mono ?_
    rintro e w5 ⟨rfl, hx⟩
    replace E := E.trans hx
    replace BT := BT.ext hx
    replace BS := BS.ext hx
    clear hx dT lT dS lS
    have dT := BT.cell
    have lT := BT.lt
    have dS := BS.cell
    have lS := BS.lt
    obtain ⟨DP, hDP⟩ : ∃ D, dep ns i = D := ⟨_, rfl⟩
    rw [hDP]
    rw [hDP] at HD
    by_cases hd : 512 < DP
    · skip
      have HV : Hid ((8 : Int) = V) := hide (by rw [unhide HHR, nodeE]; rw [if_neg (unhide HPRE), if_neg hu, hDP, if_pos hd])
      have HDP := hide hDP
      clear hDP
      have hdI : (512 : Int) < (DP : Int) := by omega
      go_wp2_with fail
      go_ret
      exact ⟨ret1 (unhide HV), E⟩
    have HDP := hide hDP
    clear hDP
    have hdI : ¬ (512 : Int) < (DP : Int) := by omega
    go_upto_region 10 with fail
    clear dT lT dS lS
    clear hul hdI
    obtain ⟨p62, hp62⟩ : ∃ x, (S.float != 0) = x := ⟨_, rfl⟩
    obtain ⟨p66, hp66⟩ : ∃ x, (S.clear != 0) = x := ⟨_, rfl⟩
    obtain ⟨p67, hp67⟩ : ∃ x, (p62 || p66) = x := ⟨_, rfl⟩
    have HL : Hid (p67 = ((S.float != 0) || (S.clear != 0))) := hide (by rw [← hp67, ← hp66, ← hp62])
    have Hp62 := hide hp62
    have Hp66 := hide hp66
    have Hp67 := hide hp67
    clear hp62 hp66 hp67
    refine wp_region_lin0 (fun w' => (ExtX w5 w' [])) (fun ii vv ww => match ii with | 0 => vv = .pointer (some ⟨gs, 2, none⟩) | 1 => vv = .int .u8 S.float | 2 => vv = .bool p62 | 3 => vv = .bool p62 | 4 => vv = (if (!p62) = true then .pointer (some ⟨gs, 3, none⟩) else undef) | 5 => vv = (if (!p62) = true then .int .u8 S.clear else undef) | 6 => vv = (if (!p62) = true then .bool p66 else undef) | 7 => vv = .bool p67 | 8 => vv = .bool p67 | _ => True) (fun ii => match ii with | 1 => [(0, 60)] | 2 => [(1, 61)] | 3 => [(2, 62)] | 4 => [(3, 63)] | 5 => [(4, 64), (3, 63)] | 6 => [(5, 65), (3, 63)] | 7 => [(3, 63), (6, 66)] | 8 => [(7, 67)] | _ => []) (fun ii => match ii with | 0 => [6] | 4 => [6] | _ => []) (fun ii => match ii with | 4 => [3] | 5 => [3] | 6 => [3] | _ => []) [8] [0, 1, 3, 7, 15, 31, 63, 127, 255] 122 rfl (by kernel_rfl) (ExtX.refl _ _) ?_ ?_
    · rename_i hcont; clear hcont
      refine ⟨?_, ?_, ?_, ?_, ?_, ?_, ?_, ?_, ?_, trivial⟩
      · refine stepL_plain rfl ?_
        rintro F a w1 jE - ⟨t6, -⟩ K hK
        have t6 : a.tmps[6]? = some (.pointer (some ⟨gs, 0, none⟩)) := t6
        go_simp
        exact hK _ _ jE rfl (fun _ _ _ h => h)
      · refine stepL_plain rfl ?_
        rintro F a w1 jE ⟨h0, t60, -⟩ - K hK
        have h0 : (F 0) = .pointer (some ⟨gs, 2, none⟩) := h0
        rw [h0] at t60
        clear h0
        have c := (jE.blk BS (by simp)).cell
        go_simp
        exact hK _ _ jE rfl (fun _ _ _ h => h)
      · refine stepL_plain rfl ?_
        rintro F a w1 jE ⟨h1, t61, -⟩ - K hK
        have h1 : (F 1) = .int .u8 S.float := h1
        rw [h1] at t61
        clear h1
        have e1 := unhide Hp62
        go_simp
        exact hK _ _ jE rfl (fun _ _ _ h => h)
      · refine stepL_plain rfl ?_
        rintro F a w1 jE ⟨h2, t62, -⟩ - K hK
        have h2 : (F 2) = .bool p62 := h2
        rw [h2] at t62
        clear h2
        go_simp
        exact hK _ _ jE rfl (fun _ _ _ h => h)
      · refine stepL_of ?_
        rintro F a w1 jE ⟨h3, t63, -⟩ ⟨t6, -⟩ K hK
        have h3 : (F 3) = .bool p62 := h3
        rw [h3] at t63
        clear h3
        have t6 : a.tmps[6]? = some (.pointer (some ⟨gs, 0, none⟩)) := t6
        cases p62
        all_goals first
          | (exact stepN ((wanted_of 3 false 63 _ rfl rfl t63).trans rfl) (hK undef _ jE rfl (fun _ _ _ h => h)))
          | (exact stepN (wanted_undef 3 false 63 rfl rfl t63) (hK undef _ jE rfl (fun _ _ _ h => h)))
          | (refine stepY ((wanted_of 3 false 63 _ rfl rfl t63).trans rfl) ?_
             go_simp
             exact hK _ _ jE rfl (fun _ _ _ h => h))
      · refine stepL_of ?_
        rintro F a w1 jE ⟨h4, t64, h3, t63, -⟩ - K hK
        have h4 : (F 4) = (if (!p62) = true then .pointer (some ⟨gs, 3, none⟩) else undef) := h4
        rw [h4] at t64
        clear h4
        have h3 : (F 3) = .bool p62 := h3
        rw [h3] at t63
        clear h3
        cases p62
        all_goals first
          | (exact stepN ((wanted_of 3 false 63 _ rfl rfl t63).trans rfl) (hK undef _ jE rfl (fun _ _ _ h => h)))
          | (exact stepN (wanted_undef 3 false 63 rfl rfl t63) (hK undef _ jE rfl (fun _ _ _ h => h)))
          | (refine stepY ((wanted_of 3 false 63 _ rfl rfl t63).trans rfl) ?_
             have c := (jE.blk BS (by simp)).cell
             go_simp
             exact hK _ _ jE rfl (fun _ _ _ h => h))
      · refine stepL_of ?_
        rintro F a w1 jE ⟨h5, t65, h3, t63, -⟩ - K hK
        have h5 : (F 5) = (if (!p62) = true then .int .u8 S.clear else undef) := h5
        rw [h5] at t65
        clear h5
        have h3 : (F 3) = .bool p62 := h3
        rw [h3] at t63
        clear h3
        cases p62
        all_goals first
          | (exact stepN ((wanted_of 3 false 63 _ rfl rfl t63).trans rfl) (hK undef _ jE rfl (fun _ _ _ h => h)))
          | (exact stepN (wanted_undef 3 false 63 rfl rfl t63) (hK undef _ jE rfl (fun _ _ _ h => h)))
          | (refine stepY ((wanted_of 3 false 63 _ rfl rfl t63).trans rfl) ?_
             have e1 := unhide Hp66
             go_simp
             exact hK _ _ jE rfl (fun _ _ _ h => h))
      · refine stepL_plain rfl ?_
        rintro F a w1 jE ⟨h3, t63, h6, t66, -⟩ - K hK
        have h3 : (F 3) = .bool p62 := h3
        rw [h3] at t63
        clear h3
        have h6 : (F 6) = (if (!p62) = true then .bool p66 else undef) := h6
        rw [h6] at t66
        clear h6
        cases p62 <;> cases p66
        all_goals
          obtain rfl := unhide Hp67
          go_simp
          exact hK _ _ jE rfl (fun _ _ _ h => h)
      · refine stepL_plain rfl ?_
        rintro F a w1 jE ⟨h7, t67, -⟩ - K hK
        have h7 : (F 7) = .bool p67 := h7
        rw [h7] at t67
        clear h7
        go_simp
        exact hK _ _ jE rfl (fun _ _ _ h => h)
    · rintro F w6 jE ⟨h8, -⟩
      have h8 : (F 8) = .bool p67 := h8
      have hx := jE.ext (Ext.refl _) (by simp)
      replace E := E.trans hx
      replace BT := BT.ext hx
      replace BS := BS.ext hx
      clear jE hx
      simp only [putL, Act.put, Nat.reduceAdd, Nat.zero_add, List.setIfInBounds_toArray, List.set_cons_succ, List.set_cons_zero]
      rw [h8]
      clear h8
      have HLO := hide (show looseV S = p67 by rw [looseV, unhide HL])
      go_upto_region 11 with fail
      go_step
      refine wpList_load_blk rfl 45 _ rfl gs rfl 45 S.cells _ BS Try.underlying45 rfl (info_style S) ?_
      simp only [Act.put, List.setIfInBounds_toArray, List.set_cons_succ, List.set_cons_zero]
      have dT := BT.cell
      have lT := BT.lt
      have dS := BS.cell
      have lS := BS.lt
      go_wp2_with fail
      refine (rright_any S _).mono ?_
      rintro e w7 ⟨rfl, hx⟩
      replace E := E.trans hx
      replace BT := BT.ext hx
      replace BS := BS.ext hx
      clear hx dT lT dS lS
      have dT := BT.cell
      have lT := BT.lt
      have dS := BS.cell
      have lS := BS.lt
      cases hr : rightV S
      · skip
        have HV : Hid ((6 : Int) = V) := hide (by rw [unhide HHR, nodeE]; rw [if_neg (unhide HPRE), if_neg hu, if_neg (by rw [unhide HDP]; exact hd), if_pos hr])
        clear hr
        go_wp2_with fail
        go_ret
        exact ⟨ret1 (unhide HV), E⟩
      have HRR := hide hr
      clear hr
      by_cases hk1 : S.kind = 1
      rotate_left
      · have hk1b : (S.kind != 1) = true := by simpa using hk1
        have HV : Hid ((6 : Int) = V) := hide (by rw [unhide HHR, nodeE]; rw [if_neg (unhide HPRE), if_neg hu, if_neg (by rw [unhide HDP]; exact hd), if_neg (by rw [unhide HRR]; simp), if_pos (unhide HI0), if_pos (.inl hk1)])
        clear hk1
        go_wp2_with fail
        go_ret
        exact ⟨ret1 (unhide HV), E⟩
      have hk1b : (S.kind != 1) = false := by simpa using hk1
      cases p67
      · skip
        have HV : Hid ((0 : Int) = V) := hide (by rw [unhide HHR, nodeE]; rw [if_neg (unhide HPRE), if_neg hu, if_neg (by rw [unhide HDP]; exact hd), if_neg (by rw [unhide HRR]; simp), if_pos (unhide HI0), if_neg (by rw [unhide HLO]; simp; exact hk1)])
        clear hk1
        go_wp2_with fail
        go_ret
        exact ⟨ret1 (unhide HV), E⟩
      · skip
        have HV : Hid ((6 : Int) = V) := hide (by rw [unhide HHR, nodeE]; rw [if_neg (unhide HPRE), if_neg hu, if_neg (by rw [unhide HDP]; exact hd), if_neg (by rw [unhide HRR]; simp), if_pos (unhide HI0), if_pos (.inr (unhide HLO))])
        clear hk1
        go_wp2_with fail
        go_ret
        exact ⟨ret1 (unhide HV), E⟩
  have hi0 : ¬ i = 0 := i0
  have i0b : ((i : Int) == 0) = false := by simp; omega
  have i0c : (0 : Int) < (i : Int) := by omega
  have i0d : IntKind.i64.wrap ((i : Int) - 1) = (i : Int) - 1 := IntWalk.i64_in _ (by omega)
  by_cases hp1 : P = (i : Int) - 1
  · have hpb : (P != (i : Int) - 1) = false := by simpa using hp1
    have hpre : ¬ ((i = 0 ∧ P ≠ -1) ∨ (0 < i ∧ P ≠ (i : Int) - 1 ∧ (P < 0 ∨ (i : Int) ≤ P ∨ bel ns P (i - 1) = false))) := by omega
    obtain ⟨q, hq⟩ : ∃ q : Nat, P = q := ⟨P.toNat, by omega⟩
    have hqi : q < i := by omega
    have HPRE := hide hpre
    have HP1 := hide hp1
    clear hp1 hpre
    subst hq
    go_upto_region 6 with fail
    by_cases hu : 65536 < S.ul
    · skip
      have HV : Hid ((7 : Int) = V) := hide (by rw [unhide HHR, nodeE]; rw [if_neg (unhide HPRE), if_pos hu])
      have dT := BT.cell
      have lT := BT.lt
      have dS := BS.cell
      have lS := BS.lt
      have hul : (65536 : Int) < (S.ul : Int) := by omega
      go_wp2_with fail
      go_ret
      exact ⟨ret1 (unhide HV), E⟩
    have hul : ¬ (65536 : Int) < (S.ul : Int) := by omega
    have dT := BT.cell
    have lT := BT.lt
    have dS := BS.cell
    have lS := BS.lt
    go_upto_region 8 with fail
    go_wp2_with fail
    refine (unhide (cd _ (hh.ext E))).mono ?_
    rintro e w5 ⟨rfl, hx⟩
    replace E := E.trans hx
    replace BT := BT.ext hx
    replace BS := BS.ext hx
    clear hx dT lT dS lS
    have dT := BT.cell
    have lT := BT.lt
    have dS := BS.cell
    have lS := BS.lt
    obtain ⟨DP, hDP⟩ : ∃ D, dep ns i = D := ⟨_, rfl⟩
    rw [hDP]
    rw [hDP] at HD
    by_cases hd : 512 < DP
    · skip
      have HV : Hid ((8 : Int) = V) := hide (by rw [unhide HHR, nodeE]; rw [if_neg (unhide HPRE), if_neg hu, hDP, if_pos hd])
      have HDP := hide hDP
      clear hDP
      have hdI : (512 : Int) < (DP : Int) := by omega
      go_wp2_with fail
      go_ret
      exact ⟨ret1 (unhide HV), E⟩
    have HDP := hide hDP
    clear hDP
    have hdI : ¬ (512 : Int) < (DP : Int) := by omega
    go_upto_region 10 with fail
    clear dT lT dS lS
    clear hul hdI
    obtain ⟨p62, hp62⟩ : ∃ x, (S.float != 0) = x := ⟨_, rfl⟩
    obtain ⟨p66, hp66⟩ : ∃ x, (S.clear != 0) = x := ⟨_, rfl⟩
    obtain ⟨p67, hp67⟩ : ∃ x, (p62 || p66) = x := ⟨_, rfl⟩
    have HL : Hid (p67 = ((S.float != 0) || (S.clear != 0))) := hide (by rw [← hp67, ← hp66, ← hp62])
    have Hp62 := hide hp62
    have Hp66 := hide hp66
    have Hp67 := hide hp67
    clear hp62 hp66 hp67
    refine wp_region_lin0 (fun w' => (ExtX w5 w' [])) (fun ii vv ww => match ii with | 0 => vv = .pointer (some ⟨gs, 2, none⟩) | 1 => vv = .int .u8 S.float | 2 => vv = .bool p62 | 3 => vv = .bool p62 | 4 => vv = (if (!p62) = true then .pointer (some ⟨gs, 3, none⟩) else undef) | 5 => vv = (if (!p62) = true then .int .u8 S.clear else undef) | 6 => vv = (if (!p62) = true then .bool p66 else undef) | 7 => vv = .bool p67 | 8 => vv = .bool p67 | _ => True) (fun ii => match ii with | 1 => [(0, 60)] | 2 => [(1, 61)] | 3 => [(2, 62)] | 4 => [(3, 63)] | 5 => [(4, 64), (3, 63)] | 6 => [(5, 65), (3, 63)] | 7 => [(3, 63), (6, 66)] | 8 => [(7, 67)] | _ => []) (fun ii => match ii with | 0 => [6] | 4 => [6] | _ => []) (fun ii => match ii with | 4 => [3] | 5 => [3] | 6 => [3] | _ => []) [8] [0, 1, 3, 7, 15, 31, 63, 127, 255] 122 rfl (by kernel_rfl) (ExtX.refl _ _) ?_ ?_
    · rename_i hcont; clear hcont
      refine ⟨?_, ?_, ?_, ?_, ?_, ?_, ?_, ?_, ?_, trivial⟩
      · refine stepL_plain rfl ?_
        rintro F a w1 jE - ⟨t6, -⟩ K hK
        have t6 : a.tmps[6]? = some (.pointer (some ⟨gs, 0, none⟩)) := t6
        go_simp
        exact hK _ _ jE rfl (fun _ _ _ h => h)
      · refine stepL_plain rfl ?_
        rintro F a w1 jE ⟨h0, t60, -⟩ - K hK
        have h0 : (F 0) = .pointer (some ⟨gs, 2, none⟩) := h0
        rw [h0] at t60
        clear h0
        have c := (jE.blk BS (by simp)).cell
        go_simp
        exact hK _ _ jE rfl (fun _ _ _ h => h)
      · refine stepL_plain rfl ?_
        rintro F a w1 jE ⟨h1, t61, -⟩ - K hK
        have h1 : (F 1) = .int .u8 S.float := h1
        rw [h1] at t61
        clear h1
        have e1 := unhide Hp62
        go_simp
        exact hK _ _ jE rfl (fun _ _ _ h => h)
      · refine stepL_plain rfl ?_
        rintro F a w1 jE ⟨h2, t62, -⟩ - K hK
        have h2 : (F 2) = .bool p62 := h2
        rw [h2] at t62
        clear h2
        go_simp
        exact hK _ _ jE rfl (fun _ _ _ h => h)
      · refine stepL_of ?_
        rintro F a w1 jE ⟨h3, t63, -⟩ ⟨t6, -⟩ K hK
        have h3 : (F 3) = .bool p62 := h3
        rw [h3] at t63
        clear h3
        have t6 : a.tmps[6]? = some (.pointer (some ⟨gs, 0, none⟩)) := t6
        cases p62
        all_goals first
          | (exact stepN ((wanted_of 3 false 63 _ rfl rfl t63).trans rfl) (hK undef _ jE rfl (fun _ _ _ h => h)))
          | (exact stepN (wanted_undef 3 false 63 rfl rfl t63) (hK undef _ jE rfl (fun _ _ _ h => h)))
          | (refine stepY ((wanted_of 3 false 63 _ rfl rfl t63).trans rfl) ?_
             go_simp
             exact hK _ _ jE rfl (fun _ _ _ h => h))
      · refine stepL_of ?_
        rintro F a w1 jE ⟨h4, t64, h3, t63, -⟩ - K hK
        have h4 : (F 4) = (if (!p62) = true then .pointer (some ⟨gs, 3, none⟩) else undef) := h4
        rw [h4] at t64
        clear h4
        have h3 : (F 3) = .bool p62 := h3
        rw [h3] at t63
        clear h3
        cases p62
        all_goals first
          | (exact stepN ((wanted_of 3 false 63 _ rfl rfl t63).trans rfl) (hK undef _ jE rfl (fun _ _ _ h => h)))
          | (exact stepN (wanted_undef 3 false 63 rfl rfl t63) (hK undef _ jE rfl (fun _ _ _ h => h)))
          | (refine stepY ((wanted_of 3 false 63 _ rfl rfl t63).trans rfl) ?_
             have c := (jE.blk BS (by simp)).cell
             go_simp
             exact hK _ _ jE rfl (fun _ _ _ h => h))
      · refine stepL_of ?_
        rintro F a w1 jE ⟨h5, t65, h3, t63, -⟩ - K hK
        have h5 : (F 5) = (if (!p62) = true then .int .u8 S.clear else undef) := h5
        rw [h5] at t65
        clear h5
        have h3 : (F 3) = .bool p62 := h3
        rw [h3] at t63
        clear h3
        cases p62
        all_goals first
          | (exact stepN ((wanted_of 3 false 63 _ rfl rfl t63).trans rfl) (hK undef _ jE rfl (fun _ _ _ h => h)))
          | (exact stepN (wanted_undef 3 false 63 rfl rfl t63) (hK undef _ jE rfl (fun _ _ _ h => h)))
          | (refine stepY ((wanted_of 3 false 63 _ rfl rfl t63).trans rfl) ?_
             have e1 := unhide Hp66
             go_simp
             exact hK _ _ jE rfl (fun _ _ _ h => h))
      · refine stepL_plain rfl ?_
        rintro F a w1 jE ⟨h3, t63, h6, t66, -⟩ - K hK
        have h3 : (F 3) = .bool p62 := h3
        rw [h3] at t63
        clear h3
        have h6 : (F 6) = (if (!p62) = true then .bool p66 else undef) := h6
        rw [h6] at t66
        clear h6
        cases p62 <;> cases p66
        all_goals
          obtain rfl := unhide Hp67
          go_simp
          exact hK _ _ jE rfl (fun _ _ _ h => h)
      · refine stepL_plain rfl ?_
        rintro F a w1 jE ⟨h7, t67, -⟩ - K hK
        have h7 : (F 7) = .bool p67 := h7
        rw [h7] at t67
        clear h7
        go_simp
        exact hK _ _ jE rfl (fun _ _ _ h => h)
    · rintro F w6 jE ⟨h8, -⟩
      have h8 : (F 8) = .bool p67 := h8
      have hx := jE.ext (Ext.refl _) (by simp)
      replace E := E.trans hx
      replace BT := BT.ext hx
      replace BS := BS.ext hx
      clear jE hx
      simp only [putL, Act.put, Nat.reduceAdd, Nat.zero_add, List.setIfInBounds_toArray, List.set_cons_succ, List.set_cons_zero]
      rw [h8]
      clear h8
      have HLO := hide (show looseV S = p67 by rw [looseV, unhide HL])
      go_upto_region 11 with fail
      go_step
      refine wpList_load_blk rfl 45 _ rfl gs rfl 45 S.cells _ BS Try.underlying45 rfl (info_style S) ?_
      simp only [Act.put, List.setIfInBounds_toArray, List.set_cons_succ, List.set_cons_zero]
      have dT := BT.cell
      have lT := BT.lt
      have dS := BS.cell
      have lS := BS.lt
      go_wp2_with fail
      refine (rright_any S _).mono ?_
      rintro e w7 ⟨rfl, hx⟩
      replace E := E.trans hx
      replace BT := BT.ext hx
      replace BS := BS.ext hx
      clear hx dT lT dS lS
      have dT := BT.cell
      have lT := BT.lt
      have dS := BS.cell
      have lS := BS.lt
      cases hr : rightV S
      · skip
        have HV : Hid ((6 : Int) = V) := hide (by rw [unhide HHR, nodeE]; rw [if_neg (unhide HPRE), if_neg hu, if_neg (by rw [unhide HDP]; exact hd), if_pos hr])
        clear hr
        go_wp2_with fail
        go_ret
        exact ⟨ret1 (unhide HV), E⟩
      have HRR := hide hr
      clear hr
      have kq := (E.cells.1 b _ (by have := unhide HGT; omega)).trans ((unhide HK2) q (by omega))
      have hq2 : (0 : Int) ≤ (q : Int) ∧ (q : Int) < (nl : Int) := by omega
      obtain ⟨KQ, hKQ⟩ : ∃ K, nK ns q = K := ⟨_, rfl⟩
      rw [hKQ] at kq
      have HKQ : Hid (nK ns (Int.toNat ((q : Nat) : Int)) = KQ) := hide (by rw [Int.toNat_natCast]; exact hKQ)
      clear hKQ
      have HP67 := hide (show p67 = p67 from rfl)
      clear HP67
      by_cases h3 : KQ = 3
      · subst h3
        have HV : Hid ((6 : Int) = V) := hide (by rw [unhide HHR, nodeE]; rw [if_neg (unhide HPRE), if_neg hu, if_neg (by rw [unhide HDP]; exact hd), if_neg (by rw [unhide HRR]; simp), if_neg hi0, if_pos (unhide HKQ)])
        go_wp2_with fail
        go_ret
        exact ⟨ret1 (unhide HV), E⟩
      have h3b : (KQ == 3) = false := by simpa using h3
      by_cases h2 : KQ = 2
      · subst h2
        by_cases hs3 : S.kind = 3
        · have hs3b : (S.kind == 3) = true := by simpa using hs3
          have HV : Hid ((6 : Int) = V) := hide (by rw [unhide HHR, nodeE]; rw [if_neg (unhide HPRE), if_neg hu, if_neg (by rw [unhide HDP]; exact hd), if_neg (by rw [unhide HRR]; simp), if_neg hi0, if_neg (by rw [unhide HKQ]; decide), if_pos (unhide HKQ), if_pos (.inl hs3)])
          clear hs3
          go_wp2_with fail
          go_ret
          exact ⟨ret1 (unhide HV), E⟩
        have hs3b : (S.kind == 3) = false := by simpa using hs3
        cases p67
        · skip
          have HV : Hid ((0 : Int) = V) := hide (by rw [unhide HHR, nodeE]; rw [if_neg (unhide HPRE), if_neg hu, if_neg (by rw [unhide HDP]; exact hd), if_neg (by rw [unhide HRR]; simp), if_neg hi0, if_neg (by rw [unhide HKQ]; decide), if_pos (unhide HKQ), if_neg (by rw [unhide HLO]; simp; exact hs3)])
          clear hs3
          go_wp2_with fail
          go_ret
          exact ⟨ret1 (unhide HV), E⟩
        · skip
          have HV : Hid ((6 : Int) = V) := hide (by rw [unhide HHR, nodeE]; rw [if_neg (unhide HPRE), if_neg hu, if_neg (by rw [unhide HDP]; exact hd), if_neg (by rw [unhide HRR]; simp), if_neg hi0, if_neg (by rw [unhide HKQ]; decide), if_pos (unhide HKQ), if_pos (.inr (unhide HLO))])
          clear hs3
          go_wp2_with fail
          go_ret
          exact ⟨ret1 (unhide HV), E⟩
      have h2b : (KQ == 2) = false := by simpa using h2
      go_upto_region 16 with fail
      go_wp2_with fail
      refine (unhide (cf q (by omega) _ (hh.ext E))).mono ?_
      rintro e w8 ⟨rfl, hx⟩
      replace E := E.trans hx
      replace BT := BT.ext hx
      replace BS := BS.ext hx
      clear hx dT lT dS lS
      have dT := BT.cell
      have lT := BT.lt
      have dS := BS.cell
      have lS := BS.lt
      rcases firstN_at ns (q : Int) i (q + 1) with hf | ⟨m, hf, hf1, hf2⟩
      · rw [hf]
        have HV : Hid ((0 : Int) = V) := hide (by rw [unhide HHR, nodeE]; rw [if_neg (unhide HPRE), if_neg hu, if_neg (by rw [unhide HDP]; exact hd), if_neg (by rw [unhide HRR]; simp), if_neg hi0, if_neg (by rw [unhide HKQ]; exact h3), if_neg (by rw [unhide HKQ]; exact h2), if_neg (by rw [Int.toNat_natCast, hf]; omega)])
        have HFF := hide hf
        clear hf
        have hdd : decide ((0 : Int) ≤ -1) = false := by decide
        go_wp2_with fail
        go_quiet (fail)
        go_wp2_with fail
        go_ret
        exact ⟨ret1 (unhide HV), E.drewN _⟩
      · rw [hf]
        have km := (E.cells.1 b _ (by have := unhide HGT; omega)).trans ((unhide HK2) m (by omega))
        obtain ⟨x3, hx3⟩ : ∃ x, (nK ns m == 3) = x := ⟨_, rfl⟩
        obtain ⟨y3, hy3⟩ : ∃ x, (S.kind == 3) = x := ⟨_, rfl⟩
        have hm2 : (0 : Int) ≤ (m : Int) ∧ (m : Int) < (nl : Int) := by omega
        have hdd : decide ((0 : Int) ≤ (m : Int)) = true := by simp
        have HFF := hide hf
        clear hf
        generalize hKM : nK ns m = KM at *
        cases x3 <;> cases y3
        · skip
          have HV : Hid ((0 : Int) = V) := hide (by rw [unhide HHR, nodeE]; rw [if_neg (unhide HPRE), if_neg hu, if_neg (by rw [unhide HDP]; exact hd), if_neg (by rw [unhide HRR]; simp), if_neg hi0, if_neg (by rw [unhide HKQ]; exact h3), if_neg (by rw [unhide HKQ]; exact h2), if_neg (by rw [Int.toNat_natCast, unhide HFF, Int.toNat_natCast, hKM, hx3, hy3]; simp)])
          clear hKM
          go_wp2_with fail
          go_quiet (fail)
          go_wp2_with fail
          go_ret
          exact ⟨ret1 (unhide HV), E.drewN _⟩
        · skip
          have HV : Hid ((6 : Int) = V) := hide (by rw [unhide HHR, nodeE]; rw [if_neg (unhide HPRE), if_neg hu, if_neg (by rw [unhide HDP]; exact hd), if_neg (by rw [unhide HRR]; simp), if_neg hi0, if_neg (by rw [unhide HKQ]; exact h3), if_neg (by rw [unhide HKQ]; exact h2), if_pos (by rw [Int.toNat_natCast, unhide HFF, Int.toNat_natCast, hKM, hx3, hy3]; exact ⟨by omega, rfl⟩)])
          clear hKM
          go_wp2_with fail
          go_quiet (fail)
          go_wp2_with fail
          go_ret
          exact ⟨ret1 (unhide HV), E.drewN _⟩
        · skip
          have HV : Hid ((6 : Int) = V) := hide (by rw [unhide HHR, nodeE]; rw [if_neg (unhide HPRE), if_neg hu, if_neg (by rw [unhide HDP]; exact hd), if_neg (by rw [unhide HRR]; simp), if_neg hi0, if_neg (by rw [unhide HKQ]; exact h3), if_neg (by rw [unhide HKQ]; exact h2), if_pos (by rw [Int.toNat_natCast, unhide HFF, Int.toNat_natCast, hKM, hx3, hy3]; exact ⟨by omega, rfl⟩)])
          clear hKM
          go_wp2_with fail
          go_quiet (fail)
          go_wp2_with fail
          go_ret
          exact ⟨ret1 (unhide HV), E.drewN _⟩
        · skip
          have HV : Hid ((0 : Int) = V) := hide (by rw [unhide HHR, nodeE]; rw [if_neg (unhide HPRE), if_neg hu, if_neg (by rw [unhide HDP]; exact hd), if_neg (by rw [unhide HRR]; simp), if_neg hi0, if_neg (by rw [unhide HKQ]; exact h3), if_neg (by rw [unhide HKQ]; exact h2), if_neg (by rw [Int.toNat_natCast, unhide HFF, Int.toNat_natCast, hKM, hx3, hy3]; simp)])
          clear hKM
          go_wp2_with fail
          go_quiet (fail)
          go_wp2_with fail
          go_ret
          exact ⟨ret1 (unhide HV), E.drewN _⟩
  have hpb : (P != (i : Int) - 1) = true := by simpa using hp1
  by_cases hp2 : P < 0
  · skip
    have HV : Hid ((6 : Int) = V) := hide (by rw [unhide HHR, nodeE]; rw [if_pos (.inr ⟨by omega, hp1, .inl hp2⟩)])
    go_wp2_with fail
    go_ret
    exact ⟨ret1 (unhide HV), E⟩
  by_cases hp3 : (i : Int) ≤ P
  · skip
    have HV : Hid ((6 : Int) = V) := hide (by rw [unhide HHR, nodeE]; rw [if_pos (.inr ⟨by omega, hp1, .inr (.inl hp3)⟩)])
    go_wp2_with fail
    go_ret
    exact ⟨ret1 (unhide HV), E⟩
  obtain ⟨q, hq⟩ : ∃ q : Nat, P = q := ⟨P.toNat, by omega⟩
  have hqi : q < i := by omega
  subst hq
  obtain ⟨j, hj⟩ : ∃ j : Nat, (i : Int) - 1 = j := ⟨i - 1, by omega⟩
  have hj2 : i - 1 = j := by omega
  have HJ2 := hide hj2
  have hjl : j < ns.length := by omega
  clear hj2
  have dT := BT.cell
  have lT := BT.lt
  have dS := BS.cell
  have lS := BS.lt
  go_wp2_with fail
  refine (unhide (cb j hjl _ _ (hh.ext E))).mono ?_
  rintro e w4b ⟨rfl, hx⟩
  replace E := E.trans hx
  replace BT := BT.ext hx
  replace BS := BS.ext hx
  clear hx dT lT dS lS
  cases hbb : bel ns (q : Int) j
  · skip
    have HV : Hid ((6 : Int) = V) := hide (by rw [unhide HHR, nodeE]; rw [if_pos (.inr ⟨by omega, hp1, .inr (.inr (by rw [unhide HJ2]; exact hbb))⟩)])
    clear hbb hj hp1
    go_wp2_with fail
    go_ret
    exact ⟨ret1 (unhide HV), E⟩
  · have hpre : ¬ ((i = 0 ∧ (q : Int) ≠ -1) ∨ (0 < i ∧ (q : Int) ≠ (i : Int) - 1 ∧ ((q : Int) < 0 ∨ (i : Int) ≤ (q : Int) ∨ bel ns (q : Int) (i - 1) = false))) := by
      rintro (⟨h1, _⟩ | ⟨_, _, h1 | h1 | h1⟩)
      · omega
      · omega
      · omega
      · rw [unhide HJ2, hbb] at h1; cases h1
    have HPRE := hide hpre
    clear hpre hbb hj hp1
    go_upto_region 6 with fail
    by_cases hu : 65536 < S.ul
    · skip
      have HV : Hid ((7 : Int) = V) := hide (by rw [unhide HHR, nodeE]; rw [if_neg (unhide HPRE), if_pos hu])
      have dT := BT.cell
      have lT := BT.lt
      have dS := BS.cell
      have lS := BS.lt
      have hul : (65536 : Int) < (S.ul : Int) := by omega
      go_wp2_with fail
      go_ret
      exact ⟨ret1 (unhide HV), E⟩
    have hul : ¬ (65536 : Int) < (S.ul : Int) := by omega
    have dT := BT.cell
    have lT := BT.lt
    have dS := BS.cell
    have lS := BS.lt
    go_upto_region 8 with fail
    go_wp2_with fail
    refine (unhide (cd _ (hh.ext E))).mono ?_
    rintro e w5 ⟨rfl, hx⟩
    replace E := E.trans hx
    replace BT := BT.ext hx
    replace BS := BS.ext hx
    clear hx dT lT dS lS
    have dT := BT.cell
    have lT := BT.lt
    have dS := BS.cell
    have lS := BS.lt
    obtain ⟨DP, hDP⟩ : ∃ D, dep ns i = D := ⟨_, rfl⟩
    rw [hDP]
    rw [hDP] at HD
    by_cases hd : 512 < DP
    · skip
      have HV : Hid ((8 : Int) = V) := hide (by rw [unhide HHR, nodeE]; rw [if_neg (unhide HPRE), if_neg hu, hDP, if_pos hd])
      have HDP := hide hDP
      clear hDP
      have hdI : (512 : Int) < (DP : Int) := by omega
      go_wp2_with fail
      go_ret
      exact ⟨ret1 (unhide HV), E⟩
    have HDP := hide hDP
    clear hDP
    have hdI : ¬ (512 : Int) < (DP : Int) := by omega
    go_upto_region 10 with fail
    clear dT lT dS lS
    clear hul hdI
    obtain ⟨p62, hp62⟩ : ∃ x, (S.float != 0) = x := ⟨_, rfl⟩
    obtain ⟨p66, hp66⟩ : ∃ x, (S.clear != 0) = x := ⟨_, rfl⟩
    obtain ⟨p67, hp67⟩ : ∃ x, (p62 || p66) = x := ⟨_, rfl⟩
    have HL : Hid (p67 = ((S.float != 0) || (S.clear != 0))) := hide (by rw [← hp67, ← hp66, ← hp62])
    have Hp62 := hide hp62
    have Hp66 := hide hp66
    have Hp67 := hide hp67
    clear hp62 hp66 hp67
    refine wp_region_lin0 (fun w' => (ExtX w5 w' [])) (fun ii vv ww => match ii with | 0 => vv = .pointer (some ⟨gs, 2, none⟩) | 1 => vv = .int .u8 S.float | 2 => vv = .bool p62 | 3 => vv = .bool p62 | 4 => vv = (if (!p62) = true then .pointer (some ⟨gs, 3, none⟩) else undef) | 5 => vv = (if (!p62) = true then .int .u8 S.clear else undef) | 6 => vv = (if (!p62) = true then .bool p66 else undef) | 7 => vv = .bool p67 | 8 => vv = .bool p67 | _ => True) (fun ii => match ii with | 1 => [(0, 60)] | 2 => [(1, 61)] | 3 => [(2, 62)] | 4 => [(3, 63)] | 5 => [(4, 64), (3, 63)] | 6 => [(5, 65), (3, 63)] | 7 => [(3, 63), (6, 66)] | 8 => [(7, 67)] | _ => []) (fun ii => match ii with | 0 => [6] | 4 => [6] | _ => []) (fun ii => match ii with | 4 => [3] | 5 => [3] | 6 => [3] | _ => []) [8] [0, 1, 3, 7, 15, 31, 63, 127, 255] 122 rfl (by kernel_rfl) (ExtX.refl _ _) ?_ ?_
    · rename_i hcont; clear hcont
      refine ⟨?_, ?_, ?_, ?_, ?_, ?_, ?_, ?_, ?_, trivial⟩
      · refine stepL_plain rfl ?_
        rintro F a w1 jE - ⟨t6, -⟩ K hK
        have t6 : a.tmps[6]? = some (.pointer (some ⟨gs, 0, none⟩)) := t6
        go_simp
        exact hK _ _ jE rfl (fun _ _ _ h => h)
      · refine stepL_plain rfl ?_
        rintro F a w1 jE ⟨h0, t60, -⟩ - K hK
        have h0 : (F 0) = .pointer (some ⟨gs, 2, none⟩) := h0
        rw [h0] at t60
        clear h0
        have c := (jE.blk BS (by simp)).cell
        go_simp
        exact hK _ _ jE rfl (fun _ _ _ h => h)
      · refine stepL_plain rfl ?_
        rintro F a w1 jE ⟨h1, t61, -⟩ - K hK
        have h1 : (F 1) = .int .u8 S.float := h1
        rw [h1] at t61
        clear h1
        have e1 := unhide Hp62
        go_simp
        exact hK _ _ jE rfl (fun _ _ _ h => h)
      · refine stepL_plain rfl ?_
        rintro F a w1 jE ⟨h2, t62, -⟩ - K hK
        have h2 : (F 2) = .bool p62 := h2
        rw [h2] at t62
        clear h2
        go_simp
        exact hK _ _ jE rfl (fun _ _ _ h => h)
      · refine stepL_of ?_
        rintro F a w1 jE ⟨h3, t63, -⟩ ⟨t6, -⟩ K hK
        have h3 : (F 3) = .bool p62 := h3
        rw [h3] at t63
        clear h3
        have t6 : a.tmps[6]? = some (.pointer (some ⟨gs, 0, none⟩)) := t6
        cases p62
        all_goals first
          | (exact stepN ((wanted_of 3 false 63 _ rfl rfl t63).trans rfl) (hK undef _ jE rfl (fun _ _ _ h => h)))
          | (exact stepN (wanted_undef 3 false 63 rfl rfl t63) (hK undef _ jE rfl (fun _ _ _ h => h)))
          | (refine stepY ((wanted_of 3 false 63 _ rfl rfl t63).trans rfl) ?_
             go_simp
             exact hK _ _ jE rfl (fun _ _ _ h => h))
      · refine stepL_of ?_
        rintro F a w1 jE ⟨h4, t64, h3, t63, -⟩ - K hK
        have h4 : (F 4) = (if (!p62) = true then .pointer (some ⟨gs, 3, none⟩) else undef) := h4
        rw [h4] at t64
        clear h4
        have h3 : (F 3) = .bool p62 := h3
        rw [h3] at t63
        clear h3
        cases p62
        all_goals first
          | (exact stepN ((wanted_of 3 false 63 _ rfl rfl t63).trans rfl) (hK undef _ jE rfl (fun _ _ _ h => h)))
          | (exact stepN (wanted_undef 3 false 63 rfl rfl t63) (hK undef _ jE rfl (fun _ _ _ h => h)))
          | (refine stepY ((wanted_of 3 false 63 _ rfl rfl t63).trans rfl) ?_
             have c := (jE.blk BS (by simp)).cell
             go_simp
             exact hK _ _ jE rfl (fun _ _ _ h => h))
      · refine stepL_of ?_
        rintro F a w1 jE ⟨h5, t65, h3, t63, -⟩ - K hK
        have h5 : (F 5) = (if (!p62) = true then .int .u8 S.clear else undef) := h5
        rw [h5] at t65
        clear h5
        have h3 : (F 3) = .bool p62 := h3
        rw [h3] at t63
        clear h3
        cases p62
        all_goals first
          | (exact stepN ((wanted_of 3 false 63 _ rfl rfl t63).trans rfl) (hK undef _ jE rfl (fun _ _ _ h => h)))
          | (exact stepN (wanted_undef 3 false 63 rfl rfl t63) (hK undef _ jE rfl (fun _ _ _ h => h)))
          | (refine stepY ((wanted_of 3 false 63 _ rfl rfl t63).trans rfl) ?_
             have e1 := unhide Hp66
             go_simp
             exact hK _ _ jE rfl (fun _ _ _ h => h))
      · refine stepL_plain rfl ?_
        rintro F a w1 jE ⟨h3, t63, h6, t66, -⟩ - K hK
        have h3 : (F 3) = .bool p62 := h3
        rw [h3] at t63
        clear h3
        have h6 : (F 6) = (if (!p62) = true then .bool p66 else undef) := h6
        rw [h6] at t66
        clear h6
        cases p62 <;> cases p66
        all_goals
          obtain rfl := unhide Hp67
          go_simp
          exact hK _ _ jE rfl (fun _ _ _ h => h)
      · refine stepL_plain rfl ?_
        rintro F a w1 jE ⟨h7, t67, -⟩ - K hK
        have h7 : (F 7) = .bool p67 := h7
        rw [h7] at t67
        clear h7
        go_simp
        exact hK _ _ jE rfl (fun _ _ _ h => h)
    · rintro F w6 jE ⟨h8, -⟩
      have h8 : (F 8) = .bool p67 := h8
      have hx := jE.ext (Ext.refl _) (by simp)
      replace E := E.trans hx
      replace BT := BT.ext hx
      replace BS := BS.ext hx
      clear jE hx
      simp only [putL, Act.put, Nat.reduceAdd, Nat.zero_add, List.setIfInBounds_toArray, List.set_cons_succ, List.set_cons_zero]
      rw [h8]
      clear h8
      have HLO := hide (show looseV S = p67 by rw [looseV, unhide HL])
      go_upto_region 11 with fail
      go_step
      refine wpList_load_blk rfl 45 _ rfl gs rfl 45 S.cells _ BS Try.underlying45 rfl (info_style S) ?_
      simp only [Act.put, List.setIfInBounds_toArray, List.set_cons_succ, List.set_cons_zero]
      have dT := BT.cell
      have lT := BT.lt
      have dS := BS.cell
      have lS := BS.lt
      go_wp2_with fail
      refine (rright_any S _).mono ?_
      rintro e w7 ⟨rfl, hx⟩
      replace E := E.trans hx
      replace BT := BT.ext hx
      replace BS := BS.ext hx
      clear hx dT lT dS lS
      have dT := BT.cell
      have lT := BT.lt
      have dS := BS.cell
      have lS := BS.lt
      cases hr : rightV S
      · skip
        have HV : Hid ((6 : Int) = V) := hide (by rw [unhide HHR, nodeE]; rw [if_neg (unhide HPRE), if_neg hu, if_neg (by rw [unhide HDP]; exact hd), if_pos hr])
        clear hr
        go_wp2_with fail
        go_ret
        exact ⟨ret1 (unhide HV), E⟩
      have HRR := hide hr
      clear hr
      have kq := (E.cells.1 b _ (by have := unhide HGT; omega)).trans ((unhide HK2) q (by omega))
      have hq2 : (0 : Int) ≤ (q : Int) ∧ (q : Int) < (nl : Int) := by omega
      obtain ⟨KQ, hKQ⟩ : ∃ K, nK ns q = K := ⟨_, rfl⟩
      rw [hKQ] at kq
      have HKQ : Hid (nK ns (Int.toNat ((q : Nat) : Int)) = KQ) := hide (by rw [Int.toNat_natCast]; exact hKQ)
      clear hKQ
      have HP67 := hide (show p67 = p67 from rfl)
      clear HP67
      by_cases h3 : KQ = 3
      · subst h3
        have HV : Hid ((6 : Int) = V) := hide (by rw [unhide HHR, nodeE]; rw [if_neg (unhide HPRE), if_neg hu, if_neg (by rw [unhide HDP]; exact hd), if_neg (by rw [unhide HRR]; simp), if_neg hi0, if_pos (unhide HKQ)])
        go_wp2_with fail
        go_ret
        exact ⟨ret1 (unhide HV), E⟩
      have h3b : (KQ == 3) = false := by simpa using h3
      by_cases h2 : KQ = 2
      · subst h2
        by_cases hs3 : S.kind = 3
        · have hs3b : (S.kind == 3) = true := by simpa using hs3
          have HV : Hid ((6 : Int) = V) := hide (by rw [unhide HHR, nodeE]; rw [if_neg (unhide HPRE), if_neg hu, if_neg (by rw [unhide HDP]; exact hd), if_neg (by rw [unhide HRR]; simp), if_neg hi0, if_neg (by rw [unhide HKQ]; decide), if_pos (unhide HKQ), if_pos (.inl hs3)])
          clear hs3
          go_wp2_with fail
          go_ret
          exact ⟨ret1 (unhide HV), E⟩
        have hs3b : (S.kind == 3) = false := by simpa using hs3
        cases p67
        · skip
          have HV : Hid ((0 : Int) = V) := hide (by rw [unhide HHR, nodeE]; rw [if_neg (unhide HPRE), if_neg hu, if_neg (by rw [unhide HDP]; exact hd), if_neg (by rw [unhide HRR]; simp), if_neg hi0, if_neg (by rw [unhide HKQ]; decide), if_pos (unhide HKQ), if_neg (by rw [unhide HLO]; simp; exact hs3)])
          clear hs3
          go_wp2_with fail
          go_ret
          exact ⟨ret1 (unhide HV), E⟩
        · skip
          have HV : Hid ((6 : Int) = V) := hide (by rw [unhide HHR, nodeE]; rw [if_neg (unhide HPRE), if_neg hu, if_neg (by rw [unhide HDP]; exact hd), if_neg (by rw [unhide HRR]; simp), if_neg hi0, if_neg (by rw [unhide HKQ]; decide), if_pos (unhide HKQ), if_pos (.inr (unhide HLO))])
          clear hs3
          go_wp2_with fail
          go_ret
          exact ⟨ret1 (unhide HV), E⟩
      have h2b : (KQ == 2) = false := by simpa using h2
      go_upto_region 16 with fail
      go_wp2_with fail
      refine (unhide (cf q (by omega) _ (hh.ext E))).mono ?_
      rintro e w8 ⟨rfl, hx⟩
      replace E := E.trans hx
      replace BT := BT.ext hx
      replace BS := BS.ext hx
      clear hx dT lT dS lS
      have dT := BT.cell
      have lT := BT.lt
      have dS := BS.cell
      have lS := BS.lt
      rcases firstN_at ns (q : Int) i (q + 1) with hf | ⟨m, hf, hf1, hf2⟩
      · rw [hf]
        have HV : Hid ((0 : Int) = V) := hide (by rw [unhide HHR, nodeE]; rw [if_neg (unhide HPRE), if_neg hu, if_neg (by rw [unhide HDP]; exact hd), if_neg (by rw [unhide HRR]; simp), if_neg hi0, if_neg (by rw [unhide HKQ]; exact h3), if_neg (by rw [unhide HKQ]; exact h2), if_neg (by rw [Int.toNat_natCast, hf]; omega)])
        have HFF := hide hf
        clear hf
        have hdd : decide ((0 : Int) ≤ -1) = false := by decide
        go_wp2_with fail
        go_quiet (fail)
        go_wp2_with fail
        go_ret
        exact ⟨ret1 (unhide HV), E.drewN _⟩
      · rw [hf]
        have km := (E.cells.1 b _ (by have := unhide HGT; omega)).trans ((unhide HK2) m (by omega))
        obtain ⟨x3, hx3⟩ : ∃ x, (nK ns m == 3) = x := ⟨_, rfl⟩
        obtain ⟨y3, hy3⟩ : ∃ x, (S.kind == 3) = x := ⟨_, rfl⟩
        have hm2 : (0 : Int) ≤ (m : Int) ∧ (m : Int) < (nl : Int) := by omega
        have hdd : decide ((0 : Int) ≤ (m : Int)) = true := by simp
        have HFF := hide hf
        clear hf
        generalize hKM : nK ns m = KM at *
        cases x3 <;> cases y3
        · skip
          have HV : Hid ((0 : Int) = V) := hide (by rw [unhide HHR, nodeE]; rw [if_neg (unhide HPRE), if_neg hu, if_neg (by rw [unhide HDP]; exact hd), if_neg (by rw [unhide HRR]; simp), if_neg hi0, if_neg (by rw [unhide HKQ]; exact h3), if_neg (by rw [unhide HKQ]; exact h2), if_neg (by rw [Int.toNat_natCast, unhide HFF, Int.toNat_natCast, hKM, hx3, hy3]; simp)])
          clear hKM
          go_wp2_with fail
          go_quiet (fail)
          go_wp2_with fail
          go_ret
          exact ⟨ret1 (unhide HV), E.drewN _⟩
        · skip
          have HV : Hid ((6 : Int) = V) := hide (by rw [unhide HHR, nodeE]; rw [if_neg (unhide HPRE), if_neg hu, if_neg (by rw [unhide HDP]; exact hd), if_neg (by rw [unhide HRR]; simp), if_neg hi0, if_neg (by rw [unhide HKQ]; exact h3), if_neg (by rw [unhide HKQ]; exact h2), if_pos (by rw [Int.toNat_natCast, unhide HFF, Int.toNat_natCast, hKM, hx3, hy3]; exact ⟨by omega, rfl⟩)])
          clear hKM
          go_wp2_with fail
          go_quiet (fail)
          go_wp2_with fail
          go_ret
          exact ⟨ret1 (unhide HV), E.drewN _⟩
        · skip
          have HV : Hid ((6 : Int) = V) := hide (by rw [unhide HHR, nodeE]; rw [if_neg (unhide HPRE), if_neg hu, if_neg (by rw [unhide HDP]; exact hd), if_neg (by rw [unhide HRR]; simp), if_neg hi0, if_neg (by rw [unhide HKQ]; exact h3), if_neg (by rw [unhide HKQ]; exact h2), if_pos (by rw [Int.toNat_natCast, unhide HFF, Int.toNat_natCast, hKM, hx3, hy3]; exact ⟨by omega, rfl⟩)])
          clear hKM
          go_wp2_with fail
          go_quiet (fail)
          go_wp2_with fail
          go_ret
          exact ⟨ret1 (unhide HV), E.drewN _⟩
        · skip
          have HV : Hid ((0 : Int) = V) := hide (by rw [unhide HHR, nodeE]; rw [if_neg (unhide HPRE), if_neg hu, if_neg (by rw [unhide HDP]; exact hd), if_neg (by rw [unhide HRR]; simp), if_neg hi0, if_neg (by rw [unhide HKQ]; exact h3), if_neg (by rw [unhide HKQ]; exact h2), if_neg (by rw [Int.toNat_natCast, unhide HFF, Int.toNat_natCast, hKM, hx3, hy3]; simp)])
          clear hKM
          go_wp2_with fail
          go_quiet (fail)
          go_wp2_with fail
          go_ret
          exact ⟨ret1 (unhide HV), E.drewN _⟩
end
end Go.Proofs.Ytnolbmfjgfojhaa
