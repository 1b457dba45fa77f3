/- Trees: children (walks). -/
import Derived.Test.YtnolbmfjgfojhaaTrB
import Derived.Test.YtnolbmfjgfojhaaRow
namespace Go.Proofs.Ytnolbmfjgfojhaa
open Go.RowKit

/-- a node's children among the first k nodes -/
def kidsN (ns : List Nd) (k p : Nat) : List Int := ((List.range k).filter fun i => parN ns i == (p : Int)).map (fun i : Nat => (i : Int))
theorem kidsN_0 (ns : List Nd) : kidsN ns 0 = fun _ => [] := by funext p; simp [kidsN]
theorem kidsN_succ (ns : List Nd) (k p : Nat) : kidsN ns (k + 1) p = if parN ns k = p then kidsN ns k p ++ [(k : Int)] else kidsN ns k p := by
  unfold kidsN
  rw [List.range_succ, List.filter_append, List.map_append]
  by_cases h : parN ns k = p
  · simp [h]
  · simp [h]
theorem kidsN_len (ns : List Nd) (k p : Nat) : (kidsN ns k p).length ≤ k := by
  unfold kidsN
  rw [List.length_map]
  have := List.length_filter_le (fun i => parN ns i == (p : Int)) (List.range k)
  simpa using this
theorem kids_own {w : World} {B : Nat} {v : Value} {n : Nat} {l : List Int} (h : w.ownsRow B 3 1 v n (ints l)) : ∃ A c, v = .slice A n c := by
  rcases h.2 with ⟨rfl, h0⟩ | ⟨g', cap, cur, rfl, _⟩
  · exact ⟨none, 0, by rw [h0]⟩
  · exact ⟨_, _, rfl⟩

section
variable (t : Tr) (ns : List Nd)
set_option maxHeartbeats 2000000 in
theorem kids_any (w : World) (h : Rd w 44 t.na t.nl (nds ns)) (hm : t.nl ≤ 1000000) :
    Calls Try.prog 21 #[.agg t.cs] w (RowsOut w t.nl (kidsN ns t.nl)) := by
  have hl := h.nlen
  have hm' : t.nl ≤ maxLen := by unfold maxLen; omega
  have hmk := make_rows t.nl hm
  obtain ⟨i0, hi0, hz0, hz1, hz2⟩ := info_parts int_info
  have HI := hide (And.intro hi0 (And.intro hz0 (And.intro hz1 hz2)))
  have HL := hide hl
  clear hi0 hz0 hz1 hz2
  go_enter Try.func21, Try.ntmps21
  go_wp2_with fail
  have BT : Blk ((w.alloc (.cells t.cs 25)).alloc (.cells (Array.replicate t.nl (.slice none 0 0)) 36)) w.heap.size 25 t.cs := (Blk.new _ _ _).alloc _
  have R0 := Rws.start (w.alloc (.cells t.cs 25)) (w.heap.size + 1) t.nl (by simp)
  rw [World.size_alloc] at R0
  have E0 : Ext w ((w.alloc (.cells t.cs 25)).alloc (.cells (Array.replicate t.nl (.slice none 0 0)) 36)) := ((Ext.refl _).alloc _).alloc _
  generalize (w.alloc (.cells t.cs 25)).alloc (.cells (Array.replicate t.nl (.slice none 0 0)) 36) = w0 at *
  clear hmk hl
  go_loopw [12] (fun i wr => ∃ (k : Nat) (vs : List Value), i = .int .i64 k ∧ k ≤ t.nl ∧ Rws wr (w.heap.size + 1) (w.heap.size + 1) t.nl (kidsN ns k) vs ∧ Ext w wr ∧ Blk wr w.heap.size 25 t.cs) (fun i _ => t.nl - (intOf i).toNat)
  case atStart => exact ⟨0, _, rfl, by omega, by rw [kidsN_0]; exact R0, E0, BT⟩
  case round =>
    clear R0 E0 BT
    obtain ⟨k, vs, rfl, q1, R1, E1, BT⟩ := hrel
    have c1 := BT.cell
    have l1 := BT.lt
    by_cases hk : k < t.nl
    · have hp := parN_lt ns k
      have HS := hide (kidsN_succ ns k)
      have cu := fun w h => hide (up_any t ns k (by have := unhide HL; omega) w h hm')
      by_cases h0 : 0 ≤ parN ns k
      · obtain ⟨p, hpk⟩ : ∃ p : Nat, parN ns k = p := ⟨(parN ns k).toNat, by omega⟩
        rw [hpk] at hp h0 cu HS
        have hpl : (0 : Int) ≤ (p : Int) ∧ (p : Int) < (t.nl : Int) := by omega
        have hlen := kidsN_len ns k p
        clear hpk
        go_wp2_with fail
        refine (unhide (cu _ (h.ext E1))).mono ?_
        rintro e w2 ⟨rfl, hx⟩
        have R2 := R1.ext hx
        have E2 := E1.trans hx
        have BT2 := BT.ext hx
        obtain ⟨v, hv, hc, hf, ho⟩ := R2.get (p := p) (by omega)
        obtain ⟨A, c, rfl⟩ := kids_own ho
        have lg := R2.blk.lt
        have HV := hide hv
        clear hx c1 l1 R1 E1 BT hv
        go_wp2_with (first
          | (at_builtin
             refine wpList_append_rd rfl (.tmp 25) (.tmp 27) _ rfl (w.heap.size + 1) 3 i0 _ 1 8 Try.underlying36 (unhide HI).1 (unhide HI).2.1 (unhide HI).2.2.1 (unhide HI).2.2.2 rfl (by omega) _ (kidsN ns k p).length (ints (kidsN ns k p)) rfl (ho.alloc _) _ 1 1 [.int .i64 k] rfl (Rd.one _ _) (by simp [Value.oneCell']) (by simp only [maxLen]; omega) (by omega) (by simp; omega) ?_
             intro A4 c4 w4 own4 g4 at4
             have R4 := (R2.alloc _).step (unhide HV) g4 (by simp) own4 at4
             have hc4 : w4.cell? ⟨w.heap.size + 1, p, none⟩ = some (.slice A (kidsN ns k p).length c) := (World.cell?_of_block (a := ⟨w.heap.size + 1, p, none⟩) (g4.block _ (by simp; omega) (fun e => R2.off p _ (unhide HV) e.symm))).trans (((Ext.refl w2).alloc _).cells.1 _ _ lg |>.trans hc)
             have hf4 : w4.frozen? ⟨w.heap.size + 1, p, none⟩ = false := (World.frozen?_of_block (a := ⟨w.heap.size + 1, p, none⟩) (g4.block _ (by simp; omega) (fun e => R2.off p _ (unhide HV) e.symm))).trans (((Ext.refl w2).alloc _).cells.2 _ _ lg |>.trans hf)))
        go_roundw
        case rel =>
          refine ⟨k + 1, _, by go_num, by omega, R4.congr (fun i hi => ?_), (((E2.alloc _).grown g4 (fun g e => by have := (ho.lt g e).1; omega))).set (by simp) _, ((BT2.alloc _).grown g4 (fun e => ?_)).far (by simp) _⟩
          · rw [unhide HS i]
            by_cases hip : i = p
            · subst hip; simp
            · rw [if_neg hip, if_neg (by omega)]
          · have := (ho.lt _ e).1
            omega
        case measure => simp [intOf]; omega
      · have hpk : parN ns k = -1 := by omega
        rw [hpk] at hp h0 cu HS
        clear hpk
        go_wp2_with fail
        refine (unhide (cu _ (h.ext E1))).mono ?_
        rintro e w2 ⟨rfl, hx⟩
        go_wp2_with fail
        go_roundw
        case rel => exact ⟨k + 1, _, by go_num, by omega, (R1.ext hx).congr (fun i hi => by rw [unhide HS i, if_neg (by omega)]), E1.trans hx, BT.ext hx⟩
        case measure => simp [intOf]; omega
    · obtain hkn : k = t.nl := by omega
      have HK := hide hkn
      clear hkn
      go_wp2_with fail
      go_ret
      exact ⟨_, rfl, by have := R1.rdr.mono (Nat.le_succ _); rw [unhide HK] at this; exact this, E1⟩

set_option maxHeartbeats 2000000 in
theorem refkids_any (w : World) (h : Rd w 44 t.na t.nl (nds ns)) (hm : t.nl ≤ 1000000) :
    Calls Try.prog 22 #[.agg t.cs] w (RowsOut w t.nl (kidsN ns t.nl)) := by
  have hl := h.nlen
  have hm' : t.nl ≤ maxLen := by unfold maxLen; omega
  have hmk := make_rows t.nl hm
  obtain ⟨i0, hi0, hz0, hz1, hz2⟩ := info_parts int_info
  have HI := hide (And.intro hi0 (And.intro hz0 (And.intro hz1 hz2)))
  have HL := hide hl
  clear hi0 hz0 hz1 hz2
  go_enter Try.func22, Try.ntmps22
  go_wp2_with fail
  have BT : Blk ((w.alloc (.cells t.cs 25)).alloc (.cells (Array.replicate t.nl (.slice none 0 0)) 36)) w.heap.size 25 t.cs := (Blk.new _ _ _).alloc _
  have R0 := Rws.start (w.alloc (.cells t.cs 25)) (w.heap.size + 1) t.nl (by simp)
  rw [World.size_alloc] at R0
  have E0 : Ext w ((w.alloc (.cells t.cs 25)).alloc (.cells (Array.replicate t.nl (.slice none 0 0)) 36)) := ((Ext.refl _).alloc _).alloc _
  generalize (w.alloc (.cells t.cs 25)).alloc (.cells (Array.replicate t.nl (.slice none 0 0)) 36) = w0 at *
  clear hmk hl
  go_loopw [4] (fun i wr => ∃ (k : Nat) (vs : List Value), i = .int .i64 k ∧ k ≤ t.nl ∧ Rws wr (w.heap.size + 1) (w.heap.size + 1) t.nl (kidsN ns k) vs ∧ Ext w wr ∧ Blk wr w.heap.size 25 t.cs) (fun i _ => t.nl - (intOf i).toNat)
  case atStart => exact ⟨0, _, rfl, by omega, by rw [kidsN_0]; exact R0, E0, BT⟩
  case round =>
    clear R0 E0 BT
    obtain ⟨k, vs, rfl, q1, R1, E1, BT⟩ := hrel
    have c1 := BT.cell
    have l1 := BT.lt
    by_cases hk : k < t.nl
    · have hp := parN_lt ns k
      have HS := hide (kidsN_succ ns k)
      have cu := fun w h => hide (parent_any t ns k (by have := unhide HL; omega) w h hm')
      by_cases h0 : 0 ≤ parN ns k
      · obtain ⟨p, hpk⟩ : ∃ p : Nat, parN ns k = p := ⟨(parN ns k).toNat, by omega⟩
        rw [hpk] at hp h0 cu HS
        have hpl : (0 : Int) ≤ (p : Int) ∧ (p : Int) < (t.nl : Int) := by omega
        have hlen := kidsN_len ns k p
        clear hpk
        go_wp2_with fail
        refine (unhide (cu _ (h.ext E1))).mono ?_
        rintro e w2 ⟨rfl, hx⟩
        have R2 := R1.ext hx
        have E2 := E1.trans hx
        have BT2 := BT.ext hx
        obtain ⟨v, hv, hc, hf, ho⟩ := R2.get (p := p) (by omega)
        obtain ⟨A, c, rfl⟩ := kids_own ho
        have lg := R2.blk.lt
        have HV := hide hv
        clear hx c1 l1 R1 E1 BT hv
        go_wp2_with (first
          | (at_builtin
             refine wpList_append_rd rfl (.tmp 27) (.tmp 29) _ rfl (w.heap.size + 1) 3 i0 _ 1 8 Try.underlying36 (unhide HI).1 (unhide HI).2.1 (unhide HI).2.2.1 (unhide HI).2.2.2 rfl (by omega) _ (kidsN ns k p).length (ints (kidsN ns k p)) rfl (ho.alloc _) _ 1 1 [.int .i64 k] rfl (Rd.one _ _) (by simp [Value.oneCell']) (by simp only [maxLen]; omega) (by omega) (by simp; omega) ?_
             intro A4 c4 w4 own4 g4 at4
             have R4 := (R2.alloc _).step (unhide HV) g4 (by simp) own4 at4
             have hc4 : w4.cell? ⟨w.heap.size + 1, p, none⟩ = some (.slice A (kidsN ns k p).length c) := (World.cell?_of_block (a := ⟨w.heap.size + 1, p, none⟩) (g4.block _ (by simp; omega) (fun e => R2.off p _ (unhide HV) e.symm))).trans (((Ext.refl w2).alloc _).cells.1 _ _ lg |>.trans hc)
             have hf4 : w4.frozen? ⟨w.heap.size + 1, p, none⟩ = false := (World.frozen?_of_block (a := ⟨w.heap.size + 1, p, none⟩) (g4.block _ (by simp; omega) (fun e => R2.off p _ (unhide HV) e.symm))).trans (((Ext.refl w2).alloc _).cells.2 _ _ lg |>.trans hf)))
        go_roundw
        case rel =>
          refine ⟨k + 1, _, by go_num, by omega, R4.congr (fun i hi => ?_), (((E2.alloc _).grown g4 (fun g e => by have := (ho.lt g e).1; omega))).set (by simp) _, ((BT2.alloc _).grown g4 (fun e => ?_)).far (by simp) _⟩
          · rw [unhide HS i]
            by_cases hip : i = p
            · subst hip; simp
            · rw [if_neg hip, if_neg (by omega)]
          · have := (ho.lt _ e).1
            omega
        case measure => simp [intOf]; omega
      · have hpk : parN ns k = -1 := by omega
        rw [hpk] at hp h0 cu HS
        clear hpk
        go_wp2_with fail
        refine (unhide (cu _ (h.ext E1))).mono ?_
        rintro e w2 ⟨rfl, hx⟩
        go_wp2_with fail
        go_roundw
        case rel => exact ⟨k + 1, _, by go_num, by omega, (R1.ext hx).congr (fun i hi => by rw [unhide HS i, if_neg (by omega)]), E1.trans hx, BT.ext hx⟩
        case measure => simp [intOf]; omega
    · obtain hkn : k = t.nl := by omega
      have HK := hide hkn
      clear hkn
      go_wp2_with fail
      go_ret
      exact ⟨_, rfl, by have := R1.rdr.mono (Nat.le_succ _); rw [unhide HK] at this; exact this, E1⟩
end
end Go.Proofs.Ytnolbmfjgfojhaa
