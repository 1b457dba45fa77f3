/- Islands: of each node its island, the program's, whole (walk). -/
import Derived.Test.YtnolbmfjgfojhaaIsE
import Derived.Laws.EntriesVeiled
namespace Go.Proofs.Ytnolbmfjgfojhaa
open Go.RowKit
section
variable (t : Tr) (ns : List Nd)
set_option maxRecDepth 100000 in
set_option maxHeartbeats 4000000 in
theorem of_fit (hT : TOk ns) (w : World) (h : Rd w 44 t.na t.nl (nds ns)) (hm : t.nl ≤ 1000000) :
    Calls Try.prog 36 #[.agg t.cs] w fun e w' => ∃ A, e = .returned (.slice A t.nl t.nl) ∧ Rd w' 1 A t.nl (ints (ofN ns)) ∧ Ext w w' ∧ ∀ b off, A = some ⟨b, off, none⟩ → w.heap.size ≤ b := by
  have hl := h.nlen
  have hpos := hT.pos
  obtain ⟨b, off, ha, hb, _⟩ := h.at_ (by omega)
  obtain ⟨na, nl, nc, aa, al, ac, view⟩ := t
  simp only at ha hm hl h hpos
  subst ha
  have hmk := make_ints nl hm
  have hgtb : (0 : Int) < (nl : Int) := by omega
  have HL := hide hl
  have HT := hide hT
  clear hl hT hpos
  have ck := fun w h => hide (kids_any ⟨some ⟨b, off, none⟩, nl, nc, aa, al, ac, view⟩ ns w h hm)
  have HH := hide h
  go_enter Try.func36, Try.ntmps36
  go_wp2_with fail
  have BT : Blk (((w.alloc (.cells (Tr.cs ⟨some ⟨b, off, none⟩, nl, nc, aa, al, ac, view⟩) 25)).alloc (.cells (Array.replicate nl (.int .i64 0)) 3)).alloc (.cells #[.slice (some ⟨w.heap.size + 1, 0, none⟩) nl nl] 36)) w.heap.size 25 (Tr.cs ⟨some ⟨b, off, none⟩, nl, nc, aa, al, ac, view⟩) := ((Blk.new _ _ _).alloc _).alloc _
  have BL : Blk (((w.alloc (.cells (Tr.cs ⟨some ⟨b, off, none⟩, nl, nc, aa, al, ac, view⟩) 25)).alloc (.cells (Array.replicate nl (.int .i64 0)) 3)).alloc (.cells #[.slice (some ⟨w.heap.size + 1, 0, none⟩) nl nl] 36)) (w.heap.size + 1) 3 (Array.replicate nl (.int .i64 0)) := (Blk.new1 _ _ _ _).alloc _
  have BO : Blk (((w.alloc (.cells (Tr.cs ⟨some ⟨b, off, none⟩, nl, nc, aa, al, ac, view⟩) 25)).alloc (.cells (Array.replicate nl (.int .i64 0)) 3)).alloc (.cells #[.slice (some ⟨w.heap.size + 1, 0, none⟩) nl nl] 36)) (w.heap.size + 1 + 1) 36 #[.slice (some ⟨w.heap.size + 1, 0, none⟩) nl nl] := Blk.new2 _ _ _ _ _
  have E0 : Ext w (((w.alloc (.cells (Tr.cs ⟨some ⟨b, off, none⟩, nl, nc, aa, al, ac, view⟩) 25)).alloc (.cells (Array.replicate nl (.int .i64 0)) 3)).alloc (.cells #[.slice (some ⟨w.heap.size + 1, 0, none⟩) nl nl] 36)) := (((Ext.refl _).alloc _).alloc _).alloc _
  have c1 := BO.cell
  have l1 := BO.lt
  generalize (((w.alloc (.cells (Tr.cs ⟨some ⟨b, off, none⟩, nl, nc, aa, al, ac, view⟩) 25)).alloc (.cells (Array.replicate nl (.int .i64 0)) 3)).alloc (.cells #[.slice (some ⟨w.heap.size + 1, 0, none⟩) nl nl] 36)) = w1 at *
  rw [ints_zero] at BL
  clear hmk
  go_wp2_with fail
  clear c1 l1
  go_loopw [13] (fun i wr => ∃ (k : Nat) (L : List Int), i = .int .i64 k ∧ k ≤ nl ∧ L.length = nl ∧ Hid (L.take k = List.replicate k (-1)) ∧ Ext w wr ∧ Blk wr w.heap.size 25 (Tr.cs ⟨some ⟨b, off, none⟩, nl, nc, aa, al, ac, view⟩) ∧ Blk wr (w.heap.size + 1) 3 (ints L).toArray ∧ Blk wr (w.heap.size + 1 + 1) 36 #[.slice (some ⟨w.heap.size + 1, 0, none⟩) nl nl]) (fun i _ => nl - (intOf i).toNat)
  case atStart => exact ⟨0, List.replicate nl 0, rfl, by omega, List.length_replicate, hide rfl, E0, BT, BL, BO⟩
  case round =>
    clear E0 BT BL BO
    obtain ⟨k, L, rfl, q1, hL, HV, E1, BT, BL, BO⟩ := hrel
    have co := BO.cell
    have lo := BO.lt
    have HLL := hide hL
    by_cases hk : k < nl
    · have hkL : k < L.length := by omega
      have cl := (BL.cell k).trans (show (ints L).toArray[k]? = some (.int .i64 L[k]) by simpa using ints_get hkL)
      have fl := BL.frozen k
      have ll := BL.lt
      have HV2 := hide (show (L.set k (-1)).take (k + 1) = List.replicate (k + 1) (-1) by
        rw [take_set _ (unhide HV) hkL, List.replicate_succ'])
      generalize L[k] = y0 at *
      clear hL
      go_wp2_with fail
      have E2 := E1.set (p := ⟨w.heap.size + 1, k, none⟩) (by simp) (.int .i64 (-1))
      have BT2 := BT.far (p := ⟨w.heap.size + 1, k, none⟩) (by simp) (.int .i64 (-1))
      have BO2 := BO.far (p := ⟨w.heap.size + 1, k, none⟩) (by simp) (.int .i64 (-1))
      have BL2 := BL.set_ k (.int .i64 (-1))
      rw [ints_set] at BL2
      go_roundw
      case rel => exact ⟨k + 1, L.set k (-1), by go_num, by omega, by rw [List.length_set]; exact unhide HLL, HV2, E2, BT2, BL2, BO2⟩
      case measure => simp [intOf]; omega
    · have HL0 := hide (show L = List.replicate nl (-1) by
        have h1 := unhide HV
        rw [List.take_of_length_le (by omega)] at h1
        rw [h1, show k = nl by omega])
      clear hL
      have c1 := BT.cell
      have l1 := BT.lt
      go_wp2_with fail
      refine (unhide (ck _ (h.ext E1))).mono ?_
      rintro e w2 ⟨Ak, rfl, hrows, hx⟩
      have lt2 := BO.lt
      have lx := hx.size
      have ls := E1.size
      have E2 := E1.trans hx
      have D : Dn w ns (Tr.cs ⟨some ⟨b, off, none⟩, nl, nc, aa, al, ac, view⟩) nl w.heap.size (w.heap.size + 1 + 1) w2.heap.size (w2.heap.size + 1) (w.heap.size + 1) Ak ((w2.alloc (.cells #[.slice Ak nl nl] 33)).alloc (.cells #[(.func (.func 62) #[] #[.pointer (some ⟨w.heap.size, 0, none⟩), .pointer (some ⟨w.heap.size + 1 + 1, 0, none⟩), .pointer (some ⟨w2.heap.size, 0, none⟩), .pointer (some ⟨w2.heap.size + 1, 0, none⟩)])] 71)) L :=
        ⟨(E2.alloc _).alloc _, ((BT.ext hx).alloc _).alloc _, ((BO.ext hx).alloc _).alloc _, (Blk.new _ _ _).alloc _, Blk.new1 _ _ _ _, ((BL.ext hx).alloc _).alloc _, ((hrows.mono (by omega)).ext ((Ext.refl _).alloc _)).ext ((Ext.refl _).alloc _), by omega, unhide HLL⟩
      have C := hide (ofdown_any ns b off nl nc al ac aa view w w.heap.size (w.heap.size + 1 + 1) w2.heap.size (w2.heap.size + 1) (w.heap.size + 1) Ak (unhide HT) h hm ns.length 0 (by omega) (unhide HT).pos L (-1) _ D (.inl (unhide HT).root0))
      have cK : ((w2.alloc (.cells #[.slice Ak nl nl] 33)).alloc (.cells #[(.func (.func 62) #[] #[.pointer (some ⟨w.heap.size, 0, none⟩), .pointer (some ⟨w.heap.size + 1 + 1, 0, none⟩), .pointer (some ⟨w2.heap.size, 0, none⟩), .pointer (some ⟨w2.heap.size + 1, 0, none⟩)])] 71)).cell? ⟨w2.heap.size, 0, none⟩ = some (.slice Ak nl nl) := (D.bk.cell 0).trans rfl
      have cD : ((w2.alloc (.cells #[.slice Ak nl nl] 33)).alloc (.cells #[(.func (.func 62) #[] #[.pointer (some ⟨w.heap.size, 0, none⟩), .pointer (some ⟨w.heap.size + 1 + 1, 0, none⟩), .pointer (some ⟨w2.heap.size, 0, none⟩), .pointer (some ⟨w2.heap.size + 1, 0, none⟩)])] 71)).cell? ⟨w2.heap.size + 1, 0, none⟩ = some (.func (.func 62) #[] #[.pointer (some ⟨w.heap.size, 0, none⟩), .pointer (some ⟨w.heap.size + 1 + 1, 0, none⟩), .pointer (some ⟨w2.heap.size, 0, none⟩), .pointer (some ⟨w2.heap.size + 1, 0, none⟩)]) := (D.bd.cell 0).trans rfl
      have cO : ((w2.alloc (.cells #[.slice Ak nl nl] 33)).alloc (.cells #[(.func (.func 62) #[] #[.pointer (some ⟨w.heap.size, 0, none⟩), .pointer (some ⟨w.heap.size + 1 + 1, 0, none⟩), .pointer (some ⟨w2.heap.size, 0, none⟩), .pointer (some ⟨w2.heap.size + 1, 0, none⟩)])] 71)).cell? ⟨w.heap.size + 1 + 1, 0, none⟩ = some (.slice (some ⟨w.heap.size + 1, 0, none⟩) nl nl) := (D.bo.cell 0).trans rfl
      clear E2 D BT BO BL hrows lx ls lt2
      go_wp2_with fail
      refine (unhide C).mono ?_
      rintro e w5 ⟨rfl, L5, HA, D5, -⟩
      have HF := hide (show L5 = ofN ns from by rw [unhide HL0, ← unhide HL] at HA; exact At.all (unhide HT) HA)
      have c5 := D5.bo.cell
      have l5 := D5.bo.lt
      clear C
      go_wp2_with fail
      go_ret
      refine ⟨some ⟨w.heap.size + 1, 0, none⟩, rfl, ?_, D5.ext, fun b off e => by injection e with e; injection e with e; omega⟩
      have := D5.bl.rd (n := nl) (by rw [List.size_toArray, ints_len]; exact D5.len)
      rw [unhide HF] at this
      simpa using this
theorem of_any (hT : TOk ns) (w : World) (h : Rd w 44 t.na t.nl (nds ns)) (hm : t.nl ≤ 1000000) :
    Calls Try.prog 36 #[.agg t.cs] w (IntsOut w (ofN ns)) := by
  refine (of_fit t ns hT w h hm).mono ?_
  rintro e w' ⟨A, rfl, h1, h2, -⟩
  have hl : t.nl = (ofN ns).length := by rw [ofN_len]; exact h.nlen.symm
  exact ⟨A, t.nl, by rw [← hl], hl ▸ h1, h2⟩
end
end Go.Proofs.Ytnolbmfjgfojhaa
