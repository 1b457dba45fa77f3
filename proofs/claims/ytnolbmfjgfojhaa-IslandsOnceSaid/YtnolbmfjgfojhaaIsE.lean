/- Islands: of each node its island, the program's (walk). -/
import Derived.Test.YtnolbmfjgfojhaaPut
namespace Go.Proofs.Ytnolbmfjgfojhaa
open Go.RowKit
theorem ExtX.then {w w' w'' : World} {xs : List Nat} (h : ExtX w w' xs) (k : ExtX w' w'' xs) : ExtX w w'' xs :=
  ⟨k.os.trans h.os, k.tape.trans h.tape, k.output.trans h.output, Nat.le_trans h.size k.size, fun i hi hx => (k.block i (Nat.lt_of_lt_of_le hi h.size) hx).trans (h.block i hi hx)⟩
theorem ExtX.of {w w' : World} (h : Ext w w') (xs : List Nat) : ExtX w w' xs := (ExtX.refl w xs).trans h
theorem RdR.far {w w' : World} {B : Nat} {A : Option Addr} {n : Nat} {L : Nat → List Int} {xs : List Nat} (h : RdR w B A n L) (hx : ExtX w w' xs) (hf : ∀ g ∈ xs, g < B) : RdR w' B A n L :=
  ⟨fun i hi => by
    obtain ⟨b, off, Ai, ci, ha, hB, hb, hc, hr, hk⟩ := h.at_ i hi
    refine ⟨b, off, Ai, ci, ha, hB, Nat.lt_of_lt_of_le hb hx.size, ?_, hx.rd hr (fun b' o' e hm => ?_), hk⟩
    · rw [World.cell?_of_block (hx.block b hb (fun hm => by have := hf b hm; omega))]; exact hc
    · have := hf b' hm
      have := hk b' o' e
      omega⟩
/-- the state in which the program goes down the tree -/
structure Dn (w0 : World) (ns : List Nd) (tcs : Array Value) (n gt go gk gd gl : Nat) (Ak : Option Addr) (w : World) (L : List Int) : Prop where
  ext : Ext w0 w
  bt : Blk w gt 25 tcs
  bo : Blk w go 36 #[.slice (some ⟨gl, 0, none⟩) n n]
  bk : Blk w gk 33 #[.slice Ak n n]
  bd : Blk w gd 71 #[.func (.func 62) #[] #[.pointer (some ⟨gt, 0, none⟩), .pointer (some ⟨go, 0, none⟩), .pointer (some ⟨gk, 0, none⟩), .pointer (some ⟨gd, 0, none⟩)]]
  bl : Blk w gl 3 (ints L).toArray
  rows : RdR w (gl + 1) Ak n (kidsN ns n)
  far : w0.heap.size ≤ gl ∧ gt ≠ gl ∧ go ≠ gl ∧ gk ≠ gl ∧ gd ≠ gl
  len : L.length = n
theorem Dn.step {w0 : World} {ns : List Nd} {tcs : Array Value} {n gt go gk gd gl : Nat} {Ak : Option Addr} {w w' : World} {L : List Int} (h : Dn w0 ns tcs n gt go gk gd gl Ak w L) (hx : Ext w w') : Dn w0 ns tcs n gt go gk gd gl Ak w' L :=
  ⟨h.ext.trans hx, h.bt.ext hx, h.bo.ext hx, h.bk.ext hx, h.bd.ext hx, h.bl.ext hx, h.rows.ext hx, h.far, h.len⟩
theorem Dn.put {w0 : World} {ns : List Nd} {tcs : Array Value} {n gt go gk gd gl : Nat} {Ak : Option Addr} {w : World} {L : List Int} (h : Dn w0 ns tcs n gt go gk gd gl Ak w L) (k : Nat) (x : Int) :
    Dn w0 ns tcs n gt go gk gd gl Ak (w.setCell ⟨gl, k, none⟩ (.int .i64 x)) (L.set k x) := by
  obtain ⟨f1, f2, f3, f4, f5⟩ := h.far
  have hx : ExtX w (w.setCell ⟨gl, k, none⟩ (.int .i64 x)) [gl] := (ExtX.refl w [gl]).set (by simp) _
  refine ⟨h.ext.set f1 _, h.bt.far f2 _, h.bo.far f3 _, h.bk.far f4 _, h.bd.far f5 _, ?_, h.rows.far hx (fun g hg => by rw [List.mem_singleton.1 hg]; omega), h.far, by rw [List.length_set]; exact h.len⟩
  have := h.bl.set_ k (.int .i64 x)
  rwa [ints_set] at this
theorem take_snoc {l : List Int} {k : Nat} (h : k < l.length) : l.take (k + 1) = l.take k ++ [l[k]] := by
  rw [List.take_succ_eq_append_getElem h]
section
variable (ns : List Nd) (b off nl nc al ac : Nat) (aa : Option Addr) (view : Int) (w0 : World) (gt go gk gd gl : Nat) (Ak : Option Addr)
set_option maxRecDepth 100000 in
set_option maxHeartbeats 8000000 in
theorem ofdown_any (hT : TOk ns) (h : Rd w0 44 (some ⟨b, off, none⟩) nl (nds ns)) (hm : nl ≤ 1000000) : ∀ (d i : Nat), ns.length - i ≤ d → i < ns.length → ∀ (L : List Int) (v : Int) (w : World),
    Dn w0 ns (Tr.cs ⟨some ⟨b, off, none⟩, nl, nc, aa, al, ac, view⟩) nl gt go gk gd gl Ak w L → (rootN ns i = true ∨ v = (isl ns i : Int)) →
    Calls Try.prog 62 #[.int .i64 (i : Int), .int .i64 v, .pointer (some ⟨gt, 0, none⟩), .pointer (some ⟨go, 0, none⟩), .pointer (some ⟨gk, 0, none⟩), .pointer (some ⟨gd, 0, none⟩)] w
      fun e w' => e = .returned (.tuple #[]) ∧ ∃ L', At ns L (sub ns i) L' ∧ Dn w0 ns (Tr.cs ⟨some ⟨b, off, none⟩, nl, nc, aa, al, ac, view⟩) nl gt go gk gd gl Ak w' L' ∧ ExtX w w' [gl] := by
  intro d
  induction d with
  | zero => intro i hd hi; omega
  | succ d ih =>
  intro i hd hi L v w D hv
  have hl := h.nlen
  have hin : (0 : Int) ≤ (i : Int) ∧ (i : Int) < (nl : Int) := by omega
  have hm' : nl ≤ maxLen := by unfold maxLen; omega
  have cu := fun w h => hide (root_in ⟨some ⟨b, off, none⟩, nl, nc, aa, al, ac, view⟩ ns i hi w h hm')
  have ck := (h.ext D.ext).same rfl hi
  have IH := fun c (hc : i < c) (hcn : c < ns.length) L v w D hv => hide (ih c (by omega) hcn L v w D hv)
  clear ih
  have hiL : i < nl := by omega
  by_cases h3 : nK ns i = 3
  · have h3b : (nK ns i == 3) = true := by simpa using h3
    have H3 := hide h3
    clear h3
    have HA := hide (show At ns L (sub ns i) L from At.none L (fun j hj hs => by
      by_cases hji : j = i
      · rw [hji]; exact unhide H3
      · rw [sub, ok_leaf hT (by have := D.len; omega) (unhide H3), Bool.or_false] at hs
        exact absurd (by simpa using hs) hji))
    have c1 := D.bt.cell
    have l1 := D.bt.lt
    generalize nK ns i = kk at *
    clear IH cu hv
    go_enter Try.func62, Try.ntmps62
    go_wp2_with fail
    refine bodyPost_ret (results_none rfl _ _ _) rfl ?_
    exact ⟨rfl, L, unhide HA, D, ExtX.refl _ _⟩
  have h3b : (nK ns i == 3) = false := by simpa using h3
  have H3 := hide h3
  clear h3
  obtain ⟨r, hr⟩ : ∃ r, rootN ns i = r := ⟨_, rfl⟩
  rw [hr] at cu
  obtain ⟨v2, hv2⟩ : ∃ v2 : Int, (if r = true then (i : Int) else v) = v2 := ⟨_, rfl⟩
  have HI := hide (show (isl ns i : Int) = v2 by
    rw [← hv2]
    cases r
    · rcases hv with hv | hv
      · rw [hr] at hv; cases hv
      · rw [if_neg (by simp)]; exact hv.symm
    · rw [if_pos rfl, isl_root hr])
  have HR := hide hr
  have HT := hide hT
  have HDL := hide D.len
  have HHL := hide hl
  clear hr hv hT hl
  have D0 := D
  have c1 := D.bt.cell
  have l1 := D.bt.lt
  obtain ⟨kk, hkk⟩ : ∃ kk, nK ns i = kk := ⟨_, rfl⟩
  rw [hkk] at ck h3b
  clear hkk
  go_enter Try.func62, Try.ntmps62
  go_wp2_with fail
  refine (unhide (cu _ (h.ext D.ext))).mono ?_
  rintro e w1 ⟨rfl, hx⟩
  have D1 := D.step hx
  have X1 := ExtX.of hx [gl]
  clear hx c1 l1 ck D D0
  have hlt : i < L.length := by have := unhide HDL; omega
  have D2 := D1.put i v2
  have X2 : ExtX w (w1.setCell ⟨gl, i, none⟩ (.int .i64 v2)) [gl] := X1.set (by simp) _
  have HA := hide (show At ns L (fun j => decide (j = i)) (L.set i v2) by rw [← unhide HI]; exact At.one hlt (by
    have := unhide H3; exact this))
  obtain ⟨f1, f2, f3, f4, f5⟩ := D1.far
  have co := D1.bo.cell
  have lo := D1.bo.lt
  have cl := (D1.bl.cell i).trans (show (ints L).toArray[i]? = some (.int .i64 L[i]) by simpa using ints_get hlt)
  have fl := D1.bl.frozen i
  have ll := D1.bl.lt
  obtain ⟨bk, ok, Ai, ci, hAk, hB, hbk, hck, hrw, hfr⟩ := D2.rows.at_ i hiL
  have ck2 := D2.bk.cell
  have lk2 := D2.bk.lt
  obtain ⟨l, hll⟩ : ∃ l, kidsN ns nl i = l := ⟨_, rfl⟩
  rw [hll] at hck hrw
  have HK := hide (show ∀ x ∈ l, ∃ c : Nat, x = c ∧ c < nl ∧ parN ns c = i from fun x hx => kids_mem.1 (by rw [hll]; exact hx))
  have HLL := hide hll
  clear hll
  subst hAk
  generalize L[i] = y0 at *
  generalize hLs : L.set i v2 = L2 at *
  clear hLs D1 X1
  cases r
  · simp only [Bool.false_eq_true, if_false] at hv2
    subst hv2
    go_wp2_with fail
    clear co lo cl fl ll ck2 lk2 hck
    generalize hw2 : w1.setCell _ _ = w2 at *
    clear hw2
    go_loopw [31] (fun x wr => ∃ (k : Nat) (L3 : List Int), x = .int .i64 k ∧ k ≤ l.length ∧ Hid (At ns L (upTo ns i (l.take k)) L3) ∧ Dn w0 ns (Tr.cs ⟨some ⟨b, off, none⟩, nl, nc, aa, al, ac, view⟩) nl gt go gk gd gl (some ⟨bk, ok, none⟩) wr L3 ∧ ExtX w wr [gl] ∧ Rd wr 1 Ai l.length (ints l)) (fun x _ => l.length - (intOf x).toNat)
    case atStart => exact ⟨0, L2, rfl, by omega, by rw [List.take_zero]; exact hide ((unhide HA).congr (fun j _ => upTo_nil i j)), D2, X2, hrw⟩
    case round =>
      clear D2 X2 hrw hbk cu
      obtain ⟨k, L3, rfl, q1, HA3, D3, X3, hrw⟩ := hrel
      have hlen : l.length ≤ 1000000 := by
        rw [← unhide HLL]; exact Nat.le_trans (kidsN_len ns nl i) hm
      by_cases hk : k < l.length
      · obtain ⟨b2, o2, u, rfl, hb2, hu, hc2⟩ := hrw.get hk
        rw [ints_get hk] at hu
        obtain rfl : _ = u := Option.some.inj hu
        obtain ⟨c, hlc, hcn, hpc⟩ := unhide HK _ (List.getElem_mem hk)
        have hic : i < c := by have := parN_lt ns c; omega
        rw [hlc] at hc2
        have HS := hide ((take_snoc hk).trans (by rw [hlc]))
        clear hlc hu
        have cd := D3.bd.cell
        have ld := D3.bd.lt
        have hv3 := hide (show rootN ns c = true ∨ v = (isl ns c : Int) by
          rw [isl_kid hpc]
          by_cases hrc : rootN ns c = true
          · exact .inl hrc
          · rw [if_neg hrc]; exact .inr (unhide HI).symm)
        have C := fun hcn => IH c hic hcn L3 v _ D3 (unhide hv3)
        have hcn' : c < ns.length := by rw [unhide HHL]; exact hcn
        replace C := C hcn'
        have HPC := hide hpc
        clear hpc IH
        go_wp2_with fail
        refine (unhide C).mono ?_
        rintro e w4 ⟨rfl, L4, HA4, D4, X4⟩
        have HA5 := hide ((unhide HA3).then HA4 (S'' := upTo ns i (l.take (k + 1))) (fun j _ => by rw [unhide HS, upTo_snoc]))
        have X5 := X3.then X4
        have hrw4 := X4.rd hrw (fun b' o' e hm => by have := hfr b' o' e; have := List.mem_singleton.1 hm; omega)
        clear HA4 D3 X3 X4 hrw cd ld
        go_wp2_with fail
        go_roundw
        case rel => exact ⟨k + 1, L4, by go_num, by omega, HA5, D4, X5, hrw4⟩
        case measure => simp [intOf]; omega
      · have HA5 := hide (show At ns L (sub ns i) L3 from (unhide HA3).congr (fun j hj => by
          rw [List.take_of_length_le (by omega), ← unhide HLL, ← unhide HHL, upTo_all (by rw [unhide HHL, ← unhide HDL]; exact hj)]))
        clear IH
        go_wp2_with fail
        go_end0
        exact ⟨rfl, L3, unhide HA5, D3, X3⟩
  · simp only [if_true] at hv2
    subst hv2
    go_wp2_with fail
    clear co lo cl fl ll ck2 lk2 hck
    generalize hw2 : w1.setCell _ _ = w2 at *
    clear hw2
    go_loopw [31] (fun x wr => ∃ (k : Nat) (L3 : List Int), x = .int .i64 k ∧ k ≤ l.length ∧ Hid (At ns L (upTo ns i (l.take k)) L3) ∧ Dn w0 ns (Tr.cs ⟨some ⟨b, off, none⟩, nl, nc, aa, al, ac, view⟩) nl gt go gk gd gl (some ⟨bk, ok, none⟩) wr L3 ∧ ExtX w wr [gl] ∧ Rd wr 1 Ai l.length (ints l)) (fun x _ => l.length - (intOf x).toNat)
    case atStart => exact ⟨0, L2, rfl, by omega, by rw [List.take_zero]; exact hide ((unhide HA).congr (fun j _ => upTo_nil i j)), D2, X2, hrw⟩
    case round =>
      clear D2 X2 hrw hbk cu
      obtain ⟨k, L3, rfl, q1, HA3, D3, X3, hrw⟩ := hrel
      have hlen : l.length ≤ 1000000 := by
        rw [← unhide HLL]; exact Nat.le_trans (kidsN_len ns nl i) hm
      by_cases hk : k < l.length
      · obtain ⟨b2, o2, u, rfl, hb2, hu, hc2⟩ := hrw.get hk
        rw [ints_get hk] at hu
        obtain rfl : _ = u := Option.some.inj hu
        obtain ⟨c, hlc, hcn, hpc⟩ := unhide HK _ (List.getElem_mem hk)
        have hic : i < c := by have := parN_lt ns c; omega
        rw [hlc] at hc2
        have HS := hide ((take_snoc hk).trans (by rw [hlc]))
        clear hlc hu
        have cd := D3.bd.cell
        have ld := D3.bd.lt
        have hv3 := hide (show rootN ns c = true ∨ (i : Int) = (isl ns c : Int) by
          rw [isl_kid hpc]
          by_cases hrc : rootN ns c = true
          · exact .inl hrc
          · rw [if_neg hrc]; exact .inr (unhide HI).symm)
        have C := fun hcn => IH c hic hcn L3 (i : Int) _ D3 (unhide hv3)
        have hcn' : c < ns.length := by rw [unhide HHL]; exact hcn
        replace C := C hcn'
        have HPC := hide hpc
        clear hpc IH
        go_wp2_with fail
        refine (unhide C).mono ?_
        rintro e w4 ⟨rfl, L4, HA4, D4, X4⟩
        have HA5 := hide ((unhide HA3).then HA4 (S'' := upTo ns i (l.take (k + 1))) (fun j _ => by rw [unhide HS, upTo_snoc]))
        have X5 := X3.then X4
        have hrw4 := X4.rd hrw (fun b' o' e hm => by have := hfr b' o' e; have := List.mem_singleton.1 hm; omega)
        clear HA4 D3 X3 X4 hrw cd ld
        go_wp2_with fail
        go_roundw
        case rel => exact ⟨k + 1, L4, by go_num, by omega, HA5, D4, X5, hrw4⟩
        case measure => simp [intOf]; omega
      · have HA5 := hide (show At ns L (sub ns i) L3 from (unhide HA3).congr (fun j hj => by
          rw [List.take_of_length_le (by omega), ← unhide HLL, ← unhide HHL, upTo_all (by rw [unhide HHL, ← unhide HDL]; exact hj)]))
        clear IH
        go_wp2_with fail
        go_end0
        exact ⟨rfl, L3, unhide HA5, D3, X3⟩
end
end Go.Proofs.Ytnolbmfjgfojhaa
