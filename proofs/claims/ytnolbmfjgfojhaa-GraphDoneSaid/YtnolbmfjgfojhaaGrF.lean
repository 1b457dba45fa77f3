/- Graphs: the document's, up and down the tree (walks). -/
import Derived.Test.YtnolbmfjgfojhaaGrC
import Derived.Test.YtnolbmfjgfojhaaGrE
namespace Go.Proofs.Ytnolbmfjgfojhaa
open Go.RowKit
theorem RdR.addr {w : World} {B : Nat} {A : Option Addr} {n : Nat} {L : Nat → List Int} (h : RdR w B A n L) (hn : 0 < n) : ∃ b off, A = some ⟨b, off, none⟩ := by
  obtain ⟨b, off, _, _, h1, _⟩ := h.at_ 0 hn
  exact ⟨b, off, h1⟩
section
variable (t : Tr) (ns : List Nd)
set_option maxRecDepth 100000 in
set_option maxHeartbeats 4000000 in
theorem refup_graph (hm : t.nl ≤ 900) (hpos : 0 < t.nl) (w : World) (h : Rd w 44 t.na t.nl (nds ns)) :
    Calls Try.prog 47 #[.agg t.cs] w (GOut w t.nl (ofE (kidsN ns t.nl) t.nl)) := by
  have ck := fun w1 (hx : Ext w w1) => hide (refkids_any t ns w1 (h.ext hx) (by omega))
  have co := fun bk ok w1 h1 => hide (of_rows (kidsN ns t.nl) t.nl bk ok t.nl 0 hm (fun j => kidsN_len _ _ _) w1 h1)
  go_enter Try.func47, Try.ntmps47
  go_upto_region 1 with fail
  have BT : Blk ((w.alloc (.cells t.cs 25)).alloc (.cells #[.slice none 0 0, .slice none 0 0] 55)) w.heap.size 25 t.cs := (Blk.new _ _ _).alloc _
  have B0 : Blk ((w.alloc (.cells t.cs 25)).alloc (.cells #[.slice none 0 0, .slice none 0 0] 55)) (w.heap.size + 1) 55 #[.slice none 0 0, .slice none 0 0] := by
    have h := Blk.new (w.alloc (.cells t.cs 25)) 55 #[.slice none 0 0, .slice none 0 0]
    rw [World.size_alloc] at h
    exact h
  have E0 : Ext w ((w.alloc (.cells t.cs 25)).alloc (.cells #[.slice none 0 0, .slice none 0 0] 55)) := ((Ext.refl _).alloc _).alloc _
  have hs0 : ((w.alloc (.cells t.cs 25)).alloc (.cells #[.slice none 0 0, .slice none 0 0] 55)).heap.size = w.heap.size + 1 + 1 := by simp
  generalize (w.alloc (.cells t.cs 25)).alloc (.cells #[.slice none 0 0, .slice none 0 0] 55) = w1 at *
  generalize hg : w.heap.size = g at *
  have HS := hide hs0
  have HG := hide hg
  clear hs0 hg
  have c1 := BT.cell
  have l1 := BT.lt
  go_wp2_with fail
  refine (unhide (ck _ E0)).mono ?_
  rintro e w2 ⟨Ak, rfl, RK, hx⟩
  obtain ⟨bk, ok, hAk⟩ := RK.addr hpos
  subst hAk
  replace B0 := B0.ext hx
  replace E0 := E0.trans hx
  have hs2 := hx.size
  have HS2 := hide hs2
  clear c1 l1 BT hx ck hs2
  go_wp2_with fail
  refine (unhide (co _ _ _ (RK.mono (Nat.zero_le _)))).mono ?_
  rintro e w3 ⟨A, A', rfl, R1, R2, hA, hx⟩
  have B2 := B0.ext hx
  have c2 := B2.cell
  have f2 := B2.frozen
  have l2 := B2.lt
  have E2 := E0.trans hx
  clear co B0 E0 hx
  go_wp2_with fail
  refine bodyPost_ret (results_cellG Try.results47 _ _ (g + 1) 55 _ _ rfl ((B2.set_ 0 _).set_ 1 _) Try.underlying55 rfl (by kernel_rfl)) rfl ?_
  have hb1 := unhide HG
  have hb2 := unhide HS
  have X : ExtX w3 ((w3.setCell ⟨g + 1, 0, none⟩ (.slice A t.nl t.nl)).setCell ⟨g + 1, 1, none⟩ (.slice A' t.nl t.nl)) [g + 1] := ((ExtX.refl w3 [g + 1]).set (by simp) _).set (by simp) _
  refine ⟨A, A', rfl, X.rd R1 (fun b off e hm => ?_), (R2.past X (fun q hq => ?_)).mono ?_, fun b off e => ?_, X.ext E2 (fun q hq => ?_)⟩
  · have hm := List.mem_singleton.1 hm
    have := hA b off e
    have := unhide HS2
    omega
  · have := unhide HS2
    rw [List.mem_singleton.1 hq]; omega
  · have := unhide HS2
    omega
  · have := hA b off e
    have := unhide HS2
    omega
  · rw [List.mem_singleton.1 hq]; omega

theorem Rws.lay {w : World} {B g n : Nat} {L : Nat → List Int} {vs : List Value} (h : Rws w B g n L vs) {p : Nat} (hp : p < n) (hL : L p = []) (x : Int) :
    ∃ us, Rws ((w.alloc (.cells #[.int .i64 x] 3)).setCell ⟨g, p, none⟩ (.slice (some ⟨w.heap.size, 0, none⟩) 1 1)) B g n (fun q => if q = p then [x] else L q) us := by
  obtain ⟨v, hv, _, _, ho⟩ := h.get hp
  have hb := h.base
  have hl := h.blk.lt
  have hv0 : v.ownBlock = none ∨ ∃ b, v.ownBlock = some b := by cases v.ownBlock <;> simp
  have g4 : w.grownBy (w.alloc (.cells #[.int .i64 x] 3)) v.ownBlock := ⟨rfl, rfl, rfl, by simp, fun k hk _ => ((Ext.refl w).alloc _).block k hk⟩
  have own : (w.alloc (.cells #[.int .i64 x] 3)).ownsRow B 3 1 (.slice (some ⟨w.heap.size, 0, none⟩) 1 1) 1 (ints (L p) ++ [.int .i64 x]) := by
    rw [hL]
    exact ⟨rfl, .inr ⟨w.heap.size, 1, #[.int .i64 x], rfl, by omega, Blk.new w _ _, by omega, by unfold maxLen; omega, rfl, rfl⟩⟩
  have := h.step hv g4 (m := 1) (x := x) (by rw [hL]; rfl) own (.inr rfl)
  rw [hL] at this
  exact ⟨_, this⟩
/-- the rows that are told to the document's Down -/
def dnK (ns : List Nd) (i q : Nat) : List Int := if 1 ≤ q ∧ q < i then [nP ns q] else []
theorem dnK_succ (ns : List Nd) {i : Nat} (hi : 1 ≤ i) : dnK ns (i + 1) = fun q => if q = i then [nP ns i] else dnK ns i q := by
  funext q
  unfold dnK
  by_cases h : q = i
  · rw [if_pos h, if_pos (by omega), h]
  · rw [if_neg h]
    by_cases h2 : 1 ≤ q ∧ q < i
    · rw [if_pos h2, if_pos (by omega)]
    · rw [if_neg h2, if_neg (by omega)]
set_option maxRecDepth 100000 in
set_option maxHeartbeats 4000000 in
theorem refdown_graph (hm : t.nl ≤ 900) (hpos : 0 < t.nl) (w : World) (h : Rd w 44 t.na t.nl (nds ns)) :
    Calls Try.prog 49 #[.agg t.cs] w (GOut w t.nl (ofE (dnK ns t.nl) t.nl)) := by
  have hnl := h.nlen
  have HL := hide hnl
  have hmk := make_rows t.nl (by omega)
  have co := fun bk ok w1 h1 => hide (of_rows (dnK ns t.nl) t.nl bk ok t.nl 0 hm (fun j => by unfold dnK; split <;> simp; omega) w1 h1)
  obtain ⟨bn, on, hna, hbn, -⟩ := h.at_ hpos
  clear hnl
  go_enter Try.func49, Try.ntmps49
  go_upto_region 1 with fail
  have BT : Blk ((w.alloc (.cells t.cs 25)).alloc (.cells #[.slice none 0 0, .slice none 0 0] 55)) w.heap.size 25 t.cs := (Blk.new _ _ _).alloc _
  have B0 : Blk ((w.alloc (.cells t.cs 25)).alloc (.cells #[.slice none 0 0, .slice none 0 0] 55)) (w.heap.size + 1) 55 #[.slice none 0 0, .slice none 0 0] := by
    have h := Blk.new (w.alloc (.cells t.cs 25)) 55 #[.slice none 0 0, .slice none 0 0]
    rw [World.size_alloc] at h
    exact h
  have E0 : Ext w ((w.alloc (.cells t.cs 25)).alloc (.cells #[.slice none 0 0, .slice none 0 0] 55)) := ((Ext.refl _).alloc _).alloc _
  have hs0 : ((w.alloc (.cells t.cs 25)).alloc (.cells #[.slice none 0 0, .slice none 0 0] 55)).heap.size = w.heap.size + 1 + 1 := by simp
  generalize (w.alloc (.cells t.cs 25)).alloc (.cells #[.slice none 0 0, .slice none 0 0] 55) = w1 at *
  generalize hg : w.heap.size = g at *
  have HS := hide hs0
  have HG := hide hg
  clear hs0 hg
  have c1 := BT.cell
  have l1 := BT.lt
  rw [Tr.cs, hna] at c1
  go_wp2_with fail
  have R0 := Rws.start w1 w1.heap.size t.nl (Nat.le_refl _)
  have E1 : Ext w1 (w1.alloc (.cells (Array.replicate t.nl (.slice none 0 0)) 36)) := (Ext.refl _).alloc _
  generalize w1.alloc (.cells (Array.replicate t.nl (.slice none 0 0)) 36) = w2 at *
  generalize hgr : w1.heap.size = gr at *
  clear hmk c1 l1
  go_loopw [4] (fun v wr => ∃ (i : Nat) (vs : List Value), v = .int .i64 i ∧ 1 ≤ i ∧ i ≤ t.nl ∧ Rws wr gr gr t.nl (dnK ns i) vs ∧ Ext w1 wr) (fun v _ => t.nl - (intOf v).toNat)
  case atStart => exact ⟨1, _, rfl, by omega, by omega, R0.congr (fun q _ => by unfold dnK; rw [if_neg (by omega)]), E1⟩
  case round =>
    clear R0 E1 w2
    obtain ⟨i, vs, rfl, q1, q2, R1, E1⟩ := hrel
    have c1 := (BT.ext E1).cell
    have l1 := (BT.ext E1).lt
    rw [Tr.cs, hna] at c1
    by_cases hi : i < t.nl
    · have hiI : (0 : Int) ≤ (i : Int) ∧ (i : Int) < (t.nl : Int) := by omega
      have cp := (h.ext (E0.trans E1)).par hna (k := i) (by rw [unhide HL]; exact hi)
      have lp : bn < wr.heap.size := by have := (E0.trans E1).size; have := unhide HG; omega
      obtain ⟨v, hv, hc, hf, ho⟩ := R1.get hi
      obtain ⟨us, R2⟩ := R1.lay hi (by unfold dnK; rw [if_neg (by omega)]) (nP ns i)
      have lg := R1.blk.lt
      have E2 : Ext w1 ((wr.alloc (.cells #[.int .i64 (nP ns i)] 3)).setCell ⟨gr, i, none⟩ (.slice (some ⟨wr.heap.size, 0, none⟩) 1 1)) := (E1.alloc _).set (p := ⟨gr, i, none⟩) (by rw [hgr]; exact Nat.le_refl _) _
      rw [World.setCell_alloc_past _ _ _ _ lg] at R2 E2
      have hc2 : (wr.alloc (.cells #[.int .i64 (nP ns i)] 3)).cell? ⟨gr, i, none⟩ = some v := (((Ext.refl wr).alloc _).cells.1 _ _ lg).trans hc
      have hf2 : (wr.alloc (.cells #[.int .i64 (nP ns i)] 3)).frozen? ⟨gr, i, none⟩ = false := (((Ext.refl wr).alloc _).cells.2 _ _ lg).trans hf
      clear ho hv hc hf
      have HDS := hide (dnK_succ ns q1)
      generalize nP ns i = pp at *
      go_wp2_with fail
      go_roundw
      case rel => exact ⟨i + 1, us, by go_num, by omega, by omega, R2.congr (fun q _ => by rw [unhide HDS]), E2⟩
      case measure => simp [intOf]; omega
    · have hie : i = t.nl := by omega
      have R2 : RdR wr gr (some ⟨gr, 0, none⟩) t.nl (dnK ns t.nl) := by rw [hie] at R1; exact R1.rdr
      clear hie R1
      have hiI : ¬ (i : Int) < (t.nl : Int) := by omega
      replace B0 := B0.ext E1
      replace E0 := E0.trans E1
      have hs2 := E1.size
      have HS2 := hide hs2
      clear c1 l1 BT E1 hs2
      go_wp2_with fail
      refine (unhide (co _ _ _ (R2.mono (Nat.zero_le _)))).mono ?_
      rintro e w3 ⟨A, A', rfl, R1, R2, hA, hx⟩
      have B2 := B0.ext hx
      have c2 := B2.cell
      have f2 := B2.frozen
      have l2 := B2.lt
      have E2 := E0.trans hx
      clear co B0 E0 hx
      go_wp2_with fail
      refine bodyPost_ret (results_cellG Try.results49 _ _ (g + 1) 55 _ _ rfl ((B2.set_ 0 _).set_ 1 _) Try.underlying55 rfl (by kernel_rfl)) rfl ?_
      have hb1 := unhide HG
      have hb2 := unhide HS
      have X : ExtX w3 ((w3.setCell ⟨g + 1, 0, none⟩ (.slice A t.nl t.nl)).setCell ⟨g + 1, 1, none⟩ (.slice A' t.nl t.nl)) [g + 1] := ((ExtX.refl w3 [g + 1]).set (by simp) _).set (by simp) _
      refine ⟨A, A', rfl, X.rd R1 (fun b off e hm => ?_), (R2.past X (fun q hq => ?_)).mono ?_, fun b off e => ?_, X.ext E2 (fun q hq => ?_)⟩
      · have hm := List.mem_singleton.1 hm
        have := hA b off e
        have := unhide HS2
        omega
      · have := unhide HS2
        rw [List.mem_singleton.1 hq]; omega
      · have := unhide HS2
        omega
      · have := hA b off e
        have := unhide HS2
        omega
      · rw [List.mem_singleton.1 hq]; omega

end
end Go.Proofs.Ytnolbmfjgfojhaa
