/- Layer 20: where items stand (walk). -/
import Derived.Test.YtkkkdjkjggofkaaCrJ
namespace Go.Proofs.Ytkkkdjkjggofkaa
open Go.RowKit
theorem frag_all : ∃ i, Try.prog.info? 46 = some i ∧ i.zero = some (.agg (frC ⟨0, 0, 0, 0⟩).toArray) ∧ i.size = 5 ∧ i.bytes = 56 := by
  have h : (Try.prog.info? 46).map (fun i => (i.zero, i.size, i.bytes)) = some (some (.agg (frC ⟨0, 0, 0, 0⟩).toArray), 5, 56) := by kernel_rfl
  exact info_parts h
theorem make_frags (n : Nat) (hn : n ≤ 1000000) (w : World) : (Instr.makeSlice 38 (.int .i64 (n : Int)) (.int .i64 (n : Int))).run Try.prog w = .ok (.slice (some ⟨w.heap.size, 0, none⟩) n n) (w.alloc (.cells (mkF n) 46)) := by
  obtain ⟨i0, hi0, hz0, hz1, hz2⟩ := frag_all
  have hr := run_make (P := Try.prog) w 38 46 i0 _ Try.underlying38 hi0 hz0 .i64 .i64 (n : Int) (n : Int) (by omega) (by omega) (by rw [hz2]; omega) (by omega)
  simp only [Int.toNat_natCast] at hr
  rw [hr, hz1]; rfl
theorem bool_info : (Try.prog.info? 4).map (fun i => (i.zero, i.size, i.bytes)) = some (some (.bool false), 1, 1) := by kernel_rfl
theorem make_bools (n : Nat) (hn : n ≤ 1000000) (w : World) : (Instr.makeSlice 39 (.int .i64 (n : Int)) (.int .i64 (n : Int))).run Try.prog w = .ok (.slice (some ⟨w.heap.size, 0, none⟩) n n) (w.alloc (.cells (boolL (noB n)).toArray 4)) := by
  obtain ⟨i0, hi0, hz0, hz1, hz2⟩ := info_parts bool_info
  have := make_n _ _ i0 _ Try.underlying39 hi0 hz0 hz1 rfl n (by rw [hz2]; omega) (by omega) w
  rw [this, boolL, noB, List.map_replicate, List.toArray_replicate]
theorem info_fr (f : Fr) : (Try.prog.info? 46).map (·.size) = some (frC f).toArray.size := by kernel_rfl
/-- the rows of items -/
structure RowsOk (rs : List (List Nat)) (n : Nat) : Prop where
  nd : rs.flatten.Nodup
  lt : ∀ ks ∈ rs, ∀ k ∈ ks, k < n
theorem nodup_small {l : List Nat} {n : Nat} (h : l.Nodup) (hl : ∀ x ∈ l, x < n) : l.length ≤ n := by
  induction n generalizing l with
  | zero =>
    cases l with
    | nil => simp
    | cons a l => exact absurd (hl a (List.mem_cons_self ..)) (by omega)
  | succ n ih =>
    have h1 := ih (l := l.erase n) (h.erase _) (fun x hx => by
      have h2 := (h.mem_erase_iff).1 hx
      have := hl x h2.2
      omega)
    have h2 := List.length_erase_le (a := n) (l := l)
    have h3 := List.le_length_erase (a := n) (l := l)
    omega
theorem RowsOk.row {rs : List (List Nat)} {n : Nat} (h : RowsOk rs n) {r : Nat} (hr : r < rs.length) : (rs.getD r []).Nodup ∧ (∀ k ∈ rs.getD r [], k < n) ∧ (rs.getD r []).length ≤ n := by
  have h1 := rows_nodup h.nd hr
  have h2 : ∀ k ∈ rs.getD r [], k < n := by
    rw [List.getD_eq_getElem?_getD, List.getElem?_eq_getElem hr]
    exact h.lt _ (List.getElem_mem hr)
  exact ⟨h1, h2, nodup_small h1 h2⟩
theorem rowH_bd {s : Sty} (hs : StyH s) {nr : Nat} {I : Nat → It} {ks : List Nat} (h : ∀ k ∈ ks, ItBd (I k)) : 0 ≤ rowH s nr I ks ∧ rowH s nr I ks ≤ 240000000000000 := by
  unfold rowH
  split
  · have := highV_bd hs (a := 0); omega
  · exact tallV_bd I ks h
/-- where items stand, handed back -/
def PlaceOut (w : World) (n : Nat) (J : Nat → It) (top : Int) (e : Ending) (w' : World) : Prop :=
  ∃ gF gB, e = .returned (.tuple #[.slice (some ⟨gF, 0, none⟩) n n, .int .i64 (cutV top), .slice (some ⟨gB, 0, none⟩) n n]) ∧ FrAt w' gF n (fun i => frV (J i)) ∧ Blk w' gB 4 (boolL (byN J n n)).toArray ∧ Ext w w'
set_option maxRecDepth 100000 in
set_option maxHeartbeats 32000000 in
theorem place_any (s : Sty) (c : Int) (ak au ah Ar : Option Addr) (n ck nu cu nh ch nr cr : Nat) (ks : List Sty) (us : List Us) (hs : List Int) (z : Sty) (rs : List (List Nat)) (w : World) (hk : Rd w 43 ak n (recs styC ks)) (hu : Rd w 3 au nu (recs usC us)) (hh : Rd w 1 ah nh (ints hs))
    (hr : RdR w 0 Ar nr (fun r => castL (rs.getD r []))) (hnr : rs.length = nr) (hn : n ≤ 70) (hnr2 : nr ≤ 70) (hc : 0 ≤ c ∧ c ≤ 1099511627776) (hok : ∀ s ∈ ks, StyOk s) (hub : ∀ u ∈ us, 0 ≤ u.w ∧ u.w ≤ 1099511627776)
    (hbd : ∀ i, i < n → ItBd (mIt c ks us hs z i)) (hsj : 0 ≤ s.justify ∧ s.justify ≤ 255) (hsh : StyH s) (hrs : RowsOk rs n) (hst : ∀ i, i < n → ((topN s c nr rs (mIt c ks us hs z) nr).2 i).st = true) :
    Calls Try.prog 10 #[.agg s.cells, .int .i64 c, .slice ak n ck, .slice au nu cu, .slice ah nh ch, .slice Ar nr cr] w (PlaceOut w n (topN s c nr rs (mIt c ks us hs z) nr).2 (topN s c nr rs (mIt c ks us hs z) nr).1) := by
  obtain ⟨ip, hip, hz0, hz1, hz2⟩ := info_parts ptr_info
  have HI := hide (And.intro hip (And.intro hz0 (And.intro hz1 hz2)))
  have cM := fun w' h1 h2 h3 => hide (measured_any ak au ah n ck nu cu nh ch c ks us hs z w' h1 h2 h3 (by omega) hc.2 hok hub)
  have HBD := hide hbd
  have HRS := hide hrs
  have HR := hide hr
  have HNR := hide hnr
  have HSH := hide hsh
  have HST := hide hst
  have HSJ := hide hsj
  have HM1 := hide (make_frags n (by omega))
  have HM2 := hide (make_bools n (by omega))
  obtain ⟨I, hI⟩ : ∃ I, mIt c ks us hs z = I := ⟨_, rfl⟩
  have htb : ∀ r, r ≤ nr → 0 ≤ (topN s c nr rs I r).1 ∧ (topN s c nr rs I r).1 ≤ 240000000000000 * (r : Int) := by
    intro r
    induction r with
    | zero => intro _; simp [topN]
    | succ r ih =>
      intro hr2
      have h1 := ih (by omega)
      have h2 := rowH_bd hsh (nr := nr) (I := stN (topN s c nr rs I r).2 (rs.getD r []) (rs.getD r []).length) (ks := rs.getD r []) (fun k hk => stN_bd (by
        rw [topN_row hrs.nd (by omega) hk, ← hI]
        exact hbd k ((hrs.row (by omega)).2.1 k hk)))
      show 0 ≤ (topN s c nr rs I r).1 + _ ∧ (topN s c nr rs I r).1 + _ ≤ _
      omega
  have HTB := hide htb
  rw [hI] at cM HBD HST ⊢
  have hk0 := hide hk
  have hu0 := hide hu
  have hh0 := hide hh
  clear hip hz0 hz1 hz2 hbd hrs hr hnr hsh hst hI htb hk hu hh hok hub hsj
  go_enter Try.func10, Try.ntmps10
  go_upto_region 1 with fail
  have BS : Blk ((w.alloc (.cells s.cells 28)).alloc (.cells #[.slice none 0 0] 39)) w.heap.size 28 s.cells := (Blk.new _ _ _).alloc _
  have BB : Blk ((w.alloc (.cells s.cells 28)).alloc (.cells #[.slice none 0 0] 39)) (w.heap.size + 1) 39 #[.slice none 0 0] := Blk.new1 _ _ _ _
  have E0 : Ext w ((w.alloc (.cells s.cells 28)).alloc (.cells #[.slice none 0 0] 39)) := ((Ext.refl _).alloc _).alloc _
  have hz0 : ((w.alloc (.cells s.cells 28)).alloc (.cells #[.slice none 0 0] 39)).heap.size = w.heap.size + 2 := by simp
  generalize (w.alloc (.cells s.cells 28)).alloc (.cells #[.slice none 0 0] 39) = w1 at *
  go_wp2_with fail
  with_reducible refine (unhide (cM _ ((unhide hk0).ext E0) ((unhide hu0).ext E0) ((unhide hh0).ext E0))).mono ?_
  rintro e w2 ⟨gP, g, rfl, BP, IS, hP, hx⟩
  have P : PlSt w w2 w.heap.size (w.heap.size + 1) gP n g s (.slice none 0 0) := ⟨E0.trans hx, BS.ext hx, BB.ext hx, BP, ⟨by omega, by omega, by omega⟩, fun i hi => by have := IS.base i hi; omega⟩
  clear BS BB E0 hz0 BP hP hx cM hk0 hu0 hh0
  generalize hgs : w.heap.size = gs at *
  have HGS := hide hgs
  clear hgs
  go_wp2_with fail
  go_loopw [16, 33] (fun v16 v33 wr => ∃ r : Nat, v16 = .int .i64 (topN s c nr rs I r).1 ∧ v33 = .int .i64 r ∧ r ≤ nr ∧ PlSt w wr gs (gs + 1) gP n g s (.slice none 0 0) ∧ Its wr (gP + 1) g n (topN s c nr rs I r).2) (fun _ v33 _ => nr - (intOf v33).toNat)
  case atStart => exact ⟨0, rfl, rfl, by omega, P, IS⟩
  case round =>
    clear P IS
    obtain ⟨r, rfl, rfl, r1, P, IS⟩ := hrel
    by_cases hri : r < nr
    · have hrI : (0 : Int) ≤ (r : Int) ∧ (r : Int) < (nr : Int) := by omega
      have hrl : r < rs.length := by have := unhide HNR; omega
      obtain ⟨hnd, hlt, hlen⟩ := (unhide HRS).row hrl
      obtain ⟨b, off, Ai, ci, hA, -, hb, hcell, hrd, -⟩ := (unhide HR).at_ r hri
      have ht := (unhide HTB) r r1
      have ht2 := (unhide HTB) (r + 1) (by omega)
      have hfr := fun (k : Nat) (hk : k ∈ rs.getD r []) => (show (topN s c nr rs I r).2 k = I k from topN_row (unhide HRS).nd hrl hk)
      have HS1 := hide (show (topN s c nr rs I (r + 1)).1 = (topN s c nr rs I r).1 + rowH s nr (stN (topN s c nr rs I r).2 (rs.getD r []) (rs.getD r []).length) (rs.getD r []) from rfl)
      have HS2 := hide (show (topN s c nr rs I (r + 1)).2 = acrN s c (downN s (topN s c nr rs I r).1 (rowH s nr (stN (topN s c nr rs I r).2 (rs.getD r []) (rs.getD r []).length) (rs.getD r [])) (stN (topN s c nr rs I r).2 (rs.getD r []) (rs.getD r []).length) (rs.getD r []) (rs.getD r []).length) (rs.getD r []) (rs.getD r []).length (rs.getD r []).length from rfl)
      rw [castL_len] at hcell hrd
      obtain ⟨top, htop⟩ : ∃ top, (topN s c nr rs I r).1 = top := ⟨_, rfl⟩
      obtain ⟨Ir, hIr⟩ : ∃ Ir, (topN s c nr rs I r).2 = Ir := ⟨_, rfl⟩
      have hbr : ∀ k ∈ rs.getD r [], ItBd (Ir k) := fun k hk => by rw [← hIr, hfr k hk]; exact (unhide HBD) k (hlt k hk)
      rw [htop, hIr] at HS1 HS2
      rw [htop] at ht ⊢
      rw [hIr] at IS
      have HT1 := hide ht2
      generalize rs.getD r [] = row at *
      obtain ⟨m, hm⟩ : ∃ m, row.length = m := ⟨_, rfl⟩
      rw [hm] at hcell hrd hlen HS1 HS2
      have HM := hide hm
      have HND := hide hnd
      have HLT := hide hlt
      have HBR := hide hbr
      have hA2 := hide hA
      have cr0 := (P.ext.cells.1 b _ hb).trans hcell
      have br0 := Nat.lt_of_lt_of_le hb P.ext.size
      have HRD := hide hrd
      clear hnd hlt hA hcell hrd hb hfr htop hIr hm hbr ht2
      go_upto_region 5 with fail
      rw [unhide hA2]
      go_upto_region 6 with fail
      rw [← unhide hA2]
      clear cr0 br0
      have IS0 : Its wr (gP + 1) g n (stN Ir row 0) := IS.congr (fun i _ => stN_0 Ir row i)
      obtain ⟨Wb, hWb⟩ : ∃ Wb, wr.heap.size = Wb := ⟨_, rfl⟩
      have HGW := hide (show (∀ i, i < n → g i < Wb) ∧ gP < Wb from ⟨fun i hi => by rw [← hWb]; exact IS.lt hi, by rw [← hWb]; exact P.bp.lt⟩)
      have HWB := hide (show Wb ≤ wr.heap.size by omega)
      have ER : Ext wr wr := Ext.refl _
      clear hWb IS
      go_upto_region 7 with fail
      go_wp2_with fail
      go_loopw [19, 39] (fun v19 v39 wr => ∃ (p : Nat) (A : Option Addr) (ca : Nat), v19 = .slice A p ca ∧ v39 = .int .i64 p ∧ p ≤ m ∧ wr.ownsRow Wb 67 1 (.slice A p ca) p (ptrs g (row.take p)) ∧ PlSt w wr gs (gs + 1) gP n g s (.slice none 0 0) ∧ Its wr (gP + 1) g n (stN Ir row p) ∧ Wb ≤ wr.heap.size) (fun _ v39 _ => m - (intOf v39).toNat)
      case atStart => exact ⟨0, none, 0, rfl, rfl, by omega, ⟨rfl, .inl ⟨rfl, rfl⟩⟩, P, IS0, unhide HWB⟩
      case round =>
        clear P IS0 ER HWB
        obtain ⟨p, A, ca, rfl, rfl, p1, OW, P, IS, hWB⟩ := hrel
        by_cases hp : p < m
        · have hpI : (0 : Int) ≤ (p : Int) ∧ (p : Int) < (m : Int) := by omega
          have hpl : p < row.length := by have := unhide HM; omega
          obtain ⟨k, hk⟩ : ∃ k, row[p]? = some k := ⟨_, List.getElem?_eq_getElem hpl⟩
          have hkn := (unhide HLT) k (List.mem_of_getElem? hk)
          have hkI : (0 : Int) ≤ (k : Int) ∧ (k : Int) < (n : Int) := by omega
          obtain ⟨bq, oq, hAq, hbq, hcq⟩ := ((unhide HRD).ext P.ext).intIn (castL_get hk)
          have hat := stN_at (I := Ir) (unhide HND) hk
          have HAq := hide hAq
          have HK := hide hk
          have HAT := hide hat
          obtain ⟨gk, hgk⟩ : ∃ gk, g k = gk := ⟨_, rfl⟩
          have HGK := hide hgk
          have hgW : gk < Wb := by rw [← hgk]; exact (unhide HGW).1 k hkn
          have cp := P.ptr hkn
          rw [hgk] at cp
          have lp := P.bp.lt
          have lk : gk < wr.heap.size := by rw [← hgk]; exact IS.lt hkn
          have c52 : wr.cell? ⟨gk, 52, none⟩ = some (.bool (Ir k).st) := by rw [← hgk]; exact IS.cellE hkn hat rfl
          have f52 : wr.frozen? ⟨gk, 52, none⟩ = false := by rw [← hgk]; exact IS.frozen hkn 52
          clear hAq hk hat hgk
          go_upto_region 9 with fail
          rw [unhide HAq]
          go_upto_region 10 with fail
          rw [← unhide HAq]
          clear hbq hcq
          go_upto_region 12 with fail
          obtain ⟨J, q1, q2, JS⟩ := IS.putE (v := .bool true) (j := 52) hkn (unhide HAT) (t := stI (Ir k)) rfl
          replace P := P.itx ((ItX.refl _ _ _).set (j := 52) hkn (.bool true))
          replace OW := own_set OW (i := 52) (show g k < Wb by rw [unhide HGK]; exact hgW) (.bool true)
          rw [unhide HGK] at JS P OW
          have hWB2 : Wb ≤ (wr.setCell ⟨gk, 52, none⟩ (.bool true)).heap.size := by simpa [World.setCell] using hWB
          have JS2 : Its (wr.setCell ⟨gk, 52, none⟩ (.bool true)) (gP + 1) g n (stN Ir row (p + 1)) := JS.congr (fun i _ => stN_step (unhide HK) q1 q2 i)
          clear cp lp lk c52 f52 IS JS q1 q2 hWB
          generalize wr.setCell ⟨gk, 52, none⟩ (.bool true) = w4 at *
          have cp := P.ptr hkn
          rw [unhide HGK] at cp
          have lp := P.bp.lt
          go_wp2_with (first
            | (at_builtin
               refine wpList_append_rd rfl (.tmp 57) (.tmp 62) _ rfl Wb 67 ip _ 1 8 Try.underlying63 (unhide HI).1 (unhide HI).2.1 (unhide HI).2.2.1 (unhide HI).2.2.2 rfl (by omega) _ p (ptrs g (row.take p)) rfl (own_far OW ((Ext.refl _).alloc _)) _ 1 1 [ptrV gk] rfl (Rd.one _ _) (by simp [Value.oneCell']) (by simp only [maxLen]; omega) (by omega) (by simp; omega) ?_
               intro A5 c5 w5 own5 g5 at5
               have hg5 : ∀ b', Value.ownBlock (.slice A p ca) = some b' → Wb ≤ b' := fun b' e => (OW.lt b' e).1
               have P5 := (P.step ((Ext.refl _).alloc _)).grown g5 (fun q e => by have := hg5 q e; have := (unhide HGW).2; omega)
               have IS5 := (JS2.ext ((Ext.refl _).alloc _)).grown g5 (fun i hi e => by have := hg5 _ e; have := (unhide HGW).1 i hi; omega)
               have hz5 : Wb ≤ w5.heap.size := by have := g5.size; simp at this; omega
               clear P JS2 cp lp))
          go_roundw
          case rel => exact ⟨p + 1, A5, c5, rfl, by go_num, by omega, by rw [takeS (unhide HK), ptrs, List.map_append, List.map_cons, List.map_nil, unhide HGK]; exact own5, P5, IS5, hz5⟩
          case measure => simp [intOf]; omega
        · have hpI : ¬ (p : Int) < (m : Int) := by omega
          have hpe : p = m := by omega
          have htk : row.take p = row := List.take_of_length_le (by have := unhide HM; omega)
          rw [htk] at OW
          rw [hpe] at OW IS ⊢
          have RP := Rd.of_own OW
          have hra : ∀ b off, A = some ⟨b, off, none⟩ → ∀ i, i < n → b ≠ g i := fun b off e i hi e2 => by
            subst e
            have h1 := (OW.lt b rfl).1
            have h2 := (unhide HGW).1 i hi
            omega
          have HRA := hide hra
          have HRP := hide RP
          have HBS := hide (show ∀ k ∈ row, k < n ∧ ItBd (stN Ir row m k) from fun k hk => ⟨(unhide HLT) k hk, stN_bd ((unhide HBR) k hk)⟩)
          have hhb := rowH_bd (unhide HSH) (nr := nr) (I := stN Ir row m) (ks := row) (fun k hk => ((unhide HBS) k hk).2)
          have htal := tallV_bd (stN Ir row m) row (fun k hk => ((unhide HBS) k hk).2)
          clear htk hpe RP hra OW
          go_wp2_with fail
          with_reducible refine (tall_any (gP + 1) n g (stN Ir row m) A m ca row _ (unhide HRP) IS (unhide HBS) (by omega)).mono ?_
          rintro e w3 ⟨rfl, hx⟩
          replace P := P.step hx
          replace IS := IS.ext hx
          have HRP3 := hide ((unhide HRP).ext hx)
          clear hx HRP
          obtain ⟨J0, hJ0⟩ : ∃ J0, stN Ir row m = J0 := ⟨_, rfl⟩
          rw [hJ0] at IS HS1 HS2 hhb htal HBS ⊢
          obtain ⟨rh, hrh⟩ : ∃ rh, rowH s nr J0 row = rh := ⟨_, rfl⟩
          rw [hrh] at HS1 HS2 hhb
          have HRH := hide hrh
          have HBW := hide (show ∀ k ∈ row, k < n ∧ ItW (downN s top rh J0 row m k) from fun k hk => ⟨((unhide HBS) k hk).1, by
            have h1 := ((unhide HBS) k hk).2.w
            obtain ⟨f1, f2, f3⟩ := downN_fields (s := s) (top := top) (I := J0) (ks := row) rh m k
            exact ⟨by rw [f1]; exact h1.left, by rw [f3]; exact h1.right, by rw [f2]; exact h1.wide⟩⟩)
          have HT2 := hide (unhide HT1)
          have htop1 : 0 ≤ top ∧ top ≤ 20000000000000000 := by omega
          clear hJ0 hrh ht HT1 HT2
          obtain ⟨tl, htl⟩ : ∃ tl, tallV J0 row = tl := ⟨_, rfl⟩
          rw [htl] at htal ⊢
          have HTL := hide htl
          have bc := P.bs.cell
          have bl := P.bs.lt
          clear htl
          by_cases hn1 : nr = 1
          · have hnb : ((nr : Int) == 1) = true := by simp; omega
            by_cases hk1 : s.h.k = 1
            · have e : highV s 0 = rh := by rw [← unhide HRH, rowH, if_pos ⟨hn1, hk1⟩]
              have HE := hide e
              clear e hn1
              go_upto_region 16 with fail
              clear hnb hk1 bc bl
              go_step
              refine wpList_load_blk rfl 28 _ rfl gs rfl 28 s.cells _ P.bs Try.underlying28 rfl (info_style s) ?_
              simp only [Act.put, List.setIfInBounds_toArray, List.set_cons_succ, List.set_cons_zero]
              go_wp2_with fail
              with_reducible refine (high_any s 0 _).mono ?_
              rintro e w5 ⟨rfl, hx⟩
              rw [unhide HE]
              replace P := P.step hx
              replace IS := IS.ext hx
              have HRP := hide ((unhide HRP3).ext hx)
              clear hx HRP3 HE
              go_upto_region 17 with fail
              go_step
              refine wpList_load_blk rfl 28 _ rfl gs rfl 28 s.cells _ P.bs Try.underlying28 rfl (info_style s) ?_
              simp only [Act.put, List.setIfInBounds_toArray, List.set_cons_succ, List.set_cons_zero]
              go_wp2_with fail
              with_reducible refine (down_any s top _ (gP + 1) n g J0 A m ca row _ (unhide HRP) (unhide HRA) IS (unhide HBS) (unhide HND) (by omega) hhb (by omega)).mono ?_
              rintro e w6 ⟨rfl, IS2, X2⟩
              replace P := P.itx X2
              have RP := X2.rd (unhide HRP) (unhide HRA)
              clear X2 HRP IS
              go_upto_region 18 with fail
              go_step
              refine wpList_load_blk rfl 28 _ rfl gs rfl 28 s.cells _ P.bs Try.underlying28 rfl (info_style s) ?_
              simp only [Act.put, List.setIfInBounds_toArray, List.set_cons_succ, List.set_cons_zero]
              go_wp2_with fail
              with_reducible refine (across_any s c (gP + 1) n g _ A m ca row _ RP (unhide HRA) IS2 (unhide HBW) (unhide HND) (by omega) hc (unhide HSJ)).mono ?_
              rintro e w7 ⟨rfl, IS3, X3⟩
              replace P := P.itx X3
              clear X3 RP IS2
              go_wp2_with fail
              go_roundw
              case rel => exact ⟨r + 1, by rw [unhide HS1], by go_num, by omega, P, by rw [unhide HS2]; exact IS3⟩
              case measure => simp [intOf]; omega
            · have e : tl = rh := by rw [← unhide HRH, rowH, if_neg (fun h => hk1 h.2)]; exact (unhide HTL).symm
              subst e
              have hk1b : (s.h.k == 1) = false := by simpa using hk1
              have HRP := HRP3
              clear hn1 HRP3
              go_upto_region 17 with fail
              clear hnb hk1 hk1b bc bl
              go_upto_region 17 with fail
              go_step
              refine wpList_load_blk rfl 28 _ rfl gs rfl 28 s.cells _ P.bs Try.underlying28 rfl (info_style s) ?_
              simp only [Act.put, List.setIfInBounds_toArray, List.set_cons_succ, List.set_cons_zero]
              go_wp2_with fail
              with_reducible refine (down_any s top _ (gP + 1) n g J0 A m ca row _ (unhide HRP) (unhide HRA) IS (unhide HBS) (unhide HND) (by omega) hhb (by omega)).mono ?_
              rintro e w6 ⟨rfl, IS2, X2⟩
              replace P := P.itx X2
              have RP := X2.rd (unhide HRP) (unhide HRA)
              clear X2 HRP IS
              go_upto_region 18 with fail
              go_step
              refine wpList_load_blk rfl 28 _ rfl gs rfl 28 s.cells _ P.bs Try.underlying28 rfl (info_style s) ?_
              simp only [Act.put, List.setIfInBounds_toArray, List.set_cons_succ, List.set_cons_zero]
              go_wp2_with fail
              with_reducible refine (across_any s c (gP + 1) n g _ A m ca row _ RP (unhide HRA) IS2 (unhide HBW) (unhide HND) (by omega) hc (unhide HSJ)).mono ?_
              rintro e w7 ⟨rfl, IS3, X3⟩
              replace P := P.itx X3
              clear X3 RP IS2
              go_wp2_with fail
              go_roundw
              case rel => exact ⟨r + 1, by rw [unhide HS1], by go_num, by omega, P, by rw [unhide HS2]; exact IS3⟩
              case measure => simp [intOf]; omega
          · have e : tl = rh := by rw [← unhide HRH, rowH, if_neg (fun h => hn1 h.1)]; exact (unhide HTL).symm
            subst e
            have hnb : ((nr : Int) == 1) = false := by simp; omega
            have HRP := HRP3
            clear hn1 HRP3
            go_upto_region 17 with fail
            clear hnb bc bl
            go_upto_region 17 with fail
            go_step
            refine wpList_load_blk rfl 28 _ rfl gs rfl 28 s.cells _ P.bs Try.underlying28 rfl (info_style s) ?_
            simp only [Act.put, List.setIfInBounds_toArray, List.set_cons_succ, List.set_cons_zero]
            go_wp2_with fail
            with_reducible refine (down_any s top _ (gP + 1) n g J0 A m ca row _ (unhide HRP) (unhide HRA) IS (unhide HBS) (unhide HND) (by omega) hhb (by omega)).mono ?_
            rintro e w6 ⟨rfl, IS2, X2⟩
            replace P := P.itx X2
            have RP := X2.rd (unhide HRP) (unhide HRA)
            clear X2 HRP IS
            go_upto_region 18 with fail
            go_step
            refine wpList_load_blk rfl 28 _ rfl gs rfl 28 s.cells _ P.bs Try.underlying28 rfl (info_style s) ?_
            simp only [Act.put, List.setIfInBounds_toArray, List.set_cons_succ, List.set_cons_zero]
            go_wp2_with fail
            with_reducible refine (across_any s c (gP + 1) n g _ A m ca row _ RP (unhide HRA) IS2 (unhide HBW) (unhide HND) (by omega) hc (unhide HSJ)).mono ?_
            rintro e w7 ⟨rfl, IS3, X3⟩
            replace P := P.itx X3
            clear X3 RP IS2
            go_wp2_with fail
            go_roundw
            case rel => exact ⟨r + 1, by rw [unhide HS1], by go_num, by omega, P, by rw [unhide HS2]; exact IS3⟩
            case measure => simp [intOf]; omega
    · have hrI : ¬ (r : Int) < (nr : Int) := by omega
      have hre : r = nr := by omega
      have htz := (unhide HTB) nr (by omega)
      rw [hre] at IS ⊢
      clear hre HTB HRS HR HNR HSH HSJ HBD r1 hri
      obtain ⟨top, htop⟩ : ∃ top, (topN s c nr rs I nr).1 = top := ⟨_, rfl⟩
      obtain ⟨J, hJ⟩ : ∃ J, (topN s c nr rs I nr).2 = J := ⟨_, rfl⟩
      rw [hJ] at IS HST
      rw [htop] at htz ⊢
      have HTOP := hide htop
      have HJ := hide hJ
      have htb3 : 0 ≤ top ∧ top ≤ 20000000000000000 := by omega
      clear htop hJ htz
      have hmk := unhide HM1
      go_upto_region 22 with fail
      clear hmk HM1
      have F0 := FrAt.new wr n
      have hx : Ext wr (wr.alloc (.cells (mkF n) 46)) := (Ext.refl _).alloc _
      have hzF : (wr.alloc (.cells (mkF n) 46)).heap.size = wr.heap.size + 1 := by simp
      have hpF0 := P.bp.lt
      replace P := P.step hx
      have hgF := fun (i : Nat) (hi : i < n) => IS.lt hi
      replace IS := IS.ext hx
      have hpF : gP < wr.heap.size ∧ ∀ i, i < n → g i < wr.heap.size := ⟨hpF0, fun i hi => hgF i hi⟩
      generalize wr.alloc (.cells (mkF n) 46) = w3 at *
      generalize wr.heap.size = gF at *
      have HZF := hide hzF
      clear hx hgF hpF0 hzF
      have hmk := unhide HM2
      have bbc := P.bb.cell
      have bbf := P.bb.frozen 0
      have bbl := P.bb.lt
      go_upto_region 23 with fail
      clear hmk HM2 bbc bbf bbl
      have hlow := P.low
      have hFB : gF < w3.heap.size := by have := unhide HZF; omega
      replace P := P.bbset (.slice (some ⟨w3.heap.size, 0, none⟩) n n)
      replace IS := IS.far (p := ⟨gs + 1, 0, none⟩) (fun i hi => by have := P.base i hi; show g i ≠ gs + 1; omega) (.slice (some ⟨w3.heap.size, 0, none⟩) n n)
      replace F0 := F0.far (p := ⟨gs + 1, 0, none⟩) (show gF ≠ gs + 1 by omega) (.slice (some ⟨w3.heap.size, 0, none⟩) n n)
      have hzz : (w3.setCell ⟨gs + 1, 0, none⟩ (.slice (some ⟨w3.heap.size, 0, none⟩) n n)).heap.size = w3.heap.size := by simp [World.setCell]
      generalize hw4 : w3.setCell ⟨gs + 1, 0, none⟩ (.slice (some ⟨w3.heap.size, 0, none⟩) n n) = w4 at *
      have BB : Blk (w4.alloc (.cells (boolL (noB n)).toArray 4)) w4.heap.size 4 (boolL (noB n)).toArray := Blk.new _ _ _
      rw [← byN_0 J n, hzz] at BB
      have hx : Ext w4 (w4.alloc (.cells (boolL (byN J n 0)).toArray 4)) := (Ext.refl _).alloc _
      rw [← byN_0 J n]
      replace P := P.step hx
      replace IS := IS.ext hx
      replace F0 := F0.ext hx
      generalize w4.alloc (.cells (boolL (byN J n 0)).toArray 4) = w5 at *
      generalize w3.heap.size = gB at *
      have HPF := hide hpF
      have HLOW := hide hlow
      have HFB := hide hFB
      clear hx HZF hpF hlow hFB hzz hw4
      replace F0 : FrAt w5 gF n (frN J 0) := F0.congr (fun i _ => if_neg (by omega))
      go_wp2_with fail
      go_loopw [99] (fun v99 wr => ∃ k : Nat, v99 = .int .i64 k ∧ k ≤ n ∧ PlSt w wr gs (gs + 1) gP n g s (.slice (some ⟨gB, 0, none⟩) n n) ∧ Its wr (gP + 1) g n J ∧ FrAt wr gF n (frN J k) ∧ Blk wr gB 4 (boolL (byN J n k)).toArray) (fun v99 _ => n - (intOf v99).toNat)
      case atStart => exact ⟨0, rfl, by omega, P, IS, F0, BB⟩
      case round =>
        clear P IS F0 BB
        obtain ⟨k, rfl, k1, P, IS, FA, BB⟩ := hrel
        by_cases hk : k < n
        · have hkI : (0 : Int) ≤ (k : Int) ∧ (k : Int) < (n : Int) := by omega
          have cp := P.ptr hk
          have lp := P.bp.lt
          have hstk := (unhide HST) k hk
          obtain ⟨x, hx⟩ : ∃ x, J k = x := ⟨_, rfl⟩
          have HX := hide hx
          rw [hx] at hstk
          have hxst : x.st = true := hstk
          obtain ⟨gk, hgk⟩ : ∃ gk, g k = gk := ⟨_, rfl⟩
          rw [hgk] at cp
          have hgF : gk < gF := by rw [← hgk]; exact (unhide HPF).2 k hk
          have HGK := hide hgk
          have HXS := hide hxst
          clear hx hgk hstk hxst
          go_upto_region 26 with fail
          have BK : Blk (wr.alloc (.cells #[.int .i64 (k : Int)] 3)) wr.heap.size 3 #[.int .i64 (k : Int)] := Blk.new _ _ _
          have hx : Ext wr (wr.alloc (.cells #[.int .i64 (k : Int)] 3)) := (Ext.refl _).alloc _
          have hkv : gB < wr.heap.size := BB.lt
          have hfl := FA.lt
          replace P := P.step hx
          replace IS := IS.ext hx
          replace FA := FA.ext hx
          replace BB := BB.ext hx
          generalize wr.alloc (.cells #[.int .i64 (k : Int)] 3) = w6 at *
          generalize wr.heap.size = gv at *
          clear hx cp lp
          have lk : gk < w6.heap.size := by rw [← unhide HGK]; exact IS.lt hk
          have c52 : w6.cell? ⟨gk, 52, none⟩ = some (.bool true) := by rw [← unhide HGK]; exact IS.cellE hk (unhide HX) (show x.cells[52]? = some (.bool true) by rw [← unhide HXS]; rfl)
          go_upto_region 28 with fail
          clear c52
          obtain ⟨ax, hax⟩ : ∃ v, x.x = v := ⟨_, rfl⟩
          obtain ⟨ay, hay⟩ : ∃ v, x.y = v := ⟨_, rfl⟩
          obtain ⟨aw, haw⟩ : ∃ v, x.wide = v := ⟨_, rfl⟩
          obtain ⟨ah, hah⟩ : ∃ v, x.high = v := ⟨_, rfl⟩
          have c50 : w6.cell? ⟨gk, 50, none⟩ = some (.int .i64 ax) := by rw [← unhide HGK, ← hax]; exact IS.cellE hk (unhide HX) rfl
          have c51 : w6.cell? ⟨gk, 51, none⟩ = some (.int .i64 ay) := by rw [← unhide HGK, ← hay]; exact IS.cellE hk (unhide HX) rfl
          have c45 : w6.cell? ⟨gk, 45, none⟩ = some (.int .i64 aw) := by rw [← unhide HGK, ← haw]; exact IS.cellE hk (unhide HX) rfl
          have c46 : w6.cell? ⟨gk, 46, none⟩ = some (.int .i64 ah) := by rw [← unhide HGK, ← hah]; exact IS.cellE hk (unhide HX) rfl
          have HAX := hide hax
          have HAY := hide hay
          have HAW := hide haw
          have HAH := hide hah
          clear hax hay haw hah
          have hFB := unhide HFB
          have hlow := unhide HLOW
          have hpF := unhide HPF
          have hkx : gk ∉ [gB, gF] := by simp only [List.mem_cons, List.not_mem_nil, or_false]; omega
          have hvx : gv ∉ [gB, gF] := by simp only [List.mem_cons, List.not_mem_nil, or_false]; omega
          have hsx : gs + 1 ∉ [gB, gF] := by simp only [List.mem_cons, List.not_mem_nil, or_false]; omega
          have hFx : gF ∉ [gB] := by simp only [List.mem_cons, List.not_mem_nil, or_false]; omega
          have hBF : gB ≠ gF := by omega
          have BBC := P.bb
          have BB0 := BB
          rw [← byN_self J hk] at BB0
          refine wp_region_linT (by kernel_rfl) (fun w' => (ExtX w6 w' [gB, gF]) ∧ (∃ m, Blk w' gB 4 (boolL ((byN J n k).set k m)).toArray ∧ (m = true → (cutB ax || cutB ay || cutB aw || cutB ah) = true))) (fun ii vv ww => match ii with | 0 => vv = .slice (some ⟨gF, 0, none⟩) n n | 1 => vv = .int .i64 (k : Int) | 2 => vv = .func (Fn.func 24) #[] #[.pointer (some ⟨gs + 1, 0, none⟩), .pointer (some ⟨gv, 0, none⟩)] | 3 => vv = ptrV gk | 4 => vv = .pointer (some ⟨gk, 0, none⟩) | 5 => vv = .pointer (some ⟨gk, 50, none⟩) | 6 => vv = .int .i64 ax | 7 => (vv = .int .i64 (cutV ax)) ∧ (cutB ax = true → Blk ww gB 4 (boolL ((byN J n k).set k true)).toArray) | 8 => vv = .func (Fn.func 24) #[] #[.pointer (some ⟨gs + 1, 0, none⟩), .pointer (some ⟨gv, 0, none⟩)] | 9 => vv = ptrV gk | 10 => vv = .pointer (some ⟨gk, 0, none⟩) | 11 => vv = .pointer (some ⟨gk, 51, none⟩) | 12 => vv = .int .i64 ay | 13 => (vv = .int .i64 (cutV ay)) ∧ (cutB ay = true → Blk ww gB 4 (boolL ((byN J n k).set k true)).toArray) | 14 => vv = .func (Fn.func 24) #[] #[.pointer (some ⟨gs + 1, 0, none⟩), .pointer (some ⟨gv, 0, none⟩)] | 15 => vv = ptrV gk | 16 => vv = .pointer (some ⟨gk, 0, none⟩) | 17 => vv = .pointer (some ⟨gk, 45, none⟩) | 18 => vv = .int .i64 aw | 19 => (vv = .int .i64 (cutV aw)) ∧ (cutB aw = true → Blk ww gB 4 (boolL ((byN J n k).set k true)).toArray) | 20 => vv = .func (Fn.func 24) #[] #[.pointer (some ⟨gs + 1, 0, none⟩), .pointer (some ⟨gv, 0, none⟩)] | 21 => vv = ptrV gk | 22 => vv = .pointer (some ⟨gk, 0, none⟩) | 23 => vv = .pointer (some ⟨gk, 46, none⟩) | 24 => vv = .int .i64 ah | 25 => (vv = .int .i64 (cutV ah)) ∧ (cutB ah = true → Blk ww gB 4 (boolL ((byN J n k).set k true)).toArray) | 26 => vv = .agg (frC ⟨cutV ax, cutV ay, cutV aw, cutV ah⟩).toArray | 27 => vv = .pointer (some ⟨gF, k * 5, none⟩) | _ => True) (fun ii => match ii with | 4 => [(3, 113)] | 5 => [(4, 114)] | 6 => [(5, 115)] | 7 => [(2, 112), (6, 116)] | 10 => [(9, 119)] | 11 => [(10, 120)] | 12 => [(11, 121)] | 13 => [(8, 118), (12, 122)] | 16 => [(15, 125)] | 17 => [(16, 126)] | 18 => [(17, 127)] | 19 => [(14, 124), (18, 128)] | 22 => [(21, 131)] | 23 => [(22, 132)] | 24 => [(23, 133)] | 25 => [(20, 130), (24, 134)] | 26 => [(7, 117), (13, 123), (19, 129), (25, 135)] | 27 => [(0, 110), (1, 111)] | 28 => [(27, 137), (26, 136), (7, 117), (13, 123), (19, 129), (25, 135)] | _ => []) (fun ii => match ii with | 0 => [12] | 1 => [23] | 2 => [25] | 3 => [24] | 8 => [25] | 9 => [24] | 14 => [25] | 15 => [24] | 20 => [25] | 21 => [24] | _ => []) (fun ii => match ii with | 0 => [3, 4, 5, 2, 6, 9, 10, 11, 8, 12, 15, 16, 17, 14, 18, 21, 22, 23, 20, 24, 7, 13, 19, 25, 1, 26] | 1 => [3, 4, 5, 2, 6, 9, 10, 11, 8, 12, 15, 16, 17, 14, 18, 21, 22, 23, 20, 24, 7, 13, 19, 25, 0, 26] | 2 => [3, 4, 5, 6, 9, 10, 11, 8, 12, 15, 16, 17, 14, 18, 21, 22, 23, 20, 24, 0, 1] | 3 => [2, 9, 10, 11, 8, 12, 15, 16, 17, 14, 18, 21, 22, 23, 20, 24, 0, 1] | 4 => [2, 9, 10, 11, 8, 12, 15, 16, 17, 14, 18, 21, 22, 23, 20, 24, 0, 1] | 5 => [2, 9, 10, 11, 8, 12, 15, 16, 17, 14, 18, 21, 22, 23, 20, 24, 0, 1] | 6 => [2, 9, 10, 11, 8, 12, 15, 16, 17, 14, 18, 21, 22, 23, 20, 24, 0, 1] | 7 => [9, 10, 11, 8, 12, 15, 16, 17, 14, 18, 21, 22, 23, 20, 24, 0, 1] | 8 => [3, 4, 5, 2, 6, 9, 10, 11, 12, 15, 16, 17, 14, 18, 21, 22, 23, 20, 24, 7, 0, 1] | 9 => [3, 4, 5, 2, 6, 8, 15, 16, 17, 14, 18, 21, 22, 23, 20, 24, 7, 0, 1] | 10 => [3, 4, 5, 2, 6, 8, 15, 16, 17, 14, 18, 21, 22, 23, 20, 24, 7, 0, 1] | 11 => [3, 4, 5, 2, 6, 8, 15, 16, 17, 14, 18, 21, 22, 23, 20, 24, 7, 0, 1] | 12 => [3, 4, 5, 2, 6, 8, 15, 16, 17, 14, 18, 21, 22, 23, 20, 24, 7, 0, 1] | 13 => [15, 16, 17, 14, 18, 21, 22, 23, 20, 24, 7, 0, 1] | 14 => [3, 4, 5, 2, 6, 9, 10, 11, 8, 12, 15, 16, 17, 18, 21, 22, 23, 20, 24, 7, 13, 0, 1] | 15 => [3, 4, 5, 2, 6, 9, 10, 11, 8, 12, 14, 21, 22, 23, 20, 24, 7, 13, 0, 1] | 16 => [3, 4, 5, 2, 6, 9, 10, 11, 8, 12, 14, 21, 22, 23, 20, 24, 7, 13, 0, 1] | 17 => [3, 4, 5, 2, 6, 9, 10, 11, 8, 12, 14, 21, 22, 23, 20, 24, 7, 13, 0, 1] | 18 => [3, 4, 5, 2, 6, 9, 10, 11, 8, 12, 14, 21, 22, 23, 20, 24, 7, 13, 0, 1] | 19 => [21, 22, 23, 20, 24, 7, 13, 0, 1] | 20 => [3, 4, 5, 2, 6, 9, 10, 11, 8, 12, 15, 16, 17, 14, 18, 21, 22, 23, 24, 7, 13, 19, 0, 1] | 21 => [3, 4, 5, 2, 6, 9, 10, 11, 8, 12, 15, 16, 17, 14, 18, 20, 7, 13, 19, 0, 1] | 22 => [3, 4, 5, 2, 6, 9, 10, 11, 8, 12, 15, 16, 17, 14, 18, 20, 7, 13, 19, 0, 1] | 23 => [3, 4, 5, 2, 6, 9, 10, 11, 8, 12, 15, 16, 17, 14, 18, 20, 7, 13, 19, 0, 1] | 24 => [3, 4, 5, 2, 6, 9, 10, 11, 8, 12, 15, 16, 17, 14, 18, 20, 7, 13, 19, 0, 1] | 25 => [7, 13, 19, 0, 1] | 26 => [0, 1, 7, 13, 19, 25] | 27 => [26, 7, 13, 19, 25] | _ => []) [] [0, 0, 0, 0, 8, 24, 56, 124, 0, 0, 512, 1536, 3584, 8188, 0, 0, 32768, 98304, 229376, 524284, 0, 0, 2097152, 6291456, 14680064, 33554428, 67108860, 134217727, 268435455] (fun w0q => FrAt w0q gF n (frN J k)) [28] (fun FT wT => FrAt wT gF n (fun i => if i = k then ⟨cutV ax, cutV ay, cutV aw, cutV ah⟩ else frN J k i) ∧ Blk wT gB 4 (boolL ((byN J n k).set k (cutB ax || cutB ay || cutB aw || cutB ah))).toArray ∧ ExtX w6 wT [gB, gF]) 28 147 rfl (by kernel_rfl) (by kernel_rfl) (.inl (by kernel_rfl)) (⟨ExtX.start _ _, ⟨false, BB0.ext (Ext.refl _).drew, fun h => by cases h⟩⟩) ((FA.ext (Ext.refl _).drew)) ?_ ?_
          · rename_i hcont; clear hcont
            refine ⟨?_, ?_, ?_, ?_, ?_, ?_, ?_, ?_, ?_, ?_, ?_, ?_, ?_, ?_, ?_, ?_, ?_, ?_, ?_, ?_, ?_, ?_, ?_, ?_, ?_, ?_, ?_, ?_, ?_, trivial⟩
            · refine stepT_plain rfl ?_
              rintro F a w1 ⟨jE, jB⟩ - ⟨t12, -⟩ iO K hK
              have t12 : a.tmps[12]? = some (.slice (some ⟨gF, 0, none⟩) n n) := t12
              go_simp
              exact hK _ _ ⟨jE, jB⟩ rfl (fun _ _ _ h => h) (fun _ => by first | exact iO | rfl) (fun he => absurd he (by decide))
            · refine stepT_plain rfl ?_
              rintro F a w1 ⟨jE, jB⟩ - ⟨t23, -⟩ iO K hK
              have t23 : a.tmps[23]? = some (.pointer (some ⟨gv, 0, none⟩)) := t23
              have c := (jE.blk BK hvx).cell
              go_simp
              exact hK _ _ ⟨jE, jB⟩ rfl (fun _ _ _ h => h) (fun _ => by first | exact iO | rfl) (fun he => absurd he (by decide))
            · refine stepT_plain rfl ?_
              rintro F a w1 ⟨jE, jB⟩ - ⟨t25, -⟩ iO K hK
              have t25 : a.tmps[25]? = some (.func (Fn.func 24) #[] #[.pointer (some ⟨gs + 1, 0, none⟩), .pointer (some ⟨gv, 0, none⟩)]) := t25
              go_simp
              exact hK _ _ ⟨jE, jB⟩ rfl (fun _ _ _ h => h) (fun _ => by first | exact iO | rfl) (fun he => absurd he (by decide))
            · refine stepT_plain rfl ?_
              rintro F a w1 ⟨jE, jB⟩ - ⟨t24, -⟩ iO K hK
              have t24 : a.tmps[24]? = some (ptrV gk) := t24
              go_simp
              exact hK _ _ ⟨jE, jB⟩ rfl (fun _ _ _ h => h) (fun _ => by first | exact iO | rfl) (fun he => absurd he (by decide))
            · refine stepT_plain rfl ?_
              rintro F a w1 ⟨jE, jB⟩ ⟨h3, t113, -⟩ - iO K hK
              have h3 : (F 3) = ptrV gk := h3
              rw [h3] at t113
              clear h3
              go_simp
              exact hK _ _ ⟨jE, jB⟩ rfl (fun _ _ _ h => h) (fun _ => by first | exact iO | rfl) (fun he => absurd he (by decide))
            · refine stepT_plain rfl ?_
              rintro F a w1 ⟨jE, jB⟩ ⟨h4, t114, -⟩ - iO K hK
              have h4 : (F 4) = .pointer (some ⟨gk, 0, none⟩) := h4
              rw [h4] at t114
              clear h4
              go_simp
              exact hK _ _ ⟨jE, jB⟩ rfl (fun _ _ _ h => h) (fun _ => by first | exact iO | rfl) (fun he => absurd he (by decide))
            · refine stepT_plain rfl ?_
              rintro F a w1 ⟨jE, jB⟩ ⟨h5, t115, -⟩ - iO K hK
              have h5 : (F 5) = .pointer (some ⟨gk, 50, none⟩) := h5
              rw [h5] at t115
              clear h5
              have c := (jE.cellX lk hkx).trans c50
              go_simp
              exact hK _ _ ⟨jE, jB⟩ rfl (fun _ _ _ h => h) (fun _ => by first | exact iO | rfl) (fun he => absurd he (by decide))
            · refine stepT_plain rfl ?_
              rintro F a w1 ⟨jE, jB⟩ ⟨h2, t112, h6, t116, -⟩ - iO K hK
              have h2 : (F 2) = .func (Fn.func 24) #[] #[.pointer (some ⟨gs + 1, 0, none⟩), .pointer (some ⟨gv, 0, none⟩)] := h2
              rw [h2] at t112
              clear h2
              have h6 : (F 6) = .int .i64 ax := h6
              rw [h6] at t116
              clear h6
              obtain ⟨m, hB, hm⟩ := jB
              go_simp
              with_reducible refine (cut_cl (gs + 1) gv gB n k ax m (byN J n k) _ (jE.blk BBC hsx) (jE.blk BK hvx) hB (byN_len J n k) hk).mono ?_
              rintro e w2 ⟨rfl, hB2, hx2⟩
              have hm2 : (m || cutB ax) = true → (cutB ax || cutB ay || cutB aw || cutB ah) = true := fun h => by rcases (by simpa using h : m = true ∨ cutB ax = true) with h | h; exact hm h; simp [h]
              have hs2 : cutB ax = true → Blk w2 gB 4 (boolL ((byN J n k).set k true)).toArray := fun e => by rw [e, Bool.or_true] at hB2; exact hB2
              exact hK _ _ ⟨jE.transX hx2 (by simp), ⟨_, hB2, hm2⟩⟩ ⟨rfl, hs2⟩ (by intro jq hj uq h; have hj : jq ∈ [9, 10, 11, 8, 12, 15, 16, 17, 14, 18, 21, 22, 23, 20, 24, 0, 1] := hj; simp only [List.mem_cons, List.not_mem_nil, or_false] at hj; rcases hj with rfl | rfl | rfl | rfl | rfl | rfl | rfl | rfl | rfl | rfl | rfl | rfl | rfl | rfl | rfl | rfl | rfl; exact h; exact h; exact h; exact h; exact h; exact h; exact h; exact h; exact h; exact h; exact h; exact h; exact h; exact h; exact h; exact h; exact h) (fun _ => iO.extx hx2 hFx) (fun he => absurd he (by decide))
            · refine stepT_plain rfl ?_
              rintro F a w1 ⟨jE, jB⟩ - ⟨t25, -⟩ iO K hK
              have t25 : a.tmps[25]? = some (.func (Fn.func 24) #[] #[.pointer (some ⟨gs + 1, 0, none⟩), .pointer (some ⟨gv, 0, none⟩)]) := t25
              go_simp
              exact hK _ _ ⟨jE, jB⟩ rfl (fun _ _ _ h => h) (fun _ => by first | exact iO | rfl) (fun he => absurd he (by decide))
            · refine stepT_plain rfl ?_
              rintro F a w1 ⟨jE, jB⟩ - ⟨t24, -⟩ iO K hK
              have t24 : a.tmps[24]? = some (ptrV gk) := t24
              go_simp
              exact hK _ _ ⟨jE, jB⟩ rfl (fun _ _ _ h => h) (fun _ => by first | exact iO | rfl) (fun he => absurd he (by decide))
            · refine stepT_plain rfl ?_
              rintro F a w1 ⟨jE, jB⟩ ⟨h9, t119, -⟩ - iO K hK
              have h9 : (F 9) = ptrV gk := h9
              rw [h9] at t119
              clear h9
              go_simp
              exact hK _ _ ⟨jE, jB⟩ rfl (fun _ _ _ h => h) (fun _ => by first | exact iO | rfl) (fun he => absurd he (by decide))
            · refine stepT_plain rfl ?_
              rintro F a w1 ⟨jE, jB⟩ ⟨h10, t120, -⟩ - iO K hK
              have h10 : (F 10) = .pointer (some ⟨gk, 0, none⟩) := h10
              rw [h10] at t120
              clear h10
              go_simp
              exact hK _ _ ⟨jE, jB⟩ rfl (fun _ _ _ h => h) (fun _ => by first | exact iO | rfl) (fun he => absurd he (by decide))
            · refine stepT_plain rfl ?_
              rintro F a w1 ⟨jE, jB⟩ ⟨h11, t121, -⟩ - iO K hK
              have h11 : (F 11) = .pointer (some ⟨gk, 51, none⟩) := h11
              rw [h11] at t121
              clear h11
              have c := (jE.cellX lk hkx).trans c51
              go_simp
              exact hK _ _ ⟨jE, jB⟩ rfl (fun _ _ _ h => h) (fun _ => by first | exact iO | rfl) (fun he => absurd he (by decide))
            · refine stepT_plain rfl ?_
              rintro F a w1 ⟨jE, jB⟩ ⟨h8, t118, h12, t122, -⟩ - iO K hK
              have h8 : (F 8) = .func (Fn.func 24) #[] #[.pointer (some ⟨gs + 1, 0, none⟩), .pointer (some ⟨gv, 0, none⟩)] := h8
              rw [h8] at t118
              clear h8
              have h12 : (F 12) = .int .i64 ay := h12
              rw [h12] at t122
              clear h12
              obtain ⟨m, hB, hm⟩ := jB
              go_simp
              with_reducible refine (cut_cl (gs + 1) gv gB n k ay m (byN J n k) _ (jE.blk BBC hsx) (jE.blk BK hvx) hB (byN_len J n k) hk).mono ?_
              rintro e w2 ⟨rfl, hB2, hx2⟩
              have hm2 : (m || cutB ay) = true → (cutB ax || cutB ay || cutB aw || cutB ah) = true := fun h => by rcases (by simpa using h : m = true ∨ cutB ay = true) with h | h; exact hm h; simp [h]
              have hs2 : cutB ay = true → Blk w2 gB 4 (boolL ((byN J n k).set k true)).toArray := fun e => by rw [e, Bool.or_true] at hB2; exact hB2
              exact hK _ _ ⟨jE.transX hx2 (by simp), ⟨_, hB2, hm2⟩⟩ ⟨rfl, hs2⟩ (by intro jq hj uq h; have hj : jq ∈ [15, 16, 17, 14, 18, 21, 22, 23, 20, 24, 7, 0, 1] := hj; simp only [List.mem_cons, List.not_mem_nil, or_false] at hj; rcases hj with rfl | rfl | rfl | rfl | rfl | rfl | rfl | rfl | rfl | rfl | rfl | rfl | rfl; exact h; exact h; exact h; exact h; exact h; exact h; exact h; exact h; exact h; exact h; exact (have h : (uq = .int .i64 (cutV ax)) ∧ (cutB ax = true → Blk w1 gB 4 (boolL ((byN J n k).set k true)).toArray) := h; ⟨h.1, fun e => cut_keep (byN_len J n k) hk hB (h.2 e) hB2⟩); exact h; exact h) (fun _ => iO.extx hx2 hFx) (fun he => absurd he (by decide))
            · refine stepT_plain rfl ?_
              rintro F a w1 ⟨jE, jB⟩ - ⟨t25, -⟩ iO K hK
              have t25 : a.tmps[25]? = some (.func (Fn.func 24) #[] #[.pointer (some ⟨gs + 1, 0, none⟩), .pointer (some ⟨gv, 0, none⟩)]) := t25
              go_simp
              exact hK _ _ ⟨jE, jB⟩ rfl (fun _ _ _ h => h) (fun _ => by first | exact iO | rfl) (fun he => absurd he (by decide))
            · refine stepT_plain rfl ?_
              rintro F a w1 ⟨jE, jB⟩ - ⟨t24, -⟩ iO K hK
              have t24 : a.tmps[24]? = some (ptrV gk) := t24
              go_simp
              exact hK _ _ ⟨jE, jB⟩ rfl (fun _ _ _ h => h) (fun _ => by first | exact iO | rfl) (fun he => absurd he (by decide))
            · refine stepT_plain rfl ?_
              rintro F a w1 ⟨jE, jB⟩ ⟨h15, t125, -⟩ - iO K hK
              have h15 : (F 15) = ptrV gk := h15
              rw [h15] at t125
              clear h15
              go_simp
              exact hK _ _ ⟨jE, jB⟩ rfl (fun _ _ _ h => h) (fun _ => by first | exact iO | rfl) (fun he => absurd he (by decide))
            · refine stepT_plain rfl ?_
              rintro F a w1 ⟨jE, jB⟩ ⟨h16, t126, -⟩ - iO K hK
              have h16 : (F 16) = .pointer (some ⟨gk, 0, none⟩) := h16
              rw [h16] at t126
              clear h16
              go_simp
              exact hK _ _ ⟨jE, jB⟩ rfl (fun _ _ _ h => h) (fun _ => by first | exact iO | rfl) (fun he => absurd he (by decide))
            · refine stepT_plain rfl ?_
              rintro F a w1 ⟨jE, jB⟩ ⟨h17, t127, -⟩ - iO K hK
              have h17 : (F 17) = .pointer (some ⟨gk, 45, none⟩) := h17
              rw [h17] at t127
              clear h17
              have c := (jE.cellX lk hkx).trans c45
              go_simp
              exact hK _ _ ⟨jE, jB⟩ rfl (fun _ _ _ h => h) (fun _ => by first | exact iO | rfl) (fun he => absurd he (by decide))
            · refine stepT_plain rfl ?_
              rintro F a w1 ⟨jE, jB⟩ ⟨h14, t124, h18, t128, -⟩ - iO K hK
              have h14 : (F 14) = .func (Fn.func 24) #[] #[.pointer (some ⟨gs + 1, 0, none⟩), .pointer (some ⟨gv, 0, none⟩)] := h14
              rw [h14] at t124
              clear h14
              have h18 : (F 18) = .int .i64 aw := h18
              rw [h18] at t128
              clear h18
              obtain ⟨m, hB, hm⟩ := jB
              go_simp
              with_reducible refine (cut_cl (gs + 1) gv gB n k aw m (byN J n k) _ (jE.blk BBC hsx) (jE.blk BK hvx) hB (byN_len J n k) hk).mono ?_
              rintro e w2 ⟨rfl, hB2, hx2⟩
              have hm2 : (m || cutB aw) = true → (cutB ax || cutB ay || cutB aw || cutB ah) = true := fun h => by rcases (by simpa using h : m = true ∨ cutB aw = true) with h | h; exact hm h; simp [h]
              have hs2 : cutB aw = true → Blk w2 gB 4 (boolL ((byN J n k).set k true)).toArray := fun e => by rw [e, Bool.or_true] at hB2; exact hB2
              exact hK _ _ ⟨jE.transX hx2 (by simp), ⟨_, hB2, hm2⟩⟩ ⟨rfl, hs2⟩ (by intro jq hj uq h; have hj : jq ∈ [21, 22, 23, 20, 24, 7, 13, 0, 1] := hj; simp only [List.mem_cons, List.not_mem_nil, or_false] at hj; rcases hj with rfl | rfl | rfl | rfl | rfl | rfl | rfl | rfl | rfl; exact h; exact h; exact h; exact h; exact h; exact (have h : (uq = .int .i64 (cutV ax)) ∧ (cutB ax = true → Blk w1 gB 4 (boolL ((byN J n k).set k true)).toArray) := h; ⟨h.1, fun e => cut_keep (byN_len J n k) hk hB (h.2 e) hB2⟩); exact (have h : (uq = .int .i64 (cutV ay)) ∧ (cutB ay = true → Blk w1 gB 4 (boolL ((byN J n k).set k true)).toArray) := h; ⟨h.1, fun e => cut_keep (byN_len J n k) hk hB (h.2 e) hB2⟩); exact h; exact h) (fun _ => iO.extx hx2 hFx) (fun he => absurd he (by decide))
            · refine stepT_plain rfl ?_
              rintro F a w1 ⟨jE, jB⟩ - ⟨t25, -⟩ iO K hK
              have t25 : a.tmps[25]? = some (.func (Fn.func 24) #[] #[.pointer (some ⟨gs + 1, 0, none⟩), .pointer (some ⟨gv, 0, none⟩)]) := t25
              go_simp
              exact hK _ _ ⟨jE, jB⟩ rfl (fun _ _ _ h => h) (fun _ => by first | exact iO | rfl) (fun he => absurd he (by decide))
            · refine stepT_plain rfl ?_
              rintro F a w1 ⟨jE, jB⟩ - ⟨t24, -⟩ iO K hK
              have t24 : a.tmps[24]? = some (ptrV gk) := t24
              go_simp
              exact hK _ _ ⟨jE, jB⟩ rfl (fun _ _ _ h => h) (fun _ => by first | exact iO | rfl) (fun he => absurd he (by decide))
            · refine stepT_plain rfl ?_
              rintro F a w1 ⟨jE, jB⟩ ⟨h21, t131, -⟩ - iO K hK
              have h21 : (F 21) = ptrV gk := h21
              rw [h21] at t131
              clear h21
              go_simp
              exact hK _ _ ⟨jE, jB⟩ rfl (fun _ _ _ h => h) (fun _ => by first | exact iO | rfl) (fun he => absurd he (by decide))
            · refine stepT_plain rfl ?_
              rintro F a w1 ⟨jE, jB⟩ ⟨h22, t132, -⟩ - iO K hK
              have h22 : (F 22) = .pointer (some ⟨gk, 0, none⟩) := h22
              rw [h22] at t132
              clear h22
              go_simp
              exact hK _ _ ⟨jE, jB⟩ rfl (fun _ _ _ h => h) (fun _ => by first | exact iO | rfl) (fun he => absurd he (by decide))
            · refine stepT_plain rfl ?_
              rintro F a w1 ⟨jE, jB⟩ ⟨h23, t133, -⟩ - iO K hK
              have h23 : (F 23) = .pointer (some ⟨gk, 46, none⟩) := h23
              rw [h23] at t133
              clear h23
              have c := (jE.cellX lk hkx).trans c46
              go_simp
              exact hK _ _ ⟨jE, jB⟩ rfl (fun _ _ _ h => h) (fun _ => by first | exact iO | rfl) (fun he => absurd he (by decide))
            · refine stepT_plain rfl ?_
              rintro F a w1 ⟨jE, jB⟩ ⟨h20, t130, h24, t134, -⟩ - iO K hK
              have h20 : (F 20) = .func (Fn.func 24) #[] #[.pointer (some ⟨gs + 1, 0, none⟩), .pointer (some ⟨gv, 0, none⟩)] := h20
              rw [h20] at t130
              clear h20
              have h24 : (F 24) = .int .i64 ah := h24
              rw [h24] at t134
              clear h24
              obtain ⟨m, hB, hm⟩ := jB
              go_simp
              with_reducible refine (cut_cl (gs + 1) gv gB n k ah m (byN J n k) _ (jE.blk BBC hsx) (jE.blk BK hvx) hB (byN_len J n k) hk).mono ?_
              rintro e w2 ⟨rfl, hB2, hx2⟩
              have hm2 : (m || cutB ah) = true → (cutB ax || cutB ay || cutB aw || cutB ah) = true := fun h => by rcases (by simpa using h : m = true ∨ cutB ah = true) with h | h; exact hm h; simp [h]
              have hs2 : cutB ah = true → Blk w2 gB 4 (boolL ((byN J n k).set k true)).toArray := fun e => by rw [e, Bool.or_true] at hB2; exact hB2
              exact hK _ _ ⟨jE.transX hx2 (by simp), ⟨_, hB2, hm2⟩⟩ ⟨rfl, hs2⟩ (by intro jq hj uq h; have hj : jq ∈ [7, 13, 19, 0, 1] := hj; simp only [List.mem_cons, List.not_mem_nil, or_false] at hj; rcases hj with rfl | rfl | rfl | rfl | rfl; exact (have h : (uq = .int .i64 (cutV ax)) ∧ (cutB ax = true → Blk w1 gB 4 (boolL ((byN J n k).set k true)).toArray) := h; ⟨h.1, fun e => cut_keep (byN_len J n k) hk hB (h.2 e) hB2⟩); exact (have h : (uq = .int .i64 (cutV ay)) ∧ (cutB ay = true → Blk w1 gB 4 (boolL ((byN J n k).set k true)).toArray) := h; ⟨h.1, fun e => cut_keep (byN_len J n k) hk hB (h.2 e) hB2⟩); exact (have h : (uq = .int .i64 (cutV aw)) ∧ (cutB aw = true → Blk w1 gB 4 (boolL ((byN J n k).set k true)).toArray) := h; ⟨h.1, fun e => cut_keep (byN_len J n k) hk hB (h.2 e) hB2⟩); exact h; exact h) (fun _ => iO.extx hx2 hFx) (fun he => absurd he (by decide))
            · refine stepT_plain rfl ?_
              rintro F a w1 ⟨jE, jB⟩ ⟨h7, t117, h13, t123, h19, t129, h25, t135, -⟩ - iO K hK
              have h7 : ((F 7) = .int .i64 (cutV ax)) ∧ (cutB ax = true → Blk w1 gB 4 (boolL ((byN J n k).set k true)).toArray) := h7
              have h13 : ((F 13) = .int .i64 (cutV ay)) ∧ (cutB ay = true → Blk w1 gB 4 (boolL ((byN J n k).set k true)).toArray) := h13
              have h19 : ((F 19) = .int .i64 (cutV aw)) ∧ (cutB aw = true → Blk w1 gB 4 (boolL ((byN J n k).set k true)).toArray) := h19
              have h25 : ((F 25) = .int .i64 (cutV ah)) ∧ (cutB ah = true → Blk w1 gB 4 (boolL ((byN J n k).set k true)).toArray) := h25
              obtain ⟨e7, -⟩ := h7
              obtain ⟨e13, -⟩ := h13
              obtain ⟨e19, -⟩ := h19
              obtain ⟨e25, -⟩ := h25
              rw [e7] at t117
              rw [e13] at t123
              rw [e19] at t129
              rw [e25] at t135
              refine wp_buildTo 46 _ rfl (frC ⟨cutV ax, cutV ay, cutV aw, cutV ah⟩).toArray (by simp only [List.map_toArray, List.map_cons, List.map_nil]; rw [eval_tmp t117, eval_tmp t123, eval_tmp t129, eval_tmp t135]; kernel_rfl) ?_
              exact hK _ _ ⟨jE, jB⟩ rfl (fun _ _ _ h => h) (fun _ => by first | exact iO | rfl) (fun he => absurd he (by decide))
            · refine stepT_plain rfl ?_
              rintro F a w1 ⟨jE, jB⟩ ⟨h0, t110, h1, t111, -⟩ - iO K hK
              have h0 : (F 0) = .slice (some ⟨gF, 0, none⟩) n n := h0
              rw [h0] at t110
              clear h0
              have h1 : (F 1) = .int .i64 (k : Int) := h1
              rw [h1] at t111
              clear h1
              go_simp
              exact hK _ _ ⟨jE, jB⟩ rfl (fun _ _ _ h => h) (fun _ => by first | exact iO | rfl) (fun he => absurd he (by decide))
            · refine stepT_plain rfl ?_
              rintro F a w1 ⟨jE, jB⟩ ⟨h27, t137, h26, t136, h7, t117, h13, t123, h19, t129, h25, t135, -⟩ - iO K hK
              have h27 : (F 27) = .pointer (some ⟨gF, k * 5, none⟩) := h27
              rw [h27] at t137
              clear h27
              have h26 : (F 26) = .agg (frC ⟨cutV ax, cutV ay, cutV aw, cutV ah⟩).toArray := h26
              rw [h26] at t136
              clear h26
              have h7 : ((F 7) = .int .i64 (cutV ax)) ∧ (cutB ax = true → Blk w1 gB 4 (boolL ((byN J n k).set k true)).toArray) := h7
              have h13 : ((F 13) = .int .i64 (cutV ay)) ∧ (cutB ay = true → Blk w1 gB 4 (boolL ((byN J n k).set k true)).toArray) := h13
              have h19 : ((F 19) = .int .i64 (cutV aw)) ∧ (cutB aw = true → Blk w1 gB 4 (boolL ((byN J n k).set k true)).toArray) := h19
              have h25 : ((F 25) = .int .i64 (cutV ah)) ∧ (cutB ah = true → Blk w1 gB 4 (boolL ((byN J n k).set k true)).toArray) := h25
              obtain ⟨m, hB, hm⟩ := jB
              have hO : m = (cutB ax || cutB ay || cutB aw || cutB ah) := by
                rw [Bool.eq_iff_iff]
                refine ⟨hm, fun h => ?_⟩
                have cut1 := fun h => cut_one (byN_len J n k) hk hB h
                rcases (by simpa [or_assoc] using h : cutB ax = true ∨ cutB ay = true ∨ cutB aw = true ∨ cutB ah = true) with h | h | h | h
                · exact cut1 (h7.2 h)
                · exact cut1 (h13.2 h)
                · exact cut1 (h19.2 h)
                · exact cut1 (h25.2 h)
              refine wp_store_mid 46 _ _ rfl gF (k * 5) (frC ⟨cutV ax, cutV ay, cutV aw, cutV ah⟩).toArray (eval_tmp t137) (eval_tmp t136) (iO.there hk) (info_fr ⟨cutV ax, cutV ay, cutV aw, cutV ah⟩) (all_oneCell_toArray (frC_one _)) ?_
              have hb2 := blk_setCells (o := k * 5) hB hBF (frC ⟨cutV ax, cutV ay, cutV aw, cutV ah⟩)
              have jx : ExtX w6 (w1.setCells gF (k * 5) (frC ⟨cutV ax, cutV ay, cutV aw, cutV ah⟩)) [gB, gF] := extx_setCells (by simp) _ _ _ jE
              exact hK undef _ ⟨jx, ⟨m, hb2, hm⟩⟩ trivial (fun _ hj _ _ => (List.not_mem_nil hj).elim) (fun h => (h (by simp)).elim) (fun _ => ⟨iO.put hk _, by rw [← hO]; exact hb2, jx⟩)
          · rintro F w9 ⟨jE, jB⟩ - hT
            obtain ⟨FA2, BB2, E2⟩ := hT (by decide)
            simp only [putL, Act.put, Nat.reduceAdd, Nat.zero_add, List.setIfInBounds_toArray, List.set_cons_succ, List.set_cons_zero]
            have P2 := P.extx E2 (fun q hq => by simp only [List.mem_cons, List.not_mem_nil, or_false] at hq; omega)
            have IS2 := IS.extx E2 (fun i hi => by have := hpF.2 i hi; simp only [List.mem_cons, List.not_mem_nil, or_false]; omega)
            have hby : byB (J k) = (cutB ax || cutB ay || cutB aw || cutB ah) := by rw [unhide HX, byB, unhide HAX, unhide HAY, unhide HAW, unhide HAH]
            rw [← hby, byN_step J hk] at BB2
            have FA3 : FrAt w9 gF n (frN J (k + 1)) := FA2.congr (fun i _ => by
              show frN J (k + 1) i = if i = k then _ else frN J k i
              by_cases e : i = k
              · subst e; rw [if_pos rfl, frN, if_pos (by omega), unhide HX, frV, unhide HAX, unhide HAY, unhide HAW, unhide HAH]
              · rw [if_neg e, frN, frN]; by_cases h : i < k
                · rw [if_pos h, if_pos (by omega)]
                · rw [if_neg h, if_neg (by omega)])
            clear jE jB hT FA2 E2 P IS FA BB BB0 BBC hkx hvx hsx hFx hBF hby hFB hlow hpF c45 c46 c50 c51 lk BK
            go_wp2_with fail
            go_roundw
            case rel => exact ⟨k + 1, by go_num, by omega, P2, IS2, FA3, BB2⟩
            case measure => simp [intOf]; omega
        · have hkI : ¬ (k : Int) < (n : Int) := by omega
          have hke : k = n := by omega
          rw [hke] at FA BB
          have FA2 := FA.congr (G := fun i => frV (J i)) (fun i hi => (if_pos hi).symm)
          have cc := P.bb.cell
          have cl := P.bb.lt
          clear hke FA
          go_wp2_with fail
          with_reducible refine (au_cut top _).mono ?_
          rintro e w8 ⟨rfl, rfl⟩
          go_upto_region 31 with fail
          refine wp_region_linT (by kernel_rfl) (fun w' => (ExtX wr w' [gs + 1])) (fun ii vv ww => match ii with | 0 => vv = .slice (some ⟨gF, 0, none⟩) n n | 1 => vv = .int .i64 (cutV top) | 2 => vv = .slice (some ⟨gB, 0, none⟩) n n | 3 => vv = .slice (some ⟨gF, 0, none⟩) n n | 4 => vv = .int .i64 (cutV top) | _ => True) (fun ii => match ii with | 3 => [(0, 144)] | 4 => [(1, 145)] | 5 => [(2, 146)] | _ => []) (fun ii => match ii with | 0 => [12] | 1 => [13] | 2 => [14] | 5 => [14] | _ => []) (fun ii => match ii with | 0 => [1, 2] | 1 => [0, 2, 3] | 2 => [0, 1, 3, 4] | 3 => [1, 2] | 4 => [2, 3] | 5 => [3, 4] | _ => []) [3, 4] [0, 0, 0, 1, 11, 31] (fun w0q => Ext wr w0q) [5] (fun FT wT => Blk wT (gs + 1) 39 #[.slice (some ⟨gB, 0, none⟩) n n]) 5 147 rfl (by kernel_rfl) (by kernel_rfl) (.inl (by kernel_rfl)) ((ExtX.start _ _)) ((Ext.refl _).drew) ?_ ?_
          · rename_i hcont; clear hcont
            refine ⟨?_, ?_, ?_, ?_, ?_, ?_, trivial⟩
            · refine stepT_plain rfl ?_
              rintro F a w1 jE - ⟨t12, -⟩ iO K hK
              have t12 : a.tmps[12]? = some (.slice (some ⟨gF, 0, none⟩) n n) := t12
              go_simp
              exact hK _ _ jE rfl (fun _ _ _ h => h) (fun _ => by first | exact iO | rfl) (fun he => absurd he (by decide))
            · refine stepT_plain rfl ?_
              rintro F a w1 jE - ⟨t13, -⟩ iO K hK
              have t13 : a.tmps[13]? = some (.int .i64 (cutV top)) := t13
              go_simp
              exact hK _ _ jE rfl (fun _ _ _ h => h) (fun _ => by first | exact iO | rfl) (fun he => absurd he (by decide))
            · refine stepT_plain rfl ?_
              rintro F a w1 jE - ⟨t14, -⟩ iO K hK
              have t14 : a.tmps[14]? = some (.pointer (some ⟨gs + 1, 0, none⟩)) := t14
              have c := (P.bb.ext iO).cell
              go_simp
              exact hK _ _ jE rfl (fun _ _ _ h => h) (fun _ => by first | exact iO | rfl) (fun he => absurd he (by decide))
            · refine stepT_plain rfl ?_
              rintro F a w1 jE ⟨h0, t144, -⟩ - iO K hK
              have h0 : (F 0) = .slice (some ⟨gF, 0, none⟩) n n := h0
              rw [h0] at t144
              clear h0
              go_simp
              exact hK _ _ jE rfl (fun _ _ _ h => h) (fun _ => by first | exact iO | rfl) (fun he => absurd he (by decide))
            · refine stepT_plain rfl ?_
              rintro F a w1 jE ⟨h1, t145, -⟩ - iO K hK
              have h1 : (F 1) = .int .i64 (cutV top) := h1
              rw [h1] at t145
              clear h1
              go_simp
              exact hK _ _ jE rfl (fun _ _ _ h => h) (fun _ => by first | exact iO | rfl) (fun he => absurd he (by decide))
            · refine stepT_plain rfl ?_
              rintro F a w1 jE ⟨h2, t146, -⟩ ⟨t14, -⟩ iO K hK
              have h2 : (F 2) = .slice (some ⟨gB, 0, none⟩) n n := h2
              rw [h2] at t146
              clear h2
              have t14 : a.tmps[14]? = some (.pointer (some ⟨gs + 1, 0, none⟩)) := t14
              have c := (P.bb.ext iO).cell 0
              have f := (P.bb.ext iO).frozen 0
              have B3 := (P.bb.ext iO).set_ 0 (.slice (some ⟨gB, 0, none⟩) n n)
              go_simp
              exact hK undef _ (jE.set (by simp) _) trivial (by intro jq hj uq h; have hj : jq ∈ [3, 4] := hj; simp only [List.mem_cons, List.not_mem_nil, or_false] at hj; rcases hj with rfl | rfl; exact h; exact h) (fun h => (h (by simp)).elim) (fun _ => by simpa using B3)
          · rintro F w9 jE ⟨h3, h4, -⟩ hT
            have h3 : (F 3) = .slice (some ⟨gF, 0, none⟩) n n := h3
            have h4 : (F 4) = .int .i64 (cutV top) := h4
            have BC := hT (by decide)
            simp only [putL, Act.put, Nat.reduceAdd, Nat.zero_add, List.setIfInBounds_toArray, List.set_cons_succ, List.set_cons_zero]
            rw [h3, h4]
            have hlow := unhide HLOW
            have hFB := unhide HFB
            have FA4 := FA2.extx jE (by have := (unhide HPF).1; simp only [List.mem_singleton]; omega)
            have BB4 := jE.blk BB (by have := (unhide HPF).1; simp only [List.mem_singleton]; omega)
            have E4 := jE.ext P.ext (fun q hq => by have := List.mem_singleton.1 hq; omega)
            have cB := BC.cell 0
            go_wp2_with fail
            refine bodyPost_ret (results_t3c Try.results10 _ w9 (gs + 1) _ rfl cB (Try.isAgg39 ..)) rfl ?_
            show PlaceOut w n (topN s c nr rs I nr).2 (topN s c nr rs I nr).1 _ _
            rw [unhide HJ, unhide HTOP]
            exact ⟨gF, gB, rfl, FA4, BB4, E4⟩
end Go.Proofs.Ytkkkdjkjggofkaa
