/- Layer 19: the rows of the items (walk). -/
import Derived.Test.YtkkkdjkjggofkaaCsR
namespace Go.Proofs.Ytkkkdjkjggofkaa
open Go.RowKit
/-- rows as they grow -/
structure RowsSt (w0 w : World) (A : Option Addr) (nr c : Nat) (vs : List Value) (rs : List (List Nat)) : Prop where
  len : rs.length = nr
  own : w.ownsRow w0.heap.size 50 1 (.slice A nr c) nr vs
  row : ∀ (r : Nat) (v : Value), vs[r]? = some v → w.ownsRow w0.heap.size 3 1 v (rs.getD r []).length (ints (castL (rs.getD r [])))
  apart : ∀ (r q : Nat) (v u : Value), vs[r]? = some v → vs[q]? = some u → r ≠ q → v.ownBlock = none ∨ v.ownBlock ≠ u.ownBlock
  ext : Ext w0 w
section
variable {w0 w w' : World} {A A' : Option Addr} {nr c c' : Nat} {vs : List Value} {rs : List (List Nat)}
theorem RowsSt.vlen (h : RowsSt w0 w A nr c vs rs) : vs.length = nr := by have := h.own.1; omega
theorem RowsSt.step (h : RowsSt w0 w A nr c vs rs) (hx : Ext w w') : RowsSt w0 w' A nr c vs rs :=
  ⟨h.len, own_far h.own hx, fun r v hv => own_far (h.row r v hv) hx, h.apart, h.ext.trans hx⟩
/-- a new row, with nothing in it -/
theorem RowsSt.more (h : RowsSt w0 w A nr c vs rs) (hg : w.grownBy w' (Value.ownBlock (.slice A nr c))) (hown : w'.ownsRow w0.heap.size 50 1 (.slice A' (nr + 1) c') (nr + 1) (vs ++ [.slice none 0 0])) :
    RowsSt w0 w' A' (nr + 1) c' (vs ++ [.slice none 0 0]) (rs ++ [[]]) := by
  have hvl := h.vlen
  have hrl := h.len
  have get : ∀ (r : Nat) (v : Value), (vs ++ [Value.slice none 0 0])[r]? = some v → vs[r]? = some v ∧ (rs ++ [[]]).getD r [] = rs.getD r [] ∨ v = .slice none 0 0 ∧ r = nr ∧ (rs ++ [[]]).getD r [] = [] := fun r v hv => by
    rcases Nat.lt_or_ge r nr with hr | hr
    · left
      rw [List.getElem?_append_left (by omega)] at hv
      exact ⟨hv, by rw [List.getD_eq_getElem?_getD, List.getElem?_append_left (by omega), List.getD_eq_getElem?_getD]⟩
    · right
      rw [List.getElem?_append_right (by omega)] at hv
      have hl := (List.getElem?_eq_some_iff.1 hv).1
      rw [List.length_singleton] at hl
      obtain rfl : r = nr := by omega
      rw [hvl, Nat.sub_self] at hv
      exact ⟨(Option.some.inj hv).symm, rfl, by rw [List.getD_eq_getElem?_getD, ← hrl, List.getElem?_append_right (by omega), Nat.sub_self]; rfl⟩
  refine ⟨by simp [hrl], hown, fun r v hv => ?_, fun r q v u hv hu hrq => ?_, h.ext.grown hg (fun q e => (h.own.lt q e).1)⟩
  · rcases get r v hv with ⟨h1, h2⟩ | ⟨rfl, _, h2⟩
    · rw [h2]
      exact (h.row r v h1).kept hg (own_ne (h.row r v h1) h.own (by decide))
    · rw [h2]; exact ⟨rfl, .inl ⟨rfl, rfl⟩⟩
  · rcases get r v hv with ⟨h1, _⟩ | ⟨rfl, _, _⟩
    · rcases get q u hu with ⟨h3, _⟩ | ⟨rfl, _, _⟩
      · exact h.apart r q v u h1 h3 hrq
      · cases hv2 : v.ownBlock
        · exact .inl rfl
        · exact .inr (by simp [Value.ownBlock])
    · exact .inl rfl
/-- one more in the last row -/
theorem RowsSt.push {m k g : Nat} {v v' : Value} {n : Nat} {row : List Nat} (h : RowsSt w0 w (some ⟨g, 0, none⟩) (m + 1) c vs rs) (hv : vs[m]? = some v) (hr : rs[m]? = some row) (hg : w.grownBy w' v.ownBlock) (hown : w'.ownsRow w0.heap.size 3 1 v' n (ints (castL row) ++ [.int .i64 (k : Int)])) (hn : n = row.length + 1)
    (hat : v'.ownBlock = v.ownBlock ∨ v'.ownBlock = some w.heap.size) :
    RowsSt w0 (w'.setCell ⟨g, m, none⟩ v') (some ⟨g, 0, none⟩) (m + 1) c (vs.set m v') (rs.set m (row ++ [k])) := by
  have hvl := h.vlen
  have hrl := h.len
  have O1 := h.own.kept hg (own_ne h.own (h.row m v hv) (by decide))
  obtain ⟨O2, G2⟩ := O1.stored m v'
  have hw0 : w0.heap.size ≤ g := (h.own.lt g rfl).1
  have E1 := (h.ext.grown hg (fun q e => ((h.row m v hv).lt q e).1)).grown G2 (fun q e => by have := Option.some.inj e; omega)
  have get : ∀ (r : Nat) (u : Value), (vs.set m v')[r]? = some u → r = m ∧ u = v' ∨ r ≠ m ∧ vs[r]? = some u := fun r u hu => by
    by_cases e : r = m
    · subst e
      rw [List.getElem?_set_self (by omega)] at hu
      exact .inl ⟨rfl, (Option.some.inj hu).symm⟩
    · rw [List.getElem?_set_ne (fun h => e h.symm)] at hu
      exact .inr ⟨e, hu⟩
  have gd : (rs.set m (row ++ [k])).getD m [] = row ++ [k] := by rw [List.getD_eq_getElem?_getD, List.getElem?_set_self (by omega)]; rfl
  have gn : ∀ r, r ≠ m → (rs.set m (row ++ [k])).getD r [] = rs.getD r [] := fun r hr => by rw [List.getD_eq_getElem?_getD, List.getElem?_set_ne (fun h => hr h.symm), List.getD_eq_getElem?_getD]
  have hvn : w'.ownsRow w0.heap.size 3 1 v' (row ++ [k]).length (ints (castL (row ++ [k]))) := by
    have e : ints (castL (row ++ [k])) = ints (castL row) ++ [.int .i64 (k : Int)] := by simp [castL, ints]
    rw [e, List.length_append, List.length_singleton, ← hn]
    exact hown
  have fresh : ∀ (r : Nat) (u : Value), r ≠ m → vs[r]? = some u → u.ownBlock = none ∨ u.ownBlock ≠ v'.ownBlock := fun r u hne hu => by
    rcases hat with e | e
    · rw [e]; exact h.apart r m u v hu hv hne
    · cases hq : u.ownBlock with
      | none => exact .inl rfl
      | some b =>
        right
        rw [e]
        intro hc
        have := (h.row r u hu).lt b hq
        have := Option.some.inj hc
        omega
  refine ⟨by rw [List.length_set, hrl], O2, fun r u hu => ?_, fun r q u z hu hz hrq => ?_, E1⟩
  · rcases get r u hu with ⟨rfl, rfl⟩ | ⟨hne, hu2⟩
    · rw [gd]
      exact hvn.kept G2 (own_ne hvn O1 (by decide))
    · rw [gn r hne]
      have h3 := (h.row r u hu2).kept hg (h.apart r m u v hu2 hv hne)
      exact h3.kept G2 (own_ne h3 O1 (by decide))
  · rcases get r u hu with ⟨rfl, rfl⟩ | ⟨hne, hu2⟩
    · rcases get q z hz with ⟨rfl, rfl⟩ | ⟨hne2, hz2⟩
      · exact absurd rfl hrq
      · rcases fresh q z hne2 hz2 with e | e
        · cases hq : Value.ownBlock u with
          | none => exact .inl rfl
          | some b => exact .inr (by rw [e]; simp)
        · exact .inr (fun h => e h.symm)
    · rcases get q z hz with ⟨rfl, rfl⟩ | ⟨hne2, hz2⟩
      · exact fresh r u hne hu2
      · exact h.apart r q u z hu2 hz2 hrq
end
theorem flatten_set {rs : List (List Nat)} {m k : Nat} {row : List Nat} (hl : rs.length = m + 1) (hr : rs[m]? = some row) : (rs.set m (row ++ [k])).flatten = rs.flatten ++ [k] := by
  have h1 : rs = rs.take m ++ [row] := by
    have := takeS hr
    rw [List.take_of_length_le (by omega)] at this
    exact this
  have h2 : rs.set m (row ++ [k]) = rs.take m ++ [row ++ [k]] := by
    conv => lhs; rw [h1]
    rw [List.set_append_right _ _ (by rw [List.length_take]; omega), List.length_take, Nat.min_eq_left (by omega), Nat.sub_self, List.set_cons_zero]
  rw [h2]
  conv => rhs; rw [h1]
  simp
def RowsAre (w : World) (n : Nat) (e : Ending) (w' : World) : Prop := ∃ (A : Option Addr) (nr cap : Nat) (rs : List (List Nat)), e = .returned (.slice A nr cap) ∧ RdR w' 0 A nr (fun r => castL (rs.getD r [])) ∧ rs.length = nr ∧ nr ≤ n ∧ rs.flatten.Perm (List.range n) ∧ Ext w w'
theorem last_len {rs : List (List Nat)} {m : Nat} {row : List Nat} (hl : rs.length = m + 1) (hr : rs[m]? = some row) : row.length ≤ rs.flatten.length := by
  have h1 : rs = rs.take m ++ [row] := by
    have := takeS hr
    rw [List.take_of_length_le (by omega)] at this
    exact this
  rw [h1]; simp
theorem RowsSt.last {w0 w : World} {A : Option Addr} {m c : Nat} {vs : List Value} {rs : List (List Nat)} (h : RowsSt w0 w A (m + 1) c vs rs) :
    ∃ g v row Av dv, A = some ⟨g, 0, none⟩ ∧ vs[m]? = some v ∧ rs[m]? = some row ∧ v = .slice Av row.length dv ∧ w.ownsRow w0.heap.size 3 1 v row.length (ints (castL row)) := by
  have hvl := h.vlen
  have hrl := h.len
  obtain ⟨g, hg⟩ : ∃ g, A = some ⟨g, 0, none⟩ := by
    rcases h.own.2 with ⟨_, h0⟩ | ⟨gl, cap, cur, h1, _⟩
    · omega
    · injection h1 with h1 _ _
      exact ⟨gl, h1⟩
  have hv : vs[m]? = some vs[m] := List.getElem?_eq_getElem (by omega)
  have hr : rs[m]? = some rs[m] := List.getElem?_eq_getElem (by omega)
  have hO := h.row m _ hv
  rw [List.getD_eq_getElem?_getD, hr] at hO
  have hO : w.ownsRow w0.heap.size 3 1 vs[m] rs[m].length (ints (castL rs[m])) := hO
  have hs : ∃ Av dv, vs[m] = .slice Av rs[m].length dv := by
    rcases hO.2 with ⟨h1, h2⟩ | ⟨gl, cap, cur, h1, _⟩
    · exact ⟨none, 0, by rw [h1, h2]⟩
    · exact ⟨_, _, h1⟩
  obtain ⟨Av, dv, hs⟩ := hs
  exact ⟨g, _, _, Av, dv, hg, hv, hr, hs, hO⟩
theorem jl_info : (Try.prog.info? 50).map (fun i => (i.zero, i.size, decide (i.bytes ≤ 100000))) = some (some (.slice none 0 0), 1, true) := by kernel_rfl
set_option maxRecDepth 100000 in
set_option maxHeartbeats 16000000 in
theorem rows_any (s : Sty) (c : Int) (A : Option Addr) (n cap : Nat) (ks : List Sty) (w : World) (rk : Rd w 43 A n (recs styC ks)) (hn : n ≤ 60) (hks : ∀ s ∈ ks, KidOk s) (hc : 0 ≤ c ∧ c ≤ 1099511627776) :
    Calls Try.prog 9 #[.agg s.cells, .int .i64 c, .slice A n cap, .slice none 0 0] w (RowsAre w n) := by
  have cI := fun w h => hide (items_any A n cap c ks w h hn hks hc)
  have cO := fun w h => hide (order_any A n cap ks w h hn)
  clear hks
  obtain ⟨i7, hi7, hz7, hs7, hb7⟩ := info_bnd ji_info
  obtain ⟨i8, hi8, hz8, hs8, hb8⟩ := info_bnd jl_info
  have H7 := hide (And.intro hi7 (And.intro hz7 (And.intro hs7 hb7)))
  have H8 := hide (And.intro hi8 (And.intro hz8 (And.intro hs8 hb8)))
  clear hi7 hz7 hs7 hb7 hi8 hz8 hs8 hb8
  go_enter Try.func9, Try.ntmps9
  go_upto_region 1 with fail
  have BS : Blk (w.alloc (.cells s.cells 28)) w.heap.size 28 s.cells := Blk.new _ _ _
  have E : Ext w (w.alloc (.cells s.cells 28)) := (Ext.refl _).alloc _
  obtain ⟨gs, hgs⟩ : ∃ g, w.heap.size = g := ⟨_, rfl⟩
  rw [hgs] at BS ⊢
  clear hgs
  generalize w.alloc (.cells s.cells 28) = w0 at *
  go_wp2_with fail
  with_reducible refine (unhide (cI _ (rk.ext E))).mono ?_
  rintro e w1 ⟨AI, dI, its, rfl, RI, hil, hio, hx⟩
  replace E := E.trans hx
  replace BS := BS.ext hx
  clear hx
  go_wp2_with fail
  with_reducible refine (unhide (cO _ (rk.ext E))).mono ?_
  rintro e w2 ⟨AO, dO, L, rfl, RO, hP, hx⟩
  replace E := E.trans hx
  replace BS := BS.ext hx
  replace RI := RI.ext hx
  clear hx cI cO rk
  have hLl : L.length = n := by have := hP.length_eq; rwa [List.length_range] at this
  have hLb : ∀ u ∈ L, u < n := fun u hu => List.mem_range.1 (hP.mem_iff.1 hu)
  have HIL := hide hil
  have HIO := hide hio
  have HP := hide hP
  have HLL := hide hLl
  have HLB := hide hLb
  clear hil hio hP hLl hLb
  go_wp2_with fail
  go_loopw [11, 12, 13] (fun v11 v12 v13 wr => ∃ (i nr : Nat) (A1 : Option Addr) (d : Nat) (sum : Int) (vs : List Value) (rs : List (List Nat)), v13 = .int .i64 i ∧ i ≤ n ∧ v11 = .slice A1 nr d ∧ v12 = .int .i64 sum ∧ -70000000000000 * (i : Int) ≤ sum ∧ sum ≤ 70000000000000 * (i : Int) ∧ nr ≤ i ∧ (0 < i → 0 < nr) ∧ Hid (rs.flatten = L.take i) ∧ RowsSt w2 wr A1 nr d vs rs) (fun _ _ v13 _ => n - (intOf v13).toNat)
  case atStart => exact ⟨0, 0, none, 0, 0, [], [], rfl, by omega, rfl, rfl, by omega, by omega, by omega, by omega, rfl, ⟨rfl, ⟨rfl, .inl ⟨rfl, rfl⟩⟩, fun r v h => by simp at h, fun r q v u h => by simp at h, Ext.refl _⟩⟩
  case round =>
    obtain ⟨i, nr, A1, d, sum, vs, rs, rfl, hi, rfl, rfl, hs1, hs2, hnr, hpos, HF, J⟩ := hrel
    by_cases hin : i < n
    · obtain ⟨u, hu⟩ : ∃ u, L[i]? = some u := ⟨_, List.getElem?_eq_getElem (by rw [unhide HLL]; exact hin)⟩
      have hun := unhide HLB u (List.mem_of_getElem? hu)
      obtain ⟨bo, oo, rfl, hbo, hco⟩ := (RO.ext J.ext).intIn (castL_get hu)
      obtain ⟨⟨is, il, ir, sd, ib, ig⟩, hit⟩ : ∃ t, its[u]? = some t := ⟨_, List.getElem?_eq_getElem (by rw [unhide HIL]; exact hun)⟩
      have hiok := unhide HIO _ (List.mem_of_getElem? hit)
      obtain ⟨⟨k1, k2⟩, k3, k4⟩ := hiok
      simp only at k1 k2 k3 k4
      obtain ⟨bi, oi, rfl, hbi2, hmj⟩ := RI.rec_ imC_len hit (by omega)
      have hmi : ∀ (j : Nat) (v : Value), (imC ⟨is, il, ir, sd, ib, ig⟩)[j]? = some v → wr.cell? ⟨bi, oi + u * 51 + j, none⟩ = some v := fun j v hv => (J.ext.cells.1 bi _ hbi2).trans (hmj j v hv)
      have hbi := Nat.lt_of_lt_of_le hbi2 J.ext.size
      clear hmj
      have e47 := hmi 47 _ rfl
      have e45 := hmi 45 _ rfl
      have HU := hide hu
      have cw := ((BS.ext J.ext).cell 34).trans (show _ = some (Value.bool s.wrap) from rfl)
      have lw := (BS.ext J.ext).lt
      clear hu hit hmi
      have hiI : (0 : Int) ≤ (i : Int) ∧ (i : Int) < (n : Int) ∧ (n : Int) ≤ 60 ∧ (0 : Int) ≤ (u : Int) ∧ (u : Int) < (n : Int) := by omega
      go_upto_region 9 with fail
      clear hco hbo
      go_quiet (fail)
      have hx : Ext wr (wr.drewN nq) := (Ext.refl _).drewN _
      replace J := J.step hx
      replace e47 : (wr.drewN nq).cell? ⟨bi, oi + u * 51 + 47, none⟩ = some (.int .i64 ig) := e47
      replace e45 : (wr.drewN nq).cell? ⟨bi, oi + u * 51 + 45, none⟩ = some (.int .i64 sd) := e45
      replace cw : (wr.drewN nq).cell? ⟨gs, 34, none⟩ = some (.bool s.wrap) := cw
      replace lw : gs < (wr.drewN nq).heap.size := lw
      replace hbi : bi < (wr.drewN nq).heap.size := hbi
      clear hx
      generalize wr.drewN nq = wq at *
      obtain ⟨sm, hsm⟩ : ∃ x, sum + ig + sd = x := ⟨_, rfl⟩
      skip
      by_cases hz : i = 0
      · have hzi : ((i : Int) == 0) = true := by simp; omega
        have HZ := hide hz
        clear hz
        have hO0 := J.own
        go_upto_region 12 with (first
          | (at_builtin
             refine wpList_append_rd rfl (.tmp 55) (.tmp 56) _ rfl w2.heap.size 50 i8 _ 1 i8.bytes Try.underlying36 (unhide H8).1 (unhide H8).2.1 (unhide H8).2.2.1 rfl rfl (by omega) _ nr vs rfl (own_far hO0 ((Ext.refl _).alloc _)) _ 1 1 [.slice none 0 0] rfl (Rd.one _ _) (by simp [Value.oneCell']) (by simp only [maxLen]; omega) (bytes_ok (by omega) (unhide H8).2.2.2) (by have := J.ext.size; simp; omega) ?_
             intro B6 d6 w6 own6 g6 at6))
        have ha : Ext wq (wq.alloc (.cells #[.slice none 0 0] 50)) := (Ext.refl _).alloc _
        have Jn := (J.step ha).more g6 own6
        have hfar : ∀ q, q < w2.heap.size → w6.heap[q]? = wq.heap[q]? := fun q hq => (Jn.ext.block q hq).trans (J.ext.block q hq).symm
        replace e47 : w6.cell? ⟨bi, oi + u * 51 + 47, none⟩ = some (.int .i64 ig) := (World.cell?_of_block (hfar bi hbi2)).trans e47
        replace e45 : w6.cell? ⟨bi, oi + u * 51 + 45, none⟩ = some (.int .i64 sd) := (World.cell?_of_block (hfar bi hbi2)).trans e45
        replace hbi := Nat.lt_of_lt_of_le hbi2 Jn.ext.size
        have HF2 := hide (show (rs ++ [[]]).flatten = L.take i by rw [List.flatten_append]; simpa using unhide HF)
        clear own6 g6 at6 ha hfar J cw lw hO0
        go_quiet (fail)
        replace Jn := Jn.step ((Ext.refl _).drewN nq)
        generalize w6.drewN nq = w8 at *
        have hm1 : ((nr + 1 : Nat) : Int) - 1 = (nr : Int) := by omega
        have hmI : (0 : Int) ≤ (nr : Int) ∧ (nr : Int) < ((nr + 1 : Nat) : Int) := by omega
        obtain ⟨g, v, row, Av, dv, rfl, hv, hr, rfl, OR⟩ := Jn.last
        have hO := Jn.own
        have cg := Jn.own.cellAt nr (by omega)
        rw [hv] at cg
        have lg := (Jn.own.lt g rfl).2
        have hrl := last_len Jn.len hr
        rw [unhide HF2, List.length_take, unhide HLL, Nat.min_eq_left hi] at hrl
        have HV := hide hv
        have HR := hide hr
        clear hv hr
        go_wp2_with (first
          | (at_builtin
             refine wpList_append_rd rfl (.tmp 78) (.tmp 80) _ rfl w2.heap.size 3 i7 _ 1 i7.bytes Try.underlying50 (unhide H7).1 (unhide H7).2.1 (unhide H7).2.2.1 rfl rfl (by omega) _ row.length (ints (castL row)) rfl (own_far OR ((Ext.refl _).alloc _)) _ 1 1 [.int .i64 (u : Int)] rfl (Rd.one _ _) (by simp [Value.oneCell']) (by simp only [maxLen]; omega) (bytes_ok (by omega) (unhide H7).2.2.2) (by have := Jn.ext.size; simp; omega) ?_))
        intro B7 d7 w7 own7 g7 at7
        have hO1 := own_far hO ((Ext.refl _).alloc (.cells #[.int .i64 (u : Int)] 3))
        have OR1 := own_far OR ((Ext.refl _).alloc (.cells #[.int .i64 (u : Int)] 3))
        have O1 := hO1.kept g7 (own_ne hO1 OR1 (by decide))
        have cs := O1.cellAt nr (by omega)
        rw [unhide HV] at cs
        have fs := O1.frozenAt nr
        have ls := (O1.lt g rfl).2
        clear cg lg O1 hO1 OR1
        go_wp2_with fail
        go_roundw
        case rel =>
          have J2 := (Jn.step ((Ext.refl _).alloc (.cells #[.int .i64 (u : Int)] 3))).push (unhide HV) (unhide HR) g7 own7 rfl (by rw [World.size_alloc]; exact at7)
          exact ⟨i + 1, nr + 1, _, _, (ig + sd), _, _, by go_num, by omega, rfl, by first | rfl | (rw [← hsm]), by omega, by omega, by omega, by omega, hide (by rw [flatten_set Jn.len (unhide HR), unhide HF2, takeS (unhide HU)]), J2⟩
        case measure => simp [intOf]; omega
      · have hzi : ((i : Int) == 0) = false := by simp; omega
        cases hwr : s.wrap
        · rw [hwr] at cw
          obtain ⟨m, hm⟩ : ∃ m, nr = m + 1 := ⟨nr - 1, by omega⟩
          subst hm
          have hm1 : ((m + 1 : Nat) : Int) - 1 = (m : Int) := by omega
          have hmI : (0 : Int) ≤ (m : Int) ∧ (m : Int) < ((m + 1 : Nat) : Int) := by omega
          skip
          obtain ⟨g, v, row, Av, dv, rfl, hv, hr, rfl, OR⟩ := J.last
          have hO := J.own
          have cg := J.own.cellAt m (by omega)
          rw [hv] at cg
          have lg := (J.own.lt g rfl).2
          have hrl := last_len J.len hr
          rw [unhide HF, List.length_take, unhide HLL, Nat.min_eq_left hi] at hrl
          have HV := hide hv
          have HR := hide hr
          clear hv hr
          go_wp2_with (first
            | (at_builtin
               refine wpList_append_rd rfl (.tmp 78) (.tmp 80) _ rfl w2.heap.size 3 i7 _ 1 i7.bytes Try.underlying50 (unhide H7).1 (unhide H7).2.1 (unhide H7).2.2.1 rfl rfl (by omega) _ row.length (ints (castL row)) rfl (own_far OR ((Ext.refl _).alloc _)) _ 1 1 [.int .i64 (u : Int)] rfl (Rd.one _ _) (by simp [Value.oneCell']) (by simp only [maxLen]; omega) (bytes_ok (by omega) (unhide H7).2.2.2) (by have := J.ext.size; simp; omega) ?_))
          intro B7 d7 w7 own7 g7 at7
          have hO1 := own_far hO ((Ext.refl _).alloc (.cells #[.int .i64 (u : Int)] 3))
          have OR1 := own_far OR ((Ext.refl _).alloc (.cells #[.int .i64 (u : Int)] 3))
          have O1 := hO1.kept g7 (own_ne hO1 OR1 (by decide))
          have cs := O1.cellAt m (by omega)
          rw [unhide HV] at cs
          have fs := O1.frozenAt m
          have ls := (O1.lt g rfl).2
          clear cg lg O1 hO1 OR1
          go_wp2_with fail
          go_roundw
          case rel =>
            have J2 := (J.step ((Ext.refl _).alloc (.cells #[.int .i64 (u : Int)] 3))).push (unhide HV) (unhide HR) g7 own7 rfl (by rw [World.size_alloc]; exact at7)
            exact ⟨i + 1, m + 1, _, _, (sum + ig + sd), _, _, by go_num, by omega, rfl, by first | rfl | (rw [← hsm]), by omega, by omega, by omega, by omega, hide (by rw [flatten_set J.len (unhide HR), unhide HF, takeS (unhide HU)]), J2⟩
          case measure => simp [intOf]; omega
        · rw [hwr] at cw
          by_cases hsc : c < sm
          · have hO0 := J.own
            go_upto_region 12 with (first
              | (at_builtin
                 refine wpList_append_rd rfl (.tmp 55) (.tmp 56) _ rfl w2.heap.size 50 i8 _ 1 i8.bytes Try.underlying36 (unhide H8).1 (unhide H8).2.1 (unhide H8).2.2.1 rfl rfl (by omega) _ nr vs rfl (own_far hO0 ((Ext.refl _).alloc _)) _ 1 1 [.slice none 0 0] rfl (Rd.one _ _) (by simp [Value.oneCell']) (by simp only [maxLen]; omega) (bytes_ok (by omega) (unhide H8).2.2.2) (by have := J.ext.size; simp; omega) ?_
                 intro B6 d6 w6 own6 g6 at6))
            have ha : Ext wq (wq.alloc (.cells #[.slice none 0 0] 50)) := (Ext.refl _).alloc _
            have Jn := (J.step ha).more g6 own6
            have hfar : ∀ q, q < w2.heap.size → w6.heap[q]? = wq.heap[q]? := fun q hq => (Jn.ext.block q hq).trans (J.ext.block q hq).symm
            replace e47 : w6.cell? ⟨bi, oi + u * 51 + 47, none⟩ = some (.int .i64 ig) := (World.cell?_of_block (hfar bi hbi2)).trans e47
            replace e45 : w6.cell? ⟨bi, oi + u * 51 + 45, none⟩ = some (.int .i64 sd) := (World.cell?_of_block (hfar bi hbi2)).trans e45
            replace hbi := Nat.lt_of_lt_of_le hbi2 Jn.ext.size
            have HF2 := hide (show (rs ++ [[]]).flatten = L.take i by rw [List.flatten_append]; simpa using unhide HF)
            clear own6 g6 at6 ha hfar J cw lw hO0
            go_quiet (fail)
            replace Jn := Jn.step ((Ext.refl _).drewN nq)
            generalize w6.drewN nq = w8 at *
            have hm1 : ((nr + 1 : Nat) : Int) - 1 = (nr : Int) := by omega
            have hmI : (0 : Int) ≤ (nr : Int) ∧ (nr : Int) < ((nr + 1 : Nat) : Int) := by omega
            obtain ⟨g, v, row, Av, dv, rfl, hv, hr, rfl, OR⟩ := Jn.last
            have hO := Jn.own
            have cg := Jn.own.cellAt nr (by omega)
            rw [hv] at cg
            have lg := (Jn.own.lt g rfl).2
            have hrl := last_len Jn.len hr
            rw [unhide HF2, List.length_take, unhide HLL, Nat.min_eq_left hi] at hrl
            have HV := hide hv
            have HR := hide hr
            clear hv hr
            go_wp2_with (first
              | (at_builtin
                 refine wpList_append_rd rfl (.tmp 78) (.tmp 80) _ rfl w2.heap.size 3 i7 _ 1 i7.bytes Try.underlying50 (unhide H7).1 (unhide H7).2.1 (unhide H7).2.2.1 rfl rfl (by omega) _ row.length (ints (castL row)) rfl (own_far OR ((Ext.refl _).alloc _)) _ 1 1 [.int .i64 (u : Int)] rfl (Rd.one _ _) (by simp [Value.oneCell']) (by simp only [maxLen]; omega) (bytes_ok (by omega) (unhide H7).2.2.2) (by have := Jn.ext.size; simp; omega) ?_))
            intro B7 d7 w7 own7 g7 at7
            have hO1 := own_far hO ((Ext.refl _).alloc (.cells #[.int .i64 (u : Int)] 3))
            have OR1 := own_far OR ((Ext.refl _).alloc (.cells #[.int .i64 (u : Int)] 3))
            have O1 := hO1.kept g7 (own_ne hO1 OR1 (by decide))
            have cs := O1.cellAt nr (by omega)
            rw [unhide HV] at cs
            have fs := O1.frozenAt nr
            have ls := (O1.lt g rfl).2
            clear cg lg O1 hO1 OR1
            go_wp2_with fail
            go_roundw
            case rel =>
              have J2 := (Jn.step ((Ext.refl _).alloc (.cells #[.int .i64 (u : Int)] 3))).push (unhide HV) (unhide HR) g7 own7 rfl (by rw [World.size_alloc]; exact at7)
              exact ⟨i + 1, nr + 1, _, _, (ig + sd), _, _, by go_num, by omega, rfl, by first | rfl | (rw [← hsm]), by omega, by omega, by omega, by omega, hide (by rw [flatten_set Jn.len (unhide HR), unhide HF2, takeS (unhide HU)]), J2⟩
            case measure => simp [intOf]; omega
          · skip
            obtain ⟨m, hm⟩ : ∃ m, nr = m + 1 := ⟨nr - 1, by omega⟩
            subst hm
            have hm1 : ((m + 1 : Nat) : Int) - 1 = (m : Int) := by omega
            have hmI : (0 : Int) ≤ (m : Int) ∧ (m : Int) < ((m + 1 : Nat) : Int) := by omega
            skip
            obtain ⟨g, v, row, Av, dv, rfl, hv, hr, rfl, OR⟩ := J.last
            have hO := J.own
            have cg := J.own.cellAt m (by omega)
            rw [hv] at cg
            have lg := (J.own.lt g rfl).2
            have hrl := last_len J.len hr
            rw [unhide HF, List.length_take, unhide HLL, Nat.min_eq_left hi] at hrl
            have HV := hide hv
            have HR := hide hr
            clear hv hr
            go_wp2_with (first
              | (at_builtin
                 refine wpList_append_rd rfl (.tmp 78) (.tmp 80) _ rfl w2.heap.size 3 i7 _ 1 i7.bytes Try.underlying50 (unhide H7).1 (unhide H7).2.1 (unhide H7).2.2.1 rfl rfl (by omega) _ row.length (ints (castL row)) rfl (own_far OR ((Ext.refl _).alloc _)) _ 1 1 [.int .i64 (u : Int)] rfl (Rd.one _ _) (by simp [Value.oneCell']) (by simp only [maxLen]; omega) (bytes_ok (by omega) (unhide H7).2.2.2) (by have := J.ext.size; simp; omega) ?_))
            intro B7 d7 w7 own7 g7 at7
            have hO1 := own_far hO ((Ext.refl _).alloc (.cells #[.int .i64 (u : Int)] 3))
            have OR1 := own_far OR ((Ext.refl _).alloc (.cells #[.int .i64 (u : Int)] 3))
            have O1 := hO1.kept g7 (own_ne hO1 OR1 (by decide))
            have cs := O1.cellAt m (by omega)
            rw [unhide HV] at cs
            have fs := O1.frozenAt m
            have ls := (O1.lt g rfl).2
            clear cg lg O1 hO1 OR1
            go_wp2_with fail
            go_roundw
            case rel =>
              have J2 := (J.step ((Ext.refl _).alloc (.cells #[.int .i64 (u : Int)] 3))).push (unhide HV) (unhide HR) g7 own7 rfl (by rw [World.size_alloc]; exact at7)
              exact ⟨i + 1, m + 1, _, _, (sum + ig + sd), _, _, by go_num, by omega, rfl, by first | rfl | (rw [← hsm]), by omega, by omega, by omega, by omega, hide (by rw [flatten_set J.len (unhide HR), unhide HF, takeS (unhide HU)]), J2⟩
            case measure => simp [intOf]; omega
    · obtain rfl : i = n := by omega
      go_wp2_with fail
      go_ret
      refine ⟨A1, nr, d, rs, rfl, ⟨fun r hr => ?_⟩, J.len, hnr, ?_, E.trans J.ext⟩
      · obtain ⟨v, hv⟩ : ∃ v, vs[r]? = some v := ⟨_, List.getElem?_eq_getElem (by rw [J.vlen]; exact hr)⟩
        have hO := J.row r v hv
        obtain ⟨g, hg⟩ : ∃ g, A1 = some ⟨g, 0, none⟩ := by
          rcases J.own.2 with ⟨_, h0⟩ | ⟨gl, cap, cur, h1, _⟩
          · omega
          · injection h1 with h1 _ _
            exact ⟨gl, h1⟩
        subst hg
        have hcl := castL_len (rs.getD r [])
        obtain ⟨Av, dv, rfl⟩ : ∃ Av dv, v = .slice Av (rs.getD r []).length dv := by
          rcases hO.2 with ⟨h1, h2⟩ | ⟨gl, cap, cur, h1, _⟩
          · exact ⟨none, 0, by rw [h1, h2]⟩
          · exact ⟨_, _, h1⟩
        refine ⟨g, 0, Av, dv, rfl, Nat.zero_le _, (J.own.lt g rfl).2, ?_, ?_, fun _ _ _ => Nat.zero_le _⟩
        · rw [Nat.zero_add, J.own.cellAt r (by omega), hv, hcl]
        · rw [hcl]; exact Rd.of_own hO
      · rw [unhide HF, List.take_of_length_le (by rw [unhide HLL]; omega)]; exact unhide HP
end Go.Proofs.Ytkkkdjkjggofkaa
