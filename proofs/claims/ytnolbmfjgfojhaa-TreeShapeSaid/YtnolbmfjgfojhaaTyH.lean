/- Trees: the law TreeShape (walk). -/
import Derived.Test.YtnolbmfjgfojhaaCpZ
import Derived.Test.YtnolbmfjgfojhaaTyB
import Derived.BigQuiet
namespace Go.Proofs.Ytnolbmfjgfojhaa
open Go.RowKit
theorem shape_first {ns : List Nd} (h : TOk ns) : dep ns 0 = 1 ∧ lastK ns 0 ns.length + 1 = ns.length := by
  refine ⟨?_, ?_⟩
  · rw [dep_eq, h.parN h.pos, h.par0]; rfl
  · have := h.pos
    rw [last_end h h.pos, ok_end0 h]; omega
theorem shape_kid {ns : List Nd} (h : TOk ns) {i q next : Nat} (hi : i < ns.length) (s : ShAt ns i q next) (hq : q < (kidsN ns ns.length i).length) :
    (kidsN ns ns.length i)[q]? = some (next : Int) ∧ ShAt ns i (q + 1) (endN ns next) ∧ next < ns.length ∧ nP ns next = i ∧ dep ns next = dep ns i + 1 ∧ ∃ lc, lastK ns next ns.length = lc ∧ endN ns next = lc + 1 ∧ next ≤ lc ∧ lc < ns.length := by
  have hk : next < ns.length ∧ parN ns next = i := by
    by_cases hn : next < ns.length ∧ parN ns next = i
    · exact hn
    · have := (sh_end h hi s hn).2; omega
  obtain ⟨hl, hp⟩ := hk
  obtain ⟨h1, h2⟩ := sh_step h s hl hp
  refine ⟨h1, h2, hl, by rw [← h.parN hl]; exact hp, by rw [dep_eq, hp]; simp [depI], endN ns next - 1, last_end h hl, ?_, ?_, ?_⟩
  · have := endN_gt ns next; omega
  · have := endN_gt ns next; omega
  · have := endN_gt ns next; have := endN_le (ns := ns) hl; omega
theorem shape_end {ns : List Nd} (h : TOk ns) {i q next : Nat} (hi : i < ns.length) (s : ShAt ns i q next) (hq : ¬ q < (kidsN ns ns.length i).length) :
    ∃ lc, lastK ns i ns.length = lc ∧ next = lc + 1 ∧ lc < ns.length := by
  have hk : ¬ (next < ns.length ∧ parN ns next = i) := fun hn => by
    obtain ⟨h1, _⟩ := sh_step h s hn.1 hn.2
    exact hq (List.getElem?_eq_some_iff.1 h1).1
  obtain ⟨h1, _⟩ := sh_end h hi s hk
  have := endN_gt ns i
  have := endN_le (ns := ns) hi
  exact ⟨endN ns i - 1, last_end h hi, by omega, by omega⟩
theorem shape_text {ns : List Nd} (h : TOk ns) {i : Nat} (hi : i < ns.length) (hk : nK ns i = 3) : (kidsN ns ns.length i).length = 0 := by
  by_cases h0 : 0 < (kidsN ns ns.length i).length
  · obtain ⟨_, _, h1, h2, _⟩ := shape_kid h hi (sh_start (ns := ns) i) h0
    have := h.parK (i := i + 1) (by omega) h1
    rw [h2] at this
    exact absurd hk (by simpa using this)
  · omega
theorem Rd.kindAt {w : World} {A : Option Addr} {n b off : Nat} {l : List Nd} (h : Rd w 44 A n (nds l)) (ha : A = some ⟨b, off, none⟩) {k : Nat} (hk : k < l.length) : w.cell? ⟨b, off + k * 44 + 1, none⟩ = some (.int .u8 (nK l k)) := by
  obtain ⟨b', off', e, _, hc⟩ := h.node (List.getElem?_eq_getElem hk)
  rw [ha] at e
  injection e with e
  injection e with e1 e2
  subst e1 e2
  rw [nK_of hk]
  exact hc 1 _ rfl
section
variable (t : Tr) (ns : List Nd) (av : List Int)
set_option maxRecDepth 100000 in
set_option maxHeartbeats 16000000 in
theorem law_tyShape (w : World) (h : TrIn w t ns av) (hm : t.nl ≤ 17592186044415) (ha : t.al ≤ 17592186044415) (hU : ∀ n ∈ ns, (n.s.ul ≤ maxLen ∧ ∃ us : List Int, Rd w 1 n.s.ua n.s.ul (u16s us))) :
    Calls Try.prog 5 #[.agg t.cs] w fun e w' => e = .returned (.bool true) ∧ Ext w w' := by
  have cm := fun w h => hide (small05_any t ns av w h hm ha)
  obtain ⟨q, hq⟩ : ∃ q, (!vastV ns t.al && decide (t.nl ≤ 700)) = q := ⟨_, rfl⟩
  rw [hq] at cm
  have cW := fun w => hide (works05_any w)
  go_enter Try.func5, Try.ntmps5
  go_wp2_with fail
  refine (unhide (cm _ (h.ext ((Ext.refl _).alloc _)))).mono ?_
  rintro e w1 ⟨rfl, hx2⟩
  have BT : Blk w1 w.heap.size 25 t.cs := (Blk.new _ _ _).ext hx2
  have E1 : Ext w w1 := ((Ext.refl _).alloc _).trans hx2
  clear hx2 cm
  have c1 := BT.cell
  have l1 := BT.lt
  cases q
  · go_wp2_with fail
    refine (unhide (cW _)).mono ?_
    rintro e w9 ⟨rfl, hx⟩
    go_wp2_with fail
    go_ret
    exact ⟨rfl, E1.trans hx⟩
  rw [Bool.and_eq_true] at hq
  have h700 : t.nl ≤ 700 := by simpa using hq.2
  have hv : vastV ns t.al = false := by simpa using hq.1
  obtain ⟨ha5, hu5⟩ := vast_units hv
  have hU1 : ∀ n ∈ ns, n.s.ul ≤ 1000000 := fun n hn => by have := hu5 n hn; omega
  have cC := fun w h hu => hide (copy_any t ns av w h (by omega) (by omega) hu)
  have hl := h.nodes.nlen
  have cK := fun t ms w h hm ha => hide (check_any t ms av w h hm ha)
  have h1 := h.ext E1
  have c2 := cC w1 h1 (fun n hn => ⟨hU1 n hn, by obtain ⟨_, us, hr⟩ := hU n hn; exact ⟨us, hr.ext E1⟩⟩)
  have cD := fun w h => hide (depths_any t ns w h (by omega))
  have cL := fun w h => hide (last_any t ns w h (by omega))
  have cKi := fun w h => hide (kids_any t ns w h (by omega))
  have hN := h.nodes
  obtain ⟨na, nl, nc, aa, al, ac, view⟩ := t
  simp only at hm ha h700 hv hl ha5 BT c1 cC c2 hN cD cL cKi
  clear hq hm ha hv hu5 hU1 hU cC
  go_wp2_with fail
  refine (unhide c2).mono ?_
  rintro e w2 ⟨⟨na', nl', nc', aa', al', ac', view'⟩, ms, gv, row, rfl, hT2, e1, e2, e3, hml, hC, hx⟩
  simp only at e1 e2 e3
  replace e1 := e1.symm
  replace e2 := e2.symm
  replace e3 := e3.symm
  subst e1 e2 e3
  replace E1 := E1.trans hx
  replace BT := BT.ext hx
  have HCH := like_check (hC.like hml.symm) av view
  clear hx c1 l1 c2 hC h1 h hml
  have c1 := BT.cell
  have l1 := BT.lt
  have c3 := cK ⟨na', nl, nc', aa', al, ac', view⟩ ms w2 hT2 (by simp only; omega) (by unfold maxLen; simp only; omega)
  rw [show (Tr.mk na' nl nc' aa' al ac' view).view = view from rfl, HCH] at c3
  clear cK hT2 HCH
  have hok := fun hz => TOk.of (ns := ns) (av := av) (view := view) (by omega) hz
  obtain ⟨CV, hCV⟩ : ∃ CV, checkV ns av view = CV := ⟨_, rfl⟩
  rw [hCV] at c3 hok
  obtain ⟨C1, C2⟩ := CV
  simp only at c3 hok
  have HOK := hide hok
  have HL := hide hl
  clear hCV hok hl
  generalize hg : w.heap.size = g at *
  have HG := hide hg
  clear hg
  go_wp2_with fail
  refine (unhide c3).mono ?_
  rintro e w3 ⟨rfl, hx⟩
  simp only []
  replace E1 := E1.trans hx
  replace BT := BT.ext hx
  clear hx c1 l1 c3 w2
  have c1 := BT.cell
  have l1 := BT.lt
  by_cases hC : C2 = 0
  rotate_left
  · have hCb : (C2 != 0) = true := by simpa using hC
    go_wp2_with fail
    refine (unhide (cW _)).mono ?_
    rintro e w9 ⟨rfl, hx⟩
    go_wp2_with fail
    go_ret
    exact ⟨rfl, E1.trans hx⟩
  have hCb : (C2 != 0) = false := by simpa using hC
  have hT := (unhide HOK) hC
  clear HOK hC
  have hpos := hT.pos
  rw [unhide HL] at hpos
  obtain ⟨b, off, hna, hb, -⟩ := hN.at_ hpos
  subst hna
  go_wp2_with fail
  refine (unhide (cKi _ (hN.ext E1))).mono ?_
  rintro e w4 ⟨Ak, rfl, RK, hx⟩
  have hgs := E1.size
  replace RK := RK.mono (C := g) (by have := unhide HG; omega)
  replace E1 := E1.trans hx
  replace BT := BT.ext hx
  clear hx c1 l1 cKi w3 hCb hgs
  have c1 := BT.cell
  have l1 := BT.lt
  go_wp2_with fail
  refine (unhide (cL _ (hN.ext E1))).mono ?_
  rintro e w5 ⟨Al, cl, rfl, RL, hx⟩
  rw [lastsN_len, unhide HL] at RL
  have hll : (lastsN ns).length = nl := by rw [lastsN_len, unhide HL]
  rw [hll]
  replace E1 := E1.trans hx
  replace BT := BT.ext hx
  replace RK := RK.ext hx
  clear hx c1 l1 cL w4 hll
  have c1 := BT.cell
  have l1 := BT.lt
  go_wp2_with fail
  refine (unhide (cD _ (hN.ext E1))).mono ?_
  rintro e w6 ⟨Ad, cd, rfl, RD, hx⟩
  rw [depsN_len, unhide HL] at RD
  have hll : (depsN ns).length = nl := by rw [depsN_len, unhide HL]
  rw [hll]
  replace E1 := E1.trans hx
  replace BT := BT.ext hx
  replace RK := RK.ext hx
  replace RL := RL.ext hx
  clear hx c1 l1 cD w5 hll
  have c1 := BT.cell
  have l1 := BT.lt
  obtain ⟨bl, ol, ul, hAl, hbl, hul, hcl⟩ := RL.get hpos
  obtain ⟨bd, od, ud, hAd, hbd, hud, hcd⟩ := RD.get hpos
  obtain ⟨sf1, sf2⟩ := shape_first hT
  have hlp : 0 < ns.length := hT.pos
  rw [ints, List.getElem?_map, lastsN_get hlp] at hul
  rw [ints, List.getElem?_map, depsN_get hlp, sf1] at hud
  obtain rfl := Option.some.inj hul
  obtain rfl := Option.some.inj hud
  obtain ⟨n1, hn1⟩ : ∃ n1, lastK ns 0 ns.length = n1 := ⟨_, rfl⟩
  rw [hn1] at hcl sf2
  have hnl : n1 + 1 = nl := by have := unhide HL; omega
  have hnI : (n1 : Int) + 1 = (nl : Int) := by omega
  subst hAl hAd
  have hT' := hide hT
  have hN' := hide hN
  rw [Nat.add_zero] at hcl hcd
  have HNL := hide hnl
  clear hul hud sf1 hn1 sf2 hT hN hlp hnl
  have e1 : ((nl : Int) == 0) = false := by simp; omega
  have e2 : ((nl : Int) == (nl : Int)) = true := by simp
  have e3 : ((nl : Int) != (nl : Int)) = false := by simp
  have e4 : IntKind.i64.wrap ((nl : Int) - 1) = (n1 : Int) := by rw [IntWalk.i64_in _ (by omega)]; omega
  have e5 : ((n1 : Int) == (n1 : Int)) = true := by simp
  have e6 : ((n1 : Int) != (n1 : Int)) = false := by simp
  have e7 : ((1 : Int) == 1) = true := by simp
  have e8 : ((1 : Int) != 1) = false := by simp
  have hin : (0 : Int) < (nl : Int) := by omega
  go_upto_region 9 with fail
  go_quiet (fail)
  replace E1 := E1.drewN nq
  replace BT := BT.drewN nq
  replace RK := RK.ext ((Ext.refl _).drewN nq)
  replace RL := RL.drewN nq
  replace RD := RD.drewN nq
  clear e1 e2 e3 e4 e5 e6 e7 e8 hin c1 l1 hcl hcd hnI
  generalize w6.drewN nq = w7 at *
  go_wp2_with fail
  go_loopw [8] (fun v wr => ∃ i : Nat, v = .int .i64 i ∧ i ≤ nl ∧ Ext w wr ∧ Blk wr g 25 (Tr.cs ⟨some ⟨b, off, none⟩, nl, nc, aa, al, ac, view⟩) ∧ RdR wr g Ak nl (kidsN ns nl) ∧ Rd wr 1 (some ⟨bl, ol, none⟩) nl (ints (lastsN ns)) ∧ Rd wr 1 (some ⟨bd, od, none⟩) nl (ints (depsN ns))) (fun v _ => nl - (intOf v).toNat)
  case atStart => exact ⟨0, rfl, by omega, E1, BT, RK, RL, RD⟩
  case round =>
    clear E1 BT RK RL RD w7
    obtain ⟨i, rfl, i1, E1, BT, RK, RL, RD⟩ := hrel
    by_cases hi : i < nl
    · have hiI : (i : Int) < (nl : Int) := by omega
      obtain ⟨b1, o1, A1, d1, hA1, -, lb1, k1, R1, -⟩ := RK.at_ i hi
      subst hA1
      have HS0 := hide (sh_start (ns := ns) i)
      go_wp2_with fail
      go_loopw [9, 10] (fun nv qv wr => ∃ q next : Nat, nv = .int .i64 next ∧ qv = .int .i64 q ∧ Hid (ShAt ns i q next) ∧ q ≤ (kidsN ns nl i).length ∧ Ext w wr ∧ Blk wr g 25 (Tr.cs ⟨some ⟨b, off, none⟩, nl, nc, aa, al, ac, view⟩) ∧ RdR wr g (some ⟨b1, o1, none⟩) nl (kidsN ns nl) ∧ Rd wr 1 (some ⟨bl, ol, none⟩) nl (ints (lastsN ns)) ∧ Rd wr 1 (some ⟨bd, od, none⟩) nl (ints (depsN ns))) (fun _ qv _ => (kidsN ns nl i).length - (intOf qv).toNat)
      case atStart => exact ⟨0, i + 1, by go_num, rfl, HS0, by omega, E1, BT, RK, RL, RD⟩
      case round =>
        clear E1 BT RK RL RD lb1 k1 R1 HS0
        obtain ⟨q, next, rfl, rfl, HS, q1, E1, BT, RK, RL, RD⟩ := hrel
        obtain ⟨b1, o1, A1, d1, hA1, -, lb1, k1, R1, -⟩ := RK.at_ i hi
        injection hA1 with hA1; injection hA1 with hA1 hA2
        subst hA1 hA2
        have hiN : (0 : Int) ≤ (i : Int) ∧ (i : Int) < (nl : Int) := by omega
        by_cases hq : q < (kidsN ns nl i).length
        · obtain ⟨y1, y2, y3, y4, y5, lc, y6, y7, y8, y9⟩ := shape_kid (unhide hT') (by have := unhide HL; omega) (unhide HS) (by rw [unhide HL]; exact hq)
          rw [unhide HL] at y1 y3 y6 y9
          obtain ⟨bq, oq, uq, hAq, hbq, huq, hcq⟩ := R1.get hq
          rw [ints, List.getElem?_map, y1] at huq
          obtain rfl := Option.some.inj huq
          subst hAq
          obtain ⟨bl2, ol2, ul, hAl, hbl2, hul, hcl⟩ := RL.get y3
          injection hAl with hAl; injection hAl with hAl hAl2
          subst hAl hAl2
          rw [ints, List.getElem?_map, lastsN_get (by have := unhide HL; omega), unhide HL, y6] at hul
          obtain rfl := Option.some.inj hul
          obtain ⟨bd2, od2, ud, hAd, hbd2, hud, hcd⟩ := RD.get y3
          injection hAd with hAd; injection hAd with hAd hAd2
          subst hAd hAd2
          obtain ⟨bd3, od3, ud3, hAd3, hbd3, hud3, hcd3⟩ := RD.get hi
          injection hAd3 with hAd3; injection hAd3 with hAd3 hAd4
          subst hAd3 hAd4
          have hdl := dep_le ns i
          rw [ints, List.getElem?_map, depsN_get (by have := unhide HL; omega)] at hud
          rw [ints, List.getElem?_map, depsN_get (by have := unhide HL; omega)] at hud3
          obtain ⟨di, hdi⟩ : ∃ di, dep ns i = di := ⟨_, rfl⟩
          obtain ⟨d2, hd2⟩ : ∃ d2, dep ns next = d2 := ⟨_, rfl⟩
          rw [hd2] at hud y5
          rw [hdi] at y5 hud3 hdl
          obtain rfl := Option.some.inj hud
          obtain rfl := Option.some.inj hud3
          have hpc := (E1.cells.1 b _ hb).trans ((unhide hN').par rfl (by have := unhide HL; omega : next < ns.length))
          rw [y4] at hpc
          have HS2 := hide y2
          rw [y7] at HS2
          have hkl := kidsN_len ns nl i
          have hqI : (q : Int) < ((kidsN ns nl i).length : Int) := by omega
          have hqN : (0 : Int) ≤ (q : Int) ∧ (q : Int) < ((kidsN ns nl i).length : Int) := by omega
          have hnN : (0 : Int) ≤ (next : Int) ∧ (next : Int) < (nl : Int) := by omega
          have e1 : ((next : Int) == (next : Int)) = true := by simp
          have e2 : ((next : Int) != (next : Int)) = false := by simp
          have e3 : ((i : Int) == (i : Int)) = true := by simp
          have e4 : ((i : Int) != (i : Int)) = false := by simp
          have e5 : IntKind.i64.wrap ((di : Int) + 1) = (d2 : Int) := by rw [IntWalk.i64_in _ (by omega)]; omega
          have e7 : ((d2 : Int) == (d2 : Int)) = true := by simp
          have e8 : ((d2 : Int) != (d2 : Int)) = false := by simp
          have e9 : decide ((nl : Int) ≤ (next : Int)) = false := by simp; omega
          have e10 : decide ((lc : Int) < (next : Int)) = false := by simp; omega
          have hk2 : lc ≤ 700 := by omega
          have hdk : di ≤ 701 := by omega
          have c1 := BT.cell
          have l1 := BT.lt
          clear huq hul hud hud3 y1 y2 y4 y5 y6 y7 hdi hd2 HS
          go_upto_region 19 with fail
          go_quiet (fail)
          have hx : Ext wr (wr.drewN nq) := (Ext.refl _).drewN nq
          replace E1 := E1.trans hx
          replace BT := BT.ext hx
          replace RK := RK.ext hx
          replace RL := RL.ext hx
          replace RD := RD.ext hx
          have hcl2 := (hx.cells.1 bl _ hbl2).trans hcl
          clear hx e1 e2 e3 e4 e5 e7 e8 e9 e10 hcl hcd hcd3 hcq hpc k1 R1 c1 l1 hbl2 hbd2 hbd3 hbq hqI hqN
          generalize wr.drewN nq = w8 at *
          go_wp2_with fail
          go_roundw
          case rel => exact ⟨q + 1, lc + 1, by go_num, by go_num, HS2, by omega, E1, BT, RK, RL, RD⟩
          case measure => simp [intOf]; omega
        · obtain ⟨lc, y1, y2, y3⟩ := shape_end (unhide hT') (by have := unhide HL; omega) (unhide HS) (by rw [unhide HL]; exact hq)
          rw [unhide HL] at y1 y3
          obtain ⟨bl2, ol2, ul, hAl, hbl2, hul, hcl⟩ := RL.get hi
          injection hAl with hAl; injection hAl with hAl hAl2
          subst hAl hAl2
          rw [ints, List.getElem?_map, lastsN_get (by have := unhide HL; omega), unhide HL, y1] at hul
          obtain rfl := Option.some.inj hul
          have hkc := (E1.cells.1 b _ hb).trans ((unhide hN').kindAt rfl (by have := unhide HL; omega : i < ns.length))
          have hT3 := shape_text (unhide hT') (by have := unhide HL; omega : i < ns.length)
          rw [unhide HL] at hT3
          obtain ⟨KL, hKL⟩ : ∃ KL, (kidsN ns nl i).length = KL := ⟨_, rfl⟩
          rw [hKL] at hT3 k1 hq q1
          obtain ⟨kd, hkd⟩ : ∃ kd, nK ns i = kd := ⟨_, rfl⟩
          rw [hkd] at hkc hT3
          have HKL := hide hKL
          have hqI : ¬ (q : Int) < (KL : Int) := by omega
          have e1 : IntKind.i64.wrap ((next : Int) - 1) = (lc : Int) := by rw [IntWalk.i64_in _ (by omega)]; omega
          have e2 : ((lc : Int) == (lc : Int)) = true := by simp
          have e3 : ((lc : Int) != (lc : Int)) = false := by simp
          have c1 := BT.cell
          have l1 := BT.lt
          clear hul y1 hkd HS R1 hKL
          by_cases h3 : kd = 3
          · have hz := hT3 h3
            subst hz h3
            clear hT3
            go_wp2_with fail
            go_roundw
            case rel => exact ⟨i + 1, by go_num, by omega, E1, BT, RK, RL, RD⟩
            case measure => simp [intOf]; omega
          · have e4 : (kd == 3) = false := by simpa using h3
            clear hT3 h3
            go_wp2_with fail
            go_roundw
            case rel => exact ⟨i + 1, by go_num, by omega, E1, BT, RK, RL, RD⟩
            case measure => simp [intOf]; omega
    · have hiI : ¬ (i : Int) < (nl : Int) := by omega
      go_wp2_with fail
      refine (unhide (cW _)).mono ?_
      rintro e w9 ⟨rfl, hx⟩
      go_wp2_with fail
      go_ret
      exact ⟨rfl, E1.trans hx⟩
end
end Go.Proofs.Ytnolbmfjgfojhaa
