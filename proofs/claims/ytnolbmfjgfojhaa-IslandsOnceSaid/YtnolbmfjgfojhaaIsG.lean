/- Islands: who lies in an island, the program's (walk). -/
import Derived.Test.YtnolbmfjgfojhaaIsE
namespace Go.Proofs.Ytnolbmfjgfojhaa
open Go.RowKit
/-- an operation, with a guard or without -/
theorem stepU_at {P : Program} {ops : Array Oper} {J : World → Prop} {S : Nat → Value → World → Prop} {dep : Nat → List (Nat × Nat)} {olds surv : Nat → List Nat} {a0 : Act} {I0 : World → Prop} {ends late : List Nat} {T : (Nat → Value) → World → Prop} {e : Nat} {i : Nat} {o : Oper}
    (h : ∀ (F : Nat → Value) (a : Act) (w : World), J w → SatD S F a w (dep i) → OldD a0 a (olds i) → (i ∉ late → I0 w) →
      ∀ K : Act → World → Prop, (∀ v w', J w' → S i v w' → (∀ j ∈ surv i, ∀ u, S j u w → S j u w') → (i ∉ ends → I0 w') → (i = e → T (fun k => if k = i then v else F k) w') → K (a.put o.dst v) w') →
      (Region.wanted o (yielded ops a.tmps) = true → o.wp P a w K noQ) ∧ (Region.wanted o (yielded ops a.tmps) = false → K (a.put o.dst undef) w)) : StepU P ops J S dep olds surv a0 I0 ends late T e i o := h
theorem insR_size {ns : List Nd} (r a b : Nat) : (insR ns r a b).length ≤ b - a := by
  rcases Nat.le_total b a with h | h
  · rw [insR_nil r a b h]; simp
  · obtain ⟨d, rfl⟩ : ∃ d, b = a + d := ⟨b - a, by omega⟩
    clear h
    induction d with
    | zero => rw [insR_nil r a _ (by omega)]; simp
    | succ d ih =>
      rw [← Nat.add_assoc, insR_succ r a (a + d) (by omega)]
      split
      · rw [List.length_append]; simp only [List.length_cons, List.length_nil]; omega
      · omega
/-- the state in which the program goes down the tree -/
structure Ins (w0 : World) (tcs : Array Value) (fv : Value) (gt gb gd : Nat) (w : World) (l : List Int) : Prop where
  ext : Ext w0 w
  bt : Blk w gt 25 tcs
  bd : Blk w gd 72 #[fv]
  box : ∃ A c, Blk w gb 36 #[.slice A l.length c] ∧ w.ownsRow (gd + 1) 3 1 (.slice A l.length c) l.length (ints l)
  far : w0.heap.size ≤ gb ∧ gt ≠ gb ∧ gd ≠ gb ∧ gb < gd + 1 ∧ gt < gd + 1 ∧ w0.heap.size ≤ gd
theorem Ins.step {w0 : World} {tcs : Array Value} {fv : Value} {gt gb gd : Nat} {w w' : World} {l : List Int} (h : Ins w0 tcs fv gt gb gd w l) (hx : Ext w w') : Ins w0 tcs fv gt gb gd w' l := by
  obtain ⟨A, c, h1, h2⟩ := h.box
  exact ⟨h.ext.trans hx, h.bt.ext hx, h.bd.ext hx, ⟨A, c, h1.ext hx, own_extI h2 hx⟩, h.far⟩
theorem Ins.push {w0 : World} {tcs : Array Value} {fv : Value} {gt gb gd : Nat} {w w' : World} {l : List Int} (h : Ins w0 tcs fv gt gb gd w l) {A : Option Addr} {c : Nat} (hb : Blk w gb 36 #[.slice A l.length c]) (ho : w.ownsRow (gd + 1) 3 1 (.slice A l.length c) l.length (ints l))
    (hg : w.grownBy w' (Value.ownBlock (.slice A l.length c))) {A' : Option Addr} {c' m : Nat} {x : Int} (ho' : w'.ownsRow (gd + 1) 3 1 (.slice A' m c') m (ints l ++ [.int .i64 x])) (hm : m = (l ++ [x]).length) :
    Ins w0 tcs fv gt gb gd (w'.setCell ⟨gb, 0, none⟩ (.slice A' m c')) (l ++ [x]) := by
  obtain ⟨f1, f2, f3, f4, f5, f6⟩ := h.far
  have hk : ∀ g, Value.ownBlock (.slice A l.length c) = some g → gd + 1 ≤ g := fun g e => (ho.lt g e).1
  subst hm
  refine ⟨(h.ext.grown hg (fun g e => by have := hk g e; omega)).set f1 _, (h.bt.grown hg (fun e => by have := hk _ e; omega)).far f2 _, (h.bd.grown hg (fun e => by have := hk _ e; omega)).far f3 _, ⟨A', c', ?_, ?_⟩, h.far⟩
  · have := (hb.grown hg (fun e => by have := hk _ e; omega)).set_ 0 (.slice A' (l ++ [x]).length c')
    simpa using this
  · rw [show ints (l ++ [x]) = ints l ++ [Value.int .i64 x] by rw [ints_append]; rfl]
    refine ho'.kept (grown_cell _) ?_
    cases e : Value.ownBlock (.slice A' (l ++ [x]).length c') with
    | none => exact .inl rfl
    | some g => exact .inr (fun e2 => by have := (ho'.lt g e).1; have e2 := Option.some.inj e2; omega)
section
variable (ns : List Nd) (b off nl nc al ac : Nat) (aa : Option Addr) (view : Int) (w0 : World) (gt gb gd r : Nat)
set_option maxRecDepth 100000 in
set_option maxHeartbeats 16000000 in
theorem insdown_any (hT : TOk ns) (h : Rd w0 44 (some ⟨b, off, none⟩) nl (nds ns)) (hm : nl ≤ 1000000) : ∀ (d i : Nat), ns.length - i ≤ d → i < ns.length → ∀ (l : List Int) (ins : Bool) (w : World),
    Ins w0 (Tr.cs ⟨some ⟨b, off, none⟩, nl, nc, aa, al, ac, view⟩) (.func (.func 65) #[] #[.pointer (some ⟨gt, 0, none⟩), .pointer (some ⟨gb, 0, none⟩), .pointer (some ⟨gd, 0, none⟩)]) gt gb gd w l → Asks ns r i ins → r ≤ i → l.length ≤ i + 1 →
    Calls Try.prog 65 #[.int .i64 (i : Int), .bool ins, .pointer (some ⟨gt, 0, none⟩), .pointer (some ⟨gb, 0, none⟩), .pointer (some ⟨gd, 0, none⟩)] w
      fun e w' => e = .returned (.int .i64 (endN ns i)) ∧ Ins w0 (Tr.cs ⟨some ⟨b, off, none⟩, nl, nc, aa, al, ac, view⟩) (.func (.func 65) #[] #[.pointer (some ⟨gt, 0, none⟩), .pointer (some ⟨gb, 0, none⟩), .pointer (some ⟨gd, 0, none⟩)]) gt gb gd w' (l ++ insR ns r (i + 1) (endN ns i)) := by
  intro d
  induction d with
  | zero => intro i hd hi; omega
  | succ d ih =>
  intro i hd hi l ins w D hA hri hll
  have hl := h.nlen
  have hm' : nl ≤ maxLen := by unfold maxLen; omega
  have hiI : (i : Int) + 1 ≤ 1000000 := by omega
  have cu := fun k (hk : k < ns.length) w h => hide (root_in ⟨some ⟨b, off, none⟩, nl, nc, aa, al, ac, view⟩ ns k hk w h hm')
  have IH := fun c (hc : i < c) (hcn : c < ns.length) l ins w D hA hri hll => hide (ih c (by omega) hcn l ins w D hA hri hll)
  clear ih
  obtain ⟨i0, hi0, hz0, hz1, hz2⟩ := info_parts int_info
  have HI := hide (And.intro hi0 (And.intro hz0 (And.intro hz1 hz2)))
  have HL := hide hl
  have HT := hide hT
  have HA := hide hA
  have hge := endN_gt ns i
  have hle := endN_le hi
  obtain ⟨E, hE⟩ : ∃ E, endN ns i = E := ⟨_, rfl⟩
  rw [hE] at hge hle
  rw [hE]
  have HE := hide hE
  clear hi0 hz0 hz1 hz2 hl hT hA hE
  go_enter Try.func65, Try.ntmps65
  go_wp2_with fail
  go_loopw [8] (fun x wr => ∃ (k : Nat) (l1 : List Int), x = .int .i64 k ∧ i < k ∧ k ≤ E ∧ Hid (k = i + 1 ∨ ∃ c : Nat, c < ns.length ∧ parN ns c = i ∧ k = endN ns c) ∧ Hid (l1 = l ++ insR ns r (i + 1) k) ∧ Ins w0 (Tr.cs ⟨some ⟨b, off, none⟩, nl, nc, aa, al, ac, view⟩) (.func (.func 65) #[] #[.pointer (some ⟨gt, 0, none⟩), .pointer (some ⟨gb, 0, none⟩), .pointer (some ⟨gd, 0, none⟩)]) gt gb gd wr l1) (fun x _ => E - (intOf x).toNat)
  case atStart => exact ⟨i + 1, l, by go_num, by omega, by omega, hide (.inl rfl), hide (by rw [insR_nil r (i + 1) (i + 1) (Nat.le_refl _), List.append_nil]), D⟩
  case round =>
    clear D
    obtain ⟨k, l1, rfl, q1, q2, HC, HL1, D⟩ := hrel
    have hl1 : l1.length ≤ k := by
      rw [unhide HL1, List.length_append]
      have := insR_size (ns := ns) r (i + 1) k
      omega
    have c1 := D.bt.cell
    have l1t := D.bt.lt
    by_cases hk : k < nl
    · have hkn : k < ns.length := by rw [unhide HL]; exact hk
      have cp := (h.ext D.ext).par rfl hkn
      have hkin : (0 : Int) ≤ (k : Int) ∧ (k : Int) < (nl : Int) := by omega
      have hN := ok_next (unhide HT) hkn q1 (unhide HC)
      rw [unhide HE, (unhide HT).parN hkn] at hN
      by_cases hpk : nP ns k = i
      · have hkE : k < E := by
          rcases hN with hN | hN
          · exact hN.2
          · exact absurd hpk hN.1
        have hpN := ((unhide HT).parN hkn).trans hpk
        have hpb : (nP ns k == (i : Int)) = true := by simpa using hpk
        have ckd := (h.ext D.ext).same rfl hkn
        have hek := ok_end_kid (unhide HT) hkn hpN
        rw [unhide HE] at hek
        have hgk := endN_gt ns k
        have HQ := hide ((unhide HA).here q1 (by rw [unhide HE]; exact hkE) hpN)
        have HAK := hide ((unhide HA).kid (unhide HT) hri q1 hkn hpN)
        have HC2 := hide (show endN ns k = i + 1 ∨ ∃ c : Nat, c < ns.length ∧ parN ns c = i ∧ endN ns k = endN ns c from .inr ⟨k, hkn, hpN, rfl⟩)
        have cuk := cu k hkn
        have IHk := IH k q1 hkn
        obtain ⟨E2, hE2⟩ : ∃ E2, endN ns k = E2 := ⟨_, rfl⟩
        have HL2 := hide (show ∀ q : Bool, (decide (nK ns k ≠ 3) && decide (isl ns (parN ns k).toNat = r)) = q → (if q = true then l1 ++ [(k : Int)] else l1) ++ insR ns r (k + 1) E2 = l ++ insR ns r (i + 1) E2 by
          intro q hq
          rw [insR_cut r (a := i + 1) (b := k) (c := E2) (by omega) (by omega), insR_cut r (a := k) (b := k + 1) (c := E2) (by omega) (by omega), insR_one, unhide HL1, ← hq]
          by_cases hc : nK ns k ≠ 3 ∧ isl ns (parN ns k).toNat = r
          · rw [if_pos hc]; simp [hc.1, hc.2]
          · rw [if_neg hc, if_neg (by simp only [Bool.and_eq_true, decide_eq_true_eq]; exact hc)]; simp)
        rw [hE2] at hek hgk HC2 IHk
        have HE2 := hide hE2
        obtain ⟨kk, hkk⟩ : ∃ kk, nK ns k = kk := ⟨_, rfl⟩
        rw [hkk] at ckd HQ HAK HL2
        obtain ⟨rr, hrr⟩ : ∃ rr, rootN ns k = rr := ⟨_, rfl⟩
        rw [hrr] at HAK cuk
        clear hpN hpk hN cu IH hkk hrr hE2
        rw [show nP ns k = (i : Int) by simpa using hpb] at cp
        clear hpb
        obtain ⟨A, c, BB, OO⟩ := D.box
        cases ins
        · have kk0 : True := trivial
          have HL3 := unhide HL2 false ((unhide HQ).trans (by simp))
          have HA6 : Asks ns r k false := by have := unhide HAK; simpa  using this
          simp only [Bool.false_eq_true, if_false] at HL3
          go_upto_region 6 with fail
          have D2 := D
          have hl6 : l1.length ≤ k + 1 := by omega
          refine wp_region_linU (by kernel_rfl) (fun w' => (True)) (fun ii vv ww => match ii with | 0 => vv = (.func (.func 65) #[] #[.pointer (some ⟨gt, 0, none⟩), .pointer (some ⟨gb, 0, none⟩), .pointer (some ⟨gd, 0, none⟩)]) | 1 => vv = .int .i64 (k : Int) | 2 => vv = .bool false | 3 => vv = .bool false | 4 => vv = undef | 5 => vv = undef | 6 => vv = undef | 7 => vv = undef | 8 => vv = .bool false | 9 => Ins w0 (Tr.cs ⟨some ⟨b, off, none⟩, nl, nc, aa, al, ac, view⟩) (.func (.func 65) #[] #[.pointer (some ⟨gt, 0, none⟩), .pointer (some ⟨gb, 0, none⟩), .pointer (some ⟨gd, 0, none⟩)]) gt gb gd ww (l1 ++ insR ns r (k + 1) E2) ∧ vv = .int .i64 ((E2 : Nat) : Int) | 10 => Ins w0 (Tr.cs ⟨some ⟨b, off, none⟩, nl, nc, aa, al, ac, view⟩) (.func (.func 65) #[] #[.pointer (some ⟨gt, 0, none⟩), .pointer (some ⟨gb, 0, none⟩), .pointer (some ⟨gd, 0, none⟩)]) gt gb gd ww (l1 ++ insR ns r (k + 1) E2) ∧ vv = .int .i64 ((E2 : Nat) : Int) | _ => True) (fun ii => match ii with | 3 => [(2, 45)] | 4 => [(3, 46)] | 5 => [(3, 46)] | 6 => [(4, 47), (5, 48), (3, 46)] | 7 => [(6, 49), (3, 46)] | 8 => [(3, 46), (7, 50)] | 9 => [(0, 43), (1, 44), (8, 51)] | 10 => [(9, 52)] | _ => []) (fun ii => match ii with | 0 => [4] | 1 => [8] | 2 => [9] | 4 => [2] | 5 => [8] | _ => []) (fun ii => match ii with | 0 => [2, 3, 4, 5, 6, 7, 1, 8] | 1 => [2, 3, 4, 5, 6, 7, 0, 8] | 2 => [0, 1] | 3 => [0, 1] | 4 => [3, 5, 0, 1] | 5 => [3, 4, 0, 1] | 6 => [3, 0, 1] | 7 => [3, 0, 1] | 8 => [0, 1] | _ => []) [10] [0, 0, 0, 4, 12, 12, 60, 124, 252, 511, 1023] (fun w0q => Ins w0 (Tr.cs ⟨some ⟨b, off, none⟩, nl, nc, aa, al, ac, view⟩) (.func (.func 65) #[] #[.pointer (some ⟨gt, 0, none⟩), .pointer (some ⟨gb, 0, none⟩), .pointer (some ⟨gd, 0, none⟩)]) gt gb gd w0q l1) [9, 10] [10] (fun _ _ => True) 11 54 rfl (by kernel_rfl) (by kernel_rfl) (.inr (by decide)) (trivial) (D2.step (Ext.refl _).drew) ?_ ?_
          · rename_i hcont; clear hcont
            refine ⟨?_, ?_, ?_, ?_, ?_, ?_, ?_, ?_, ?_, ?_, ?_, trivial⟩
            · refine stepU_plain rfl ?_
              rintro F a w1 jE - ⟨t4, -⟩ iO K hK
              replace iO := iO (by decide)
              have t4 : a.tmps[4]? = some (.pointer (some ⟨gd, 0, none⟩)) := t4
              have c := iO.bd.cell
              go_simp
              exact hK _ _ jE rfl (fun _ _ _ h => h) (fun _ => iO) (fun he => absurd he (by decide))
            · refine stepU_plain rfl ?_
              rintro F a w1 jE - ⟨t8, -⟩ iO K hK
              replace iO := iO (by decide)
              have t8 : a.tmps[8]? = some (.int .i64 (k : Int)) := t8
              go_simp
              exact hK _ _ jE rfl (fun _ _ _ h => h) (fun _ => iO) (fun he => absurd he (by decide))
            · refine stepU_plain rfl ?_
              rintro F a w1 jE - ⟨t9, -⟩ iO K hK
              replace iO := iO (by decide)
              have t9 : a.tmps[9]? = some (.bool false) := t9
              go_simp
              exact hK _ _ jE rfl (fun _ _ _ h => h) (fun _ => iO) (fun he => absurd he (by decide))
            · refine stepU_plain rfl ?_
              rintro F a w1 jE ⟨h2, t45, -⟩ - iO K hK
              replace iO := iO (by decide)
              have h2 : (F 2) = .bool false := h2
              rw [h2] at t45
              clear h2
              go_simp
              exact hK _ _ jE rfl (fun _ _ _ h => h) (fun _ => iO) (fun he => absurd he (by decide))
            · refine stepU_at ?_
              rintro F a w1 jE ⟨h3, t46, -⟩ ⟨t2, -⟩ iO K hK
              replace iO := iO (by decide)
              have h3 : (F 3) = .bool false := h3
              rw [h3] at t46
              clear h3
              have t2 : a.tmps[2]? = some (.pointer (some ⟨gt, 0, none⟩)) := t2
              exact stepN ((wanted_of 3 true 46 _ rfl rfl t46).trans rfl) (hK undef _ jE rfl (fun _ _ _ h => h) (fun _ => iO) (fun he => absurd he (by decide)))
            · refine stepU_at ?_
              rintro F a w1 jE ⟨h3, t46, -⟩ ⟨t8, -⟩ iO K hK
              replace iO := iO (by decide)
              have h3 : (F 3) = .bool false := h3
              rw [h3] at t46
              clear h3
              have t8 : a.tmps[8]? = some (.int .i64 (k : Int)) := t8
              exact stepN ((wanted_of 3 true 46 _ rfl rfl t46).trans rfl) (hK undef _ jE rfl (fun _ _ _ h => h) (fun _ => iO) (fun he => absurd he (by decide)))
            · refine stepU_at ?_
              rintro F a w1 jE ⟨h4, t47, h5, t48, h3, t46, -⟩ - iO K hK
              replace iO := iO (by decide)
              have h4 : (F 4) = undef := h4
              rw [h4] at t47
              clear h4
              have h5 : (F 5) = undef := h5
              rw [h5] at t48
              clear h5
              have h3 : (F 3) = .bool false := h3
              rw [h3] at t46
              clear h3
              exact stepN ((wanted_of 3 true 46 _ rfl rfl t46).trans rfl) (hK undef _ jE rfl (fun _ _ _ h => h) (fun _ => iO) (fun he => absurd he (by decide)))
            · refine stepU_at ?_
              rintro F a w1 jE ⟨h6, t49, h3, t46, -⟩ - iO K hK
              replace iO := iO (by decide)
              have h6 : (F 6) = undef := h6
              rw [h6] at t49
              clear h6
              have h3 : (F 3) = .bool false := h3
              rw [h3] at t46
              clear h3
              exact stepN ((wanted_of 3 true 46 _ rfl rfl t46).trans rfl) (hK undef _ jE rfl (fun _ _ _ h => h) (fun _ => iO) (fun he => absurd he (by decide)))
            · refine stepU_plain rfl ?_
              rintro F a w1 jE ⟨h3, t46, h7, t50, -⟩ - iO K hK
              replace iO := iO (by decide)
              have h3 : (F 3) = .bool false := h3
              rw [h3] at t46
              clear h3
              have h7 : (F 7) = undef := h7
              rw [h7] at t50
              clear h7
              go_simp
              exact hK _ _ jE rfl (fun _ _ _ h => h) (fun _ => iO) (fun he => absurd he (by decide))
            · refine stepU_plain rfl ?_
              rintro F a w1 jE ⟨h0, t43, h1, t44, h8, t51, -⟩ - iO K hK
              replace iO := iO (by decide)
              have h0 : (F 0) = (.func (.func 65) #[] #[.pointer (some ⟨gt, 0, none⟩), .pointer (some ⟨gb, 0, none⟩), .pointer (some ⟨gd, 0, none⟩)]) := h0
              rw [h0] at t43
              clear h0
              have h1 : (F 1) = .int .i64 (k : Int) := h1
              rw [h1] at t44
              clear h1
              have h8 : (F 8) = .bool false := h8
              rw [h8] at t51
              clear h8
              go_simp
              with_reducible refine (unhide (IHk _ _ _ iO HA6 (by omega) hl6)).mono ?_
              rintro e w2 ⟨rfl, hD⟩
              exact hK _ _ jE ⟨hD, rfl⟩ (fun _ hj _ _ => (List.not_mem_nil hj).elim) (fun h => (h (by simp)).elim) (fun he => absurd he (by decide))
            · refine stepU_plain rfl ?_
              rintro F a w1 jE ⟨h9, t52, -⟩ - iO K hK
              clear iO
              have h9 : Ins w0 (Tr.cs ⟨some ⟨b, off, none⟩, nl, nc, aa, al, ac, view⟩) (.func (.func 65) #[] #[.pointer (some ⟨gt, 0, none⟩), .pointer (some ⟨gb, 0, none⟩), .pointer (some ⟨gd, 0, none⟩)]) gt gb gd w1 (l1 ++ insR ns r (k + 1) E2) ∧ (F 9) = .int .i64 ((E2 : Nat) : Int) := h9
              obtain ⟨hD, h9⟩ := h9
              rw [h9] at t52
              go_simp
              exact hK _ _ jE ⟨hD, rfl⟩ (fun _ _ _ h => h) (fun h => (h (by simp)).elim) (fun he => absurd he (by decide))
          · rintro F w2 jE ⟨h10, -⟩ -
            have h10 : Ins w0 (Tr.cs ⟨some ⟨b, off, none⟩, nl, nc, aa, al, ac, view⟩) (.func (.func 65) #[] #[.pointer (some ⟨gt, 0, none⟩), .pointer (some ⟨gb, 0, none⟩), .pointer (some ⟨gd, 0, none⟩)]) gt gb gd w2 (l1 ++ insR ns r (k + 1) E2) ∧ (F 10) = .int .i64 ((E2 : Nat) : Int) := h10
            obtain ⟨D4, h10⟩ := h10
            simp only [putL, Act.put, Nat.reduceAdd, Nat.zero_add, List.setIfInBounds_toArray, List.set_cons_succ, List.set_cons_zero]
            rw [h10]
            clear h10
            go_wp2_with fail
            go_roundw
            case rel => exact ⟨E2, l1 ++ insR ns r (k + 1) E2, rfl, by omega, by omega, HC2, HL3, D4⟩
            case measure => simp [intOf]; omega
        · by_cases kk3 : kk = 3
          · have kkb : (kk != 3) = false := by simpa using kk3
            have HL3 := unhide HL2 false ((unhide HQ).trans (by simp [kk3]))
            have HA6 : Asks ns r k false := by have := unhide HAK; simpa [kk3] using this
            simp only [Bool.false_eq_true, if_false] at HL3
            go_upto_region 6 with fail
            have D2 := D
            have hl6 : l1.length ≤ k + 1 := by omega
            refine wp_region_linU (by kernel_rfl) (fun w' => (True)) (fun ii vv ww => match ii with | 0 => vv = (.func (.func 65) #[] #[.pointer (some ⟨gt, 0, none⟩), .pointer (some ⟨gb, 0, none⟩), .pointer (some ⟨gd, 0, none⟩)]) | 1 => vv = .int .i64 (k : Int) | 2 => vv = .bool false | 3 => vv = .bool false | 4 => vv = undef | 5 => vv = undef | 6 => vv = undef | 7 => vv = undef | 8 => vv = .bool false | 9 => Ins w0 (Tr.cs ⟨some ⟨b, off, none⟩, nl, nc, aa, al, ac, view⟩) (.func (.func 65) #[] #[.pointer (some ⟨gt, 0, none⟩), .pointer (some ⟨gb, 0, none⟩), .pointer (some ⟨gd, 0, none⟩)]) gt gb gd ww (l1 ++ insR ns r (k + 1) E2) ∧ vv = .int .i64 ((E2 : Nat) : Int) | 10 => Ins w0 (Tr.cs ⟨some ⟨b, off, none⟩, nl, nc, aa, al, ac, view⟩) (.func (.func 65) #[] #[.pointer (some ⟨gt, 0, none⟩), .pointer (some ⟨gb, 0, none⟩), .pointer (some ⟨gd, 0, none⟩)]) gt gb gd ww (l1 ++ insR ns r (k + 1) E2) ∧ vv = .int .i64 ((E2 : Nat) : Int) | _ => True) (fun ii => match ii with | 3 => [(2, 45)] | 4 => [(3, 46)] | 5 => [(3, 46)] | 6 => [(4, 47), (5, 48), (3, 46)] | 7 => [(6, 49), (3, 46)] | 8 => [(3, 46), (7, 50)] | 9 => [(0, 43), (1, 44), (8, 51)] | 10 => [(9, 52)] | _ => []) (fun ii => match ii with | 0 => [4] | 1 => [8] | 2 => [9] | 4 => [2] | 5 => [8] | _ => []) (fun ii => match ii with | 0 => [2, 3, 4, 5, 6, 7, 1, 8] | 1 => [2, 3, 4, 5, 6, 7, 0, 8] | 2 => [0, 1] | 3 => [0, 1] | 4 => [3, 5, 0, 1] | 5 => [3, 4, 0, 1] | 6 => [3, 0, 1] | 7 => [3, 0, 1] | 8 => [0, 1] | _ => []) [10] [0, 0, 0, 4, 12, 12, 60, 124, 252, 511, 1023] (fun w0q => Ins w0 (Tr.cs ⟨some ⟨b, off, none⟩, nl, nc, aa, al, ac, view⟩) (.func (.func 65) #[] #[.pointer (some ⟨gt, 0, none⟩), .pointer (some ⟨gb, 0, none⟩), .pointer (some ⟨gd, 0, none⟩)]) gt gb gd w0q l1) [9, 10] [10] (fun _ _ => True) 11 54 rfl (by kernel_rfl) (by kernel_rfl) (.inr (by decide)) (trivial) (D2.step (Ext.refl _).drew) ?_ ?_
            · rename_i hcont; clear hcont
              refine ⟨?_, ?_, ?_, ?_, ?_, ?_, ?_, ?_, ?_, ?_, ?_, trivial⟩
              · refine stepU_plain rfl ?_
                rintro F a w1 jE - ⟨t4, -⟩ iO K hK
                replace iO := iO (by decide)
                have t4 : a.tmps[4]? = some (.pointer (some ⟨gd, 0, none⟩)) := t4
                have c := iO.bd.cell
                go_simp
                exact hK _ _ jE rfl (fun _ _ _ h => h) (fun _ => iO) (fun he => absurd he (by decide))
              · refine stepU_plain rfl ?_
                rintro F a w1 jE - ⟨t8, -⟩ iO K hK
                replace iO := iO (by decide)
                have t8 : a.tmps[8]? = some (.int .i64 (k : Int)) := t8
                go_simp
                exact hK _ _ jE rfl (fun _ _ _ h => h) (fun _ => iO) (fun he => absurd he (by decide))
              · refine stepU_plain rfl ?_
                rintro F a w1 jE - ⟨t9, -⟩ iO K hK
                replace iO := iO (by decide)
                have t9 : a.tmps[9]? = some (.bool false) := t9
                go_simp
                exact hK _ _ jE rfl (fun _ _ _ h => h) (fun _ => iO) (fun he => absurd he (by decide))
              · refine stepU_plain rfl ?_
                rintro F a w1 jE ⟨h2, t45, -⟩ - iO K hK
                replace iO := iO (by decide)
                have h2 : (F 2) = .bool false := h2
                rw [h2] at t45
                clear h2
                go_simp
                exact hK _ _ jE rfl (fun _ _ _ h => h) (fun _ => iO) (fun he => absurd he (by decide))
              · refine stepU_at ?_
                rintro F a w1 jE ⟨h3, t46, -⟩ ⟨t2, -⟩ iO K hK
                replace iO := iO (by decide)
                have h3 : (F 3) = .bool false := h3
                rw [h3] at t46
                clear h3
                have t2 : a.tmps[2]? = some (.pointer (some ⟨gt, 0, none⟩)) := t2
                exact stepN ((wanted_of 3 true 46 _ rfl rfl t46).trans rfl) (hK undef _ jE rfl (fun _ _ _ h => h) (fun _ => iO) (fun he => absurd he (by decide)))
              · refine stepU_at ?_
                rintro F a w1 jE ⟨h3, t46, -⟩ ⟨t8, -⟩ iO K hK
                replace iO := iO (by decide)
                have h3 : (F 3) = .bool false := h3
                rw [h3] at t46
                clear h3
                have t8 : a.tmps[8]? = some (.int .i64 (k : Int)) := t8
                exact stepN ((wanted_of 3 true 46 _ rfl rfl t46).trans rfl) (hK undef _ jE rfl (fun _ _ _ h => h) (fun _ => iO) (fun he => absurd he (by decide)))
              · refine stepU_at ?_
                rintro F a w1 jE ⟨h4, t47, h5, t48, h3, t46, -⟩ - iO K hK
                replace iO := iO (by decide)
                have h4 : (F 4) = undef := h4
                rw [h4] at t47
                clear h4
                have h5 : (F 5) = undef := h5
                rw [h5] at t48
                clear h5
                have h3 : (F 3) = .bool false := h3
                rw [h3] at t46
                clear h3
                exact stepN ((wanted_of 3 true 46 _ rfl rfl t46).trans rfl) (hK undef _ jE rfl (fun _ _ _ h => h) (fun _ => iO) (fun he => absurd he (by decide)))
              · refine stepU_at ?_
                rintro F a w1 jE ⟨h6, t49, h3, t46, -⟩ - iO K hK
                replace iO := iO (by decide)
                have h6 : (F 6) = undef := h6
                rw [h6] at t49
                clear h6
                have h3 : (F 3) = .bool false := h3
                rw [h3] at t46
                clear h3
                exact stepN ((wanted_of 3 true 46 _ rfl rfl t46).trans rfl) (hK undef _ jE rfl (fun _ _ _ h => h) (fun _ => iO) (fun he => absurd he (by decide)))
              · refine stepU_plain rfl ?_
                rintro F a w1 jE ⟨h3, t46, h7, t50, -⟩ - iO K hK
                replace iO := iO (by decide)
                have h3 : (F 3) = .bool false := h3
                rw [h3] at t46
                clear h3
                have h7 : (F 7) = undef := h7
                rw [h7] at t50
                clear h7
                go_simp
                exact hK _ _ jE rfl (fun _ _ _ h => h) (fun _ => iO) (fun he => absurd he (by decide))
              · refine stepU_plain rfl ?_
                rintro F a w1 jE ⟨h0, t43, h1, t44, h8, t51, -⟩ - iO K hK
                replace iO := iO (by decide)
                have h0 : (F 0) = (.func (.func 65) #[] #[.pointer (some ⟨gt, 0, none⟩), .pointer (some ⟨gb, 0, none⟩), .pointer (some ⟨gd, 0, none⟩)]) := h0
                rw [h0] at t43
                clear h0
                have h1 : (F 1) = .int .i64 (k : Int) := h1
                rw [h1] at t44
                clear h1
                have h8 : (F 8) = .bool false := h8
                rw [h8] at t51
                clear h8
                go_simp
                with_reducible refine (unhide (IHk _ _ _ iO HA6 (by omega) hl6)).mono ?_
                rintro e w2 ⟨rfl, hD⟩
                exact hK _ _ jE ⟨hD, rfl⟩ (fun _ hj _ _ => (List.not_mem_nil hj).elim) (fun h => (h (by simp)).elim) (fun he => absurd he (by decide))
              · refine stepU_plain rfl ?_
                rintro F a w1 jE ⟨h9, t52, -⟩ - iO K hK
                clear iO
                have h9 : Ins w0 (Tr.cs ⟨some ⟨b, off, none⟩, nl, nc, aa, al, ac, view⟩) (.func (.func 65) #[] #[.pointer (some ⟨gt, 0, none⟩), .pointer (some ⟨gb, 0, none⟩), .pointer (some ⟨gd, 0, none⟩)]) gt gb gd w1 (l1 ++ insR ns r (k + 1) E2) ∧ (F 9) = .int .i64 ((E2 : Nat) : Int) := h9
                obtain ⟨hD, h9⟩ := h9
                rw [h9] at t52
                go_simp
                exact hK _ _ jE ⟨hD, rfl⟩ (fun _ _ _ h => h) (fun h => (h (by simp)).elim) (fun he => absurd he (by decide))
            · rintro F w2 jE ⟨h10, -⟩ -
              have h10 : Ins w0 (Tr.cs ⟨some ⟨b, off, none⟩, nl, nc, aa, al, ac, view⟩) (.func (.func 65) #[] #[.pointer (some ⟨gt, 0, none⟩), .pointer (some ⟨gb, 0, none⟩), .pointer (some ⟨gd, 0, none⟩)]) gt gb gd w2 (l1 ++ insR ns r (k + 1) E2) ∧ (F 10) = .int .i64 ((E2 : Nat) : Int) := h10
              obtain ⟨D4, h10⟩ := h10
              simp only [putL, Act.put, Nat.reduceAdd, Nat.zero_add, List.setIfInBounds_toArray, List.set_cons_succ, List.set_cons_zero]
              rw [h10]
              clear h10
              go_wp2_with fail
              go_roundw
              case rel => exact ⟨E2, l1 ++ insR ns r (k + 1) E2, rfl, by omega, by omega, HC2, HL3, D4⟩
              case measure => simp [intOf]; omega
          · have HL3 := unhide HL2 true ((unhide HQ).trans (by simp [kk3]))
            have HA6 : Asks ns r k (!rr) := by have := unhide HAK; simpa [kk3] using this
            simp only [if_true] at HL3
            have BBc := BB.cell
            have BBf := BB.frozen
            have BBl := BB.lt
            have kkb : (kk != 3) = true := by simpa using kk3
            go_upto_region 6 with (first
              | (at_builtin
                 refine wpList_append_rd rfl (.tmp 39) (.tmp 41) _ rfl (gd + 1) 3 i0 _ 1 8 Try.underlying36 (unhide HI).1 (unhide HI).2.1 (unhide HI).2.2.1 (unhide HI).2.2.2 rfl (by omega) _ l1.length (ints l1) rfl (own_extI OO ((Ext.refl _).alloc _)) _ 1 1 [.int .i64 (k : Int)] rfl (Rd.one _ _) (by simp [Value.oneCell']) (by simp only [maxLen]; omega) (by omega) (by have := D.bd.lt; simp; omega) ?_
                 intro A4 c4 w4 own4 g4 at4
                 have hx := (Ext.refl wr).alloc (.cells #[.int .i64 (k : Int)] 3)
                 have D2 := (D.step hx).push (BB.ext hx) (own_extI OO hx) g4 own4 (by simp)
                 have BB4 := (BB.ext hx).grown g4 (fun e => by have := (OO.lt _ e).1; have := D.far; omega)
                 have d4 := BB4.cell
                 have f4 := BB4.frozen
                 have l4 := BB4.lt))
            have hl6 : (l1 ++ [(k : Int)]).length ≤ k + 1 := by simp; omega
            generalize w4.setCell _ _ = w6 at *
            refine wp_region_linU (by kernel_rfl) (fun w' => (True)) (fun ii vv ww => match ii with | 0 => vv = (.func (.func 65) #[] #[.pointer (some ⟨gt, 0, none⟩), .pointer (some ⟨gb, 0, none⟩), .pointer (some ⟨gd, 0, none⟩)]) | 1 => vv = .int .i64 (k : Int) | 2 => vv = .bool true | 3 => vv = .bool true | 4 => vv = (.agg (Tr.cs ⟨some ⟨b, off, none⟩, nl, nc, aa, al, ac, view⟩)) | 5 => vv = .int .i64 (k : Int) | 6 => vv = .bool rr | 7 => vv = .bool (!rr) | 8 => vv = .bool (!rr) | 9 => Ins w0 (Tr.cs ⟨some ⟨b, off, none⟩, nl, nc, aa, al, ac, view⟩) (.func (.func 65) #[] #[.pointer (some ⟨gt, 0, none⟩), .pointer (some ⟨gb, 0, none⟩), .pointer (some ⟨gd, 0, none⟩)]) gt gb gd ww ((l1 ++ [(k : Int)]) ++ insR ns r (k + 1) E2) ∧ vv = .int .i64 ((E2 : Nat) : Int) | 10 => Ins w0 (Tr.cs ⟨some ⟨b, off, none⟩, nl, nc, aa, al, ac, view⟩) (.func (.func 65) #[] #[.pointer (some ⟨gt, 0, none⟩), .pointer (some ⟨gb, 0, none⟩), .pointer (some ⟨gd, 0, none⟩)]) gt gb gd ww ((l1 ++ [(k : Int)]) ++ insR ns r (k + 1) E2) ∧ vv = .int .i64 ((E2 : Nat) : Int) | _ => True) (fun ii => match ii with | 3 => [(2, 45)] | 4 => [(3, 46)] | 5 => [(3, 46)] | 6 => [(4, 47), (5, 48), (3, 46)] | 7 => [(6, 49), (3, 46)] | 8 => [(3, 46), (7, 50)] | 9 => [(0, 43), (1, 44), (8, 51)] | 10 => [(9, 52)] | _ => []) (fun ii => match ii with | 0 => [4] | 1 => [8] | 2 => [9] | 4 => [2] | 5 => [8] | _ => []) (fun ii => match ii with | 0 => [2, 3, 4, 5, 6, 7, 1, 8] | 1 => [2, 3, 4, 5, 6, 7, 0, 8] | 2 => [0, 1] | 3 => [0, 1] | 4 => [3, 5, 0, 1] | 5 => [3, 4, 0, 1] | 6 => [3, 0, 1] | 7 => [3, 0, 1] | 8 => [0, 1] | _ => []) [10] [0, 0, 0, 4, 12, 12, 60, 124, 252, 511, 1023] (fun w0q => Ins w0 (Tr.cs ⟨some ⟨b, off, none⟩, nl, nc, aa, al, ac, view⟩) (.func (.func 65) #[] #[.pointer (some ⟨gt, 0, none⟩), .pointer (some ⟨gb, 0, none⟩), .pointer (some ⟨gd, 0, none⟩)]) gt gb gd w0q (l1 ++ [(k : Int)])) [9, 10] [10] (fun _ _ => True) 11 54 rfl (by kernel_rfl) (by kernel_rfl) (.inr (by decide)) (trivial) (D2.step (Ext.refl _).drew) ?_ ?_
            · rename_i hcont; clear hcont
              refine ⟨?_, ?_, ?_, ?_, ?_, ?_, ?_, ?_, ?_, ?_, ?_, trivial⟩
              · refine stepU_plain rfl ?_
                rintro F a w1 jE - ⟨t4, -⟩ iO K hK
                replace iO := iO (by decide)
                have t4 : a.tmps[4]? = some (.pointer (some ⟨gd, 0, none⟩)) := t4
                have c := iO.bd.cell
                go_simp
                exact hK _ _ jE rfl (fun _ _ _ h => h) (fun _ => iO) (fun he => absurd he (by decide))
              · refine stepU_plain rfl ?_
                rintro F a w1 jE - ⟨t8, -⟩ iO K hK
                replace iO := iO (by decide)
                have t8 : a.tmps[8]? = some (.int .i64 (k : Int)) := t8
                go_simp
                exact hK _ _ jE rfl (fun _ _ _ h => h) (fun _ => iO) (fun he => absurd he (by decide))
              · refine stepU_plain rfl ?_
                rintro F a w1 jE - ⟨t9, -⟩ iO K hK
                replace iO := iO (by decide)
                have t9 : a.tmps[9]? = some (.bool true) := t9
                go_simp
                exact hK _ _ jE rfl (fun _ _ _ h => h) (fun _ => iO) (fun he => absurd he (by decide))
              · refine stepU_plain rfl ?_
                rintro F a w1 jE ⟨h2, t45, -⟩ - iO K hK
                replace iO := iO (by decide)
                have h2 : (F 2) = .bool true := h2
                rw [h2] at t45
                clear h2
                go_simp
                exact hK _ _ jE rfl (fun _ _ _ h => h) (fun _ => iO) (fun he => absurd he (by decide))
              · refine stepU_at ?_
                rintro F a w1 jE ⟨h3, t46, -⟩ ⟨t2, -⟩ iO K hK
                replace iO := iO (by decide)
                have h3 : (F 3) = .bool true := h3
                rw [h3] at t46
                clear h3
                have t2 : a.tmps[2]? = some (.pointer (some ⟨gt, 0, none⟩)) := t2
                refine stepY ((wanted_of 3 true 46 _ rfl rfl t46).trans rfl) ?_
                refine wp_load_blk 25 _ rfl gt (eval_tmp t2) 25 (Tr.cs ⟨some ⟨b, off, none⟩, nl, nc, aa, al, ac, view⟩) _ iO.bt Try.underlying25 rfl (info_tree _) ?_
                exact hK _ _ jE rfl (fun _ _ _ h => h) (fun _ => iO) (fun he => absurd he (by decide))
              · refine stepU_at ?_
                rintro F a w1 jE ⟨h3, t46, -⟩ ⟨t8, -⟩ iO K hK
                replace iO := iO (by decide)
                have h3 : (F 3) = .bool true := h3
                rw [h3] at t46
                clear h3
                have t8 : a.tmps[8]? = some (.int .i64 (k : Int)) := t8
                refine stepY ((wanted_of 3 true 46 _ rfl rfl t46).trans rfl) ?_
                go_simp
                exact hK _ _ jE rfl (fun _ _ _ h => h) (fun _ => iO) (fun he => absurd he (by decide))
              · refine stepU_at ?_
                rintro F a w1 jE ⟨h4, t47, h5, t48, h3, t46, -⟩ - iO K hK
                replace iO := iO (by decide)
                have h4 : (F 4) = (.agg (Tr.cs ⟨some ⟨b, off, none⟩, nl, nc, aa, al, ac, view⟩)) := h4
                rw [h4] at t47
                clear h4
                have h5 : (F 5) = .int .i64 (k : Int) := h5
                rw [h5] at t48
                clear h5
                have h3 : (F 3) = .bool true := h3
                rw [h3] at t46
                clear h3
                refine stepY ((wanted_of 3 true 46 _ rfl rfl t46).trans rfl) ?_
                go_simp
                with_reducible refine (unhide (cuk _ (h.ext iO.ext))).mono ?_
                rintro e w2 ⟨rfl, hx⟩
                exact hK _ _ jE (rfl) (by intro jq hj uq h; have hj : jq ∈ [3, 0, 1] := hj; simp only [List.mem_cons, List.not_mem_nil, or_false] at hj; rcases hj with rfl | rfl | rfl; exact h; exact h; exact h) (fun _ => iO.step hx) (fun he => absurd he (by decide))
              · refine stepU_at ?_
                rintro F a w1 jE ⟨h6, t49, h3, t46, -⟩ - iO K hK
                replace iO := iO (by decide)
                have h6 : (F 6) = .bool rr := h6
                rw [h6] at t49
                clear h6
                have h3 : (F 3) = .bool true := h3
                rw [h3] at t46
                clear h3
                refine stepY ((wanted_of 3 true 46 _ rfl rfl t46).trans rfl) ?_
                go_simp
                exact hK _ _ jE rfl (fun _ _ _ h => h) (fun _ => iO) (fun he => absurd he (by decide))
              · refine stepU_plain rfl ?_
                rintro F a w1 jE ⟨h3, t46, h7, t50, -⟩ - iO K hK
                replace iO := iO (by decide)
                have h3 : (F 3) = .bool true := h3
                rw [h3] at t46
                clear h3
                have h7 : (F 7) = .bool (!rr) := h7
                rw [h7] at t50
                clear h7
                go_simp
                exact hK _ _ jE rfl (fun _ _ _ h => h) (fun _ => iO) (fun he => absurd he (by decide))
              · refine stepU_plain rfl ?_
                rintro F a w1 jE ⟨h0, t43, h1, t44, h8, t51, -⟩ - iO K hK
                replace iO := iO (by decide)
                have h0 : (F 0) = (.func (.func 65) #[] #[.pointer (some ⟨gt, 0, none⟩), .pointer (some ⟨gb, 0, none⟩), .pointer (some ⟨gd, 0, none⟩)]) := h0
                rw [h0] at t43
                clear h0
                have h1 : (F 1) = .int .i64 (k : Int) := h1
                rw [h1] at t44
                clear h1
                have h8 : (F 8) = .bool (!rr) := h8
                rw [h8] at t51
                clear h8
                go_simp
                with_reducible refine (unhide (IHk _ _ _ iO HA6 (by omega) hl6)).mono ?_
                rintro e w2 ⟨rfl, hD⟩
                exact hK _ _ jE ⟨hD, rfl⟩ (fun _ hj _ _ => (List.not_mem_nil hj).elim) (fun h => (h (by simp)).elim) (fun he => absurd he (by decide))
              · refine stepU_plain rfl ?_
                rintro F a w1 jE ⟨h9, t52, -⟩ - iO K hK
                clear iO
                have h9 : Ins w0 (Tr.cs ⟨some ⟨b, off, none⟩, nl, nc, aa, al, ac, view⟩) (.func (.func 65) #[] #[.pointer (some ⟨gt, 0, none⟩), .pointer (some ⟨gb, 0, none⟩), .pointer (some ⟨gd, 0, none⟩)]) gt gb gd w1 ((l1 ++ [(k : Int)]) ++ insR ns r (k + 1) E2) ∧ (F 9) = .int .i64 ((E2 : Nat) : Int) := h9
                obtain ⟨hD, h9⟩ := h9
                rw [h9] at t52
                go_simp
                exact hK _ _ jE ⟨hD, rfl⟩ (fun _ _ _ h => h) (fun h => (h (by simp)).elim) (fun he => absurd he (by decide))
            · rintro F w2 jE ⟨h10, -⟩ -
              have h10 : Ins w0 (Tr.cs ⟨some ⟨b, off, none⟩, nl, nc, aa, al, ac, view⟩) (.func (.func 65) #[] #[.pointer (some ⟨gt, 0, none⟩), .pointer (some ⟨gb, 0, none⟩), .pointer (some ⟨gd, 0, none⟩)]) gt gb gd w2 ((l1 ++ [(k : Int)]) ++ insR ns r (k + 1) E2) ∧ (F 10) = .int .i64 ((E2 : Nat) : Int) := h10
              obtain ⟨D4, h10⟩ := h10
              simp only [putL, Act.put, Nat.reduceAdd, Nat.zero_add, List.setIfInBounds_toArray, List.set_cons_succ, List.set_cons_zero]
              rw [h10]
              clear h10
              go_wp2_with fail
              go_roundw
              case rel => exact ⟨E2, (l1 ++ [(k : Int)]) ++ insR ns r (k + 1) E2, rfl, by omega, by omega, HC2, HL3, D4⟩
              case measure => simp [intOf]; omega
      · have hpb : (nP ns k == (i : Int)) = false := by simpa using hpk
        have hkE : k = E := by
          rcases hN with hN | hN
          · exact absurd hN.1 hpk
          · exact hN.2
        have HKE := hide hkE
        clear hkE hN hpk IH cu
        generalize nP ns k = pp at *
        go_wp2_with fail
        go_ret
        refine ⟨ret1 (by rw [unhide HKE]), ?_⟩
        have := D
        rw [unhide HL1, unhide HKE] at this
        exact this
    · have hkE : k = E := by have := unhide HL; omega
      have HKE := hide hkE
      have hkI : ¬ ((k : Int) < (nl : Int)) := by omega
      clear hkE IH cu
      go_wp2_with fail
      go_ret
      refine ⟨ret1 (by rw [unhide HKE]), ?_⟩
      have := D
      rw [unhide HL1, unhide HKE] at this
      exact this
end
end Go.Proofs.Ytnolbmfjgfojhaa
