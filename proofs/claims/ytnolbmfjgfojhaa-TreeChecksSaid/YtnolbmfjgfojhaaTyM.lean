/- Styles: the same but for where the units lie (walk). Trees: a tree and its copy are the same (walk). Trees: the law TreeChecks (walk). -/
import Derived.Test.YtnolbmfjgfojhaaSp6
import Derived.Test.YtnolbmfjgfojhaaLinB
import Derived.Deep.Cut
import Derived.Test.YtnolbmfjgfojhaaCpZ
import Derived.BigQuiet
namespace Go.Proofs.Ytnolbmfjgfojhaa
open Go.RowKit
@[reducible] def stC (s : Sty) (A : Option Addr) (c : Nat) : Array Value := #[.int .u8 s.kind, .bool s.flow, .int .u8 s.float, .int .u8 s.clear, .int .u8 s.w.k, .int .i64 s.w.n, .int .u8 s.h.k, .int .i64 s.h.n, .int .u8 s.minw.k, .int .i64 s.minw.n, .int .u8 s.maxw.k, .int .i64 s.maxw.n, .int .u8 s.minh.k, .int .i64 s.minh.n, .int .u8 s.maxh.k, .int .i64 s.maxh.n, .int .u8 s.m0.k, .int .i64 s.m0.n, .int .u8 s.m1.k, .int .i64 s.m1.n, .int .u8 s.m2.k, .int .i64 s.m2.n, .int .u8 s.m3.k, .int .i64 s.m3.n, .int .i64 s.b0, .int .i64 s.b1, .int .i64 s.b2, .int .i64 s.b3, .int .i64 s.p0, .int .i64 s.p1, .int .i64 s.p2, .int .i64 s.p3, .int .u8 s.align, .int .i64 s.line, .bool s.wrap, .int .u8 s.justify, .int .u8 s.items, .int .i64 s.order, .int .i64 s.grow, .int .i64 s.shrink, .int .u8 s.basis.k, .int .i64 s.basis.n, .slice A s.ul c]
@[reducible] def stU (s : Sty) (A : Option Addr) (c : Nat) : Sty := { s with ua := A, uc := c }
theorem stU_cells (s : Sty) (A : Option Addr) (c : Nat) : (stU s A c).cells = stC s A c := rfl
theorem eq_lnS (l : Ln) (w : World) : (Op.equalIn 10000 40 (.agg #[.int .u8 l.k, .int .i64 l.n]) (.agg #[.int .u8 l.k, .int .i64 l.n])).run Try.prog w = .ok true w := by
  have h := eq_len 9998 l l w
  rw [show (l.k == l.k && l.n == l.n) = true by simp] at h
  exact h
theorem eq_i4S (x y p q : Int) (w : World) : (Op.equalIn 10000 42 (.agg #[.int .i64 x, .int .i64 y, .int .i64 p, .int .i64 q]) (.agg #[.int .i64 x, .int .i64 y, .int .i64 p, .int .i64 q])).run Try.prog w = .ok true w := by
  have hu := Try.underlying2
  have ha := Try.underlying42
  rw [show (10000 : Nat) = 9999 + 1 from rfl, Op.equalIn]
  simp only [Sem.run_bind, run_underlying ha, Result.andThen_ok]
  simp only [Std.Legacy.Range.forIn_eq_forIn_range', Std.Legacy.Range.size, Nat.sub_zero, Nat.add_sub_cancel, Nat.div_one, List.range'_succ, List.range'_zero, List.forIn_cons, List.forIn_nil]
  go_simp
set_option maxRecDepth 100000 in
set_option maxHeartbeats 4000000 in
theorem eq_l4S (l0 l1 l2 l3 : Ln) (w : World) : (Op.equalIn 10000 41 (.agg #[.int .u8 l0.k, .int .i64 l0.n, .int .u8 l1.k, .int .i64 l1.n, .int .u8 l2.k, .int .i64 l2.n, .int .u8 l3.k, .int .i64 l3.n]) (.agg #[.int .u8 l0.k, .int .i64 l0.n, .int .u8 l1.k, .int .i64 l1.n, .int .u8 l2.k, .int .i64 l2.n, .int .u8 l3.k, .int .i64 l3.n])).run Try.prog w = .ok true w := by
  have ha := Try.underlying41
  have hu := Try.underlying2
  have hu8 := Try.underlying5
  have hE := fun (l : Ln) (w : World) => eq_len 9997 l l w
  simp only [beq_self_eq_true, Bool.and_self] at hE
  rw [show (10000 : Nat) = 9999 + 1 from rfl, Op.equalIn]
  simp only [Sem.run_bind, run_underlying ha, Result.andThen_ok]
  simp only [Std.Legacy.Range.forIn_eq_forIn_range', Std.Legacy.Range.size, Nat.sub_zero, Nat.add_sub_cancel, Nat.div_one, List.range'_succ, List.range'_zero, List.forIn_cons, List.forIn_nil]
  have hE0 := hE l0
  have hE1 := hE l1
  have hE2 := hE l2
  have hE3 := hE l3
  clear hE
  go_simp
set_option maxRecDepth 100000 in
set_option maxHeartbeats 16000000 in
theorem same_eq (s : Sty) (A B : Option Addr) (c d : Nat) (us : List Int) (w : World) (ha : Rd w 1 A s.ul (u16s us)) (hb : Rd w 1 B s.ul (u16s us)) (hm : s.ul ≤ 1000000) :
    Calls Try.prog 56 #[.agg (stC s A c), .agg (stC s B d)] w fun e w' => e = .returned (.bool true) ∧ Ext w w' := by
  go_enter Try.func56, Try.ntmps56
  go_upto_region 1 with fail
  have B1 : Blk ((w.alloc (.cells (stC s A c) 45)).alloc (.cells (stC s B d) 45)) w.heap.size 45 (stC s A c) := (Blk.new _ _ _).alloc _
  have B2 : Blk ((w.alloc (.cells (stC s A c) 45)).alloc (.cells (stC s B d) 45)) (w.heap.size + 1) 45 (stC s B d) := Blk.new1 _ _ _ _
  have E1 : Ext w ((w.alloc (.cells (stC s A c) 45)).alloc (.cells (stC s B d) 45)) := ((Ext.refl _).alloc _).alloc _
  have RA := ha.ext E1
  have RB := hb.ext E1
  clear ha hb
  generalize ((w.alloc (.cells (stC s A c) 45)).alloc (.cells (stC s B d) 45)) = w1 at *
  generalize hg : w.heap.size = g at *
  have HG := hide hg
  clear hg
  have d1 := B1.cell
  have d2 := B2.cell
  have l1 := B1.lt
  have l2 := B2.lt
  go_wp2_with fail
  clear d1 d2 l1 l2
  go_loopw [5] (fun i wr => ∃ k : Nat, i = .int .i64 k ∧ k ≤ s.ul ∧ Ext w wr ∧ Blk wr g 45 (stC s A c) ∧ Blk wr (g + 1) 45 (stC s B d) ∧ Rd wr 1 A s.ul (u16s us) ∧ Rd wr 1 B s.ul (u16s us)) (fun i _ => s.ul - (intOf i).toNat)
  case atStart => exact ⟨0, rfl, by omega, E1, B1, B2, RA, RB⟩
  case round =>
    clear E1 B1 B2 RA RB w1
    obtain ⟨k, rfl, q1, E1, B1, B2, RA, RB⟩ := hrel
    have d1 := B1.cell
    have d2 := B2.cell
    have l1 := B1.lt
    have l2 := B2.lt
    by_cases hk : k < s.ul
    · obtain ⟨b1, o1, u1, e1, hb1, hu1, hc1⟩ := RA.get hk
      obtain ⟨b2, o2, u2, e2, hb2, hu2, hc2⟩ := RB.get hk
      have huu : u2 = u1 := by rw [hu1] at hu2; exact (Option.some.inj hu2).symm
      subst huu
      have hx : ∃ x, u2 = .int .u16 x := by
        rw [u16s, List.getElem?_map] at hu1
        cases h : us[k]? with
        | none => rw [h] at hu1; cases hu1
        | some x => rw [h] at hu1; exact ⟨x, (Option.some.inj hu1).symm⟩
      obtain ⟨x, rfl⟩ := hx
      subst e1
      subst e2
      have hin : (0 : Int) ≤ (k : Int) ∧ (k : Int) < (s.ul : Int) := by omega
      have hkI : (k : Int) < (s.ul : Int) := by omega
      clear hu1 hu2
      go_wp2_with fail
      go_quiet (fail)
      go_wp2_with fail
      go_roundw
      case rel => exact ⟨k + 1, by go_num, by omega, E1.drewN _, B1.drewN _, B2.drewN _, RA.drewN _, RB.drewN _⟩
      case measure => simp [intOf]; omega
    · have hkI : ¬ ((k : Int) < (s.ul : Int)) := by omega
      clear RA RB q1
      go_upto_region 8 with fail
      clear d1 d2 l1 l2
      refine wp_region_lin0 (fun w' => (ExtX wr w' [])) (fun ii vv ww => match ii with | 0 => vv = .pointer (some ⟨g, 0, none⟩) | 1 => vv = .int .u8 s.kind | 2 => vv = .pointer (some ⟨(g + 1), 0, none⟩) | 3 => vv = .int .u8 s.kind | 4 => vv = .bool true | 5 => vv = .bool true | 6 => vv = .pointer (some ⟨g, 1, none⟩) | 7 => vv = .bool s.flow | 8 => vv = .pointer (some ⟨(g + 1), 1, none⟩) | 9 => vv = .bool s.flow | 10 => vv = .bool true | 11 => vv = .bool true | 12 => vv = .bool true | 13 => vv = .pointer (some ⟨g, 2, none⟩) | 14 => vv = .int .u8 s.float | 15 => vv = .pointer (some ⟨(g + 1), 2, none⟩) | 16 => vv = .int .u8 s.float | 17 => vv = .bool true | 18 => vv = .bool true | 19 => vv = .bool true | 20 => vv = .pointer (some ⟨g, 3, none⟩) | 21 => vv = .int .u8 s.clear | 22 => vv = .pointer (some ⟨(g + 1), 3, none⟩) | 23 => vv = .int .u8 s.clear | 24 => vv = .bool true | 25 => vv = .bool true | 26 => vv = .bool true | 27 => vv = .pointer (some ⟨g, 32, none⟩) | 28 => vv = .int .u8 s.align | 29 => vv = .pointer (some ⟨(g + 1), 32, none⟩) | 30 => vv = .int .u8 s.align | 31 => vv = .bool true | 32 => vv = .bool true | 33 => vv = .bool true | 34 => vv = .pointer (some ⟨g, 33, none⟩) | 35 => vv = .int .i64 s.line | 36 => vv = .pointer (some ⟨(g + 1), 33, none⟩) | 37 => vv = .int .i64 s.line | 38 => vv = .bool true | 39 => vv = .bool true | 40 => vv = .bool true | 41 => vv = .pointer (some ⟨g, 34, none⟩) | 42 => vv = .bool s.wrap | 43 => vv = .pointer (some ⟨(g + 1), 34, none⟩) | 44 => vv = .bool s.wrap | 45 => vv = .bool true | 46 => vv = .bool true | 47 => vv = .bool true | 48 => vv = .pointer (some ⟨g, 35, none⟩) | 49 => vv = .int .u8 s.justify | 50 => vv = .pointer (some ⟨(g + 1), 35, none⟩) | 51 => vv = .int .u8 s.justify | 52 => vv = .bool true | 53 => vv = .bool true | 54 => vv = .bool true | 55 => vv = .pointer (some ⟨g, 36, none⟩) | 56 => vv = .int .u8 s.items | 57 => vv = .pointer (some ⟨(g + 1), 36, none⟩) | 58 => vv = .int .u8 s.items | 59 => vv = .bool true | 60 => vv = .bool true | 61 => vv = .bool true | 62 => vv = .pointer (some ⟨g, 37, none⟩) | 63 => vv = .int .i64 s.order | 64 => vv = .pointer (some ⟨(g + 1), 37, none⟩) | 65 => vv = .int .i64 s.order | 66 => vv = .bool true | 67 => vv = .bool true | 68 => vv = .bool true | 69 => vv = .pointer (some ⟨g, 38, none⟩) | 70 => vv = .int .i64 s.grow | 71 => vv = .pointer (some ⟨(g + 1), 38, none⟩) | 72 => vv = .int .i64 s.grow | 73 => vv = .bool true | 74 => vv = .bool true | 75 => vv = .bool true | 76 => vv = .pointer (some ⟨g, 39, none⟩) | 77 => vv = .int .i64 s.shrink | 78 => vv = .pointer (some ⟨(g + 1), 39, none⟩) | 79 => vv = .int .i64 s.shrink | 80 => vv = .bool true | 81 => vv = .bool true | 82 => vv = .bool true | _ => True) (fun ii => match ii with | 1 => [(0, 33)] | 3 => [(2, 35)] | 4 => [(1, 34), (3, 36)] | 5 => [(4, 37)] | 6 => [(5, 38)] | 7 => [(6, 39), (5, 38)] | 8 => [(5, 38)] | 9 => [(8, 41), (5, 38)] | 10 => [(7, 40), (9, 42), (5, 38)] | 11 => [(5, 38), (10, 43)] | 12 => [(11, 44)] | 13 => [(12, 45)] | 14 => [(13, 46), (12, 45)] | 15 => [(12, 45)] | 16 => [(15, 48), (12, 45)] | 17 => [(14, 47), (16, 49), (12, 45)] | 18 => [(12, 45), (17, 50)] | 19 => [(18, 51)] | 20 => [(19, 52)] | 21 => [(20, 53), (19, 52)] | 22 => [(19, 52)] | 23 => [(22, 55), (19, 52)] | 24 => [(21, 54), (23, 56), (19, 52)] | 25 => [(19, 52), (24, 57)] | 26 => [(25, 58)] | 27 => [(26, 59)] | 28 => [(27, 60), (26, 59)] | 29 => [(26, 59)] | 30 => [(29, 62), (26, 59)] | 31 => [(28, 61), (30, 63), (26, 59)] | 32 => [(26, 59), (31, 64)] | 33 => [(32, 65)] | 34 => [(33, 66)] | 35 => [(34, 67), (33, 66)] | 36 => [(33, 66)] | 37 => [(36, 69), (33, 66)] | 38 => [(35, 68), (37, 70), (33, 66)] | 39 => [(33, 66), (38, 71)] | 40 => [(39, 72)] | 41 => [(40, 73)] | 42 => [(41, 74), (40, 73)] | 43 => [(40, 73)] | 44 => [(43, 76), (40, 73)] | 45 => [(42, 75), (44, 77), (40, 73)] | 46 => [(40, 73), (45, 78)] | 47 => [(46, 79)] | 48 => [(47, 80)] | 49 => [(48, 81), (47, 80)] | 50 => [(47, 80)] | 51 => [(50, 83), (47, 80)] | 52 => [(49, 82), (51, 84), (47, 80)] | 53 => [(47, 80), (52, 85)] | 54 => [(53, 86)] | 55 => [(54, 87)] | 56 => [(55, 88), (54, 87)] | 57 => [(54, 87)] | 58 => [(57, 90), (54, 87)] | 59 => [(56, 89), (58, 91), (54, 87)] | 60 => [(54, 87), (59, 92)] | 61 => [(60, 93)] | 62 => [(61, 94)] | 63 => [(62, 95), (61, 94)] | 64 => [(61, 94)] | 65 => [(64, 97), (61, 94)] | 66 => [(63, 96), (65, 98), (61, 94)] | 67 => [(61, 94), (66, 99)] | 68 => [(67, 100)] | 69 => [(68, 101)] | 70 => [(69, 102), (68, 101)] | 71 => [(68, 101)] | 72 => [(71, 104), (68, 101)] | 73 => [(70, 103), (72, 105), (68, 101)] | 74 => [(68, 101), (73, 106)] | 75 => [(74, 107)] | 76 => [(75, 108)] | 77 => [(76, 109), (75, 108)] | 78 => [(75, 108)] | 79 => [(78, 111), (75, 108)] | 80 => [(77, 110), (79, 112), (75, 108)] | 81 => [(75, 108), (80, 113)] | 82 => [(81, 114)] | _ => []) (fun ii => match ii with | 0 => [2] | 2 => [3] | 6 => [2] | 8 => [3] | 13 => [2] | 15 => [3] | 20 => [2] | 22 => [3] | 27 => [2] | 29 => [3] | 34 => [2] | 36 => [3] | 41 => [2] | 43 => [3] | 48 => [2] | 50 => [3] | 55 => [2] | 57 => [3] | 62 => [2] | 64 => [3] | 69 => [2] | 71 => [3] | 76 => [2] | 78 => [3] | _ => []) (fun ii => match ii with | 0 => [2, 3] | 1 => [2, 3] | 2 => [0, 1] | 3 => [0, 1] | 6 => [5, 8, 9] | 7 => [5, 8, 9] | 8 => [5, 6, 7] | 9 => [5, 6, 7] | 10 => [5] | 13 => [12, 15, 16] | 14 => [12, 15, 16] | 15 => [12, 13, 14] | 16 => [12, 13, 14] | 17 => [12] | 20 => [19, 22, 23] | 21 => [19, 22, 23] | 22 => [19, 20, 21] | 23 => [19, 20, 21] | 24 => [19] | 27 => [26, 29, 30] | 28 => [26, 29, 30] | 29 => [26, 27, 28] | 30 => [26, 27, 28] | 31 => [26] | 34 => [33, 36, 37] | 35 => [33, 36, 37] | 36 => [33, 34, 35] | 37 => [33, 34, 35] | 38 => [33] | 41 => [40, 43, 44] | 42 => [40, 43, 44] | 43 => [40, 41, 42] | 44 => [40, 41, 42] | 45 => [40] | 48 => [47, 50, 51] | 49 => [47, 50, 51] | 50 => [47, 48, 49] | 51 => [47, 48, 49] | 52 => [47] | 55 => [54, 57, 58] | 56 => [54, 57, 58] | 57 => [54, 55, 56] | 58 => [54, 55, 56] | 59 => [54] | 62 => [61, 64, 65] | 63 => [61, 64, 65] | 64 => [61, 62, 63] | 65 => [61, 62, 63] | 66 => [61] | 69 => [68, 71, 72] | 70 => [68, 71, 72] | 71 => [68, 69, 70] | 72 => [68, 69, 70] | 73 => [68] | 76 => [75, 78, 79] | 77 => [75, 78, 79] | 78 => [75, 76, 77] | 79 => [75, 76, 77] | 80 => [75] | _ => []) [82] [0, 1, 0, 4, 15, 31, 63, 127, 63, 319, 1023, 2047, 4095, 8191, 16383, 8191, 40959, 131071, 262143, 524287, 1048575, 2097151, 1048575, 5242879, 16777215, 33554431, 67108863, 134217727, 268435455, 134217727, 671088639, 2147483647, 4294967295, 8589934591, 17179869183, 34359738367, 17179869183, 85899345919, 274877906943, 549755813887, 1099511627775, 2199023255551, 4398046511103, 2199023255551, 10995116277759, 35184372088831, 70368744177663, 140737488355327, 281474976710655, 562949953421311, 281474976710655, 1407374883553279, 4503599627370495, 9007199254740991, 18014398509481983, 36028797018963967, 72057594037927935, 36028797018963967, 180143985094819839, 576460752303423487, 1152921504606846975, 2305843009213693951, 4611686018427387903, 9223372036854775807, 4611686018427387903, 23058430092136939519, 73786976294838206463, 147573952589676412927, 295147905179352825855, 590295810358705651711, 1180591620717411303423, 590295810358705651711, 2951479051793528258559, 9444732965739290427391, 18889465931478580854783, 37778931862957161709567, 75557863725914323419135, 151115727451828646838271, 75557863725914323419135, 377789318629571617095679, 1208925819614629174706175, 2417851639229258349412351, 4835703278458516698824703] 187 rfl (by kernel_rfl) (ExtX.refl _ _) ?_ ?_
      · rename_i hcont; clear hcont
        refine ⟨?_, ?_, ?_, ?_, ?_, ?_, ?_, ?_, ?_, ?_, ?_, ?_, ?_, ?_, ?_, ?_, ?_, ?_, ?_, ?_, ?_, ?_, ?_, ?_, ?_, ?_, ?_, ?_, ?_, ?_, ?_, ?_, ?_, ?_, ?_, ?_, ?_, ?_, ?_, ?_, ?_, ?_, ?_, ?_, ?_, ?_, ?_, ?_, ?_, ?_, ?_, ?_, ?_, ?_, ?_, ?_, ?_, ?_, ?_, ?_, ?_, ?_, ?_, ?_, ?_, ?_, ?_, ?_, ?_, ?_, ?_, ?_, ?_, ?_, ?_, ?_, ?_, ?_, ?_, ?_, ?_, ?_, ?_, trivial⟩
        · refine stepL_plain rfl ?_
          rintro F a w1 jE - ⟨t2, -⟩ K hK
          have t2 : a.tmps[2]? = some (.pointer (some ⟨g, 0, none⟩)) := t2
          go_simp
          exact hK _ _ jE rfl (fun _ _ _ h => h)
        · refine stepL_plain rfl ?_
          rintro F a w1 jE ⟨h0, t33, -⟩ - K hK
          have h0 : (F 0) = .pointer (some ⟨g, 0, none⟩) := h0
          rw [h0] at t33
          clear h0
          have c := (jE.blk B1 (by simp)).cell
          go_simp
          exact hK _ _ jE rfl (fun _ _ _ h => h)
        · refine stepL_plain rfl ?_
          rintro F a w1 jE - ⟨t3, -⟩ K hK
          have t3 : a.tmps[3]? = some (.pointer (some ⟨(g + 1), 0, none⟩)) := t3
          go_simp
          exact hK _ _ jE rfl (fun _ _ _ h => h)
        · refine stepL_plain rfl ?_
          rintro F a w1 jE ⟨h2, t35, -⟩ - K hK
          have h2 : (F 2) = .pointer (some ⟨(g + 1), 0, none⟩) := h2
          rw [h2] at t35
          clear h2
          have c := (jE.blk B2 (by simp)).cell
          go_simp
          exact hK _ _ jE rfl (fun _ _ _ h => h)
        · refine stepL_plain rfl ?_
          rintro F a w1 jE ⟨h1, t34, h3, t36, -⟩ - K hK
          have h1 : (F 1) = .int .u8 s.kind := h1
          rw [h1] at t34
          clear h1
          have h3 : (F 3) = .int .u8 s.kind := h3
          rw [h3] at t36
          clear h3
          go_simp
          exact hK _ _ jE rfl (fun _ _ _ h => h)
        · refine stepL_plain rfl ?_
          rintro F a w1 jE ⟨h4, t37, -⟩ - K hK
          have h4 : (F 4) = .bool true := h4
          rw [h4] at t37
          clear h4
          go_simp
          exact hK _ _ jE rfl (fun _ _ _ h => h)
        · refine stepL_of ?_
          rintro F a w1 jE ⟨h5, t38, -⟩ ⟨t2, -⟩ K hK
          have h5 : (F 5) = .bool true := h5
          rw [h5] at t38
          clear h5
          have t2 : a.tmps[2]? = some (.pointer (some ⟨g, 0, none⟩)) := t2
          refine stepY ((wanted_of 5 true 38 _ rfl rfl t38).trans rfl) ?_
          go_simp
          exact hK _ _ jE rfl (fun _ _ _ h => h)
        · refine stepL_of ?_
          rintro F a w1 jE ⟨h6, t39, h5, t38, -⟩ - K hK
          have h6 : (F 6) = .pointer (some ⟨g, 1, none⟩) := h6
          rw [h6] at t39
          clear h6
          have h5 : (F 5) = .bool true := h5
          rw [h5] at t38
          clear h5
          refine stepY ((wanted_of 5 true 38 _ rfl rfl t38).trans rfl) ?_
          have c := (jE.blk B1 (by simp)).cell
          go_simp
          exact hK _ _ jE rfl (fun _ _ _ h => h)
        · refine stepL_of ?_
          rintro F a w1 jE ⟨h5, t38, -⟩ ⟨t3, -⟩ K hK
          have h5 : (F 5) = .bool true := h5
          rw [h5] at t38
          clear h5
          have t3 : a.tmps[3]? = some (.pointer (some ⟨(g + 1), 0, none⟩)) := t3
          refine stepY ((wanted_of 5 true 38 _ rfl rfl t38).trans rfl) ?_
          go_simp
          exact hK _ _ jE rfl (fun _ _ _ h => h)
        · refine stepL_of ?_
          rintro F a w1 jE ⟨h8, t41, h5, t38, -⟩ - K hK
          have h8 : (F 8) = .pointer (some ⟨(g + 1), 1, none⟩) := h8
          rw [h8] at t41
          clear h8
          have h5 : (F 5) = .bool true := h5
          rw [h5] at t38
          clear h5
          refine stepY ((wanted_of 5 true 38 _ rfl rfl t38).trans rfl) ?_
          have c := (jE.blk B2 (by simp)).cell
          go_simp
          exact hK _ _ jE rfl (fun _ _ _ h => h)
        · refine stepL_of ?_
          rintro F a w1 jE ⟨h7, t40, h9, t42, h5, t38, -⟩ - K hK
          have h7 : (F 7) = .bool s.flow := h7
          rw [h7] at t40
          clear h7
          have h9 : (F 9) = .bool s.flow := h9
          rw [h9] at t42
          clear h9
          have h5 : (F 5) = .bool true := h5
          rw [h5] at t38
          clear h5
          refine stepY ((wanted_of 5 true 38 _ rfl rfl t38).trans rfl) ?_
          go_simp
          exact hK _ _ jE rfl (fun _ _ _ h => h)
        · refine stepL_plain rfl ?_
          rintro F a w1 jE ⟨h5, t38, h10, t43, -⟩ - K hK
          have h5 : (F 5) = .bool true := h5
          rw [h5] at t38
          clear h5
          have h10 : (F 10) = .bool true := h10
          rw [h10] at t43
          clear h10
          go_simp
          exact hK _ _ jE rfl (fun _ _ _ h => h)
        · refine stepL_plain rfl ?_
          rintro F a w1 jE ⟨h11, t44, -⟩ - K hK
          have h11 : (F 11) = .bool true := h11
          rw [h11] at t44
          clear h11
          go_simp
          exact hK _ _ jE rfl (fun _ _ _ h => h)
        · refine stepL_of ?_
          rintro F a w1 jE ⟨h12, t45, -⟩ ⟨t2, -⟩ K hK
          have h12 : (F 12) = .bool true := h12
          rw [h12] at t45
          clear h12
          have t2 : a.tmps[2]? = some (.pointer (some ⟨g, 0, none⟩)) := t2
          refine stepY ((wanted_of 12 true 45 _ rfl rfl t45).trans rfl) ?_
          go_simp
          exact hK _ _ jE rfl (fun _ _ _ h => h)
        · refine stepL_of ?_
          rintro F a w1 jE ⟨h13, t46, h12, t45, -⟩ - K hK
          have h13 : (F 13) = .pointer (some ⟨g, 2, none⟩) := h13
          rw [h13] at t46
          clear h13
          have h12 : (F 12) = .bool true := h12
          rw [h12] at t45
          clear h12
          refine stepY ((wanted_of 12 true 45 _ rfl rfl t45).trans rfl) ?_
          have c := (jE.blk B1 (by simp)).cell
          go_simp
          exact hK _ _ jE rfl (fun _ _ _ h => h)
        · refine stepL_of ?_
          rintro F a w1 jE ⟨h12, t45, -⟩ ⟨t3, -⟩ K hK
          have h12 : (F 12) = .bool true := h12
          rw [h12] at t45
          clear h12
          have t3 : a.tmps[3]? = some (.pointer (some ⟨(g + 1), 0, none⟩)) := t3
          refine stepY ((wanted_of 12 true 45 _ rfl rfl t45).trans rfl) ?_
          go_simp
          exact hK _ _ jE rfl (fun _ _ _ h => h)
        · refine stepL_of ?_
          rintro F a w1 jE ⟨h15, t48, h12, t45, -⟩ - K hK
          have h15 : (F 15) = .pointer (some ⟨(g + 1), 2, none⟩) := h15
          rw [h15] at t48
          clear h15
          have h12 : (F 12) = .bool true := h12
          rw [h12] at t45
          clear h12
          refine stepY ((wanted_of 12 true 45 _ rfl rfl t45).trans rfl) ?_
          have c := (jE.blk B2 (by simp)).cell
          go_simp
          exact hK _ _ jE rfl (fun _ _ _ h => h)
        · refine stepL_of ?_
          rintro F a w1 jE ⟨h14, t47, h16, t49, h12, t45, -⟩ - K hK
          have h14 : (F 14) = .int .u8 s.float := h14
          rw [h14] at t47
          clear h14
          have h16 : (F 16) = .int .u8 s.float := h16
          rw [h16] at t49
          clear h16
          have h12 : (F 12) = .bool true := h12
          rw [h12] at t45
          clear h12
          refine stepY ((wanted_of 12 true 45 _ rfl rfl t45).trans rfl) ?_
          go_simp
          exact hK _ _ jE rfl (fun _ _ _ h => h)
        · refine stepL_plain rfl ?_
          rintro F a w1 jE ⟨h12, t45, h17, t50, -⟩ - K hK
          have h12 : (F 12) = .bool true := h12
          rw [h12] at t45
          clear h12
          have h17 : (F 17) = .bool true := h17
          rw [h17] at t50
          clear h17
          go_simp
          exact hK _ _ jE rfl (fun _ _ _ h => h)
        · refine stepL_plain rfl ?_
          rintro F a w1 jE ⟨h18, t51, -⟩ - K hK
          have h18 : (F 18) = .bool true := h18
          rw [h18] at t51
          clear h18
          go_simp
          exact hK _ _ jE rfl (fun _ _ _ h => h)
        · refine stepL_of ?_
          rintro F a w1 jE ⟨h19, t52, -⟩ ⟨t2, -⟩ K hK
          have h19 : (F 19) = .bool true := h19
          rw [h19] at t52
          clear h19
          have t2 : a.tmps[2]? = some (.pointer (some ⟨g, 0, none⟩)) := t2
          refine stepY ((wanted_of 19 true 52 _ rfl rfl t52).trans rfl) ?_
          go_simp
          exact hK _ _ jE rfl (fun _ _ _ h => h)
        · refine stepL_of ?_
          rintro F a w1 jE ⟨h20, t53, h19, t52, -⟩ - K hK
          have h20 : (F 20) = .pointer (some ⟨g, 3, none⟩) := h20
          rw [h20] at t53
          clear h20
          have h19 : (F 19) = .bool true := h19
          rw [h19] at t52
          clear h19
          refine stepY ((wanted_of 19 true 52 _ rfl rfl t52).trans rfl) ?_
          have c := (jE.blk B1 (by simp)).cell
          go_simp
          exact hK _ _ jE rfl (fun _ _ _ h => h)
        · refine stepL_of ?_
          rintro F a w1 jE ⟨h19, t52, -⟩ ⟨t3, -⟩ K hK
          have h19 : (F 19) = .bool true := h19
          rw [h19] at t52
          clear h19
          have t3 : a.tmps[3]? = some (.pointer (some ⟨(g + 1), 0, none⟩)) := t3
          refine stepY ((wanted_of 19 true 52 _ rfl rfl t52).trans rfl) ?_
          go_simp
          exact hK _ _ jE rfl (fun _ _ _ h => h)
        · refine stepL_of ?_
          rintro F a w1 jE ⟨h22, t55, h19, t52, -⟩ - K hK
          have h22 : (F 22) = .pointer (some ⟨(g + 1), 3, none⟩) := h22
          rw [h22] at t55
          clear h22
          have h19 : (F 19) = .bool true := h19
          rw [h19] at t52
          clear h19
          refine stepY ((wanted_of 19 true 52 _ rfl rfl t52).trans rfl) ?_
          have c := (jE.blk B2 (by simp)).cell
          go_simp
          exact hK _ _ jE rfl (fun _ _ _ h => h)
        · refine stepL_of ?_
          rintro F a w1 jE ⟨h21, t54, h23, t56, h19, t52, -⟩ - K hK
          have h21 : (F 21) = .int .u8 s.clear := h21
          rw [h21] at t54
          clear h21
          have h23 : (F 23) = .int .u8 s.clear := h23
          rw [h23] at t56
          clear h23
          have h19 : (F 19) = .bool true := h19
          rw [h19] at t52
          clear h19
          refine stepY ((wanted_of 19 true 52 _ rfl rfl t52).trans rfl) ?_
          go_simp
          exact hK _ _ jE rfl (fun _ _ _ h => h)
        · refine stepL_plain rfl ?_
          rintro F a w1 jE ⟨h19, t52, h24, t57, -⟩ - K hK
          have h19 : (F 19) = .bool true := h19
          rw [h19] at t52
          clear h19
          have h24 : (F 24) = .bool true := h24
          rw [h24] at t57
          clear h24
          go_simp
          exact hK _ _ jE rfl (fun _ _ _ h => h)
        · refine stepL_plain rfl ?_
          rintro F a w1 jE ⟨h25, t58, -⟩ - K hK
          have h25 : (F 25) = .bool true := h25
          rw [h25] at t58
          clear h25
          go_simp
          exact hK _ _ jE rfl (fun _ _ _ h => h)
        · refine stepL_of ?_
          rintro F a w1 jE ⟨h26, t59, -⟩ ⟨t2, -⟩ K hK
          have h26 : (F 26) = .bool true := h26
          rw [h26] at t59
          clear h26
          have t2 : a.tmps[2]? = some (.pointer (some ⟨g, 0, none⟩)) := t2
          refine stepY ((wanted_of 26 true 59 _ rfl rfl t59).trans rfl) ?_
          go_simp
          exact hK _ _ jE rfl (fun _ _ _ h => h)
        · refine stepL_of ?_
          rintro F a w1 jE ⟨h27, t60, h26, t59, -⟩ - K hK
          have h27 : (F 27) = .pointer (some ⟨g, 32, none⟩) := h27
          rw [h27] at t60
          clear h27
          have h26 : (F 26) = .bool true := h26
          rw [h26] at t59
          clear h26
          refine stepY ((wanted_of 26 true 59 _ rfl rfl t59).trans rfl) ?_
          have c := (jE.blk B1 (by simp)).cell
          go_simp
          exact hK _ _ jE rfl (fun _ _ _ h => h)
        · refine stepL_of ?_
          rintro F a w1 jE ⟨h26, t59, -⟩ ⟨t3, -⟩ K hK
          have h26 : (F 26) = .bool true := h26
          rw [h26] at t59
          clear h26
          have t3 : a.tmps[3]? = some (.pointer (some ⟨(g + 1), 0, none⟩)) := t3
          refine stepY ((wanted_of 26 true 59 _ rfl rfl t59).trans rfl) ?_
          go_simp
          exact hK _ _ jE rfl (fun _ _ _ h => h)
        · refine stepL_of ?_
          rintro F a w1 jE ⟨h29, t62, h26, t59, -⟩ - K hK
          have h29 : (F 29) = .pointer (some ⟨(g + 1), 32, none⟩) := h29
          rw [h29] at t62
          clear h29
          have h26 : (F 26) = .bool true := h26
          rw [h26] at t59
          clear h26
          refine stepY ((wanted_of 26 true 59 _ rfl rfl t59).trans rfl) ?_
          have c := (jE.blk B2 (by simp)).cell
          go_simp
          exact hK _ _ jE rfl (fun _ _ _ h => h)
        · refine stepL_of ?_
          rintro F a w1 jE ⟨h28, t61, h30, t63, h26, t59, -⟩ - K hK
          have h28 : (F 28) = .int .u8 s.align := h28
          rw [h28] at t61
          clear h28
          have h30 : (F 30) = .int .u8 s.align := h30
          rw [h30] at t63
          clear h30
          have h26 : (F 26) = .bool true := h26
          rw [h26] at t59
          clear h26
          refine stepY ((wanted_of 26 true 59 _ rfl rfl t59).trans rfl) ?_
          go_simp
          exact hK _ _ jE rfl (fun _ _ _ h => h)
        · refine stepL_plain rfl ?_
          rintro F a w1 jE ⟨h26, t59, h31, t64, -⟩ - K hK
          have h26 : (F 26) = .bool true := h26
          rw [h26] at t59
          clear h26
          have h31 : (F 31) = .bool true := h31
          rw [h31] at t64
          clear h31
          go_simp
          exact hK _ _ jE rfl (fun _ _ _ h => h)
        · refine stepL_plain rfl ?_
          rintro F a w1 jE ⟨h32, t65, -⟩ - K hK
          have h32 : (F 32) = .bool true := h32
          rw [h32] at t65
          clear h32
          go_simp
          exact hK _ _ jE rfl (fun _ _ _ h => h)
        · refine stepL_of ?_
          rintro F a w1 jE ⟨h33, t66, -⟩ ⟨t2, -⟩ K hK
          have h33 : (F 33) = .bool true := h33
          rw [h33] at t66
          clear h33
          have t2 : a.tmps[2]? = some (.pointer (some ⟨g, 0, none⟩)) := t2
          refine stepY ((wanted_of 33 true 66 _ rfl rfl t66).trans rfl) ?_
          go_simp
          exact hK _ _ jE rfl (fun _ _ _ h => h)
        · refine stepL_of ?_
          rintro F a w1 jE ⟨h34, t67, h33, t66, -⟩ - K hK
          have h34 : (F 34) = .pointer (some ⟨g, 33, none⟩) := h34
          rw [h34] at t67
          clear h34
          have h33 : (F 33) = .bool true := h33
          rw [h33] at t66
          clear h33
          refine stepY ((wanted_of 33 true 66 _ rfl rfl t66).trans rfl) ?_
          have c := (jE.blk B1 (by simp)).cell
          go_simp
          exact hK _ _ jE rfl (fun _ _ _ h => h)
        · refine stepL_of ?_
          rintro F a w1 jE ⟨h33, t66, -⟩ ⟨t3, -⟩ K hK
          have h33 : (F 33) = .bool true := h33
          rw [h33] at t66
          clear h33
          have t3 : a.tmps[3]? = some (.pointer (some ⟨(g + 1), 0, none⟩)) := t3
          refine stepY ((wanted_of 33 true 66 _ rfl rfl t66).trans rfl) ?_
          go_simp
          exact hK _ _ jE rfl (fun _ _ _ h => h)
        · refine stepL_of ?_
          rintro F a w1 jE ⟨h36, t69, h33, t66, -⟩ - K hK
          have h36 : (F 36) = .pointer (some ⟨(g + 1), 33, none⟩) := h36
          rw [h36] at t69
          clear h36
          have h33 : (F 33) = .bool true := h33
          rw [h33] at t66
          clear h33
          refine stepY ((wanted_of 33 true 66 _ rfl rfl t66).trans rfl) ?_
          have c := (jE.blk B2 (by simp)).cell
          go_simp
          exact hK _ _ jE rfl (fun _ _ _ h => h)
        · refine stepL_of ?_
          rintro F a w1 jE ⟨h35, t68, h37, t70, h33, t66, -⟩ - K hK
          have h35 : (F 35) = .int .i64 s.line := h35
          rw [h35] at t68
          clear h35
          have h37 : (F 37) = .int .i64 s.line := h37
          rw [h37] at t70
          clear h37
          have h33 : (F 33) = .bool true := h33
          rw [h33] at t66
          clear h33
          refine stepY ((wanted_of 33 true 66 _ rfl rfl t66).trans rfl) ?_
          go_simp
          exact hK _ _ jE rfl (fun _ _ _ h => h)
        · refine stepL_plain rfl ?_
          rintro F a w1 jE ⟨h33, t66, h38, t71, -⟩ - K hK
          have h33 : (F 33) = .bool true := h33
          rw [h33] at t66
          clear h33
          have h38 : (F 38) = .bool true := h38
          rw [h38] at t71
          clear h38
          go_simp
          exact hK _ _ jE rfl (fun _ _ _ h => h)
        · refine stepL_plain rfl ?_
          rintro F a w1 jE ⟨h39, t72, -⟩ - K hK
          have h39 : (F 39) = .bool true := h39
          rw [h39] at t72
          clear h39
          go_simp
          exact hK _ _ jE rfl (fun _ _ _ h => h)
        · refine stepL_of ?_
          rintro F a w1 jE ⟨h40, t73, -⟩ ⟨t2, -⟩ K hK
          have h40 : (F 40) = .bool true := h40
          rw [h40] at t73
          clear h40
          have t2 : a.tmps[2]? = some (.pointer (some ⟨g, 0, none⟩)) := t2
          refine stepY ((wanted_of 40 true 73 _ rfl rfl t73).trans rfl) ?_
          go_simp
          exact hK _ _ jE rfl (fun _ _ _ h => h)
        · refine stepL_of ?_
          rintro F a w1 jE ⟨h41, t74, h40, t73, -⟩ - K hK
          have h41 : (F 41) = .pointer (some ⟨g, 34, none⟩) := h41
          rw [h41] at t74
          clear h41
          have h40 : (F 40) = .bool true := h40
          rw [h40] at t73
          clear h40
          refine stepY ((wanted_of 40 true 73 _ rfl rfl t73).trans rfl) ?_
          have c := (jE.blk B1 (by simp)).cell
          go_simp
          exact hK _ _ jE rfl (fun _ _ _ h => h)
        · refine stepL_of ?_
          rintro F a w1 jE ⟨h40, t73, -⟩ ⟨t3, -⟩ K hK
          have h40 : (F 40) = .bool true := h40
          rw [h40] at t73
          clear h40
          have t3 : a.tmps[3]? = some (.pointer (some ⟨(g + 1), 0, none⟩)) := t3
          refine stepY ((wanted_of 40 true 73 _ rfl rfl t73).trans rfl) ?_
          go_simp
          exact hK _ _ jE rfl (fun _ _ _ h => h)
        · refine stepL_of ?_
          rintro F a w1 jE ⟨h43, t76, h40, t73, -⟩ - K hK
          have h43 : (F 43) = .pointer (some ⟨(g + 1), 34, none⟩) := h43
          rw [h43] at t76
          clear h43
          have h40 : (F 40) = .bool true := h40
          rw [h40] at t73
          clear h40
          refine stepY ((wanted_of 40 true 73 _ rfl rfl t73).trans rfl) ?_
          have c := (jE.blk B2 (by simp)).cell
          go_simp
          exact hK _ _ jE rfl (fun _ _ _ h => h)
        · refine stepL_of ?_
          rintro F a w1 jE ⟨h42, t75, h44, t77, h40, t73, -⟩ - K hK
          have h42 : (F 42) = .bool s.wrap := h42
          rw [h42] at t75
          clear h42
          have h44 : (F 44) = .bool s.wrap := h44
          rw [h44] at t77
          clear h44
          have h40 : (F 40) = .bool true := h40
          rw [h40] at t73
          clear h40
          refine stepY ((wanted_of 40 true 73 _ rfl rfl t73).trans rfl) ?_
          go_simp
          exact hK _ _ jE rfl (fun _ _ _ h => h)
        · refine stepL_plain rfl ?_
          rintro F a w1 jE ⟨h40, t73, h45, t78, -⟩ - K hK
          have h40 : (F 40) = .bool true := h40
          rw [h40] at t73
          clear h40
          have h45 : (F 45) = .bool true := h45
          rw [h45] at t78
          clear h45
          go_simp
          exact hK _ _ jE rfl (fun _ _ _ h => h)
        · refine stepL_plain rfl ?_
          rintro F a w1 jE ⟨h46, t79, -⟩ - K hK
          have h46 : (F 46) = .bool true := h46
          rw [h46] at t79
          clear h46
          go_simp
          exact hK _ _ jE rfl (fun _ _ _ h => h)
        · refine stepL_of ?_
          rintro F a w1 jE ⟨h47, t80, -⟩ ⟨t2, -⟩ K hK
          have h47 : (F 47) = .bool true := h47
          rw [h47] at t80
          clear h47
          have t2 : a.tmps[2]? = some (.pointer (some ⟨g, 0, none⟩)) := t2
          refine stepY ((wanted_of 47 true 80 _ rfl rfl t80).trans rfl) ?_
          go_simp
          exact hK _ _ jE rfl (fun _ _ _ h => h)
        · refine stepL_of ?_
          rintro F a w1 jE ⟨h48, t81, h47, t80, -⟩ - K hK
          have h48 : (F 48) = .pointer (some ⟨g, 35, none⟩) := h48
          rw [h48] at t81
          clear h48
          have h47 : (F 47) = .bool true := h47
          rw [h47] at t80
          clear h47
          refine stepY ((wanted_of 47 true 80 _ rfl rfl t80).trans rfl) ?_
          have c := (jE.blk B1 (by simp)).cell
          go_simp
          exact hK _ _ jE rfl (fun _ _ _ h => h)
        · refine stepL_of ?_
          rintro F a w1 jE ⟨h47, t80, -⟩ ⟨t3, -⟩ K hK
          have h47 : (F 47) = .bool true := h47
          rw [h47] at t80
          clear h47
          have t3 : a.tmps[3]? = some (.pointer (some ⟨(g + 1), 0, none⟩)) := t3
          refine stepY ((wanted_of 47 true 80 _ rfl rfl t80).trans rfl) ?_
          go_simp
          exact hK _ _ jE rfl (fun _ _ _ h => h)
        · refine stepL_of ?_
          rintro F a w1 jE ⟨h50, t83, h47, t80, -⟩ - K hK
          have h50 : (F 50) = .pointer (some ⟨(g + 1), 35, none⟩) := h50
          rw [h50] at t83
          clear h50
          have h47 : (F 47) = .bool true := h47
          rw [h47] at t80
          clear h47
          refine stepY ((wanted_of 47 true 80 _ rfl rfl t80).trans rfl) ?_
          have c := (jE.blk B2 (by simp)).cell
          go_simp
          exact hK _ _ jE rfl (fun _ _ _ h => h)
        · refine stepL_of ?_
          rintro F a w1 jE ⟨h49, t82, h51, t84, h47, t80, -⟩ - K hK
          have h49 : (F 49) = .int .u8 s.justify := h49
          rw [h49] at t82
          clear h49
          have h51 : (F 51) = .int .u8 s.justify := h51
          rw [h51] at t84
          clear h51
          have h47 : (F 47) = .bool true := h47
          rw [h47] at t80
          clear h47
          refine stepY ((wanted_of 47 true 80 _ rfl rfl t80).trans rfl) ?_
          go_simp
          exact hK _ _ jE rfl (fun _ _ _ h => h)
        · refine stepL_plain rfl ?_
          rintro F a w1 jE ⟨h47, t80, h52, t85, -⟩ - K hK
          have h47 : (F 47) = .bool true := h47
          rw [h47] at t80
          clear h47
          have h52 : (F 52) = .bool true := h52
          rw [h52] at t85
          clear h52
          go_simp
          exact hK _ _ jE rfl (fun _ _ _ h => h)
        · refine stepL_plain rfl ?_
          rintro F a w1 jE ⟨h53, t86, -⟩ - K hK
          have h53 : (F 53) = .bool true := h53
          rw [h53] at t86
          clear h53
          go_simp
          exact hK _ _ jE rfl (fun _ _ _ h => h)
        · refine stepL_of ?_
          rintro F a w1 jE ⟨h54, t87, -⟩ ⟨t2, -⟩ K hK
          have h54 : (F 54) = .bool true := h54
          rw [h54] at t87
          clear h54
          have t2 : a.tmps[2]? = some (.pointer (some ⟨g, 0, none⟩)) := t2
          refine stepY ((wanted_of 54 true 87 _ rfl rfl t87).trans rfl) ?_
          go_simp
          exact hK _ _ jE rfl (fun _ _ _ h => h)
        · refine stepL_of ?_
          rintro F a w1 jE ⟨h55, t88, h54, t87, -⟩ - K hK
          have h55 : (F 55) = .pointer (some ⟨g, 36, none⟩) := h55
          rw [h55] at t88
          clear h55
          have h54 : (F 54) = .bool true := h54
          rw [h54] at t87
          clear h54
          refine stepY ((wanted_of 54 true 87 _ rfl rfl t87).trans rfl) ?_
          have c := (jE.blk B1 (by simp)).cell
          go_simp
          exact hK _ _ jE rfl (fun _ _ _ h => h)
        · refine stepL_of ?_
          rintro F a w1 jE ⟨h54, t87, -⟩ ⟨t3, -⟩ K hK
          have h54 : (F 54) = .bool true := h54
          rw [h54] at t87
          clear h54
          have t3 : a.tmps[3]? = some (.pointer (some ⟨(g + 1), 0, none⟩)) := t3
          refine stepY ((wanted_of 54 true 87 _ rfl rfl t87).trans rfl) ?_
          go_simp
          exact hK _ _ jE rfl (fun _ _ _ h => h)
        · refine stepL_of ?_
          rintro F a w1 jE ⟨h57, t90, h54, t87, -⟩ - K hK
          have h57 : (F 57) = .pointer (some ⟨(g + 1), 36, none⟩) := h57
          rw [h57] at t90
          clear h57
          have h54 : (F 54) = .bool true := h54
          rw [h54] at t87
          clear h54
          refine stepY ((wanted_of 54 true 87 _ rfl rfl t87).trans rfl) ?_
          have c := (jE.blk B2 (by simp)).cell
          go_simp
          exact hK _ _ jE rfl (fun _ _ _ h => h)
        · refine stepL_of ?_
          rintro F a w1 jE ⟨h56, t89, h58, t91, h54, t87, -⟩ - K hK
          have h56 : (F 56) = .int .u8 s.items := h56
          rw [h56] at t89
          clear h56
          have h58 : (F 58) = .int .u8 s.items := h58
          rw [h58] at t91
          clear h58
          have h54 : (F 54) = .bool true := h54
          rw [h54] at t87
          clear h54
          refine stepY ((wanted_of 54 true 87 _ rfl rfl t87).trans rfl) ?_
          go_simp
          exact hK _ _ jE rfl (fun _ _ _ h => h)
        · refine stepL_plain rfl ?_
          rintro F a w1 jE ⟨h54, t87, h59, t92, -⟩ - K hK
          have h54 : (F 54) = .bool true := h54
          rw [h54] at t87
          clear h54
          have h59 : (F 59) = .bool true := h59
          rw [h59] at t92
          clear h59
          go_simp
          exact hK _ _ jE rfl (fun _ _ _ h => h)
        · refine stepL_plain rfl ?_
          rintro F a w1 jE ⟨h60, t93, -⟩ - K hK
          have h60 : (F 60) = .bool true := h60
          rw [h60] at t93
          clear h60
          go_simp
          exact hK _ _ jE rfl (fun _ _ _ h => h)
        · refine stepL_of ?_
          rintro F a w1 jE ⟨h61, t94, -⟩ ⟨t2, -⟩ K hK
          have h61 : (F 61) = .bool true := h61
          rw [h61] at t94
          clear h61
          have t2 : a.tmps[2]? = some (.pointer (some ⟨g, 0, none⟩)) := t2
          refine stepY ((wanted_of 61 true 94 _ rfl rfl t94).trans rfl) ?_
          go_simp
          exact hK _ _ jE rfl (fun _ _ _ h => h)
        · refine stepL_of ?_
          rintro F a w1 jE ⟨h62, t95, h61, t94, -⟩ - K hK
          have h62 : (F 62) = .pointer (some ⟨g, 37, none⟩) := h62
          rw [h62] at t95
          clear h62
          have h61 : (F 61) = .bool true := h61
          rw [h61] at t94
          clear h61
          refine stepY ((wanted_of 61 true 94 _ rfl rfl t94).trans rfl) ?_
          have c := (jE.blk B1 (by simp)).cell
          go_simp
          exact hK _ _ jE rfl (fun _ _ _ h => h)
        · refine stepL_of ?_
          rintro F a w1 jE ⟨h61, t94, -⟩ ⟨t3, -⟩ K hK
          have h61 : (F 61) = .bool true := h61
          rw [h61] at t94
          clear h61
          have t3 : a.tmps[3]? = some (.pointer (some ⟨(g + 1), 0, none⟩)) := t3
          refine stepY ((wanted_of 61 true 94 _ rfl rfl t94).trans rfl) ?_
          go_simp
          exact hK _ _ jE rfl (fun _ _ _ h => h)
        · refine stepL_of ?_
          rintro F a w1 jE ⟨h64, t97, h61, t94, -⟩ - K hK
          have h64 : (F 64) = .pointer (some ⟨(g + 1), 37, none⟩) := h64
          rw [h64] at t97
          clear h64
          have h61 : (F 61) = .bool true := h61
          rw [h61] at t94
          clear h61
          refine stepY ((wanted_of 61 true 94 _ rfl rfl t94).trans rfl) ?_
          have c := (jE.blk B2 (by simp)).cell
          go_simp
          exact hK _ _ jE rfl (fun _ _ _ h => h)
        · refine stepL_of ?_
          rintro F a w1 jE ⟨h63, t96, h65, t98, h61, t94, -⟩ - K hK
          have h63 : (F 63) = .int .i64 s.order := h63
          rw [h63] at t96
          clear h63
          have h65 : (F 65) = .int .i64 s.order := h65
          rw [h65] at t98
          clear h65
          have h61 : (F 61) = .bool true := h61
          rw [h61] at t94
          clear h61
          refine stepY ((wanted_of 61 true 94 _ rfl rfl t94).trans rfl) ?_
          go_simp
          exact hK _ _ jE rfl (fun _ _ _ h => h)
        · refine stepL_plain rfl ?_
          rintro F a w1 jE ⟨h61, t94, h66, t99, -⟩ - K hK
          have h61 : (F 61) = .bool true := h61
          rw [h61] at t94
          clear h61
          have h66 : (F 66) = .bool true := h66
          rw [h66] at t99
          clear h66
          go_simp
          exact hK _ _ jE rfl (fun _ _ _ h => h)
        · refine stepL_plain rfl ?_
          rintro F a w1 jE ⟨h67, t100, -⟩ - K hK
          have h67 : (F 67) = .bool true := h67
          rw [h67] at t100
          clear h67
          go_simp
          exact hK _ _ jE rfl (fun _ _ _ h => h)
        · refine stepL_of ?_
          rintro F a w1 jE ⟨h68, t101, -⟩ ⟨t2, -⟩ K hK
          have h68 : (F 68) = .bool true := h68
          rw [h68] at t101
          clear h68
          have t2 : a.tmps[2]? = some (.pointer (some ⟨g, 0, none⟩)) := t2
          refine stepY ((wanted_of 68 true 101 _ rfl rfl t101).trans rfl) ?_
          go_simp
          exact hK _ _ jE rfl (fun _ _ _ h => h)
        · refine stepL_of ?_
          rintro F a w1 jE ⟨h69, t102, h68, t101, -⟩ - K hK
          have h69 : (F 69) = .pointer (some ⟨g, 38, none⟩) := h69
          rw [h69] at t102
          clear h69
          have h68 : (F 68) = .bool true := h68
          rw [h68] at t101
          clear h68
          refine stepY ((wanted_of 68 true 101 _ rfl rfl t101).trans rfl) ?_
          have c := (jE.blk B1 (by simp)).cell
          go_simp
          exact hK _ _ jE rfl (fun _ _ _ h => h)
        · refine stepL_of ?_
          rintro F a w1 jE ⟨h68, t101, -⟩ ⟨t3, -⟩ K hK
          have h68 : (F 68) = .bool true := h68
          rw [h68] at t101
          clear h68
          have t3 : a.tmps[3]? = some (.pointer (some ⟨(g + 1), 0, none⟩)) := t3
          refine stepY ((wanted_of 68 true 101 _ rfl rfl t101).trans rfl) ?_
          go_simp
          exact hK _ _ jE rfl (fun _ _ _ h => h)
        · refine stepL_of ?_
          rintro F a w1 jE ⟨h71, t104, h68, t101, -⟩ - K hK
          have h71 : (F 71) = .pointer (some ⟨(g + 1), 38, none⟩) := h71
          rw [h71] at t104
          clear h71
          have h68 : (F 68) = .bool true := h68
          rw [h68] at t101
          clear h68
          refine stepY ((wanted_of 68 true 101 _ rfl rfl t101).trans rfl) ?_
          have c := (jE.blk B2 (by simp)).cell
          go_simp
          exact hK _ _ jE rfl (fun _ _ _ h => h)
        · refine stepL_of ?_
          rintro F a w1 jE ⟨h70, t103, h72, t105, h68, t101, -⟩ - K hK
          have h70 : (F 70) = .int .i64 s.grow := h70
          rw [h70] at t103
          clear h70
          have h72 : (F 72) = .int .i64 s.grow := h72
          rw [h72] at t105
          clear h72
          have h68 : (F 68) = .bool true := h68
          rw [h68] at t101
          clear h68
          refine stepY ((wanted_of 68 true 101 _ rfl rfl t101).trans rfl) ?_
          go_simp
          exact hK _ _ jE rfl (fun _ _ _ h => h)
        · refine stepL_plain rfl ?_
          rintro F a w1 jE ⟨h68, t101, h73, t106, -⟩ - K hK
          have h68 : (F 68) = .bool true := h68
          rw [h68] at t101
          clear h68
          have h73 : (F 73) = .bool true := h73
          rw [h73] at t106
          clear h73
          go_simp
          exact hK _ _ jE rfl (fun _ _ _ h => h)
        · refine stepL_plain rfl ?_
          rintro F a w1 jE ⟨h74, t107, -⟩ - K hK
          have h74 : (F 74) = .bool true := h74
          rw [h74] at t107
          clear h74
          go_simp
          exact hK _ _ jE rfl (fun _ _ _ h => h)
        · refine stepL_of ?_
          rintro F a w1 jE ⟨h75, t108, -⟩ ⟨t2, -⟩ K hK
          have h75 : (F 75) = .bool true := h75
          rw [h75] at t108
          clear h75
          have t2 : a.tmps[2]? = some (.pointer (some ⟨g, 0, none⟩)) := t2
          refine stepY ((wanted_of 75 true 108 _ rfl rfl t108).trans rfl) ?_
          go_simp
          exact hK _ _ jE rfl (fun _ _ _ h => h)
        · refine stepL_of ?_
          rintro F a w1 jE ⟨h76, t109, h75, t108, -⟩ - K hK
          have h76 : (F 76) = .pointer (some ⟨g, 39, none⟩) := h76
          rw [h76] at t109
          clear h76
          have h75 : (F 75) = .bool true := h75
          rw [h75] at t108
          clear h75
          refine stepY ((wanted_of 75 true 108 _ rfl rfl t108).trans rfl) ?_
          have c := (jE.blk B1 (by simp)).cell
          go_simp
          exact hK _ _ jE rfl (fun _ _ _ h => h)
        · refine stepL_of ?_
          rintro F a w1 jE ⟨h75, t108, -⟩ ⟨t3, -⟩ K hK
          have h75 : (F 75) = .bool true := h75
          rw [h75] at t108
          clear h75
          have t3 : a.tmps[3]? = some (.pointer (some ⟨(g + 1), 0, none⟩)) := t3
          refine stepY ((wanted_of 75 true 108 _ rfl rfl t108).trans rfl) ?_
          go_simp
          exact hK _ _ jE rfl (fun _ _ _ h => h)
        · refine stepL_of ?_
          rintro F a w1 jE ⟨h78, t111, h75, t108, -⟩ - K hK
          have h78 : (F 78) = .pointer (some ⟨(g + 1), 39, none⟩) := h78
          rw [h78] at t111
          clear h78
          have h75 : (F 75) = .bool true := h75
          rw [h75] at t108
          clear h75
          refine stepY ((wanted_of 75 true 108 _ rfl rfl t108).trans rfl) ?_
          have c := (jE.blk B2 (by simp)).cell
          go_simp
          exact hK _ _ jE rfl (fun _ _ _ h => h)
        · refine stepL_of ?_
          rintro F a w1 jE ⟨h77, t110, h79, t112, h75, t108, -⟩ - K hK
          have h77 : (F 77) = .int .i64 s.shrink := h77
          rw [h77] at t110
          clear h77
          have h79 : (F 79) = .int .i64 s.shrink := h79
          rw [h79] at t112
          clear h79
          have h75 : (F 75) = .bool true := h75
          rw [h75] at t108
          clear h75
          refine stepY ((wanted_of 75 true 108 _ rfl rfl t108).trans rfl) ?_
          go_simp
          exact hK _ _ jE rfl (fun _ _ _ h => h)
        · refine stepL_plain rfl ?_
          rintro F a w1 jE ⟨h75, t108, h80, t113, -⟩ - K hK
          have h75 : (F 75) = .bool true := h75
          rw [h75] at t108
          clear h75
          have h80 : (F 80) = .bool true := h80
          rw [h80] at t113
          clear h80
          go_simp
          exact hK _ _ jE rfl (fun _ _ _ h => h)
        · refine stepL_plain rfl ?_
          rintro F a w1 jE ⟨h81, t114, -⟩ - K hK
          have h81 : (F 81) = .bool true := h81
          rw [h81] at t114
          clear h81
          go_simp
          exact hK _ _ jE rfl (fun _ _ _ h => h)
      · rintro F wy jE ⟨h82, -⟩
        have h82 : (F 82) = .bool true := h82
        have hx := jE.ext (Ext.refl _) (by simp)
        replace E1 := E1.trans hx
        replace B1 := B1.ext hx
        replace B2 := B2.ext hx
        clear jE hx
        simp only [putL, List.append_eq, List.cons_append, List.nil_append, Act.put, Nat.reduceAdd, Nat.zero_add, List.setIfInBounds_toArray, List.set_cons_succ, List.set_cons_zero]
        rw [h82]
        clear h82
        go_upto_region 9 with fail
        refine wp_region_lin0 (fun w' => (ExtX wy w' [])) (fun ii vv ww => match ii with | 0 => vv = .pointer (some ⟨g, 4, none⟩) | 1 => vv = (.agg #[.int .u8 s.w.k, .int .i64 s.w.n]) | 2 => vv = .pointer (some ⟨(g + 1), 4, none⟩) | 3 => vv = (.agg #[.int .u8 s.w.k, .int .i64 s.w.n]) | 4 => vv = .bool true | 5 => vv = .bool true | 6 => vv = .pointer (some ⟨g, 6, none⟩) | 7 => vv = (.agg #[.int .u8 s.h.k, .int .i64 s.h.n]) | 8 => vv = .pointer (some ⟨(g + 1), 6, none⟩) | 9 => vv = (.agg #[.int .u8 s.h.k, .int .i64 s.h.n]) | 10 => vv = .bool true | 11 => vv = .bool true | 12 => vv = .bool true | 13 => vv = .pointer (some ⟨g, 8, none⟩) | 14 => vv = (.agg #[.int .u8 s.minw.k, .int .i64 s.minw.n]) | 15 => vv = .pointer (some ⟨(g + 1), 8, none⟩) | 16 => vv = (.agg #[.int .u8 s.minw.k, .int .i64 s.minw.n]) | 17 => vv = .bool true | 18 => vv = .bool true | 19 => vv = .bool true | 20 => vv = .pointer (some ⟨g, 10, none⟩) | 21 => vv = (.agg #[.int .u8 s.maxw.k, .int .i64 s.maxw.n]) | 22 => vv = .pointer (some ⟨(g + 1), 10, none⟩) | 23 => vv = (.agg #[.int .u8 s.maxw.k, .int .i64 s.maxw.n]) | 24 => vv = .bool true | 25 => vv = .bool true | 26 => vv = .bool true | 27 => vv = .pointer (some ⟨g, 12, none⟩) | 28 => vv = (.agg #[.int .u8 s.minh.k, .int .i64 s.minh.n]) | 29 => vv = .pointer (some ⟨(g + 1), 12, none⟩) | 30 => vv = (.agg #[.int .u8 s.minh.k, .int .i64 s.minh.n]) | 31 => vv = .bool true | 32 => vv = .bool true | 33 => vv = .bool true | 34 => vv = .pointer (some ⟨g, 14, none⟩) | 35 => vv = (.agg #[.int .u8 s.maxh.k, .int .i64 s.maxh.n]) | 36 => vv = .pointer (some ⟨(g + 1), 14, none⟩) | 37 => vv = (.agg #[.int .u8 s.maxh.k, .int .i64 s.maxh.n]) | 38 => vv = .bool true | 39 => vv = .bool true | 40 => vv = .bool true | 41 => vv = .pointer (some ⟨g, 40, none⟩) | 42 => vv = (.agg #[.int .u8 s.basis.k, .int .i64 s.basis.n]) | 43 => vv = .pointer (some ⟨(g + 1), 40, none⟩) | 44 => vv = (.agg #[.int .u8 s.basis.k, .int .i64 s.basis.n]) | 45 => vv = .bool true | 46 => vv = .bool true | 47 => vv = .bool true | _ => True) (fun ii => match ii with | 1 => [(0, 115)] | 3 => [(2, 117)] | 4 => [(1, 116), (3, 118)] | 5 => [(4, 119)] | 6 => [(5, 120)] | 7 => [(6, 121), (5, 120)] | 8 => [(5, 120)] | 9 => [(8, 123), (5, 120)] | 10 => [(7, 122), (9, 124), (5, 120)] | 11 => [(5, 120), (10, 125)] | 12 => [(11, 126)] | 13 => [(12, 127)] | 14 => [(13, 128), (12, 127)] | 15 => [(12, 127)] | 16 => [(15, 130), (12, 127)] | 17 => [(14, 129), (16, 131), (12, 127)] | 18 => [(12, 127), (17, 132)] | 19 => [(18, 133)] | 20 => [(19, 134)] | 21 => [(20, 135), (19, 134)] | 22 => [(19, 134)] | 23 => [(22, 137), (19, 134)] | 24 => [(21, 136), (23, 138), (19, 134)] | 25 => [(19, 134), (24, 139)] | 26 => [(25, 140)] | 27 => [(26, 141)] | 28 => [(27, 142), (26, 141)] | 29 => [(26, 141)] | 30 => [(29, 144), (26, 141)] | 31 => [(28, 143), (30, 145), (26, 141)] | 32 => [(26, 141), (31, 146)] | 33 => [(32, 147)] | 34 => [(33, 148)] | 35 => [(34, 149), (33, 148)] | 36 => [(33, 148)] | 37 => [(36, 151), (33, 148)] | 38 => [(35, 150), (37, 152), (33, 148)] | 39 => [(33, 148), (38, 153)] | 40 => [(39, 154)] | 41 => [(40, 155)] | 42 => [(41, 156), (40, 155)] | 43 => [(40, 155)] | 44 => [(43, 158), (40, 155)] | 45 => [(42, 157), (44, 159), (40, 155)] | 46 => [(40, 155), (45, 160)] | 47 => [(46, 161)] | _ => []) (fun ii => match ii with | 0 => [2] | 2 => [3] | 6 => [2] | 8 => [3] | 13 => [2] | 15 => [3] | 20 => [2] | 22 => [3] | 27 => [2] | 29 => [3] | 34 => [2] | 36 => [3] | 41 => [2] | 43 => [3] | _ => []) (fun ii => match ii with | 0 => [2, 3] | 1 => [2, 3] | 2 => [0, 1] | 3 => [0, 1] | 6 => [5, 8, 9] | 7 => [5, 8, 9] | 8 => [5, 6, 7] | 9 => [5, 6, 7] | 10 => [5] | 13 => [12, 15, 16] | 14 => [12, 15, 16] | 15 => [12, 13, 14] | 16 => [12, 13, 14] | 17 => [12] | 20 => [19, 22, 23] | 21 => [19, 22, 23] | 22 => [19, 20, 21] | 23 => [19, 20, 21] | 24 => [19] | 27 => [26, 29, 30] | 28 => [26, 29, 30] | 29 => [26, 27, 28] | 30 => [26, 27, 28] | 31 => [26] | 34 => [33, 36, 37] | 35 => [33, 36, 37] | 36 => [33, 34, 35] | 37 => [33, 34, 35] | 38 => [33] | 41 => [40, 43, 44] | 42 => [40, 43, 44] | 43 => [40, 41, 42] | 44 => [40, 41, 42] | 45 => [40] | _ => []) [47] [0, 1, 0, 4, 15, 31, 63, 127, 63, 319, 1023, 2047, 4095, 8191, 16383, 8191, 40959, 131071, 262143, 524287, 1048575, 2097151, 1048575, 5242879, 16777215, 33554431, 67108863, 134217727, 268435455, 134217727, 671088639, 2147483647, 4294967295, 8589934591, 17179869183, 34359738367, 17179869183, 85899345919, 274877906943, 549755813887, 1099511627775, 2199023255551, 4398046511103, 2199023255551, 10995116277759, 35184372088831, 70368744177663, 140737488355327] 187 rfl (by kernel_rfl) (ExtX.refl _ _) ?_ ?_
        · rename_i hcont; clear hcont
          refine ⟨?_, ?_, ?_, ?_, ?_, ?_, ?_, ?_, ?_, ?_, ?_, ?_, ?_, ?_, ?_, ?_, ?_, ?_, ?_, ?_, ?_, ?_, ?_, ?_, ?_, ?_, ?_, ?_, ?_, ?_, ?_, ?_, ?_, ?_, ?_, ?_, ?_, ?_, ?_, ?_, ?_, ?_, ?_, ?_, ?_, ?_, ?_, ?_, trivial⟩
          · refine stepL_plain rfl ?_
            rintro F a w1 jE - ⟨t2, -⟩ K hK
            have t2 : a.tmps[2]? = some (.pointer (some ⟨g, 0, none⟩)) := t2
            go_simp
            exact hK _ _ jE rfl (fun _ _ _ h => h)
          · refine stepL_plain rfl ?_
            rintro F a w1 jE ⟨h0, t115, -⟩ - K hK
            have h0 : (F 0) = .pointer (some ⟨g, 4, none⟩) := h0
            rw [h0] at t115
            clear h0
            have c := (jE.blk B1 (by simp)).cell
            go_simp
            exact hK _ _ jE rfl (fun _ _ _ h => h)
          · refine stepL_plain rfl ?_
            rintro F a w1 jE - ⟨t3, -⟩ K hK
            have t3 : a.tmps[3]? = some (.pointer (some ⟨(g + 1), 0, none⟩)) := t3
            go_simp
            exact hK _ _ jE rfl (fun _ _ _ h => h)
          · refine stepL_plain rfl ?_
            rintro F a w1 jE ⟨h2, t117, -⟩ - K hK
            have h2 : (F 2) = .pointer (some ⟨(g + 1), 4, none⟩) := h2
            rw [h2] at t117
            clear h2
            have c := (jE.blk B2 (by simp)).cell
            go_simp
            exact hK _ _ jE rfl (fun _ _ _ h => h)
          · refine stepL_plain rfl ?_
            rintro F a w1 jE ⟨h1, t116, h3, t118, -⟩ - K hK
            have h1 : (F 1) = (.agg #[.int .u8 s.w.k, .int .i64 s.w.n]) := h1
            rw [h1] at t116
            clear h1
            have h3 : (F 3) = (.agg #[.int .u8 s.w.k, .int .i64 s.w.n]) := h3
            rw [h3] at t118
            clear h3
            have e1 := fun w => eq_lnS s.w w
            go_simp
            exact hK _ _ jE rfl (fun _ _ _ h => h)
          · refine stepL_plain rfl ?_
            rintro F a w1 jE ⟨h4, t119, -⟩ - K hK
            have h4 : (F 4) = .bool true := h4
            rw [h4] at t119
            clear h4
            go_simp
            exact hK _ _ jE rfl (fun _ _ _ h => h)
          · refine stepL_of ?_
            rintro F a w1 jE ⟨h5, t120, -⟩ ⟨t2, -⟩ K hK
            have h5 : (F 5) = .bool true := h5
            rw [h5] at t120
            clear h5
            have t2 : a.tmps[2]? = some (.pointer (some ⟨g, 0, none⟩)) := t2
            refine stepY ((wanted_of 5 true 120 _ rfl rfl t120).trans rfl) ?_
            go_simp
            exact hK _ _ jE rfl (fun _ _ _ h => h)
          · refine stepL_of ?_
            rintro F a w1 jE ⟨h6, t121, h5, t120, -⟩ - K hK
            have h6 : (F 6) = .pointer (some ⟨g, 6, none⟩) := h6
            rw [h6] at t121
            clear h6
            have h5 : (F 5) = .bool true := h5
            rw [h5] at t120
            clear h5
            refine stepY ((wanted_of 5 true 120 _ rfl rfl t120).trans rfl) ?_
            have c := (jE.blk B1 (by simp)).cell
            go_simp
            exact hK _ _ jE rfl (fun _ _ _ h => h)
          · refine stepL_of ?_
            rintro F a w1 jE ⟨h5, t120, -⟩ ⟨t3, -⟩ K hK
            have h5 : (F 5) = .bool true := h5
            rw [h5] at t120
            clear h5
            have t3 : a.tmps[3]? = some (.pointer (some ⟨(g + 1), 0, none⟩)) := t3
            refine stepY ((wanted_of 5 true 120 _ rfl rfl t120).trans rfl) ?_
            go_simp
            exact hK _ _ jE rfl (fun _ _ _ h => h)
          · refine stepL_of ?_
            rintro F a w1 jE ⟨h8, t123, h5, t120, -⟩ - K hK
            have h8 : (F 8) = .pointer (some ⟨(g + 1), 6, none⟩) := h8
            rw [h8] at t123
            clear h8
            have h5 : (F 5) = .bool true := h5
            rw [h5] at t120
            clear h5
            refine stepY ((wanted_of 5 true 120 _ rfl rfl t120).trans rfl) ?_
            have c := (jE.blk B2 (by simp)).cell
            go_simp
            exact hK _ _ jE rfl (fun _ _ _ h => h)
          · refine stepL_of ?_
            rintro F a w1 jE ⟨h7, t122, h9, t124, h5, t120, -⟩ - K hK
            have h7 : (F 7) = (.agg #[.int .u8 s.h.k, .int .i64 s.h.n]) := h7
            rw [h7] at t122
            clear h7
            have h9 : (F 9) = (.agg #[.int .u8 s.h.k, .int .i64 s.h.n]) := h9
            rw [h9] at t124
            clear h9
            have h5 : (F 5) = .bool true := h5
            rw [h5] at t120
            clear h5
            refine stepY ((wanted_of 5 true 120 _ rfl rfl t120).trans rfl) ?_
            have e1 := fun w => eq_lnS s.h w
            go_simp
            exact hK _ _ jE rfl (fun _ _ _ h => h)
          · refine stepL_plain rfl ?_
            rintro F a w1 jE ⟨h5, t120, h10, t125, -⟩ - K hK
            have h5 : (F 5) = .bool true := h5
            rw [h5] at t120
            clear h5
            have h10 : (F 10) = .bool true := h10
            rw [h10] at t125
            clear h10
            go_simp
            exact hK _ _ jE rfl (fun _ _ _ h => h)
          · refine stepL_plain rfl ?_
            rintro F a w1 jE ⟨h11, t126, -⟩ - K hK
            have h11 : (F 11) = .bool true := h11
            rw [h11] at t126
            clear h11
            go_simp
            exact hK _ _ jE rfl (fun _ _ _ h => h)
          · refine stepL_of ?_
            rintro F a w1 jE ⟨h12, t127, -⟩ ⟨t2, -⟩ K hK
            have h12 : (F 12) = .bool true := h12
            rw [h12] at t127
            clear h12
            have t2 : a.tmps[2]? = some (.pointer (some ⟨g, 0, none⟩)) := t2
            refine stepY ((wanted_of 12 true 127 _ rfl rfl t127).trans rfl) ?_
            go_simp
            exact hK _ _ jE rfl (fun _ _ _ h => h)
          · refine stepL_of ?_
            rintro F a w1 jE ⟨h13, t128, h12, t127, -⟩ - K hK
            have h13 : (F 13) = .pointer (some ⟨g, 8, none⟩) := h13
            rw [h13] at t128
            clear h13
            have h12 : (F 12) = .bool true := h12
            rw [h12] at t127
            clear h12
            refine stepY ((wanted_of 12 true 127 _ rfl rfl t127).trans rfl) ?_
            have c := (jE.blk B1 (by simp)).cell
            go_simp
            exact hK _ _ jE rfl (fun _ _ _ h => h)
          · refine stepL_of ?_
            rintro F a w1 jE ⟨h12, t127, -⟩ ⟨t3, -⟩ K hK
            have h12 : (F 12) = .bool true := h12
            rw [h12] at t127
            clear h12
            have t3 : a.tmps[3]? = some (.pointer (some ⟨(g + 1), 0, none⟩)) := t3
            refine stepY ((wanted_of 12 true 127 _ rfl rfl t127).trans rfl) ?_
            go_simp
            exact hK _ _ jE rfl (fun _ _ _ h => h)
          · refine stepL_of ?_
            rintro F a w1 jE ⟨h15, t130, h12, t127, -⟩ - K hK
            have h15 : (F 15) = .pointer (some ⟨(g + 1), 8, none⟩) := h15
            rw [h15] at t130
            clear h15
            have h12 : (F 12) = .bool true := h12
            rw [h12] at t127
            clear h12
            refine stepY ((wanted_of 12 true 127 _ rfl rfl t127).trans rfl) ?_
            have c := (jE.blk B2 (by simp)).cell
            go_simp
            exact hK _ _ jE rfl (fun _ _ _ h => h)
          · refine stepL_of ?_
            rintro F a w1 jE ⟨h14, t129, h16, t131, h12, t127, -⟩ - K hK
            have h14 : (F 14) = (.agg #[.int .u8 s.minw.k, .int .i64 s.minw.n]) := h14
            rw [h14] at t129
            clear h14
            have h16 : (F 16) = (.agg #[.int .u8 s.minw.k, .int .i64 s.minw.n]) := h16
            rw [h16] at t131
            clear h16
            have h12 : (F 12) = .bool true := h12
            rw [h12] at t127
            clear h12
            refine stepY ((wanted_of 12 true 127 _ rfl rfl t127).trans rfl) ?_
            have e1 := fun w => eq_lnS s.minw w
            go_simp
            exact hK _ _ jE rfl (fun _ _ _ h => h)
          · refine stepL_plain rfl ?_
            rintro F a w1 jE ⟨h12, t127, h17, t132, -⟩ - K hK
            have h12 : (F 12) = .bool true := h12
            rw [h12] at t127
            clear h12
            have h17 : (F 17) = .bool true := h17
            rw [h17] at t132
            clear h17
            go_simp
            exact hK _ _ jE rfl (fun _ _ _ h => h)
          · refine stepL_plain rfl ?_
            rintro F a w1 jE ⟨h18, t133, -⟩ - K hK
            have h18 : (F 18) = .bool true := h18
            rw [h18] at t133
            clear h18
            go_simp
            exact hK _ _ jE rfl (fun _ _ _ h => h)
          · refine stepL_of ?_
            rintro F a w1 jE ⟨h19, t134, -⟩ ⟨t2, -⟩ K hK
            have h19 : (F 19) = .bool true := h19
            rw [h19] at t134
            clear h19
            have t2 : a.tmps[2]? = some (.pointer (some ⟨g, 0, none⟩)) := t2
            refine stepY ((wanted_of 19 true 134 _ rfl rfl t134).trans rfl) ?_
            go_simp
            exact hK _ _ jE rfl (fun _ _ _ h => h)
          · refine stepL_of ?_
            rintro F a w1 jE ⟨h20, t135, h19, t134, -⟩ - K hK
            have h20 : (F 20) = .pointer (some ⟨g, 10, none⟩) := h20
            rw [h20] at t135
            clear h20
            have h19 : (F 19) = .bool true := h19
            rw [h19] at t134
            clear h19
            refine stepY ((wanted_of 19 true 134 _ rfl rfl t134).trans rfl) ?_
            have c := (jE.blk B1 (by simp)).cell
            go_simp
            exact hK _ _ jE rfl (fun _ _ _ h => h)
          · refine stepL_of ?_
            rintro F a w1 jE ⟨h19, t134, -⟩ ⟨t3, -⟩ K hK
            have h19 : (F 19) = .bool true := h19
            rw [h19] at t134
            clear h19
            have t3 : a.tmps[3]? = some (.pointer (some ⟨(g + 1), 0, none⟩)) := t3
            refine stepY ((wanted_of 19 true 134 _ rfl rfl t134).trans rfl) ?_
            go_simp
            exact hK _ _ jE rfl (fun _ _ _ h => h)
          · refine stepL_of ?_
            rintro F a w1 jE ⟨h22, t137, h19, t134, -⟩ - K hK
            have h22 : (F 22) = .pointer (some ⟨(g + 1), 10, none⟩) := h22
            rw [h22] at t137
            clear h22
            have h19 : (F 19) = .bool true := h19
            rw [h19] at t134
            clear h19
            refine stepY ((wanted_of 19 true 134 _ rfl rfl t134).trans rfl) ?_
            have c := (jE.blk B2 (by simp)).cell
            go_simp
            exact hK _ _ jE rfl (fun _ _ _ h => h)
          · refine stepL_of ?_
            rintro F a w1 jE ⟨h21, t136, h23, t138, h19, t134, -⟩ - K hK
            have h21 : (F 21) = (.agg #[.int .u8 s.maxw.k, .int .i64 s.maxw.n]) := h21
            rw [h21] at t136
            clear h21
            have h23 : (F 23) = (.agg #[.int .u8 s.maxw.k, .int .i64 s.maxw.n]) := h23
            rw [h23] at t138
            clear h23
            have h19 : (F 19) = .bool true := h19
            rw [h19] at t134
            clear h19
            refine stepY ((wanted_of 19 true 134 _ rfl rfl t134).trans rfl) ?_
            have e1 := fun w => eq_lnS s.maxw w
            go_simp
            exact hK _ _ jE rfl (fun _ _ _ h => h)
          · refine stepL_plain rfl ?_
            rintro F a w1 jE ⟨h19, t134, h24, t139, -⟩ - K hK
            have h19 : (F 19) = .bool true := h19
            rw [h19] at t134
            clear h19
            have h24 : (F 24) = .bool true := h24
            rw [h24] at t139
            clear h24
            go_simp
            exact hK _ _ jE rfl (fun _ _ _ h => h)
          · refine stepL_plain rfl ?_
            rintro F a w1 jE ⟨h25, t140, -⟩ - K hK
            have h25 : (F 25) = .bool true := h25
            rw [h25] at t140
            clear h25
            go_simp
            exact hK _ _ jE rfl (fun _ _ _ h => h)
          · refine stepL_of ?_
            rintro F a w1 jE ⟨h26, t141, -⟩ ⟨t2, -⟩ K hK
            have h26 : (F 26) = .bool true := h26
            rw [h26] at t141
            clear h26
            have t2 : a.tmps[2]? = some (.pointer (some ⟨g, 0, none⟩)) := t2
            refine stepY ((wanted_of 26 true 141 _ rfl rfl t141).trans rfl) ?_
            go_simp
            exact hK _ _ jE rfl (fun _ _ _ h => h)
          · refine stepL_of ?_
            rintro F a w1 jE ⟨h27, t142, h26, t141, -⟩ - K hK
            have h27 : (F 27) = .pointer (some ⟨g, 12, none⟩) := h27
            rw [h27] at t142
            clear h27
            have h26 : (F 26) = .bool true := h26
            rw [h26] at t141
            clear h26
            refine stepY ((wanted_of 26 true 141 _ rfl rfl t141).trans rfl) ?_
            have c := (jE.blk B1 (by simp)).cell
            go_simp
            exact hK _ _ jE rfl (fun _ _ _ h => h)
          · refine stepL_of ?_
            rintro F a w1 jE ⟨h26, t141, -⟩ ⟨t3, -⟩ K hK
            have h26 : (F 26) = .bool true := h26
            rw [h26] at t141
            clear h26
            have t3 : a.tmps[3]? = some (.pointer (some ⟨(g + 1), 0, none⟩)) := t3
            refine stepY ((wanted_of 26 true 141 _ rfl rfl t141).trans rfl) ?_
            go_simp
            exact hK _ _ jE rfl (fun _ _ _ h => h)
          · refine stepL_of ?_
            rintro F a w1 jE ⟨h29, t144, h26, t141, -⟩ - K hK
            have h29 : (F 29) = .pointer (some ⟨(g + 1), 12, none⟩) := h29
            rw [h29] at t144
            clear h29
            have h26 : (F 26) = .bool true := h26
            rw [h26] at t141
            clear h26
            refine stepY ((wanted_of 26 true 141 _ rfl rfl t141).trans rfl) ?_
            have c := (jE.blk B2 (by simp)).cell
            go_simp
            exact hK _ _ jE rfl (fun _ _ _ h => h)
          · refine stepL_of ?_
            rintro F a w1 jE ⟨h28, t143, h30, t145, h26, t141, -⟩ - K hK
            have h28 : (F 28) = (.agg #[.int .u8 s.minh.k, .int .i64 s.minh.n]) := h28
            rw [h28] at t143
            clear h28
            have h30 : (F 30) = (.agg #[.int .u8 s.minh.k, .int .i64 s.minh.n]) := h30
            rw [h30] at t145
            clear h30
            have h26 : (F 26) = .bool true := h26
            rw [h26] at t141
            clear h26
            refine stepY ((wanted_of 26 true 141 _ rfl rfl t141).trans rfl) ?_
            have e1 := fun w => eq_lnS s.minh w
            go_simp
            exact hK _ _ jE rfl (fun _ _ _ h => h)
          · refine stepL_plain rfl ?_
            rintro F a w1 jE ⟨h26, t141, h31, t146, -⟩ - K hK
            have h26 : (F 26) = .bool true := h26
            rw [h26] at t141
            clear h26
            have h31 : (F 31) = .bool true := h31
            rw [h31] at t146
            clear h31
            go_simp
            exact hK _ _ jE rfl (fun _ _ _ h => h)
          · refine stepL_plain rfl ?_
            rintro F a w1 jE ⟨h32, t147, -⟩ - K hK
            have h32 : (F 32) = .bool true := h32
            rw [h32] at t147
            clear h32
            go_simp
            exact hK _ _ jE rfl (fun _ _ _ h => h)
          · refine stepL_of ?_
            rintro F a w1 jE ⟨h33, t148, -⟩ ⟨t2, -⟩ K hK
            have h33 : (F 33) = .bool true := h33
            rw [h33] at t148
            clear h33
            have t2 : a.tmps[2]? = some (.pointer (some ⟨g, 0, none⟩)) := t2
            refine stepY ((wanted_of 33 true 148 _ rfl rfl t148).trans rfl) ?_
            go_simp
            exact hK _ _ jE rfl (fun _ _ _ h => h)
          · refine stepL_of ?_
            rintro F a w1 jE ⟨h34, t149, h33, t148, -⟩ - K hK
            have h34 : (F 34) = .pointer (some ⟨g, 14, none⟩) := h34
            rw [h34] at t149
            clear h34
            have h33 : (F 33) = .bool true := h33
            rw [h33] at t148
            clear h33
            refine stepY ((wanted_of 33 true 148 _ rfl rfl t148).trans rfl) ?_
            have c := (jE.blk B1 (by simp)).cell
            go_simp
            exact hK _ _ jE rfl (fun _ _ _ h => h)
          · refine stepL_of ?_
            rintro F a w1 jE ⟨h33, t148, -⟩ ⟨t3, -⟩ K hK
            have h33 : (F 33) = .bool true := h33
            rw [h33] at t148
            clear h33
            have t3 : a.tmps[3]? = some (.pointer (some ⟨(g + 1), 0, none⟩)) := t3
            refine stepY ((wanted_of 33 true 148 _ rfl rfl t148).trans rfl) ?_
            go_simp
            exact hK _ _ jE rfl (fun _ _ _ h => h)
          · refine stepL_of ?_
            rintro F a w1 jE ⟨h36, t151, h33, t148, -⟩ - K hK
            have h36 : (F 36) = .pointer (some ⟨(g + 1), 14, none⟩) := h36
            rw [h36] at t151
            clear h36
            have h33 : (F 33) = .bool true := h33
            rw [h33] at t148
            clear h33
            refine stepY ((wanted_of 33 true 148 _ rfl rfl t148).trans rfl) ?_
            have c := (jE.blk B2 (by simp)).cell
            go_simp
            exact hK _ _ jE rfl (fun _ _ _ h => h)
          · refine stepL_of ?_
            rintro F a w1 jE ⟨h35, t150, h37, t152, h33, t148, -⟩ - K hK
            have h35 : (F 35) = (.agg #[.int .u8 s.maxh.k, .int .i64 s.maxh.n]) := h35
            rw [h35] at t150
            clear h35
            have h37 : (F 37) = (.agg #[.int .u8 s.maxh.k, .int .i64 s.maxh.n]) := h37
            rw [h37] at t152
            clear h37
            have h33 : (F 33) = .bool true := h33
            rw [h33] at t148
            clear h33
            refine stepY ((wanted_of 33 true 148 _ rfl rfl t148).trans rfl) ?_
            have e1 := fun w => eq_lnS s.maxh w
            go_simp
            exact hK _ _ jE rfl (fun _ _ _ h => h)
          · refine stepL_plain rfl ?_
            rintro F a w1 jE ⟨h33, t148, h38, t153, -⟩ - K hK
            have h33 : (F 33) = .bool true := h33
            rw [h33] at t148
            clear h33
            have h38 : (F 38) = .bool true := h38
            rw [h38] at t153
            clear h38
            go_simp
            exact hK _ _ jE rfl (fun _ _ _ h => h)
          · refine stepL_plain rfl ?_
            rintro F a w1 jE ⟨h39, t154, -⟩ - K hK
            have h39 : (F 39) = .bool true := h39
            rw [h39] at t154
            clear h39
            go_simp
            exact hK _ _ jE rfl (fun _ _ _ h => h)
          · refine stepL_of ?_
            rintro F a w1 jE ⟨h40, t155, -⟩ ⟨t2, -⟩ K hK
            have h40 : (F 40) = .bool true := h40
            rw [h40] at t155
            clear h40
            have t2 : a.tmps[2]? = some (.pointer (some ⟨g, 0, none⟩)) := t2
            refine stepY ((wanted_of 40 true 155 _ rfl rfl t155).trans rfl) ?_
            go_simp
            exact hK _ _ jE rfl (fun _ _ _ h => h)
          · refine stepL_of ?_
            rintro F a w1 jE ⟨h41, t156, h40, t155, -⟩ - K hK
            have h41 : (F 41) = .pointer (some ⟨g, 40, none⟩) := h41
            rw [h41] at t156
            clear h41
            have h40 : (F 40) = .bool true := h40
            rw [h40] at t155
            clear h40
            refine stepY ((wanted_of 40 true 155 _ rfl rfl t155).trans rfl) ?_
            have c := (jE.blk B1 (by simp)).cell
            go_simp
            exact hK _ _ jE rfl (fun _ _ _ h => h)
          · refine stepL_of ?_
            rintro F a w1 jE ⟨h40, t155, -⟩ ⟨t3, -⟩ K hK
            have h40 : (F 40) = .bool true := h40
            rw [h40] at t155
            clear h40
            have t3 : a.tmps[3]? = some (.pointer (some ⟨(g + 1), 0, none⟩)) := t3
            refine stepY ((wanted_of 40 true 155 _ rfl rfl t155).trans rfl) ?_
            go_simp
            exact hK _ _ jE rfl (fun _ _ _ h => h)
          · refine stepL_of ?_
            rintro F a w1 jE ⟨h43, t158, h40, t155, -⟩ - K hK
            have h43 : (F 43) = .pointer (some ⟨(g + 1), 40, none⟩) := h43
            rw [h43] at t158
            clear h43
            have h40 : (F 40) = .bool true := h40
            rw [h40] at t155
            clear h40
            refine stepY ((wanted_of 40 true 155 _ rfl rfl t155).trans rfl) ?_
            have c := (jE.blk B2 (by simp)).cell
            go_simp
            exact hK _ _ jE rfl (fun _ _ _ h => h)
          · refine stepL_of ?_
            rintro F a w1 jE ⟨h42, t157, h44, t159, h40, t155, -⟩ - K hK
            have h42 : (F 42) = (.agg #[.int .u8 s.basis.k, .int .i64 s.basis.n]) := h42
            rw [h42] at t157
            clear h42
            have h44 : (F 44) = (.agg #[.int .u8 s.basis.k, .int .i64 s.basis.n]) := h44
            rw [h44] at t159
            clear h44
            have h40 : (F 40) = .bool true := h40
            rw [h40] at t155
            clear h40
            refine stepY ((wanted_of 40 true 155 _ rfl rfl t155).trans rfl) ?_
            have e1 := fun w => eq_lnS s.basis w
            go_simp
            exact hK _ _ jE rfl (fun _ _ _ h => h)
          · refine stepL_plain rfl ?_
            rintro F a w1 jE ⟨h40, t155, h45, t160, -⟩ - K hK
            have h40 : (F 40) = .bool true := h40
            rw [h40] at t155
            clear h40
            have h45 : (F 45) = .bool true := h45
            rw [h45] at t160
            clear h45
            go_simp
            exact hK _ _ jE rfl (fun _ _ _ h => h)
          · refine stepL_plain rfl ?_
            rintro F a w1 jE ⟨h46, t161, -⟩ - K hK
            have h46 : (F 46) = .bool true := h46
            rw [h46] at t161
            clear h46
            go_simp
            exact hK _ _ jE rfl (fun _ _ _ h => h)
        · rintro F wz jE ⟨h47, -⟩
          have h47 : (F 47) = .bool true := h47
          have hx := jE.ext (Ext.refl _) (by simp)
          replace E1 := E1.trans hx
          replace B1 := B1.ext hx
          replace B2 := B2.ext hx
          clear jE hx
          simp only [putL, Act.put, Nat.reduceAdd, Nat.zero_add, List.setIfInBounds_toArray, List.set_cons_succ, List.set_cons_zero]
          rw [h47]
          clear h47
          go_upto_region 10 with fail
          refine wp_region_lin0 (fun w' => (ExtX wz w' [])) (fun ii vv ww => match ii with | 0 => vv = .bool true | 1 => vv = .bool true | 2 => vv = .bool true | 3 => vv = .bool true | 4 => vv = .bool true | 5 => vv = .pointer (some ⟨g, 16, none⟩) | 6 => vv = (.agg #[.int .u8 s.m0.k, .int .i64 s.m0.n, .int .u8 s.m1.k, .int .i64 s.m1.n, .int .u8 s.m2.k, .int .i64 s.m2.n, .int .u8 s.m3.k, .int .i64 s.m3.n]) | 7 => vv = .pointer (some ⟨(g + 1), 16, none⟩) | 8 => vv = (.agg #[.int .u8 s.m0.k, .int .i64 s.m0.n, .int .u8 s.m1.k, .int .i64 s.m1.n, .int .u8 s.m2.k, .int .i64 s.m2.n, .int .u8 s.m3.k, .int .i64 s.m3.n]) | 9 => vv = .bool true | 10 => vv = .bool true | 11 => vv = .bool true | 12 => vv = .pointer (some ⟨g, 24, none⟩) | 13 => vv = (.agg #[.int .i64 s.b0, .int .i64 s.b1, .int .i64 s.b2, .int .i64 s.b3]) | 14 => vv = .pointer (some ⟨(g + 1), 24, none⟩) | 15 => vv = (.agg #[.int .i64 s.b0, .int .i64 s.b1, .int .i64 s.b2, .int .i64 s.b3]) | 16 => vv = .bool true | 17 => vv = .bool true | 18 => vv = .bool true | 19 => vv = .pointer (some ⟨g, 28, none⟩) | 20 => vv = (.agg #[.int .i64 s.p0, .int .i64 s.p1, .int .i64 s.p2, .int .i64 s.p3]) | 21 => vv = .pointer (some ⟨(g + 1), 28, none⟩) | 22 => vv = (.agg #[.int .i64 s.p0, .int .i64 s.p1, .int .i64 s.p2, .int .i64 s.p3]) | 23 => vv = .bool true | 24 => vv = .bool true | 25 => vv = .bool true | _ => True) (fun ii => match ii with | 1 => [(0, 162)] | 2 => [(1, 163)] | 3 => [(1, 163), (2, 164)] | 4 => [(3, 165)] | 5 => [(4, 166)] | 6 => [(5, 167), (4, 166)] | 7 => [(4, 166)] | 8 => [(7, 169), (4, 166)] | 9 => [(6, 168), (8, 170), (4, 166)] | 10 => [(4, 166), (9, 171)] | 11 => [(10, 172)] | 12 => [(11, 173)] | 13 => [(12, 174), (11, 173)] | 14 => [(11, 173)] | 15 => [(14, 176), (11, 173)] | 16 => [(13, 175), (15, 177), (11, 173)] | 17 => [(11, 173), (16, 178)] | 18 => [(17, 179)] | 19 => [(18, 180)] | 20 => [(19, 181), (18, 180)] | 21 => [(18, 180)] | 22 => [(21, 183), (18, 180)] | 23 => [(20, 182), (22, 184), (18, 180)] | 24 => [(18, 180), (23, 185)] | 25 => [(24, 186)] | _ => []) (fun ii => match ii with | 0 => [6] | 2 => [7] | 5 => [2] | 7 => [3] | 12 => [2] | 14 => [3] | 19 => [2] | 21 => [3] | _ => []) (fun ii => match ii with | 2 => [1] | 5 => [4, 7, 8] | 6 => [4, 7, 8] | 7 => [4, 5, 6] | 8 => [4, 5, 6] | 9 => [4] | 12 => [11, 14, 15] | 13 => [11, 14, 15] | 14 => [11, 12, 13] | 15 => [11, 12, 13] | 16 => [11] | 19 => [18, 21, 22] | 20 => [18, 21, 22] | 21 => [18, 19, 20] | 22 => [18, 19, 20] | 23 => [18] | _ => []) [25] [0, 1, 3, 7, 15, 31, 63, 31, 159, 511, 1023, 2047, 4095, 8191, 4095, 20479, 65535, 131071, 262143, 524287, 1048575, 524287, 2621439, 8388607, 16777215, 33554431] 187 rfl (by kernel_rfl) (ExtX.refl _ _) ?_ ?_
          · rename_i hcont; clear hcont
            refine ⟨?_, ?_, ?_, ?_, ?_, ?_, ?_, ?_, ?_, ?_, ?_, ?_, ?_, ?_, ?_, ?_, ?_, ?_, ?_, ?_, ?_, ?_, ?_, ?_, ?_, ?_, trivial⟩
            · refine stepL_plain rfl ?_
              rintro F a w1 jE - ⟨t6, -⟩ K hK
              have t6 : a.tmps[6]? = some (.bool true) := t6
              go_simp
              exact hK _ _ jE rfl (fun _ _ _ h => h)
            · refine stepL_plain rfl ?_
              rintro F a w1 jE ⟨h0, t162, -⟩ - K hK
              have h0 : (F 0) = .bool true := h0
              rw [h0] at t162
              clear h0
              go_simp
              exact hK _ _ jE rfl (fun _ _ _ h => h)
            · refine stepL_of ?_
              rintro F a w1 jE ⟨h1, t163, -⟩ ⟨t7, -⟩ K hK
              have h1 : (F 1) = .bool true := h1
              rw [h1] at t163
              clear h1
              have t7 : a.tmps[7]? = some (.bool true) := t7
              refine stepY ((wanted_of 1 true 163 _ rfl rfl t163).trans rfl) ?_
              go_simp
              exact hK _ _ jE rfl (fun _ _ _ h => h)
            · refine stepL_plain rfl ?_
              rintro F a w1 jE ⟨h1, t163, h2, t164, -⟩ - K hK
              have h1 : (F 1) = .bool true := h1
              rw [h1] at t163
              clear h1
              have h2 : (F 2) = .bool true := h2
              rw [h2] at t164
              clear h2
              go_simp
              exact hK _ _ jE rfl (fun _ _ _ h => h)
            · refine stepL_plain rfl ?_
              rintro F a w1 jE ⟨h3, t165, -⟩ - K hK
              have h3 : (F 3) = .bool true := h3
              rw [h3] at t165
              clear h3
              go_simp
              exact hK _ _ jE rfl (fun _ _ _ h => h)
            · refine stepL_of ?_
              rintro F a w1 jE ⟨h4, t166, -⟩ ⟨t2, -⟩ K hK
              have h4 : (F 4) = .bool true := h4
              rw [h4] at t166
              clear h4
              have t2 : a.tmps[2]? = some (.pointer (some ⟨g, 0, none⟩)) := t2
              refine stepY ((wanted_of 4 true 166 _ rfl rfl t166).trans rfl) ?_
              go_simp
              exact hK _ _ jE rfl (fun _ _ _ h => h)
            · refine stepL_of ?_
              rintro F a w1 jE ⟨h5, t167, h4, t166, -⟩ - K hK
              have h5 : (F 5) = .pointer (some ⟨g, 16, none⟩) := h5
              rw [h5] at t167
              clear h5
              have h4 : (F 4) = .bool true := h4
              rw [h4] at t166
              clear h4
              refine stepY ((wanted_of 4 true 166 _ rfl rfl t166).trans rfl) ?_
              have c := (jE.blk B1 (by simp)).cell
              go_simp
              exact hK _ _ jE rfl (fun _ _ _ h => h)
            · refine stepL_of ?_
              rintro F a w1 jE ⟨h4, t166, -⟩ ⟨t3, -⟩ K hK
              have h4 : (F 4) = .bool true := h4
              rw [h4] at t166
              clear h4
              have t3 : a.tmps[3]? = some (.pointer (some ⟨(g + 1), 0, none⟩)) := t3
              refine stepY ((wanted_of 4 true 166 _ rfl rfl t166).trans rfl) ?_
              go_simp
              exact hK _ _ jE rfl (fun _ _ _ h => h)
            · refine stepL_of ?_
              rintro F a w1 jE ⟨h7, t169, h4, t166, -⟩ - K hK
              have h7 : (F 7) = .pointer (some ⟨(g + 1), 16, none⟩) := h7
              rw [h7] at t169
              clear h7
              have h4 : (F 4) = .bool true := h4
              rw [h4] at t166
              clear h4
              refine stepY ((wanted_of 4 true 166 _ rfl rfl t166).trans rfl) ?_
              have c := (jE.blk B2 (by simp)).cell
              go_simp
              exact hK _ _ jE rfl (fun _ _ _ h => h)
            · refine stepL_of ?_
              rintro F a w1 jE ⟨h6, t168, h8, t170, h4, t166, -⟩ - K hK
              have h6 : (F 6) = (.agg #[.int .u8 s.m0.k, .int .i64 s.m0.n, .int .u8 s.m1.k, .int .i64 s.m1.n, .int .u8 s.m2.k, .int .i64 s.m2.n, .int .u8 s.m3.k, .int .i64 s.m3.n]) := h6
              rw [h6] at t168
              clear h6
              have h8 : (F 8) = (.agg #[.int .u8 s.m0.k, .int .i64 s.m0.n, .int .u8 s.m1.k, .int .i64 s.m1.n, .int .u8 s.m2.k, .int .i64 s.m2.n, .int .u8 s.m3.k, .int .i64 s.m3.n]) := h8
              rw [h8] at t170
              clear h8
              have h4 : (F 4) = .bool true := h4
              rw [h4] at t166
              clear h4
              refine stepY ((wanted_of 4 true 166 _ rfl rfl t166).trans rfl) ?_
              have e1 := fun w => eq_l4S s.m0 s.m1 s.m2 s.m3 w
              go_simp
              exact hK _ _ jE rfl (fun _ _ _ h => h)
            · refine stepL_plain rfl ?_
              rintro F a w1 jE ⟨h4, t166, h9, t171, -⟩ - K hK
              have h4 : (F 4) = .bool true := h4
              rw [h4] at t166
              clear h4
              have h9 : (F 9) = .bool true := h9
              rw [h9] at t171
              clear h9
              go_simp
              exact hK _ _ jE rfl (fun _ _ _ h => h)
            · refine stepL_plain rfl ?_
              rintro F a w1 jE ⟨h10, t172, -⟩ - K hK
              have h10 : (F 10) = .bool true := h10
              rw [h10] at t172
              clear h10
              go_simp
              exact hK _ _ jE rfl (fun _ _ _ h => h)
            · refine stepL_of ?_
              rintro F a w1 jE ⟨h11, t173, -⟩ ⟨t2, -⟩ K hK
              have h11 : (F 11) = .bool true := h11
              rw [h11] at t173
              clear h11
              have t2 : a.tmps[2]? = some (.pointer (some ⟨g, 0, none⟩)) := t2
              refine stepY ((wanted_of 11 true 173 _ rfl rfl t173).trans rfl) ?_
              go_simp
              exact hK _ _ jE rfl (fun _ _ _ h => h)
            · refine stepL_of ?_
              rintro F a w1 jE ⟨h12, t174, h11, t173, -⟩ - K hK
              have h12 : (F 12) = .pointer (some ⟨g, 24, none⟩) := h12
              rw [h12] at t174
              clear h12
              have h11 : (F 11) = .bool true := h11
              rw [h11] at t173
              clear h11
              refine stepY ((wanted_of 11 true 173 _ rfl rfl t173).trans rfl) ?_
              have c := (jE.blk B1 (by simp)).cell
              go_simp
              exact hK _ _ jE rfl (fun _ _ _ h => h)
            · refine stepL_of ?_
              rintro F a w1 jE ⟨h11, t173, -⟩ ⟨t3, -⟩ K hK
              have h11 : (F 11) = .bool true := h11
              rw [h11] at t173
              clear h11
              have t3 : a.tmps[3]? = some (.pointer (some ⟨(g + 1), 0, none⟩)) := t3
              refine stepY ((wanted_of 11 true 173 _ rfl rfl t173).trans rfl) ?_
              go_simp
              exact hK _ _ jE rfl (fun _ _ _ h => h)
            · refine stepL_of ?_
              rintro F a w1 jE ⟨h14, t176, h11, t173, -⟩ - K hK
              have h14 : (F 14) = .pointer (some ⟨(g + 1), 24, none⟩) := h14
              rw [h14] at t176
              clear h14
              have h11 : (F 11) = .bool true := h11
              rw [h11] at t173
              clear h11
              refine stepY ((wanted_of 11 true 173 _ rfl rfl t173).trans rfl) ?_
              have c := (jE.blk B2 (by simp)).cell
              go_simp
              exact hK _ _ jE rfl (fun _ _ _ h => h)
            · refine stepL_of ?_
              rintro F a w1 jE ⟨h13, t175, h15, t177, h11, t173, -⟩ - K hK
              have h13 : (F 13) = (.agg #[.int .i64 s.b0, .int .i64 s.b1, .int .i64 s.b2, .int .i64 s.b3]) := h13
              rw [h13] at t175
              clear h13
              have h15 : (F 15) = (.agg #[.int .i64 s.b0, .int .i64 s.b1, .int .i64 s.b2, .int .i64 s.b3]) := h15
              rw [h15] at t177
              clear h15
              have h11 : (F 11) = .bool true := h11
              rw [h11] at t173
              clear h11
              refine stepY ((wanted_of 11 true 173 _ rfl rfl t173).trans rfl) ?_
              have e1 := fun w => eq_i4S s.b0 s.b1 s.b2 s.b3 w
              go_simp
              exact hK _ _ jE rfl (fun _ _ _ h => h)
            · refine stepL_plain rfl ?_
              rintro F a w1 jE ⟨h11, t173, h16, t178, -⟩ - K hK
              have h11 : (F 11) = .bool true := h11
              rw [h11] at t173
              clear h11
              have h16 : (F 16) = .bool true := h16
              rw [h16] at t178
              clear h16
              go_simp
              exact hK _ _ jE rfl (fun _ _ _ h => h)
            · refine stepL_plain rfl ?_
              rintro F a w1 jE ⟨h17, t179, -⟩ - K hK
              have h17 : (F 17) = .bool true := h17
              rw [h17] at t179
              clear h17
              go_simp
              exact hK _ _ jE rfl (fun _ _ _ h => h)
            · refine stepL_of ?_
              rintro F a w1 jE ⟨h18, t180, -⟩ ⟨t2, -⟩ K hK
              have h18 : (F 18) = .bool true := h18
              rw [h18] at t180
              clear h18
              have t2 : a.tmps[2]? = some (.pointer (some ⟨g, 0, none⟩)) := t2
              refine stepY ((wanted_of 18 true 180 _ rfl rfl t180).trans rfl) ?_
              go_simp
              exact hK _ _ jE rfl (fun _ _ _ h => h)
            · refine stepL_of ?_
              rintro F a w1 jE ⟨h19, t181, h18, t180, -⟩ - K hK
              have h19 : (F 19) = .pointer (some ⟨g, 28, none⟩) := h19
              rw [h19] at t181
              clear h19
              have h18 : (F 18) = .bool true := h18
              rw [h18] at t180
              clear h18
              refine stepY ((wanted_of 18 true 180 _ rfl rfl t180).trans rfl) ?_
              have c := (jE.blk B1 (by simp)).cell
              go_simp
              exact hK _ _ jE rfl (fun _ _ _ h => h)
            · refine stepL_of ?_
              rintro F a w1 jE ⟨h18, t180, -⟩ ⟨t3, -⟩ K hK
              have h18 : (F 18) = .bool true := h18
              rw [h18] at t180
              clear h18
              have t3 : a.tmps[3]? = some (.pointer (some ⟨(g + 1), 0, none⟩)) := t3
              refine stepY ((wanted_of 18 true 180 _ rfl rfl t180).trans rfl) ?_
              go_simp
              exact hK _ _ jE rfl (fun _ _ _ h => h)
            · refine stepL_of ?_
              rintro F a w1 jE ⟨h21, t183, h18, t180, -⟩ - K hK
              have h21 : (F 21) = .pointer (some ⟨(g + 1), 28, none⟩) := h21
              rw [h21] at t183
              clear h21
              have h18 : (F 18) = .bool true := h18
              rw [h18] at t180
              clear h18
              refine stepY ((wanted_of 18 true 180 _ rfl rfl t180).trans rfl) ?_
              have c := (jE.blk B2 (by simp)).cell
              go_simp
              exact hK _ _ jE rfl (fun _ _ _ h => h)
            · refine stepL_of ?_
              rintro F a w1 jE ⟨h20, t182, h22, t184, h18, t180, -⟩ - K hK
              have h20 : (F 20) = (.agg #[.int .i64 s.p0, .int .i64 s.p1, .int .i64 s.p2, .int .i64 s.p3]) := h20
              rw [h20] at t182
              clear h20
              have h22 : (F 22) = (.agg #[.int .i64 s.p0, .int .i64 s.p1, .int .i64 s.p2, .int .i64 s.p3]) := h22
              rw [h22] at t184
              clear h22
              have h18 : (F 18) = .bool true := h18
              rw [h18] at t180
              clear h18
              refine stepY ((wanted_of 18 true 180 _ rfl rfl t180).trans rfl) ?_
              have e1 := fun w => eq_i4S s.p0 s.p1 s.p2 s.p3 w
              go_simp
              exact hK _ _ jE rfl (fun _ _ _ h => h)
            · refine stepL_plain rfl ?_
              rintro F a w1 jE ⟨h18, t180, h23, t185, -⟩ - K hK
              have h18 : (F 18) = .bool true := h18
              rw [h18] at t180
              clear h18
              have h23 : (F 23) = .bool true := h23
              rw [h23] at t185
              clear h23
              go_simp
              exact hK _ _ jE rfl (fun _ _ _ h => h)
            · refine stepL_plain rfl ?_
              rintro F a w1 jE ⟨h24, t186, -⟩ - K hK
              have h24 : (F 24) = .bool true := h24
              rw [h24] at t186
              clear h24
              go_simp
              exact hK _ _ jE rfl (fun _ _ _ h => h)
          · rintro F we jE ⟨h25, -⟩
            have h25 : (F 25) = .bool true := h25
            have hx := jE.ext (Ext.refl _) (by simp)
            replace E1 := E1.trans hx
            replace B1 := B1.ext hx
            replace B2 := B2.ext hx
            clear jE hx
            simp only [putL, Act.put, Nat.reduceAdd, Nat.zero_add, List.setIfInBounds_toArray, List.set_cons_succ, List.set_cons_zero]
            rw [h25]
            clear h25
            go_wp2_with fail
            go_ret
            exact ⟨rfl, E1⟩
end Go.Proofs.Ytnolbmfjgfojhaa
namespace Go.Proofs.Ytnolbmfjgfojhaa
open Go.RowKit
theorem CopyAt.base {w w2 wr : World} {gr : Nat} {row : Option Nat} {ns ms : List Nd} (h : CopyAt w wr gr row ns ms) (hx : Ext w w2) : CopyAt w2 wr gr row ns ms := by
  intro j n m hn hm
  obtain ⟨h1, A, c, us, h2, h3, h4⟩ := h j n m hn hm
  exact ⟨h1, A, c, us, h2, h3.ext hx, h4⟩
theorem info_styC (s : Sty) (A : Option Addr) (c : Nat) : (Try.prog.info? 45).map (·.size) = some (stC s A c).toList.toArray.size := by kernel_rfl
section
variable (na na' aa aa' : Option Addr) (nl nc nc' al ac ac' : Nat) (view : Int) (ns ms : List Nd) (av : List Int)
set_option maxRecDepth 100000 in
set_option maxHeartbeats 16000000 in
theorem sameT_any (w : World) (h : TrIn w ⟨na', nl, nc', aa', al, ac', view⟩ ms av) (k : TrIn w ⟨na, nl, nc, aa, al, ac, view⟩ ns av) (hm : nl ≤ 1000000) (ha : al ≤ 1000000) (gv : Nat) (row : Option Nat) (hc : CopyAt w w gv row ns ms) (hu : ∀ n ∈ ns, n.s.ul ≤ 1000000) :
    Calls Try.prog 20 #[.agg (Tr.cs ⟨na', nl, nc', aa', al, ac', view⟩), .agg (Tr.cs ⟨na, nl, nc, aa, al, ac, view⟩)] w fun e w' => e = .returned (.bool true) ∧ Ext w w' := by
  have hN := h.nodes
  have hA := h.advs
  have kN := k.nodes
  have kA := k.advs
  have HC := hide hc
  have HU := hide hu
  have HL := hide hN.nlen
  have HL2 := hide kN.nlen
  simp only at hN hA kN kA HL HL2
  have cS := fun s A B c d us w ha hb hm => hide (same_eq s A B c d us w ha hb hm)
  have e1 : (view == view) = true := by simp
  have e2 : (view != view) = false := by simp
  have e3 : (((nl : Nat) : Int) == (nl : Int)) = true := by simp
  have e4 : (((nl : Nat) : Int) != (nl : Int)) = false := by simp
  have e5 : (((al : Nat) : Int) == (al : Int)) = true := by simp
  have e6 : (((al : Nat) : Int) != (al : Int)) = false := by simp
  clear h k hc hu
  go_enter Try.func20, Try.ntmps20
  go_upto_region 1 with fail
  have B1 : Blk ((w.alloc (.cells (Tr.cs ⟨na', nl, nc', aa', al, ac', view⟩) 25)).alloc (.cells (Tr.cs ⟨na, nl, nc, aa, al, ac, view⟩) 25)) w.heap.size 25 (Tr.cs ⟨na', nl, nc', aa', al, ac', view⟩) := (Blk.new _ _ _).alloc _
  have B2 : Blk ((w.alloc (.cells (Tr.cs ⟨na', nl, nc', aa', al, ac', view⟩) 25)).alloc (.cells (Tr.cs ⟨na, nl, nc, aa, al, ac, view⟩) 25)) (w.heap.size + 1) 25 (Tr.cs ⟨na, nl, nc, aa, al, ac, view⟩) := Blk.new1 _ _ _ _
  have E1 : Ext w ((w.alloc (.cells (Tr.cs ⟨na', nl, nc', aa', al, ac', view⟩) 25)).alloc (.cells (Tr.cs ⟨na, nl, nc, aa, al, ac, view⟩) 25)) := ((Ext.refl _).alloc _).alloc _
  generalize ((w.alloc (.cells (Tr.cs ⟨na', nl, nc', aa', al, ac', view⟩) 25)).alloc (.cells (Tr.cs ⟨na, nl, nc, aa, al, ac, view⟩) 25)) = w1 at *
  generalize hg : w.heap.size = g at *
  have HG := hide hg
  clear hg
  have d1 := B1.cell
  have d2 := B2.cell
  have l1 := B1.lt
  have l2 := B2.lt
  go_wp2_with fail
  clear d1 d2 l1 l2 e1 e2 e3 e4 e5 e6
  go_loopw [5] (fun v wr => ∃ i : Nat, v = .int .i64 i ∧ i ≤ al ∧ Ext w wr ∧ Blk wr g 25 (Tr.cs ⟨na', nl, nc', aa', al, ac', view⟩) ∧ Blk wr (g + 1) 25 (Tr.cs ⟨na, nl, nc, aa, al, ac, view⟩)) (fun v _ => al - (intOf v).toNat)
  case atStart => exact ⟨0, rfl, by omega, E1, B1, B2⟩
  case round =>
    clear E1 B1 B2 w1
    obtain ⟨i, rfl, i1, E1, B1, B2⟩ := hrel
    have d1 := B1.cell
    have d2 := B2.cell
    have l1 := B1.lt
    have l2 := B2.lt
    by_cases hi : i < al
    · obtain ⟨b1, o1, u1, f1, hb1, hu1, hc1⟩ := (hA.ext E1).get hi
      obtain ⟨b2, o2, u2, f2, hb2, hu2, hc2⟩ := (kA.ext E1).get hi
      have huu : u2 = u1 := by rw [hu1] at hu2; exact (Option.some.inj hu2).symm
      subst huu
      have hx : ∃ x, u2 = .int .i64 x := by
        rw [ints, List.getElem?_map] at hu1
        cases h : av[i]? with
        | none => rw [h] at hu1; cases hu1
        | some x => rw [h] at hu1; exact ⟨x, (Option.some.inj hu1).symm⟩
      obtain ⟨x, rfl⟩ := hx
      subst f1
      subst f2
      have hin : (0 : Int) ≤ (i : Int) ∧ (i : Int) < (al : Int) := by omega
      have e1 : (x == x) = true := by simp
      have e2 : (x != x) = false := by simp
      clear hu1 hu2
      go_wp2_with fail
      go_quiet (fail)
      go_wp2_with fail
      go_roundw
      case rel => exact ⟨i + 1, by go_num, by omega, E1.drewN _, B1.drewN _, B2.drewN _⟩
      case measure => simp [intOf]; omega
    · have hin : ¬ (i : Int) < (al : Int) := by omega
      clear i1 hi
      go_wp2_with fail
      clear d1 d2 l1 l2
      go_loopw [6] (fun v wr => ∃ i : Nat, v = .int .i64 i ∧ i ≤ nl ∧ Ext w wr ∧ Blk wr g 25 (Tr.cs ⟨na', nl, nc', aa', al, ac', view⟩) ∧ Blk wr (g + 1) 25 (Tr.cs ⟨na, nl, nc, aa, al, ac, view⟩)) (fun v _ => nl - (intOf v).toNat)
      case atStart => exact ⟨0, rfl, by omega, E1, B1, B2⟩
      case round =>
        clear E1 B1 B2 hin
        obtain ⟨j, rfl, j1, E1, B1, B2⟩ := hrel
        have d1 := B1.cell
        have d2 := B2.cell
        have l1 := B1.lt
        have l2 := B2.lt
        by_cases hj : j < nl
        · obtain ⟨n, hn⟩ : ∃ n, ns[j]? = some n := ⟨_, List.getElem?_eq_getElem (by have := unhide HL2; omega)⟩
          obtain ⟨m, hm'⟩ : ∃ m, ms[j]? = some m := ⟨_, List.getElem?_eq_getElem (by have := unhide HL; omega)⟩
          obtain ⟨hp, A, cA, us, hs, r1, r2⟩ := (unhide HC) j n m hn hm'
          have hul := (unhide HU) n (List.mem_of_getElem? hn)
          have r3 := r2.rd
          obtain ⟨b1, o1, f1, hb1, q1⟩ := hN.node hm'
          obtain ⟨b2, o2, f2, hb2, q2⟩ := kN.node hn
          obtain ⟨p, s⟩ := n
          obtain ⟨p', s'⟩ := m
          simp only at hp hs r1 r3 hul
          subst hp hs f1 f2
          have p1 : wr.cell? ⟨b1, o1 + j * 44, none⟩ = some (.int .i64 p') := (E1.cells.1 b1 _ hb1).trans (q1 0 _ rfl)
          have p2 : wr.cell? ⟨b2, o2 + j * 44, none⟩ = some (.int .i64 p') := (E1.cells.1 b2 _ hb2).trans (q2 0 _ rfl)
          have m1 : ∀ (x : Nat) (v : Value), (stC s A cA).toList[x]? = some v → w.cell? ⟨b1, o1 + j * 44 + 1 + x, none⟩ = some v := fun x v hv => by
            have := q1 (x + 1) v hv
            rwa [show o1 + j * 44 + (x + 1) = o1 + j * 44 + 1 + x by omega] at this
          have m2 : ∀ (x : Nat) (v : Value), (stC s s.ua s.uc).toList[x]? = some v → w.cell? ⟨b2, o2 + j * 44 + 1 + x, none⟩ = some v := fun x v hv => by
            have := q2 (x + 1) v hv
            rwa [show o2 + j * 44 + (x + 1) = o2 + j * 44 + 1 + x by omega] at this
          have M1 := hide m1
          have M2 := hide m2
          have hin : (0 : Int) ≤ (j : Int) ∧ (j : Int) < (nl : Int) := by omega
          have cs := fun w ha hb => cS s A s.ua cA s.uc us w ha hb hul
          have R1 := hide r1
          have R3 := hide r3
          clear m1 m2 q1 q2 r1 r2 r3 hul hn hm'
          go_upto_region 11 with fail
          clear d1 d2 l1 l2
          refine wp_region_lin (by kernel_rfl) (fun w' => (ExtX wr w' [])) (fun ii vv ww => match ii with | 0 => vv = .pointer (some ⟨g, 0, none⟩) | 1 => vv = .slice (some ⟨b1, o1, none⟩) nl nc' | 2 => vv = .int .i64 (j : Int) | 3 => vv = .pointer (some ⟨b1, o1 + j * 44, none⟩) | 4 => vv = .pointer (some ⟨b1, o1 + j * 44, none⟩) | 5 => vv = .int .i64 (p') | 6 => vv = .pointer (some ⟨(g + 1), 0, none⟩) | 7 => vv = .slice (some ⟨b2, o2, none⟩) nl nc | 8 => vv = .int .i64 (j : Int) | 9 => vv = .pointer (some ⟨b2, o2 + j * 44, none⟩) | 10 => vv = .pointer (some ⟨b2, o2 + j * 44, none⟩) | 11 => vv = .int .i64 (p') | 12 => vv = .bool false | 13 => vv = .bool false | 14 => vv = .pointer (some ⟨g, 0, none⟩) | 15 => vv = .slice (some ⟨b1, o1, none⟩) nl nc' | 16 => vv = .int .i64 (j : Int) | 17 => vv = .pointer (some ⟨b1, o1 + j * 44, none⟩) | 18 => vv = .pointer (some ⟨b1, o1 + j * 44 + 1, none⟩) | 19 => vv = .agg (stC s A cA) | 20 => vv = .pointer (some ⟨(g + 1), 0, none⟩) | 21 => vv = .slice (some ⟨b2, o2, none⟩) nl nc | 22 => vv = .int .i64 (j : Int) | 23 => vv = .pointer (some ⟨b2, o2 + j * 44, none⟩) | 24 => vv = .pointer (some ⟨b2, o2 + j * 44 + 1, none⟩) | 25 => vv = .agg (stC s s.ua s.uc) | 26 => vv = .bool true | 27 => vv = .bool false | 28 => vv = .bool false | _ => True) (fun ii => match ii with | 1 => [(0, 55)] | 3 => [(1, 56), (2, 57)] | 4 => [(3, 58)] | 5 => [(4, 59)] | 7 => [(6, 61)] | 9 => [(7, 62), (8, 63)] | 10 => [(9, 64)] | 11 => [(10, 65)] | 12 => [(5, 60), (11, 66)] | 13 => [(12, 67)] | 14 => [(13, 68)] | 15 => [(14, 69), (13, 68)] | 16 => [(13, 68)] | 17 => [(15, 70), (16, 71), (13, 68)] | 18 => [(17, 72), (13, 68)] | 19 => [(18, 73), (13, 68)] | 20 => [(13, 68)] | 21 => [(20, 75), (13, 68)] | 22 => [(13, 68)] | 23 => [(21, 76), (22, 77), (13, 68)] | 24 => [(23, 78), (13, 68)] | 25 => [(24, 79), (13, 68)] | 26 => [(19, 74), (25, 80), (13, 68)] | 27 => [(26, 81), (13, 68)] | 28 => [(13, 68), (27, 82)] | _ => []) (fun ii => match ii with | 0 => [2] | 2 => [6] | 6 => [3] | 8 => [6] | 14 => [2] | 16 => [6] | 20 => [3] | 22 => [6] | _ => []) (fun ii => match ii with | 0 => [2, 6, 7, 8, 9, 10, 11] | 1 => [2, 6, 7, 8, 9, 10, 11] | 2 => [0, 1, 6, 7, 8, 9, 10, 11] | 3 => [6, 7, 8, 9, 10, 11] | 4 => [6, 7, 8, 9, 10, 11] | 5 => [6, 7, 8, 9, 10, 11] | 6 => [0, 1, 2, 3, 4, 8, 5] | 7 => [0, 1, 2, 3, 4, 8, 5] | 8 => [0, 1, 2, 3, 4, 6, 7, 5] | 9 => [0, 1, 2, 3, 4, 5] | 10 => [0, 1, 2, 3, 4, 5] | 11 => [0, 1, 2, 3, 4, 5] | 14 => [13, 16, 20, 21, 22, 23, 24, 25] | 15 => [13, 16, 20, 21, 22, 23, 24, 25] | 16 => [13, 14, 15, 20, 21, 22, 23, 24, 25] | 17 => [13, 20, 21, 22, 23, 24, 25] | 18 => [13, 20, 21, 22, 23, 24, 25] | 19 => [13, 20, 21, 22, 23, 24, 25] | 20 => [13, 14, 15, 16, 17, 18, 22, 19] | 21 => [13, 14, 15, 16, 17, 18, 22, 19] | 22 => [13, 14, 15, 16, 17, 18, 20, 21, 19] | 23 => [13, 14, 15, 16, 17, 18, 19] | 24 => [13, 14, 15, 16, 17, 18, 19] | 25 => [13, 14, 15, 16, 17, 18, 19] | 26 => [13] | 27 => [13] | _ => []) [28] [0, 1, 0, 7, 15, 31, 0, 64, 0, 448, 960, 1984, 4095, 8191, 16383, 32767, 16383, 131071, 262143, 524287, 16383, 1064959, 16383, 7356415, 15745023, 32522239, 67108863, 134217727, 268435455] 84 rfl (by kernel_rfl) (ExtX.start _ _) ?_ ?_
          · rename_i hcont; clear hcont
            refine ⟨?_, ?_, ?_, ?_, ?_, ?_, ?_, ?_, ?_, ?_, ?_, ?_, ?_, ?_, ?_, ?_, ?_, ?_, ?_, ?_, ?_, ?_, ?_, ?_, ?_, ?_, ?_, ?_, ?_, trivial⟩
            · refine stepL_plain rfl ?_
              rintro F a w1 jE - ⟨t2, -⟩ K hK
              have t2 : a.tmps[2]? = some (.pointer (some ⟨g, 0, none⟩)) := t2
              go_simp
              exact hK _ _ jE rfl (fun _ _ _ h => h)
            · refine stepL_plain rfl ?_
              rintro F a w1 jE ⟨h0, t55, -⟩ - K hK
              have h0 : (F 0) = .pointer (some ⟨g, 0, none⟩) := h0
              rw [h0] at t55
              clear h0
              have c := (jE.blk B1 (by simp)).cell
              go_simp
              exact hK _ _ jE rfl (fun _ _ _ h => h)
            · refine stepL_plain rfl ?_
              rintro F a w1 jE - ⟨t6, -⟩ K hK
              have t6 : a.tmps[6]? = some (.int .i64 (j : Int)) := t6
              go_simp
              exact hK _ _ jE rfl (fun _ _ _ h => h)
            · refine stepL_plain rfl ?_
              rintro F a w1 jE ⟨h1, t56, h2, t57, -⟩ - K hK
              have h1 : (F 1) = .slice (some ⟨b1, o1, none⟩) nl nc' := h1
              rw [h1] at t56
              clear h1
              have h2 : (F 2) = .int .i64 (j : Int) := h2
              rw [h2] at t57
              clear h2
              go_simp
              exact hK _ _ jE rfl (fun _ _ _ h => h)
            · refine stepL_plain rfl ?_
              rintro F a w1 jE ⟨h3, t58, -⟩ - K hK
              have h3 : (F 3) = .pointer (some ⟨b1, o1 + j * 44, none⟩) := h3
              rw [h3] at t58
              clear h3
              go_simp
              exact hK _ _ jE rfl (fun _ _ _ h => h)
            · refine stepL_plain rfl ?_
              rintro F a w1 jE ⟨h4, t59, -⟩ - K hK
              have h4 : (F 4) = .pointer (some ⟨b1, o1 + j * 44, none⟩) := h4
              rw [h4] at t59
              clear h4
              have c := ((jE.ext (Ext.refl _) (by simp)).cells.1 b1 _ (Nat.lt_of_lt_of_le hb1 E1.size)).trans p1
              go_simp
              exact hK _ _ jE rfl (fun _ _ _ h => h)
            · refine stepL_plain rfl ?_
              rintro F a w1 jE - ⟨t3, -⟩ K hK
              have t3 : a.tmps[3]? = some (.pointer (some ⟨(g + 1), 0, none⟩)) := t3
              go_simp
              exact hK _ _ jE rfl (fun _ _ _ h => h)
            · refine stepL_plain rfl ?_
              rintro F a w1 jE ⟨h6, t61, -⟩ - K hK
              have h6 : (F 6) = .pointer (some ⟨(g + 1), 0, none⟩) := h6
              rw [h6] at t61
              clear h6
              have c := (jE.blk B2 (by simp)).cell
              go_simp
              exact hK _ _ jE rfl (fun _ _ _ h => h)
            · refine stepL_plain rfl ?_
              rintro F a w1 jE - ⟨t6, -⟩ K hK
              have t6 : a.tmps[6]? = some (.int .i64 (j : Int)) := t6
              go_simp
              exact hK _ _ jE rfl (fun _ _ _ h => h)
            · refine stepL_plain rfl ?_
              rintro F a w1 jE ⟨h7, t62, h8, t63, -⟩ - K hK
              have h7 : (F 7) = .slice (some ⟨b2, o2, none⟩) nl nc := h7
              rw [h7] at t62
              clear h7
              have h8 : (F 8) = .int .i64 (j : Int) := h8
              rw [h8] at t63
              clear h8
              go_simp
              exact hK _ _ jE rfl (fun _ _ _ h => h)
            · refine stepL_plain rfl ?_
              rintro F a w1 jE ⟨h9, t64, -⟩ - K hK
              have h9 : (F 9) = .pointer (some ⟨b2, o2 + j * 44, none⟩) := h9
              rw [h9] at t64
              clear h9
              go_simp
              exact hK _ _ jE rfl (fun _ _ _ h => h)
            · refine stepL_plain rfl ?_
              rintro F a w1 jE ⟨h10, t65, -⟩ - K hK
              have h10 : (F 10) = .pointer (some ⟨b2, o2 + j * 44, none⟩) := h10
              rw [h10] at t65
              clear h10
              have c := ((jE.ext (Ext.refl _) (by simp)).cells.1 b2 _ (Nat.lt_of_lt_of_le hb2 E1.size)).trans p2
              go_simp
              exact hK _ _ jE rfl (fun _ _ _ h => h)
            · refine stepL_plain rfl ?_
              rintro F a w1 jE ⟨h5, t60, h11, t66, -⟩ - K hK
              have h5 : (F 5) = .int .i64 (p') := h5
              rw [h5] at t60
              clear h5
              have h11 : (F 11) = .int .i64 (p') := h11
              rw [h11] at t66
              clear h11
              have e1 : (p' == p') = true := by simp
              have e2 : (p' != p') = false := by simp
              go_simp
              exact hK _ _ jE rfl (fun _ _ _ h => h)
            · refine stepL_plain rfl ?_
              rintro F a w1 jE ⟨h12, t67, -⟩ - K hK
              have h12 : (F 12) = .bool false := h12
              rw [h12] at t67
              clear h12
              go_simp
              exact hK _ _ jE rfl (fun _ _ _ h => h)
            · refine stepL_of ?_
              rintro F a w1 jE ⟨h13, t68, -⟩ ⟨t2, -⟩ K hK
              have h13 : (F 13) = .bool false := h13
              rw [h13] at t68
              clear h13
              have t2 : a.tmps[2]? = some (.pointer (some ⟨g, 0, none⟩)) := t2
              refine stepY ((wanted_of 13 false 68 _ rfl rfl t68).trans rfl) ?_
              go_simp
              exact hK _ _ jE rfl (fun _ _ _ h => h)
            · refine stepL_of ?_
              rintro F a w1 jE ⟨h14, t69, h13, t68, -⟩ - K hK
              have h14 : (F 14) = .pointer (some ⟨g, 0, none⟩) := h14
              rw [h14] at t69
              clear h14
              have h13 : (F 13) = .bool false := h13
              rw [h13] at t68
              clear h13
              refine stepY ((wanted_of 13 false 68 _ rfl rfl t68).trans rfl) ?_
              have c := (jE.blk B1 (by simp)).cell
              go_simp
              exact hK _ _ jE rfl (fun _ _ _ h => h)
            · refine stepL_of ?_
              rintro F a w1 jE ⟨h13, t68, -⟩ ⟨t6, -⟩ K hK
              have h13 : (F 13) = .bool false := h13
              rw [h13] at t68
              clear h13
              have t6 : a.tmps[6]? = some (.int .i64 (j : Int)) := t6
              refine stepY ((wanted_of 13 false 68 _ rfl rfl t68).trans rfl) ?_
              go_simp
              exact hK _ _ jE rfl (fun _ _ _ h => h)
            · refine stepL_of ?_
              rintro F a w1 jE ⟨h15, t70, h16, t71, h13, t68, -⟩ - K hK
              have h15 : (F 15) = .slice (some ⟨b1, o1, none⟩) nl nc' := h15
              rw [h15] at t70
              clear h15
              have h16 : (F 16) = .int .i64 (j : Int) := h16
              rw [h16] at t71
              clear h16
              have h13 : (F 13) = .bool false := h13
              rw [h13] at t68
              clear h13
              refine stepY ((wanted_of 13 false 68 _ rfl rfl t68).trans rfl) ?_
              go_simp
              exact hK _ _ jE rfl (fun _ _ _ h => h)
            · refine stepL_of ?_
              rintro F a w1 jE ⟨h17, t72, h13, t68, -⟩ - K hK
              have h17 : (F 17) = .pointer (some ⟨b1, o1 + j * 44, none⟩) := h17
              rw [h17] at t72
              clear h17
              have h13 : (F 13) = .bool false := h13
              rw [h13] at t68
              clear h13
              refine stepY ((wanted_of 13 false 68 _ rfl rfl t68).trans rfl) ?_
              go_simp
              exact hK _ _ jE rfl (fun _ _ _ h => h)
            · refine stepL_of ?_
              rintro F a w1 jE ⟨h18, t73, h13, t68, -⟩ - K hK
              have h18 : (F 18) = .pointer (some ⟨b1, o1 + j * 44 + 1, none⟩) := h18
              rw [h18] at t73
              clear h18
              have h13 : (F 13) = .bool false := h13
              rw [h13] at t68
              clear h13
              refine stepY ((wanted_of 13 false 68 _ rfl rfl t68).trans rfl) ?_
              have c := (jE.blk B1 (by simp)).cell
              refine wp_load_mid 45 _ rfl b1 (o1 + j * 44 + 1) (eval_tmp t73) (stC s A cA).toList _ (fun x v hv => ((E1.trans (jE.ext (Ext.refl _) (by simp))).cells.1 b1 _ hb1).trans ((unhide M1) x v hv)) Try.underlying45 rfl (info_styC _ _ _) ?_
              exact hK _ _ jE rfl (fun _ _ _ h => h)
            · refine stepL_of ?_
              rintro F a w1 jE ⟨h13, t68, -⟩ ⟨t3, -⟩ K hK
              have h13 : (F 13) = .bool false := h13
              rw [h13] at t68
              clear h13
              have t3 : a.tmps[3]? = some (.pointer (some ⟨(g + 1), 0, none⟩)) := t3
              refine stepY ((wanted_of 13 false 68 _ rfl rfl t68).trans rfl) ?_
              go_simp
              exact hK _ _ jE rfl (fun _ _ _ h => h)
            · refine stepL_of ?_
              rintro F a w1 jE ⟨h20, t75, h13, t68, -⟩ - K hK
              have h20 : (F 20) = .pointer (some ⟨(g + 1), 0, none⟩) := h20
              rw [h20] at t75
              clear h20
              have h13 : (F 13) = .bool false := h13
              rw [h13] at t68
              clear h13
              refine stepY ((wanted_of 13 false 68 _ rfl rfl t68).trans rfl) ?_
              have c := (jE.blk B2 (by simp)).cell
              go_simp
              exact hK _ _ jE rfl (fun _ _ _ h => h)
            · refine stepL_of ?_
              rintro F a w1 jE ⟨h13, t68, -⟩ ⟨t6, -⟩ K hK
              have h13 : (F 13) = .bool false := h13
              rw [h13] at t68
              clear h13
              have t6 : a.tmps[6]? = some (.int .i64 (j : Int)) := t6
              refine stepY ((wanted_of 13 false 68 _ rfl rfl t68).trans rfl) ?_
              go_simp
              exact hK _ _ jE rfl (fun _ _ _ h => h)
            · refine stepL_of ?_
              rintro F a w1 jE ⟨h21, t76, h22, t77, h13, t68, -⟩ - K hK
              have h21 : (F 21) = .slice (some ⟨b2, o2, none⟩) nl nc := h21
              rw [h21] at t76
              clear h21
              have h22 : (F 22) = .int .i64 (j : Int) := h22
              rw [h22] at t77
              clear h22
              have h13 : (F 13) = .bool false := h13
              rw [h13] at t68
              clear h13
              refine stepY ((wanted_of 13 false 68 _ rfl rfl t68).trans rfl) ?_
              go_simp
              exact hK _ _ jE rfl (fun _ _ _ h => h)
            · refine stepL_of ?_
              rintro F a w1 jE ⟨h23, t78, h13, t68, -⟩ - K hK
              have h23 : (F 23) = .pointer (some ⟨b2, o2 + j * 44, none⟩) := h23
              rw [h23] at t78
              clear h23
              have h13 : (F 13) = .bool false := h13
              rw [h13] at t68
              clear h13
              refine stepY ((wanted_of 13 false 68 _ rfl rfl t68).trans rfl) ?_
              go_simp
              exact hK _ _ jE rfl (fun _ _ _ h => h)
            · refine stepL_of ?_
              rintro F a w1 jE ⟨h24, t79, h13, t68, -⟩ - K hK
              have h24 : (F 24) = .pointer (some ⟨b2, o2 + j * 44 + 1, none⟩) := h24
              rw [h24] at t79
              clear h24
              have h13 : (F 13) = .bool false := h13
              rw [h13] at t68
              clear h13
              refine stepY ((wanted_of 13 false 68 _ rfl rfl t68).trans rfl) ?_
              have c := (jE.blk B1 (by simp)).cell
              refine wp_load_mid 45 _ rfl b2 (o2 + j * 44 + 1) (eval_tmp t79) (stC s s.ua s.uc).toList _ (fun x v hv => ((E1.trans (jE.ext (Ext.refl _) (by simp))).cells.1 b2 _ hb2).trans ((unhide M2) x v hv)) Try.underlying45 rfl (info_styC _ _ _) ?_
              exact hK _ _ jE rfl (fun _ _ _ h => h)
            · refine stepL_of ?_
              rintro F a w1 jE ⟨h19, t74, h25, t80, h13, t68, -⟩ - K hK
              have h19 : (F 19) = .agg (stC s A cA) := h19
              rw [h19] at t74
              clear h19
              have h25 : (F 25) = .agg (stC s s.ua s.uc) := h25
              rw [h25] at t80
              clear h25
              have h13 : (F 13) = .bool false := h13
              rw [h13] at t68
              clear h13
              refine stepY ((wanted_of 13 false 68 _ rfl rfl t68).trans rfl) ?_
              go_simp
              with_reducible refine (unhide (cs _ ((unhide R3).ext (E1.trans (jE.ext (Ext.refl _) (by simp)))) ((unhide R1).ext (E1.trans (jE.ext (Ext.refl _) (by simp)))))).mono ?_
              rintro e w2 ⟨rfl, hx⟩
              exact hK _ _ (jE.trans hx) (rfl) (by intro jq hj uq h; have hj : jq ∈ [13] := hj; simp only [List.mem_singleton] at hj; subst hj; exact h)
            · refine stepL_of ?_
              rintro F a w1 jE ⟨h26, t81, h13, t68, -⟩ - K hK
              have h26 : (F 26) = .bool true := h26
              rw [h26] at t81
              clear h26
              have h13 : (F 13) = .bool false := h13
              rw [h13] at t68
              clear h13
              refine stepY ((wanted_of 13 false 68 _ rfl rfl t68).trans rfl) ?_
              go_simp
              exact hK _ _ jE rfl (fun _ _ _ h => h)
            · refine stepL_plain rfl ?_
              rintro F a w1 jE ⟨h13, t68, h27, t82, -⟩ - K hK
              have h13 : (F 13) = .bool false := h13
              rw [h13] at t68
              clear h13
              have h27 : (F 27) = .bool false := h27
              rw [h27] at t82
              clear h27
              go_simp
              exact hK _ _ jE rfl (fun _ _ _ h => h)
          · rintro F w9 jE ⟨h28, -⟩
            have h28 : (F 28) = .bool false := h28
            have hx := jE.ext (Ext.refl _) (by simp)
            replace E1 := E1.trans hx
            replace B1 := B1.ext hx
            replace B2 := B2.ext hx
            clear jE hx p1 p2
            simp only [putL, Act.put, Nat.reduceAdd, Nat.zero_add, List.setIfInBounds_toArray, List.set_cons_succ, List.set_cons_zero]
            rw [h28]
            clear h28
            have d1 := B1.cell
            have d2 := B2.cell
            have l1 := B1.lt
            have l2 := B2.lt
            go_wp2_with fail
            go_roundw
            case rel => exact ⟨j + 1, by go_num, by omega, E1, B1, B2⟩
            case measure => simp [intOf]; omega
        · have hin : ¬ (j : Int) < (nl : Int) := by omega
          clear j1 hj
          go_wp2_with fail
          go_ret
          exact ⟨rfl, E1⟩
end
end Go.Proofs.Ytnolbmfjgfojhaa
namespace Go.Proofs.Ytnolbmfjgfojhaa
open Go.RowKit
section
variable (t : Tr) (ns : List Nd) (av : List Int)
set_option maxRecDepth 100000 in
set_option maxHeartbeats 16000000 in
theorem law_tyChecks (w : World) (h : TrIn w t ns av) (hm : t.nl ≤ 17592186044415) (ha : t.al ≤ 17592186044415) (hU : ∀ n ∈ ns, (n.s.ul ≤ maxLen ∧ ∃ us : List Int, Rd w 1 n.s.ua n.s.ul (u16s us))) :
    Calls Try.prog 3 #[.agg t.cs] w fun e w' => e = .returned (.bool true) ∧ Ext w w' := by
  have cm := fun w h => hide (small05_any t ns av w h hm ha)
  obtain ⟨q, hq⟩ : ∃ q, (!vastV ns t.al && decide (t.nl ≤ 700)) = q := ⟨_, rfl⟩
  rw [hq] at cm
  have cW := fun w => hide (works05_any w)
  go_enter Try.func3, Try.ntmps3
  go_wp2_with fail
  refine (unhide (cm _ (h.ext ((Ext.refl _).alloc _)))).mono ?_
  rintro e w1 ⟨rfl, hx2⟩
  have BT : Blk w1 w.heap.size 25 t.cs := (Blk.new _ _ _).ext hx2
  have E1 : Ext w w1 := ((Ext.refl _).alloc _).trans hx2
  clear hx2 cm
  have c1 := BT.cell
  have l1 := BT.lt
  cases q
  · go_wp2_with fail
    refine (unhide (cW _)).mono ?_
    rintro e w9 ⟨rfl, hx⟩
    go_wp2_with fail
    go_ret
    exact ⟨rfl, E1.trans hx⟩
  rw [Bool.and_eq_true] at hq
  have h700 : t.nl ≤ 700 := by simpa using hq.2
  have hv : vastV ns t.al = false := by simpa using hq.1
  obtain ⟨ha5, hu5⟩ := vast_units hv
  have hU1 : ∀ n ∈ ns, n.s.ul ≤ 1000000 := fun n hn => by have := hu5 n hn; omega
  have cC := fun w h hu => hide (copy_any t ns av w h (by omega) (by omega) hu)
  have hl := h.nodes.nlen
  have cK := fun ms w h => hide (check_any t ms av w h (by omega) (by unfold maxLen; omega))
  have cR := fun w h => hide (rcheck_any t ns av w h (by omega) (by unfold maxLen; omega))
  clear cK
  have h1 := h.ext E1
  have c2 := cC w1 h1 (fun n hn => ⟨hU1 n hn, by obtain ⟨_, us, hr⟩ := hU n hn; exact ⟨us, hr.ext E1⟩⟩)
  obtain ⟨na, nl, nc, aa, al, ac, view⟩ := t
  simp only at hm ha h700 hv hl ha5 BT c1 cC cR c2
  have HL := hide hl
  have HU1 := hide hU1
  clear hq hm ha hv hu5 hU1 hU cC hl
  go_wp2_with fail
  refine (unhide c2).mono ?_
  rintro e w2 ⟨⟨na', nl', nc', aa', al', ac', view'⟩, ms, gv, row, rfl, hT2, e1, e2, e3, hml, hC, hx⟩
  simp only at e1 e2 e3
  subst e1 e2 e3
  have hT1 := h1.ext hx
  replace E1 := E1.trans hx
  replace BT := BT.ext hx
  have hC2 := hC.base hx
  have HCH := hide (like_check (hC.like hml.symm) av view')
  clear hx c1 l1 c2 hC h1 h hml
  generalize hg : w.heap.size = g at *
  have HG := hide hg
  clear hg
  have c1 := BT.cell
  have l1 := BT.lt
  go_upto_region 4 with fail
  have BO : Blk (w2.alloc (.cells (Tr.cs ⟨na', nl', nc', aa', al', ac', view'⟩) 25)) w2.heap.size 25 (Tr.cs ⟨na', nl', nc', aa', al', ac', view'⟩) := Blk.new _ _ _
  have hx : Ext w2 (w2.alloc (.cells (Tr.cs ⟨na', nl', nc', aa', al', ac', view'⟩) 25)) := (Ext.refl _).alloc _
  replace BT := BT.ext hx
  replace E1 := E1.trans hx
  replace hT2 := hT2.ext hx
  replace hT1 := hT1.ext hx
  replace hC2 := (hC2.base hx).map (fun A n us h => h.ext hx)
  clear c1 l1 hx
  generalize w2.alloc (.cells (Tr.cs ⟨na', nl', nc', aa', al', ac', view'⟩) 25) = w3 at *
  generalize w2.heap.size = go at *
  have c1 := BT.cell
  have l1 := BT.lt
  have d1 := BO.cell
  have k1 := BO.lt
  have cK := check_any ⟨na', nl', nc', aa', al', ac', view'⟩ ms av w3 hT2 (by simp only; omega) (by unfold maxLen; simp only; omega)
  rw [show (Tr.mk na' nl' nc' aa' al' ac' view').view = view' from rfl, unhide HCH] at cK
  replace cK := hide cK
  obtain ⟨CV, hCV⟩ : ∃ CV, checkV ns av view' = CV := ⟨_, rfl⟩
  rw [hCV] at cK cR
  obtain ⟨C1, C2⟩ := CV
  simp only at cK cR
  clear hCV HCH
  go_wp2_with fail
  refine (unhide cK).mono ?_
  rintro e w4 ⟨rfl, hx⟩
  simp only []
  replace E1 := E1.trans hx
  replace BT := BT.ext hx
  replace BO := BO.ext hx
  replace hT2 := hT2.ext hx
  replace hT1 := hT1.ext hx
  replace hC2 := (hC2.base hx).map (fun A n us h => h.ext hx)
  clear hx c1 l1 d1 k1 cK w3
  have c1 := BT.cell
  have l1 := BT.lt
  have d1 := BO.cell
  have k1 := BO.lt
  go_wp2_with fail
  refine (unhide (cR _ hT1)).mono ?_
  rintro e w5 ⟨rfl, hx⟩
  simp only []
  replace E1 := E1.trans hx
  replace BT := BT.ext hx
  replace BO := BO.ext hx
  replace hT2 := hT2.ext hx
  replace hT1 := hT1.ext hx
  replace hC2 := (hC2.base hx).map (fun A n us h => h.ext hx)
  clear hx c1 l1 d1 k1 cR w4
  have c1 := BT.cell
  have l1 := BT.lt
  have d1 := BO.cell
  have k1 := BO.lt
  have r1 : (C1 == C1) = true := by simp
  have r2 : (C2 == C2) = true := by simp
  have cS := hide (sameT_any na na' aa aa' nl' nc nc' al' ac ac' view' ns ms av w5 hT2 hT1 (by omega) (by omega) gv row hC2 (unhide HU1))
  clear hT1 hT2 hC2
  go_wp2_with fail
  refine (unhide cS).mono ?_
  rintro e w6 ⟨rfl, hx⟩
  replace E1 := E1.trans hx
  clear hx c1 l1 d1 k1 cS
  go_wp2_with fail
  refine (unhide (cW _)).mono ?_
  rintro e w9 ⟨rfl, hx⟩
  go_wp2_with fail
  go_ret
  exact ⟨rfl, E1.trans hx⟩
end
end Go.Proofs.Ytnolbmfjgfojhaa
