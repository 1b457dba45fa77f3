/- Styles, the program's: may a style be? (walk) -/
import Derived.Test.YtnolbmfjgfojhaaSp4
import Derived.Laws.EntriesVeiled
namespace Go.Proofs.Ytnolbmfjgfojhaa
open Go.RowKit
def ruleF : Nat → Nat
  | 0 => 76
  | 1 => 77
  | 2 => 78
  | 3 => 81
  | 4 => 83
  | 5 => 85
  | 6 => 88
  | 7 => 89
  | 8 => 90
  | 9 => 91
  | 10 => 92
  | 11 => 93
  | 12 => 94
  | 13 => 96
  | _ => 97
@[reducible] def ruleC : Array Value := #[fv 76, fv 77, fv 78, fv 81, fv 83, fv 85, fv 88, fv 89, fv 90, fv 91, fv 92, fv 93, fv 94, fv 96, fv 97]
theorem nat15 {k : Nat} (h : k < 15) : k = 0 ∨ k = 1 ∨ k = 2 ∨ k = 3 ∨ k = 4 ∨ k = 5 ∨ k = 6 ∨ k = 7 ∨ k = 8 ∨ k = 9 ∨ k = 10 ∨ k = 11 ∨ k = 12 ∨ k = 13 ∨ k = 14 := by omega
theorem ruleC_at {k : Nat} (h : k < 15) : ruleC[k]? = some (fv (ruleF k)) := by
  rcases nat15 h with rfl | rfl | rfl | rfl | rfl | rfl | rfl | rfl | rfl | rfl | rfl | rfl | rfl | rfl | rfl <;> rfl
theorem rule_enter {k : Nat} (h : k < 15) (args : Array Value) (w : World) : (callFunc (ruleF k) args).run Try.prog w = .ok (.enter (ruleF k) args) w := by
  rcases nat15 h with rfl | rfl | rfl | rfl | rfl | rfl | rfl | rfl | rfl | rfl | rfl | rfl | rfl | rfl | rfl
  · exact (call_enter Try.func76 (by kernel_rfl) (by kernel_rfl)) args w
  · exact (call_enter Try.func77 (by kernel_rfl) (by kernel_rfl)) args w
  · exact (call_enter Try.func78 (by kernel_rfl) (by kernel_rfl)) args w
  · exact (call_enter Try.func81 (by kernel_rfl) (by kernel_rfl)) args w
  · exact (call_enter Try.func83 (by kernel_rfl) (by kernel_rfl)) args w
  · exact (call_enter Try.func85 (by kernel_rfl) (by kernel_rfl)) args w
  · exact (call_enter Try.func88 (by kernel_rfl) (by kernel_rfl)) args w
  · exact (call_enter Try.func89 (by kernel_rfl) (by kernel_rfl)) args w
  · exact (call_enter Try.func90 (by kernel_rfl) (by kernel_rfl)) args w
  · exact (call_enter Try.func91 (by kernel_rfl) (by kernel_rfl)) args w
  · exact (call_enter Try.func92 (by kernel_rfl) (by kernel_rfl)) args w
  · exact (call_enter Try.func93 (by kernel_rfl) (by kernel_rfl)) args w
  · exact (call_enter Try.func94 (by kernel_rfl) (by kernel_rfl)) args w
  · exact (call_enter Try.func96 (by kernel_rfl) (by kernel_rfl)) args w
  · exact (call_enter Try.func97 (by kernel_rfl) (by kernel_rfl)) args w
theorem rule_any {k : Nat} (h : k < 15) (s : Sty) (g : Nat) (w : World) (B : Blk w g 45 s.cells) : Calls Try.prog (ruleF k) #[.pointer (some ⟨g, 0, none⟩)] w fun e w' => e = .returned (.bool (ruleV s k)) ∧ Ext w w' := by
  rcases nat15 h with rfl | rfl | rfl | rfl | rfl | rfl | rfl | rfl | rfl | rfl | rfl | rfl | rfl | rfl | rfl
  · exact rule_0 s g w B
  · exact rule_1 s g w B
  · exact rule_2 s g w B
  · exact rule_3 s g w B
  · exact rule_4 s g w B
  · exact rule_5 s g w B
  · exact rule_6 s g w B
  · exact rule_7 s g w B
  · exact rule_8 s g w B
  · exact rule_9 s g w B
  · exact rule_10 s g w B
  · exact rule_11 s g w B
  · exact rule_12 s g w B
  · exact rule_13 s g w B
  · exact rule_14 s g w B
def rulesV (s : Sty) (k : Nat) : Bool := if k < 15 then ruleV s k && rulesV s (k + 1) else true
termination_by 15 - k
set_option maxRecDepth 100000 in
set_option maxHeartbeats 1000000 in
theorem rules_any (w : World) : Calls Try.prog 71 #[] w fun e w' => e = .returned (.slice (some ⟨w.heap.size, 0, none⟩) 15 15) ∧ w' = w.alloc (.cells ruleC 80) := by
  go_enter Try.func71, Try.ntmps71
  go_wp2
  go_ret
  exact ⟨rfl, rfl⟩

/-- may a style be, by the program? -/
def prightV (s : Sty) : Bool := if s.kind = 1 ∨ s.kind = 2 then rulesV s 0 else if s.kind = 3 then decide (s.ul ≤ 65536) && bareV s else false
set_option maxRecDepth 100000 in
set_option maxHeartbeats 8000000 in
theorem pright_any (s : Sty) (w : World) : Calls Try.prog 53 #[.agg s.cells] w fun e w' => e = .returned (.bool (prightV s)) ∧ Ext w w' := by
  have B0 : Blk (w.alloc (.cells s.cells 45)) w.heap.size 45 s.cells := Blk.new _ _ _
  have E0 : Ext w (w.alloc (.cells s.cells 45)) := (Ext.refl _).alloc _
  have HB := hide (fun h : s.kind = 1 ∨ s.kind = 2 => (show rulesV s 0 = prightV s by rw [prightV, if_pos h]))
  have HT := hide (fun h : s.kind = 3 => (show (decide (s.ul ≤ 65536) && bareV s) = prightV s by rw [prightV, if_neg (by omega), if_pos h]))
  have HF := hide (fun (h1 : s.kind ≠ 1) (h2 : s.kind ≠ 2) (h3 : s.kind ≠ 3) => (show false = prightV s by rw [prightV, if_neg (by omega), if_neg h3]))
  have c0 : ∀ i : Nat, (w.alloc (.cells s.cells 45)).cell? ⟨w.heap.size, i, none⟩ = s.cells[i]? := B0.cell
  have hk0 : (w.alloc (.cells s.cells 45)).cell? ⟨w.heap.size, 0, none⟩ = some (.int .u8 s.kind) := c0 0
  have hul : (w.alloc (.cells s.cells 45)).cell? ⟨w.heap.size, 42, none⟩ = some (.slice s.ua s.ul s.uc) := c0 42
  by_cases k1 : s.kind = 1
  · have HV := hide (unhide HB (.inl k1))
    have e1 : (s.kind == 1) = true := by simpa using k1
    clear k1 HB HT HF
    go_enter Try.func53, Try.ntmps53
    go_wp2_with fail
    refine (rules_any _).mono ?_
    rintro e w1 ⟨rfl, rfl⟩
    have BR := Blk.new (w.alloc (.cells s.cells 45)) 80 ruleC
    rw [World.size_alloc] at BR
    have B1 := B0.alloc (.cells ruleC 80)
    have E1 := E0.alloc (.cells ruleC 80)
    generalize (w.alloc (.cells s.cells 45)).alloc (.cells ruleC 80) = w1 at *
    clear c0 hk0 hul B0 E0
    go_wp2_with fail
    go_loopw [12] (fun i wr => ∃ k : Nat, i = .int .i64 k ∧ k ≤ 15 ∧ Hid (rulesV s k = rulesV s 0) ∧ Ext w wr ∧ Blk wr w.heap.size 45 s.cells ∧ Blk wr (w.heap.size + 1) 80 ruleC) (fun i _ => 15 - (intOf i).toNat)
    case atStart => exact ⟨0, rfl, by omega, hide rfl, E1, B1, BR⟩
    case round =>
      clear E1 B1 BR w1
      obtain ⟨k, rfl, q1, HQ, E1, B1, BR⟩ := hrel
      have l1 := BR.lt
      by_cases hk : k < 15
      · have c1 := (BR.cell _).trans (ruleC_at hk)
        have hent := rule_enter hk
        have cr := fun w1 B => hide (rule_any hk s w.heap.size w1 B)
        have HN := hide (fun h : ruleV s k = false => (show false = rulesV s 0 by rw [← unhide HQ, rulesV, if_pos hk, h]; rfl))
        have HY := hide (fun h : ruleV s k = true => (show rulesV s (k + 1) = rulesV s 0 by rw [← unhide HQ, rulesV.eq_def s k, if_pos hk, h, Bool.true_and]))
        have hkI : (0 : Int) ≤ (k : Int) ∧ (k : Int) < 15 := by omega
        generalize ruleF k = N at *
        generalize ruleV s k = r at *
        clear HQ
        cases r
        · go_wp2_with fail
          refine (unhide (cr _ (B1.alloc _))).mono ?_
          rintro e w2 ⟨rfl, hx⟩
          go_wp2_with fail
          go_ret
          exact ⟨ret1b ((unhide HN (by first | rfl | trivial)).trans (unhide HV)), (E1.alloc _).trans hx⟩
        · go_wp2_with fail
          refine (unhide (cr _ (B1.alloc _))).mono ?_
          rintro e w2 ⟨rfl, hx⟩
          go_wp2_with fail
          go_roundw
          case rel => exact ⟨k + 1, by go_num, by omega, hide (unhide HY (by first | rfl | trivial)), (E1.alloc _).trans hx, (B1.alloc _).ext hx, (BR.alloc _).ext hx⟩
          case measure => simp [intOf]; omega
      · have HT := hide (show true = rulesV s 0 by rw [← unhide HQ, rulesV, if_neg hk])
        have hkI : ¬ ((k : Int) < 15) := by omega
        go_wp2_with fail
        go_ret
        exact ⟨ret1b ((unhide HT).trans (unhide HV)), E1⟩
  have e1 : (s.kind == 1) = false := by simpa using k1
  by_cases k2 : s.kind = 2
  · have HV := hide (unhide HB (.inr k2))
    have e2 : (s.kind == 2) = true := by simpa using k2
    clear k1 k2 HB HT HF
    go_enter Try.func53, Try.ntmps53
    go_wp2_with fail
    refine (rules_any _).mono ?_
    rintro e w1 ⟨rfl, rfl⟩
    have BR := Blk.new (w.alloc (.cells s.cells 45)) 80 ruleC
    rw [World.size_alloc] at BR
    have B1 := B0.alloc (.cells ruleC 80)
    have E1 := E0.alloc (.cells ruleC 80)
    generalize (w.alloc (.cells s.cells 45)).alloc (.cells ruleC 80) = w1 at *
    clear c0 hk0 hul B0 E0
    go_wp2_with fail
    go_loopw [12] (fun i wr => ∃ k : Nat, i = .int .i64 k ∧ k ≤ 15 ∧ Hid (rulesV s k = rulesV s 0) ∧ Ext w wr ∧ Blk wr w.heap.size 45 s.cells ∧ Blk wr (w.heap.size + 1) 80 ruleC) (fun i _ => 15 - (intOf i).toNat)
    case atStart => exact ⟨0, rfl, by omega, hide rfl, E1, B1, BR⟩
    case round =>
      clear E1 B1 BR w1
      obtain ⟨k, rfl, q1, HQ, E1, B1, BR⟩ := hrel
      have l1 := BR.lt
      by_cases hk : k < 15
      · have c1 := (BR.cell _).trans (ruleC_at hk)
        have hent := rule_enter hk
        have cr := fun w1 B => hide (rule_any hk s w.heap.size w1 B)
        have HN := hide (fun h : ruleV s k = false => (show false = rulesV s 0 by rw [← unhide HQ, rulesV, if_pos hk, h]; rfl))
        have HY := hide (fun h : ruleV s k = true => (show rulesV s (k + 1) = rulesV s 0 by rw [← unhide HQ, rulesV.eq_def s k, if_pos hk, h, Bool.true_and]))
        have hkI : (0 : Int) ≤ (k : Int) ∧ (k : Int) < 15 := by omega
        generalize ruleF k = N at *
        generalize ruleV s k = r at *
        clear HQ
        cases r
        · go_wp2_with fail
          refine (unhide (cr _ (B1.alloc _))).mono ?_
          rintro e w2 ⟨rfl, hx⟩
          go_wp2_with fail
          go_ret
          exact ⟨ret1b ((unhide HN (by first | rfl | trivial)).trans (unhide HV)), (E1.alloc _).trans hx⟩
        · go_wp2_with fail
          refine (unhide (cr _ (B1.alloc _))).mono ?_
          rintro e w2 ⟨rfl, hx⟩
          go_wp2_with fail
          go_roundw
          case rel => exact ⟨k + 1, by go_num, by omega, hide (unhide HY (by first | rfl | trivial)), (E1.alloc _).trans hx, (B1.alloc _).ext hx, (BR.alloc _).ext hx⟩
          case measure => simp [intOf]; omega
      · have HT := hide (show true = rulesV s 0 by rw [← unhide HQ, rulesV, if_neg hk])
        have hkI : ¬ ((k : Int) < 15) := by omega
        go_wp2_with fail
        go_ret
        exact ⟨ret1b ((unhide HT).trans (unhide HV)), E1⟩
  have e2 : (s.kind == 2) = false := by simpa using k2
  by_cases k3 : s.kind = 3
  · have HV := hide (unhide HT k3)
    have e3 : (s.kind == 3) = true := by simpa using k3
    clear k1 k2 k3 c0
    by_cases hu : s.ul ≤ 65536
    · have huI : (s.ul : Int) ≤ 65536 := by omega
      have cb := fun w1 B => hide (bare_any s w.heap.size w1 B)
      generalize bareV s = bv at *
      go_enter Try.func53, Try.ntmps53
      go_wp2_with fail
      refine (unhide (cb _ B0)).mono ?_
      rintro e w1 ⟨rfl, hx⟩
      go_wp2_with fail
      go_ret
      exact ⟨ret1b (by rw [← unhide HV, decide_eq_true hu, Bool.true_and]), E0.trans hx⟩
    · have huI : ¬ (s.ul : Int) ≤ 65536 := by omega
      go_enter Try.func53, Try.ntmps53
      go_wp2_with fail
      go_ret
      exact ⟨ret1b (by rw [← unhide HV, decide_eq_false hu, Bool.false_and]), E0⟩
  · have e3 : (s.kind == 3) = false := by simpa using k3
    have HV := hide (unhide HF k1 k2 k3)
    go_enter Try.func53, Try.ntmps53
    go_wp2_with fail
    go_ret
    exact ⟨ret1b (unhide HV), E0⟩
end Go.Proofs.Ytnolbmfjgfojhaa
