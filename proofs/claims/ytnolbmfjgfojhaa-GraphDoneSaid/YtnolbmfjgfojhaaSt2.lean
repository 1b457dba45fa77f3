/- Styles, the document's: of boxes (walk). -/
import Derived.Test.YtnolbmfjgfojhaaSt1
import Derived.Test.YtnolbmfjgfojhaaLinB
import Derived.Deep.Cut
import Derived.IntWalk
namespace Go.Proofs.Ytnolbmfjgfojhaa
open Go.RowKit
theorem nat4' {k : Nat} (h : k < 4) : k = 0 ∨ k = 1 ∨ k = 2 ∨ k = 3 := by omega
def mgL (s : Sty) : Nat → Ln | 0 => s.m0 | 1 => s.m1 | 2 => s.m2 | _ => s.m3
def bdN (s : Sty) : Nat → Int | 0 => s.b0 | 1 => s.b1 | 2 => s.b2 | _ => s.b3
def pdN (s : Sty) : Nat → Int | 0 => s.p0 | 1 => s.p1 | 2 => s.p2 | _ => s.p3
def wdL (s : Sty) : Nat → Ln | 0 => s.w | 1 => s.minw | 2 => s.maxw | _ => s.basis
def hgL (s : Sty) : Nat → Ln | 0 => s.h | 1 => s.minh | _ => s.maxh
theorem st_m (s : Sty) {k : Nat} (h : k < 4) : s.cells[16 + k * 2]? = some (.int .u8 (mgL s k).k) ∧ s.cells[16 + k * 2 + 1]? = some (.int .i64 (mgL s k).n) ∧ s.cells[24 + k]? = some (.int .i64 (bdN s k)) ∧ s.cells[28 + k]? = some (.int .i64 (pdN s k)) := by
  rcases nat4' h with rfl | rfl | rfl | rfl <;> exact ⟨rfl, rfl, rfl, rfl⟩
@[reducible] def wdC (s : Sty) : Array Value := #[.int .u8 s.w.k, .int .i64 s.w.n, .int .u8 s.minw.k, .int .i64 s.minw.n, .int .u8 s.maxw.k, .int .i64 s.maxw.n, .int .u8 s.basis.k, .int .i64 s.basis.n]
@[reducible] def hgC (s : Sty) : Array Value := #[.int .u8 s.h.k, .int .i64 s.h.n, .int .u8 s.minh.k, .int .i64 s.minh.n, .int .u8 s.maxh.k, .int .i64 s.maxh.n]
theorem st_w (s : Sty) {k : Nat} (h : k < 4) : (wdC s)[k * 2]? = some (.int .u8 (wdL s k).k) ∧ (wdC s)[k * 2 + 1]? = some (.int .i64 (wdL s k).n) := by
  rcases nat4' h with rfl | rfl | rfl | rfl <;> exact ⟨rfl, rfl⟩
theorem st_h (s : Sty) {k : Nat} (h : k < 3) : (hgC s)[k * 2]? = some (.int .u8 (hgL s k).k) ∧ (hgC s)[k * 2 + 1]? = some (.int .i64 (hgL s k).n) := by
  have : k = 0 ∨ k = 1 ∨ k = 2 := by omega
  rcases this with rfl | rfl | rfl <;> exact ⟨rfl, rfl⟩
def mgOk (s : Sty) (k : Nat) : Bool := mayV (mgL s k) true && decide (0 ≤ bdN s k ∧ bdN s k ≤ 1099511627776) && decide (0 ≤ pdN s k ∧ pdN s k ≤ 1099511627776)
def mgV (s : Sty) (k : Nat) : Bool := if k < 4 then mgOk s k && mgV s (k + 1) else true
termination_by 4 - k
def wdV (s : Sty) (k : Nat) : Bool := if k < 4 then mayV (wdL s k) false && wdV s (k + 1) else true
termination_by 4 - k
def hgOk (s : Sty) (k : Nat) : Bool := mayV (hgL s k) false && !((hgL s k).k == 2)
def hgV (s : Sty) (k : Nat) : Bool := if k < 3 then hgOk s k && hgV s (k + 1) else true
termination_by 3 - k
def flagsV (s : Sty) : Bool := ((((((((decide (s.float ≤ 2) && decide (s.clear ≤ 3)) && ((decide (s.align ≤ 2) && decide (s.justify ≤ 3)) && decide (s.items ≤ 3))) && (((decide (0 ≤ s.grow) && decide (s.grow ≤ 60)) && decide (0 ≤ s.shrink)) && decide (s.shrink ≤ 60))) && decide (0 ≤ s.line)) && decide (s.line ≤ 1099511627776)) && decide ((-1048576) ≤ s.order)) && decide (s.order ≤ 1048576)) && (((s.ul : Nat) : Int) == 0))
/-- may the style of a box be? -/
def boxV (s : Sty) : Bool := mgV s 0 && wdV s 0 && hgV s 0 && flagsV s

set_option maxRecDepth 100000 in
set_option maxHeartbeats 16000000 in
theorem rbox_any (s : Sty) (w : World) : Calls Try.prog 98 #[.agg s.cells] w fun e w' => e = .returned (.bool (boxV s)) ∧ Ext w w' := by
  go_enter Try.func98, Try.ntmps98
  go_wp2_with fail
  have B0 : Blk (w.alloc (.cells s.cells 45)) w.heap.size 45 s.cells := Blk.new _ _ _
  have E0 : Ext w (w.alloc (.cells s.cells 45)) := (Ext.refl _).alloc _
  generalize w.alloc (.cells s.cells 45) = w0 at *
  generalize hg : w.heap.size = g at *
  have HG := hide hg
  clear hg
  go_loopw [3] (fun i wr => ∃ k : Nat, i = .int .i64 k ∧ k ≤ 4 ∧ Hid (mgV s k = mgV s 0) ∧ Ext w wr ∧ Blk wr g 45 s.cells) (fun i _ => 4 - (intOf i).toNat)
  case atStart => exact ⟨0, rfl, by omega, hide rfl, E0, B0⟩
  case round =>
    clear E0 B0 w0
    obtain ⟨k, rfl, q1, HQ, E1, B1⟩ := hrel
    have l1 := B1.lt
    by_cases hk : k < 4
    · obtain ⟨m1, m2, m3, m4⟩ := st_m s hk
      have c1 := (B1.cell _).trans m1
      have c2 := (B1.cell _).trans m2
      have c3 := (B1.cell _).trans m3
      have c4 := (B1.cell _).trans m4
      have HOK := hide (show mgOk s k = (mayV (mgL s k) true && decide (0 ≤ bdN s k ∧ bdN s k ≤ 1099511627776) && decide (0 ≤ pdN s k ∧ pdN s k ≤ 1099511627776)) from rfl)
      have HN := hide (fun h : mgOk s k = false => (show false = boxV s by rw [boxV, ← unhide HQ, mgV, if_pos hk, h]; rfl))
      have HY := hide (fun h : mgOk s k = true => (show mgV s (k + 1) = mgV s 0 by rw [← unhide HQ, mgV.eq_def s k, if_pos hk, h, Bool.true_and]))
      have cm := fun w => hide (rmay_any (mgL s k) true w)
      generalize mgL s k = L at *
      generalize bdN s k = bd at *
      generalize pdN s k = pd at *
      obtain ⟨Lk, Lnn⟩ := L
      simp only at c1 c2
      have hkI : (0 : Int) ≤ (k : Int) ∧ (k : Int) < 4 := by omega
      generalize mayV ⟨Lk, Lnn⟩ true = mv at *
      clear m1 m2 m3 m4 HQ
      cases mv
      · skip
        go_wp2_with fail
        refine (unhide (cm _)).mono ?_
        rintro e w2 ⟨rfl, hx⟩
        obtain ⟨hcc, hff⟩ := hx.cells
        have hz := hx.size
        go_wp2_with fail
        go_ret
        exact ⟨ret1b (unhide HN (by rw [unhide HOK]; first | rfl | (rw [Bool.eq_false_iff]; simp; omega))), E1.trans hx⟩
      by_cases qbd0 : bd < 0
      · skip
        go_wp2_with fail
        refine (unhide (cm _)).mono ?_
        rintro e w2 ⟨rfl, hx⟩
        obtain ⟨hcc, hff⟩ := hx.cells
        have hz := hx.size
        go_wp2_with fail
        go_ret
        exact ⟨ret1b (unhide HN (by rw [unhide HOK]; first | rfl | (rw [Bool.eq_false_iff]; simp; omega))), E1.trans hx⟩
      have qbd0' : 0 ≤ bd := by omega
      clear qbd0
      by_cases q1099511627776bd : 1099511627776 < bd
      · skip
        go_wp2_with fail
        refine (unhide (cm _)).mono ?_
        rintro e w2 ⟨rfl, hx⟩
        obtain ⟨hcc, hff⟩ := hx.cells
        have hz := hx.size
        go_wp2_with fail
        go_ret
        exact ⟨ret1b (unhide HN (by rw [unhide HOK]; first | rfl | (rw [Bool.eq_false_iff]; simp; omega))), E1.trans hx⟩
      have q1099511627776bd' : bd ≤ 1099511627776 := by omega
      clear q1099511627776bd
      by_cases qpd0 : pd < 0
      · skip
        go_wp2_with fail
        refine (unhide (cm _)).mono ?_
        rintro e w2 ⟨rfl, hx⟩
        obtain ⟨hcc, hff⟩ := hx.cells
        have hz := hx.size
        go_wp2_with fail
        go_ret
        exact ⟨ret1b (unhide HN (by rw [unhide HOK]; first | rfl | (rw [Bool.eq_false_iff]; simp; omega))), E1.trans hx⟩
      have qpd0' : 0 ≤ pd := by omega
      clear qpd0
      by_cases q1099511627776pd : 1099511627776 < pd
      · skip
        go_wp2_with fail
        refine (unhide (cm _)).mono ?_
        rintro e w2 ⟨rfl, hx⟩
        obtain ⟨hcc, hff⟩ := hx.cells
        have hz := hx.size
        go_wp2_with fail
        go_ret
        exact ⟨ret1b (unhide HN (by rw [unhide HOK]; first | rfl | (rw [Bool.eq_false_iff]; simp; omega))), E1.trans hx⟩
      have q1099511627776pd' : pd ≤ 1099511627776 := by omega
      clear q1099511627776pd
      go_wp2_with fail
      refine (unhide (cm _)).mono ?_
      rintro e w2 ⟨rfl, hx⟩
      obtain ⟨hcc, hff⟩ := hx.cells
      have hz := hx.size
      go_wp2_with fail
      go_roundw
      case rel => exact ⟨k + 1, by go_num, by omega, hide (unhide HY (by rw [unhide HOK]; simp; omega)), E1.trans hx, B1.ext hx⟩
      case measure => simp [intOf]; omega
    · have HM : Hid (mgV s 0 = true) := hide (by rw [← unhide HQ, mgV, if_neg hk])
      have hkI : ¬ ((k : Int) < 4) := by omega
      clear HQ q1
      have c1 := B1.cell
      go_upto_region 8 with fail
      have B2 := (B1.alloc (.cells (wdC s) 40)).alloc (.cells (hgC s) 40)
      have BW : Blk ((wr.alloc (.cells (wdC s) 40)).alloc (.cells (hgC s) 40)) wr.heap.size 40 (wdC s) := (Blk.new _ _ _).alloc _
      have BH : Blk ((wr.alloc (.cells (wdC s) 40)).alloc (.cells (hgC s) 40)) (wr.heap.size + 1) 40 (hgC s) := Blk.new1 _ _ _ _
      have E2 := (E1.alloc (.cells (wdC s) 40)).alloc (.cells (hgC s) 40)
      generalize (wr.alloc (.cells (wdC s) 40)).alloc (.cells (hgC s) 40) = w5 at *
      generalize hgw : wr.heap.size = gw at *
      clear hgw c1 l1 B1 E1 wr
      go_wp2_with fail
      clear hk hkI
      go_loopw [6] (fun i wr => ∃ k : Nat, i = .int .i64 k ∧ k ≤ 4 ∧ Hid (wdV s k = wdV s 0) ∧ Ext w wr ∧ Blk wr g 45 s.cells ∧ Blk wr gw 40 (wdC s) ∧ Blk wr (gw + 1) 40 (hgC s)) (fun i _ => 4 - (intOf i).toNat)
      case atStart => exact ⟨0, rfl, by omega, hide rfl, E2, B2, BW, BH⟩
      case round =>
        clear E2 B2 BW BH w5
        obtain ⟨k, rfl, q1, HQ, E2, B2, BW, BH⟩ := hrel
        have l1 := BW.lt
        by_cases hk : k < 4
        · obtain ⟨m1, m2⟩ := st_w s hk
          have c1 := (BW.cell _).trans m1
          have c2 := (BW.cell _).trans m2
          have HN := hide (fun h : mayV (wdL s k) false = false => (show false = boxV s by rw [boxV, ← unhide HQ, wdV, if_pos hk, h, Bool.false_and, Bool.and_false]; rfl))
          have HY := hide (fun h : mayV (wdL s k) false = true => (show wdV s (k + 1) = wdV s 0 by rw [← unhide HQ, wdV.eq_def s k, if_pos hk, h, Bool.true_and]))
          have cm := fun w => hide (rmay_any (wdL s k) false w)
          generalize wdL s k = L at *
          obtain ⟨Lk, Lnn⟩ := L
          simp only at c1 c2
          have hkI : (0 : Int) ≤ (k : Int) ∧ (k : Int) < 4 := by omega
          generalize mayV ⟨Lk, Lnn⟩ false = mv at *
          clear m1 m2 HQ
          cases mv
          · skip
            go_wp2_with fail
            refine (unhide (cm _)).mono ?_
            rintro e w2 ⟨rfl, hx⟩
            obtain ⟨hcc, hff⟩ := hx.cells
            have hz := hx.size
            go_wp2_with fail
            go_ret
            exact ⟨ret1b (unhide HN (by first | rfl | trivial)), E2.trans hx⟩
          · skip
            go_wp2_with fail
            refine (unhide (cm _)).mono ?_
            rintro e w2 ⟨rfl, hx⟩
            obtain ⟨hcc, hff⟩ := hx.cells
            have hz := hx.size
            go_wp2_with fail
            go_roundw
            case rel => exact ⟨k + 1, by go_num, by omega, hide (unhide HY (by first | rfl | trivial)), E2.trans hx, B2.ext hx, BW.ext hx, BH.ext hx⟩
            case measure => simp [intOf]; omega
        · have HW : Hid (wdV s 0 = true) := hide (by rw [← unhide HQ, wdV, if_neg hk])
          have hkI : ¬ ((k : Int) < 4) := by omega
          clear HQ q1 l1
          go_wp2_with fail
          clear hk hkI
          go_loopw [7] (fun i wr => ∃ k : Nat, i = .int .i64 k ∧ k ≤ 3 ∧ Hid (hgV s k = hgV s 0) ∧ Ext w wr ∧ Blk wr g 45 s.cells ∧ Blk wr (gw + 1) 40 (hgC s)) (fun i _ => 3 - (intOf i).toNat)
          case atStart => exact ⟨0, rfl, by omega, hide rfl, E2, B2, BH⟩
          case round =>
            clear E2 B2 BW BH
            obtain ⟨k, rfl, q1, HQ, E2, B2, BH⟩ := hrel
            have l1 := BH.lt
            by_cases hk : k < 3
            · obtain ⟨m1, m2⟩ := st_h s hk
              have c1 := (BH.cell _).trans m1
              have c2 := (BH.cell _).trans m2
              have HOK := hide (show hgOk s k = (mayV (hgL s k) false && !((hgL s k).k == 2)) from rfl)
              have HN := hide (fun h : hgOk s k = false => (show false = boxV s by rw [boxV, ← unhide HQ, hgV, if_pos hk, h, Bool.false_and, Bool.and_false]; rfl))
              have HY := hide (fun h : hgOk s k = true => (show hgV s (k + 1) = hgV s 0 by rw [← unhide HQ, hgV.eq_def s k, if_pos hk, h, Bool.true_and]))
              have cm := fun w => hide (rmay_any (hgL s k) false w)
              generalize hgL s k = L at *
              obtain ⟨Lk, Lnn⟩ := L
              simp only at c1 c2 HOK
              have hkI : (0 : Int) ≤ (k : Int) ∧ (k : Int) < 3 := by omega
              generalize mayV ⟨Lk, Lnn⟩ false = mv at *
              clear m1 m2 HQ
              cases mv
              · skip
                go_wp2_with fail
                refine (unhide (cm _)).mono ?_
                rintro e w2 ⟨rfl, hx⟩
                obtain ⟨hcc, hff⟩ := hx.cells
                have hz := hx.size
                go_wp2_with fail
                go_ret
                exact ⟨ret1b (unhide HN (by rw [unhide HOK]; rfl)), E2.trans hx⟩
              cases hk2 : (Lk == 2)
              rotate_left
              · skip
                go_wp2_with fail
                refine (unhide (cm _)).mono ?_
                rintro e w2 ⟨rfl, hx⟩
                obtain ⟨hcc, hff⟩ := hx.cells
                have hz := hx.size
                go_wp2_with fail
                go_ret
                exact ⟨ret1b (unhide HN (by rw [unhide HOK, hk2]; rfl)), E2.trans hx⟩
              · skip
                go_wp2_with fail
                refine (unhide (cm _)).mono ?_
                rintro e w2 ⟨rfl, hx⟩
                obtain ⟨hcc, hff⟩ := hx.cells
                have hz := hx.size
                go_wp2_with fail
                go_roundw
                case rel => exact ⟨k + 1, by go_num, by omega, hide (unhide HY (by rw [unhide HOK, hk2]; rfl)), E2.trans hx, B2.ext hx, BH.ext hx⟩
                case measure => simp [intOf]; omega
            · have HH : Hid (hgV s 0 = true) := hide (by rw [← unhide HQ, hgV, if_neg hk])
              have hkI : ¬ ((k : Int) < 3) := by omega
              clear HQ q1 l1 BH
              go_upto_region 18 with fail
              clear hk hkI
              have Bs := B2
              have E3 := E2
              clear B2 E2
              obtain ⟨p99, hp99⟩ : ∃ x, decide (s.float ≤ 2) = x := ⟨_, rfl⟩
              obtain ⟨p103, hp103⟩ : ∃ x, decide (s.clear ≤ 3) = x := ⟨_, rfl⟩
              obtain ⟨p104, hp104⟩ : ∃ x, (p99 && p103) = x := ⟨_, rfl⟩
              have HF18 : Hid (p104 = (decide (s.float ≤ 2) && decide (s.clear ≤ 3))) := hide (by rw [← hp104, ← hp103, ← hp99])
              have Hp99 := hide hp99
              have Hp103 := hide hp103
              have Hp104 := hide hp104
              clear hp99 hp103 hp104
              refine wp_region_lin0 (fun w' => (ExtX wr w' [])) (fun ii vv ww => match ii with | 0 => vv = .pointer (some ⟨g, 2, none⟩) | 1 => vv = .int .u8 s.float | 2 => vv = .bool p99 | 3 => vv = .bool p99 | 4 => vv = (if (p99) = true then .pointer (some ⟨g, 3, none⟩) else undef) | 5 => vv = (if (p99) = true then .int .u8 s.clear else undef) | 6 => vv = (if (p99) = true then .bool p103 else undef) | 7 => vv = .bool p104 | 8 => vv = .bool p104 | _ => True) (fun ii => match ii with | 1 => [(0, 97)] | 2 => [(1, 98)] | 3 => [(2, 99)] | 4 => [(3, 100)] | 5 => [(4, 101), (3, 100)] | 6 => [(5, 102), (3, 100)] | 7 => [(3, 100), (6, 103)] | 8 => [(7, 104)] | _ => []) (fun ii => match ii with | 0 => [1] | 4 => [1] | _ => []) (fun ii => match ii with | 4 => [3] | 5 => [3] | 6 => [3] | _ => []) [8] [0, 1, 3, 7, 15, 31, 63, 127, 255] 169 rfl (by kernel_rfl) (ExtX.refl _ _) ?_ ?_
              · rename_i hcont; clear hcont
                refine ⟨?_, ?_, ?_, ?_, ?_, ?_, ?_, ?_, ?_, trivial⟩
                · refine stepL_plain rfl ?_
                  rintro F a w1 jE - ⟨t1, -⟩ K hK
                  have t1 : a.tmps[1]? = some (.pointer (some ⟨g, 0, none⟩)) := t1
                  go_simp
                  exact hK _ _ jE rfl (fun _ _ _ h => h)
                · refine stepL_plain rfl ?_
                  rintro F a w1 jE ⟨h0, t97, -⟩ - K hK
                  have h0 : (F 0) = .pointer (some ⟨g, 2, none⟩) := h0
                  rw [h0] at t97
                  clear h0
                  have c := (jE.blk Bs (by simp)).cell
                  go_simp
                  exact hK _ _ jE rfl (fun _ _ _ h => h)
                · refine stepL_plain rfl ?_
                  rintro F a w1 jE ⟨h1, t98, -⟩ - K hK
                  have h1 : (F 1) = .int .u8 s.float := h1
                  rw [h1] at t98
                  clear h1
                  have e1 := unhide Hp99
                  go_simp
                  exact hK _ _ jE rfl (fun _ _ _ h => h)
                · refine stepL_plain rfl ?_
                  rintro F a w1 jE ⟨h2, t99, -⟩ - K hK
                  have h2 : (F 2) = .bool p99 := h2
                  rw [h2] at t99
                  clear h2
                  go_simp
                  exact hK _ _ jE rfl (fun _ _ _ h => h)
                · refine stepL_of ?_
                  rintro F a w1 jE ⟨h3, t100, -⟩ ⟨t1, -⟩ K hK
                  have h3 : (F 3) = .bool p99 := h3
                  rw [h3] at t100
                  clear h3
                  have t1 : a.tmps[1]? = some (.pointer (some ⟨g, 0, none⟩)) := t1
                  cases p99
                  all_goals first
                    | (exact stepN ((wanted_of 3 true 100 _ rfl rfl t100).trans rfl) (hK undef _ jE rfl (fun _ _ _ h => h)))
                    | (exact stepN (wanted_undef 3 true 100 rfl rfl t100) (hK undef _ jE rfl (fun _ _ _ h => h)))
                    | (refine stepY ((wanted_of 3 true 100 _ rfl rfl t100).trans rfl) ?_
                       go_simp
                       exact hK _ _ jE rfl (fun _ _ _ h => h))
                · refine stepL_of ?_
                  rintro F a w1 jE ⟨h4, t101, h3, t100, -⟩ - K hK
                  have h4 : (F 4) = (if (p99) = true then .pointer (some ⟨g, 3, none⟩) else undef) := h4
                  rw [h4] at t101
                  clear h4
                  have h3 : (F 3) = .bool p99 := h3
                  rw [h3] at t100
                  clear h3
                  cases p99
                  all_goals first
                    | (exact stepN ((wanted_of 3 true 100 _ rfl rfl t100).trans rfl) (hK undef _ jE rfl (fun _ _ _ h => h)))
                    | (exact stepN (wanted_undef 3 true 100 rfl rfl t100) (hK undef _ jE rfl (fun _ _ _ h => h)))
                    | (refine stepY ((wanted_of 3 true 100 _ rfl rfl t100).trans rfl) ?_
                       have c := (jE.blk Bs (by simp)).cell
                       go_simp
                       exact hK _ _ jE rfl (fun _ _ _ h => h))
                · refine stepL_of ?_
                  rintro F a w1 jE ⟨h5, t102, h3, t100, -⟩ - K hK
                  have h5 : (F 5) = (if (p99) = true then .int .u8 s.clear else undef) := h5
                  rw [h5] at t102
                  clear h5
                  have h3 : (F 3) = .bool p99 := h3
                  rw [h3] at t100
                  clear h3
                  cases p99
                  all_goals first
                    | (exact stepN ((wanted_of 3 true 100 _ rfl rfl t100).trans rfl) (hK undef _ jE rfl (fun _ _ _ h => h)))
                    | (exact stepN (wanted_undef 3 true 100 rfl rfl t100) (hK undef _ jE rfl (fun _ _ _ h => h)))
                    | (refine stepY ((wanted_of 3 true 100 _ rfl rfl t100).trans rfl) ?_
                       have e1 := unhide Hp103
                       go_simp
                       exact hK _ _ jE rfl (fun _ _ _ h => h))
                · refine stepL_plain rfl ?_
                  rintro F a w1 jE ⟨h3, t100, h6, t103, -⟩ - K hK
                  have h3 : (F 3) = .bool p99 := h3
                  rw [h3] at t100
                  clear h3
                  have h6 : (F 6) = (if (p99) = true then .bool p103 else undef) := h6
                  rw [h6] at t103
                  clear h6
                  cases p103 <;> cases p99
                  all_goals
                    obtain rfl := unhide Hp104
                    go_simp
                    exact hK _ _ jE rfl (fun _ _ _ h => h)
                · refine stepL_plain rfl ?_
                  rintro F a w1 jE ⟨h7, t104, -⟩ - K hK
                  have h7 : (F 7) = .bool p104 := h7
                  rw [h7] at t104
                  clear h7
                  go_simp
                  exact hK _ _ jE rfl (fun _ _ _ h => h)
              · rintro F wb jE ⟨h8, -⟩
                have h8 : (F 8) = .bool p104 := h8
                have hx := jE.ext (Ext.refl _) (by simp)
                replace E3 := E3.trans hx
                replace Bs := Bs.ext hx
                clear jE hx
                simp only [putL, Act.put, Nat.reduceAdd, Nat.zero_add, List.setIfInBounds_toArray, List.set_cons_succ, List.set_cons_zero]
                rw [h8]
                clear h8
                go_upto_region 19 with fail
                obtain ⟨p107, hp107⟩ : ∃ x, decide (s.align ≤ 2) = x := ⟨_, rfl⟩
                obtain ⟨p111, hp111⟩ : ∃ x, decide (s.justify ≤ 3) = x := ⟨_, rfl⟩
                obtain ⟨p112, hp112⟩ : ∃ x, (p107 && p111) = x := ⟨_, rfl⟩
                obtain ⟨p116, hp116⟩ : ∃ x, decide (s.items ≤ 3) = x := ⟨_, rfl⟩
                obtain ⟨p117, hp117⟩ : ∃ x, (p112 && p116) = x := ⟨_, rfl⟩
                have HF19 : Hid (p117 = ((decide (s.align ≤ 2) && decide (s.justify ≤ 3)) && decide (s.items ≤ 3))) := hide (by rw [← hp117, ← hp116, ← hp112, ← hp111, ← hp107])
                have Hp107 := hide hp107
                have Hp111 := hide hp111
                have Hp112 := hide hp112
                have Hp116 := hide hp116
                have Hp117 := hide hp117
                clear hp107 hp111 hp112 hp116 hp117
                refine wp_region_lin0 (fun w' => (ExtX wb w' [])) (fun ii vv ww => match ii with | 0 => vv = .pointer (some ⟨g, 32, none⟩) | 1 => vv = .int .u8 s.align | 2 => vv = .bool p107 | 3 => vv = .bool p107 | 4 => vv = (if (p107) = true then .pointer (some ⟨g, 35, none⟩) else undef) | 5 => vv = (if (p107) = true then .int .u8 s.justify else undef) | 6 => vv = (if (p107) = true then .bool p111 else undef) | 7 => vv = .bool p112 | 8 => vv = .bool p112 | 9 => vv = (if (p112) = true then .pointer (some ⟨g, 36, none⟩) else undef) | 10 => vv = (if (p112) = true then .int .u8 s.items else undef) | 11 => vv = (if (p112) = true then .bool p116 else undef) | 12 => vv = .bool p117 | 13 => vv = .bool p117 | _ => True) (fun ii => match ii with | 1 => [(0, 105)] | 2 => [(1, 106)] | 3 => [(2, 107)] | 4 => [(3, 108)] | 5 => [(4, 109), (3, 108)] | 6 => [(5, 110), (3, 108)] | 7 => [(3, 108), (6, 111)] | 8 => [(7, 112)] | 9 => [(8, 113)] | 10 => [(9, 114), (8, 113)] | 11 => [(10, 115), (8, 113)] | 12 => [(8, 113), (11, 116)] | 13 => [(12, 117)] | _ => []) (fun ii => match ii with | 0 => [1] | 4 => [1] | 9 => [1] | _ => []) (fun ii => match ii with | 4 => [3] | 5 => [3] | 6 => [3] | 9 => [8] | 10 => [8] | 11 => [8] | _ => []) [13] [0, 1, 3, 7, 15, 31, 63, 127, 255, 511, 1023, 2047, 4095, 8191] 169 rfl (by kernel_rfl) (ExtX.refl _ _) ?_ ?_
                · rename_i hcont; clear hcont
                  refine ⟨?_, ?_, ?_, ?_, ?_, ?_, ?_, ?_, ?_, ?_, ?_, ?_, ?_, ?_, trivial⟩
                  · refine stepL_plain rfl ?_
                    rintro F a w1 jE - ⟨t1, -⟩ K hK
                    have t1 : a.tmps[1]? = some (.pointer (some ⟨g, 0, none⟩)) := t1
                    go_simp
                    exact hK _ _ jE rfl (fun _ _ _ h => h)
                  · refine stepL_plain rfl ?_
                    rintro F a w1 jE ⟨h0, t105, -⟩ - K hK
                    have h0 : (F 0) = .pointer (some ⟨g, 32, none⟩) := h0
                    rw [h0] at t105
                    clear h0
                    have c := (jE.blk Bs (by simp)).cell
                    go_simp
                    exact hK _ _ jE rfl (fun _ _ _ h => h)
                  · refine stepL_plain rfl ?_
                    rintro F a w1 jE ⟨h1, t106, -⟩ - K hK
                    have h1 : (F 1) = .int .u8 s.align := h1
                    rw [h1] at t106
                    clear h1
                    have e1 := unhide Hp107
                    go_simp
                    exact hK _ _ jE rfl (fun _ _ _ h => h)
                  · refine stepL_plain rfl ?_
                    rintro F a w1 jE ⟨h2, t107, -⟩ - K hK
                    have h2 : (F 2) = .bool p107 := h2
                    rw [h2] at t107
                    clear h2
                    go_simp
                    exact hK _ _ jE rfl (fun _ _ _ h => h)
                  · refine stepL_of ?_
                    rintro F a w1 jE ⟨h3, t108, -⟩ ⟨t1, -⟩ K hK
                    have h3 : (F 3) = .bool p107 := h3
                    rw [h3] at t108
                    clear h3
                    have t1 : a.tmps[1]? = some (.pointer (some ⟨g, 0, none⟩)) := t1
                    cases p107
                    all_goals first
                      | (exact stepN ((wanted_of 3 true 108 _ rfl rfl t108).trans rfl) (hK undef _ jE rfl (fun _ _ _ h => h)))
                      | (exact stepN (wanted_undef 3 true 108 rfl rfl t108) (hK undef _ jE rfl (fun _ _ _ h => h)))
                      | (refine stepY ((wanted_of 3 true 108 _ rfl rfl t108).trans rfl) ?_
                         go_simp
                         exact hK _ _ jE rfl (fun _ _ _ h => h))
                  · refine stepL_of ?_
                    rintro F a w1 jE ⟨h4, t109, h3, t108, -⟩ - K hK
                    have h4 : (F 4) = (if (p107) = true then .pointer (some ⟨g, 35, none⟩) else undef) := h4
                    rw [h4] at t109
                    clear h4
                    have h3 : (F 3) = .bool p107 := h3
                    rw [h3] at t108
                    clear h3
                    cases p107
                    all_goals first
                      | (exact stepN ((wanted_of 3 true 108 _ rfl rfl t108).trans rfl) (hK undef _ jE rfl (fun _ _ _ h => h)))
                      | (exact stepN (wanted_undef 3 true 108 rfl rfl t108) (hK undef _ jE rfl (fun _ _ _ h => h)))
                      | (refine stepY ((wanted_of 3 true 108 _ rfl rfl t108).trans rfl) ?_
                         have c := (jE.blk Bs (by simp)).cell
                         go_simp
                         exact hK _ _ jE rfl (fun _ _ _ h => h))
                  · refine stepL_of ?_
                    rintro F a w1 jE ⟨h5, t110, h3, t108, -⟩ - K hK
                    have h5 : (F 5) = (if (p107) = true then .int .u8 s.justify else undef) := h5
                    rw [h5] at t110
                    clear h5
                    have h3 : (F 3) = .bool p107 := h3
                    rw [h3] at t108
                    clear h3
                    cases p107
                    all_goals first
                      | (exact stepN ((wanted_of 3 true 108 _ rfl rfl t108).trans rfl) (hK undef _ jE rfl (fun _ _ _ h => h)))
                      | (exact stepN (wanted_undef 3 true 108 rfl rfl t108) (hK undef _ jE rfl (fun _ _ _ h => h)))
                      | (refine stepY ((wanted_of 3 true 108 _ rfl rfl t108).trans rfl) ?_
                         have e1 := unhide Hp111
                         go_simp
                         exact hK _ _ jE rfl (fun _ _ _ h => h))
                  · refine stepL_plain rfl ?_
                    rintro F a w1 jE ⟨h3, t108, h6, t111, -⟩ - K hK
                    have h3 : (F 3) = .bool p107 := h3
                    rw [h3] at t108
                    clear h3
                    have h6 : (F 6) = (if (p107) = true then .bool p111 else undef) := h6
                    rw [h6] at t111
                    clear h6
                    cases p107 <;> cases p111
                    all_goals
                      obtain rfl := unhide Hp112
                      go_simp
                      exact hK _ _ jE rfl (fun _ _ _ h => h)
                  · refine stepL_plain rfl ?_
                    rintro F a w1 jE ⟨h7, t112, -⟩ - K hK
                    have h7 : (F 7) = .bool p112 := h7
                    rw [h7] at t112
                    clear h7
                    go_simp
                    exact hK _ _ jE rfl (fun _ _ _ h => h)
                  · refine stepL_of ?_
                    rintro F a w1 jE ⟨h8, t113, -⟩ ⟨t1, -⟩ K hK
                    have h8 : (F 8) = .bool p112 := h8
                    rw [h8] at t113
                    clear h8
                    have t1 : a.tmps[1]? = some (.pointer (some ⟨g, 0, none⟩)) := t1
                    cases p112
                    all_goals first
                      | (exact stepN ((wanted_of 8 true 113 _ rfl rfl t113).trans rfl) (hK undef _ jE rfl (fun _ _ _ h => h)))
                      | (exact stepN (wanted_undef 8 true 113 rfl rfl t113) (hK undef _ jE rfl (fun _ _ _ h => h)))
                      | (refine stepY ((wanted_of 8 true 113 _ rfl rfl t113).trans rfl) ?_
                         go_simp
                         exact hK _ _ jE rfl (fun _ _ _ h => h))
                  · refine stepL_of ?_
                    rintro F a w1 jE ⟨h9, t114, h8, t113, -⟩ - K hK
                    have h9 : (F 9) = (if (p112) = true then .pointer (some ⟨g, 36, none⟩) else undef) := h9
                    rw [h9] at t114
                    clear h9
                    have h8 : (F 8) = .bool p112 := h8
                    rw [h8] at t113
                    clear h8
                    cases p112
                    all_goals first
                      | (exact stepN ((wanted_of 8 true 113 _ rfl rfl t113).trans rfl) (hK undef _ jE rfl (fun _ _ _ h => h)))
                      | (exact stepN (wanted_undef 8 true 113 rfl rfl t113) (hK undef _ jE rfl (fun _ _ _ h => h)))
                      | (refine stepY ((wanted_of 8 true 113 _ rfl rfl t113).trans rfl) ?_
                         have c := (jE.blk Bs (by simp)).cell
                         go_simp
                         exact hK _ _ jE rfl (fun _ _ _ h => h))
                  · refine stepL_of ?_
                    rintro F a w1 jE ⟨h10, t115, h8, t113, -⟩ - K hK
                    have h10 : (F 10) = (if (p112) = true then .int .u8 s.items else undef) := h10
                    rw [h10] at t115
                    clear h10
                    have h8 : (F 8) = .bool p112 := h8
                    rw [h8] at t113
                    clear h8
                    cases p112
                    all_goals first
                      | (exact stepN ((wanted_of 8 true 113 _ rfl rfl t113).trans rfl) (hK undef _ jE rfl (fun _ _ _ h => h)))
                      | (exact stepN (wanted_undef 8 true 113 rfl rfl t113) (hK undef _ jE rfl (fun _ _ _ h => h)))
                      | (refine stepY ((wanted_of 8 true 113 _ rfl rfl t113).trans rfl) ?_
                         have e1 := unhide Hp116
                         go_simp
                         exact hK _ _ jE rfl (fun _ _ _ h => h))
                  · refine stepL_plain rfl ?_
                    rintro F a w1 jE ⟨h8, t113, h11, t116, -⟩ - K hK
                    have h8 : (F 8) = .bool p112 := h8
                    rw [h8] at t113
                    clear h8
                    have h11 : (F 11) = (if (p112) = true then .bool p116 else undef) := h11
                    rw [h11] at t116
                    clear h11
                    cases p112 <;> cases p116
                    all_goals
                      obtain rfl := unhide Hp117
                      go_simp
                      exact hK _ _ jE rfl (fun _ _ _ h => h)
                  · refine stepL_plain rfl ?_
                    rintro F a w1 jE ⟨h12, t117, -⟩ - K hK
                    have h12 : (F 12) = .bool p117 := h12
                    rw [h12] at t117
                    clear h12
                    go_simp
                    exact hK _ _ jE rfl (fun _ _ _ h => h)
                · rintro F wc jE ⟨h13, -⟩
                  have h13 : (F 13) = .bool p117 := h13
                  have hx := jE.ext (Ext.refl _) (by simp)
                  replace E3 := E3.trans hx
                  replace Bs := Bs.ext hx
                  clear jE hx
                  simp only [putL, Act.put, Nat.reduceAdd, Nat.zero_add, List.setIfInBounds_toArray, List.set_cons_succ, List.set_cons_zero]
                  rw [h13]
                  clear h13
                  go_upto_region 20 with fail
                  obtain ⟨p120, hp120⟩ : ∃ x, decide (0 ≤ s.grow) = x := ⟨_, rfl⟩
                  obtain ⟨p124, hp124⟩ : ∃ x, decide (s.grow ≤ 60) = x := ⟨_, rfl⟩
                  obtain ⟨p125, hp125⟩ : ∃ x, (p120 && p124) = x := ⟨_, rfl⟩
                  obtain ⟨p129, hp129⟩ : ∃ x, decide (0 ≤ s.shrink) = x := ⟨_, rfl⟩
                  obtain ⟨p130, hp130⟩ : ∃ x, (p125 && p129) = x := ⟨_, rfl⟩
                  obtain ⟨p134, hp134⟩ : ∃ x, decide (s.shrink ≤ 60) = x := ⟨_, rfl⟩
                  obtain ⟨p135, hp135⟩ : ∃ x, (p130 && p134) = x := ⟨_, rfl⟩
                  have HF20 : Hid (p135 = (((decide (0 ≤ s.grow) && decide (s.grow ≤ 60)) && decide (0 ≤ s.shrink)) && decide (s.shrink ≤ 60))) := hide (by rw [← hp135, ← hp134, ← hp130, ← hp129, ← hp125, ← hp124, ← hp120])
                  have Hp120 := hide hp120
                  have Hp124 := hide hp124
                  have Hp125 := hide hp125
                  have Hp129 := hide hp129
                  have Hp130 := hide hp130
                  have Hp134 := hide hp134
                  have Hp135 := hide hp135
                  clear hp120 hp124 hp125 hp129 hp130 hp134 hp135
                  refine wp_region_lin0 (fun w' => (ExtX wc w' [])) (fun ii vv ww => match ii with | 0 => vv = .pointer (some ⟨g, 38, none⟩) | 1 => vv = .int .i64 s.grow | 2 => vv = .bool p120 | 3 => vv = .bool p120 | 4 => vv = (if (p120) = true then .pointer (some ⟨g, 38, none⟩) else undef) | 5 => vv = (if (p120) = true then .int .i64 s.grow else undef) | 6 => vv = (if (p120) = true then .bool p124 else undef) | 7 => vv = .bool p125 | 8 => vv = .bool p125 | 9 => vv = (if (p125) = true then .pointer (some ⟨g, 39, none⟩) else undef) | 10 => vv = (if (p125) = true then .int .i64 s.shrink else undef) | 11 => vv = (if (p125) = true then .bool p129 else undef) | 12 => vv = .bool p130 | 13 => vv = .bool p130 | 14 => vv = (if (p130) = true then .pointer (some ⟨g, 39, none⟩) else undef) | 15 => vv = (if (p130) = true then .int .i64 s.shrink else undef) | 16 => vv = (if (p130) = true then .bool p134 else undef) | 17 => vv = .bool p135 | 18 => vv = .bool p135 | _ => True) (fun ii => match ii with | 1 => [(0, 118)] | 2 => [(1, 119)] | 3 => [(2, 120)] | 4 => [(3, 121)] | 5 => [(4, 122), (3, 121)] | 6 => [(5, 123), (3, 121)] | 7 => [(3, 121), (6, 124)] | 8 => [(7, 125)] | 9 => [(8, 126)] | 10 => [(9, 127), (8, 126)] | 11 => [(10, 128), (8, 126)] | 12 => [(8, 126), (11, 129)] | 13 => [(12, 130)] | 14 => [(13, 131)] | 15 => [(14, 132), (13, 131)] | 16 => [(15, 133), (13, 131)] | 17 => [(13, 131), (16, 134)] | 18 => [(17, 135)] | _ => []) (fun ii => match ii with | 0 => [1] | 4 => [1] | 9 => [1] | 14 => [1] | _ => []) (fun ii => match ii with | 4 => [3] | 5 => [3] | 6 => [3] | 9 => [8] | 10 => [8] | 11 => [8] | 14 => [13] | 15 => [13] | 16 => [13] | _ => []) [18] [0, 1, 3, 7, 15, 31, 63, 127, 255, 511, 1023, 2047, 4095, 8191, 16383, 32767, 65535, 131071, 262143] 169 rfl (by kernel_rfl) (ExtX.refl _ _) ?_ ?_
                  · rename_i hcont; clear hcont
                    refine ⟨?_, ?_, ?_, ?_, ?_, ?_, ?_, ?_, ?_, ?_, ?_, ?_, ?_, ?_, ?_, ?_, ?_, ?_, ?_, trivial⟩
                    · refine stepL_plain rfl ?_
                      rintro F a w1 jE - ⟨t1, -⟩ K hK
                      have t1 : a.tmps[1]? = some (.pointer (some ⟨g, 0, none⟩)) := t1
                      go_simp
                      exact hK _ _ jE rfl (fun _ _ _ h => h)
                    · refine stepL_plain rfl ?_
                      rintro F a w1 jE ⟨h0, t118, -⟩ - K hK
                      have h0 : (F 0) = .pointer (some ⟨g, 38, none⟩) := h0
                      rw [h0] at t118
                      clear h0
                      have c := (jE.blk Bs (by simp)).cell
                      go_simp
                      exact hK _ _ jE rfl (fun _ _ _ h => h)
                    · refine stepL_plain rfl ?_
                      rintro F a w1 jE ⟨h1, t119, -⟩ - K hK
                      have h1 : (F 1) = .int .i64 s.grow := h1
                      rw [h1] at t119
                      clear h1
                      have e1 := unhide Hp120
                      go_simp
                      exact hK _ _ jE rfl (fun _ _ _ h => h)
                    · refine stepL_plain rfl ?_
                      rintro F a w1 jE ⟨h2, t120, -⟩ - K hK
                      have h2 : (F 2) = .bool p120 := h2
                      rw [h2] at t120
                      clear h2
                      go_simp
                      exact hK _ _ jE rfl (fun _ _ _ h => h)
                    · refine stepL_of ?_
                      rintro F a w1 jE ⟨h3, t121, -⟩ ⟨t1, -⟩ K hK
                      have h3 : (F 3) = .bool p120 := h3
                      rw [h3] at t121
                      clear h3
                      have t1 : a.tmps[1]? = some (.pointer (some ⟨g, 0, none⟩)) := t1
                      cases p120
                      all_goals first
                        | (exact stepN ((wanted_of 3 true 121 _ rfl rfl t121).trans rfl) (hK undef _ jE rfl (fun _ _ _ h => h)))
                        | (exact stepN (wanted_undef 3 true 121 rfl rfl t121) (hK undef _ jE rfl (fun _ _ _ h => h)))
                        | (refine stepY ((wanted_of 3 true 121 _ rfl rfl t121).trans rfl) ?_
                           go_simp
                           exact hK _ _ jE rfl (fun _ _ _ h => h))
                    · refine stepL_of ?_
                      rintro F a w1 jE ⟨h4, t122, h3, t121, -⟩ - K hK
                      have h4 : (F 4) = (if (p120) = true then .pointer (some ⟨g, 38, none⟩) else undef) := h4
                      rw [h4] at t122
                      clear h4
                      have h3 : (F 3) = .bool p120 := h3
                      rw [h3] at t121
                      clear h3
                      cases p120
                      all_goals first
                        | (exact stepN ((wanted_of 3 true 121 _ rfl rfl t121).trans rfl) (hK undef _ jE rfl (fun _ _ _ h => h)))
                        | (exact stepN (wanted_undef 3 true 121 rfl rfl t121) (hK undef _ jE rfl (fun _ _ _ h => h)))
                        | (refine stepY ((wanted_of 3 true 121 _ rfl rfl t121).trans rfl) ?_
                           have c := (jE.blk Bs (by simp)).cell
                           go_simp
                           exact hK _ _ jE rfl (fun _ _ _ h => h))
                    · refine stepL_of ?_
                      rintro F a w1 jE ⟨h5, t123, h3, t121, -⟩ - K hK
                      have h5 : (F 5) = (if (p120) = true then .int .i64 s.grow else undef) := h5
                      rw [h5] at t123
                      clear h5
                      have h3 : (F 3) = .bool p120 := h3
                      rw [h3] at t121
                      clear h3
                      cases p120
                      all_goals first
                        | (exact stepN ((wanted_of 3 true 121 _ rfl rfl t121).trans rfl) (hK undef _ jE rfl (fun _ _ _ h => h)))
                        | (exact stepN (wanted_undef 3 true 121 rfl rfl t121) (hK undef _ jE rfl (fun _ _ _ h => h)))
                        | (refine stepY ((wanted_of 3 true 121 _ rfl rfl t121).trans rfl) ?_
                           have e1 := unhide Hp124
                           go_simp
                           exact hK _ _ jE rfl (fun _ _ _ h => h))
                    · refine stepL_plain rfl ?_
                      rintro F a w1 jE ⟨h3, t121, h6, t124, -⟩ - K hK
                      have h3 : (F 3) = .bool p120 := h3
                      rw [h3] at t121
                      clear h3
                      have h6 : (F 6) = (if (p120) = true then .bool p124 else undef) := h6
                      rw [h6] at t124
                      clear h6
                      cases p120 <;> cases p124
                      all_goals
                        obtain rfl := unhide Hp125
                        go_simp
                        exact hK _ _ jE rfl (fun _ _ _ h => h)
                    · refine stepL_plain rfl ?_
                      rintro F a w1 jE ⟨h7, t125, -⟩ - K hK
                      have h7 : (F 7) = .bool p125 := h7
                      rw [h7] at t125
                      clear h7
                      go_simp
                      exact hK _ _ jE rfl (fun _ _ _ h => h)
                    · refine stepL_of ?_
                      rintro F a w1 jE ⟨h8, t126, -⟩ ⟨t1, -⟩ K hK
                      have h8 : (F 8) = .bool p125 := h8
                      rw [h8] at t126
                      clear h8
                      have t1 : a.tmps[1]? = some (.pointer (some ⟨g, 0, none⟩)) := t1
                      cases p125
                      all_goals first
                        | (exact stepN ((wanted_of 8 true 126 _ rfl rfl t126).trans rfl) (hK undef _ jE rfl (fun _ _ _ h => h)))
                        | (exact stepN (wanted_undef 8 true 126 rfl rfl t126) (hK undef _ jE rfl (fun _ _ _ h => h)))
                        | (refine stepY ((wanted_of 8 true 126 _ rfl rfl t126).trans rfl) ?_
                           go_simp
                           exact hK _ _ jE rfl (fun _ _ _ h => h))
                    · refine stepL_of ?_
                      rintro F a w1 jE ⟨h9, t127, h8, t126, -⟩ - K hK
                      have h9 : (F 9) = (if (p125) = true then .pointer (some ⟨g, 39, none⟩) else undef) := h9
                      rw [h9] at t127
                      clear h9
                      have h8 : (F 8) = .bool p125 := h8
                      rw [h8] at t126
                      clear h8
                      cases p125
                      all_goals first
                        | (exact stepN ((wanted_of 8 true 126 _ rfl rfl t126).trans rfl) (hK undef _ jE rfl (fun _ _ _ h => h)))
                        | (exact stepN (wanted_undef 8 true 126 rfl rfl t126) (hK undef _ jE rfl (fun _ _ _ h => h)))
                        | (refine stepY ((wanted_of 8 true 126 _ rfl rfl t126).trans rfl) ?_
                           have c := (jE.blk Bs (by simp)).cell
                           go_simp
                           exact hK _ _ jE rfl (fun _ _ _ h => h))
                    · refine stepL_of ?_
                      rintro F a w1 jE ⟨h10, t128, h8, t126, -⟩ - K hK
                      have h10 : (F 10) = (if (p125) = true then .int .i64 s.shrink else undef) := h10
                      rw [h10] at t128
                      clear h10
                      have h8 : (F 8) = .bool p125 := h8
                      rw [h8] at t126
                      clear h8
                      cases p125
                      all_goals first
                        | (exact stepN ((wanted_of 8 true 126 _ rfl rfl t126).trans rfl) (hK undef _ jE rfl (fun _ _ _ h => h)))
                        | (exact stepN (wanted_undef 8 true 126 rfl rfl t126) (hK undef _ jE rfl (fun _ _ _ h => h)))
                        | (refine stepY ((wanted_of 8 true 126 _ rfl rfl t126).trans rfl) ?_
                           have e1 := unhide Hp129
                           go_simp
                           exact hK _ _ jE rfl (fun _ _ _ h => h))
                    · refine stepL_plain rfl ?_
                      rintro F a w1 jE ⟨h8, t126, h11, t129, -⟩ - K hK
                      have h8 : (F 8) = .bool p125 := h8
                      rw [h8] at t126
                      clear h8
                      have h11 : (F 11) = (if (p125) = true then .bool p129 else undef) := h11
                      rw [h11] at t129
                      clear h11
                      cases p125 <;> cases p129
                      all_goals
                        obtain rfl := unhide Hp130
                        go_simp
                        exact hK _ _ jE rfl (fun _ _ _ h => h)
                    · refine stepL_plain rfl ?_
                      rintro F a w1 jE ⟨h12, t130, -⟩ - K hK
                      have h12 : (F 12) = .bool p130 := h12
                      rw [h12] at t130
                      clear h12
                      go_simp
                      exact hK _ _ jE rfl (fun _ _ _ h => h)
                    · refine stepL_of ?_
                      rintro F a w1 jE ⟨h13, t131, -⟩ ⟨t1, -⟩ K hK
                      have h13 : (F 13) = .bool p130 := h13
                      rw [h13] at t131
                      clear h13
                      have t1 : a.tmps[1]? = some (.pointer (some ⟨g, 0, none⟩)) := t1
                      cases p130
                      all_goals first
                        | (exact stepN ((wanted_of 13 true 131 _ rfl rfl t131).trans rfl) (hK undef _ jE rfl (fun _ _ _ h => h)))
                        | (exact stepN (wanted_undef 13 true 131 rfl rfl t131) (hK undef _ jE rfl (fun _ _ _ h => h)))
                        | (refine stepY ((wanted_of 13 true 131 _ rfl rfl t131).trans rfl) ?_
                           go_simp
                           exact hK _ _ jE rfl (fun _ _ _ h => h))
                    · refine stepL_of ?_
                      rintro F a w1 jE ⟨h14, t132, h13, t131, -⟩ - K hK
                      have h14 : (F 14) = (if (p130) = true then .pointer (some ⟨g, 39, none⟩) else undef) := h14
                      rw [h14] at t132
                      clear h14
                      have h13 : (F 13) = .bool p130 := h13
                      rw [h13] at t131
                      clear h13
                      cases p130
                      all_goals first
                        | (exact stepN ((wanted_of 13 true 131 _ rfl rfl t131).trans rfl) (hK undef _ jE rfl (fun _ _ _ h => h)))
                        | (exact stepN (wanted_undef 13 true 131 rfl rfl t131) (hK undef _ jE rfl (fun _ _ _ h => h)))
                        | (refine stepY ((wanted_of 13 true 131 _ rfl rfl t131).trans rfl) ?_
                           have c := (jE.blk Bs (by simp)).cell
                           go_simp
                           exact hK _ _ jE rfl (fun _ _ _ h => h))
                    · refine stepL_of ?_
                      rintro F a w1 jE ⟨h15, t133, h13, t131, -⟩ - K hK
                      have h15 : (F 15) = (if (p130) = true then .int .i64 s.shrink else undef) := h15
                      rw [h15] at t133
                      clear h15
                      have h13 : (F 13) = .bool p130 := h13
                      rw [h13] at t131
                      clear h13
                      cases p130
                      all_goals first
                        | (exact stepN ((wanted_of 13 true 131 _ rfl rfl t131).trans rfl) (hK undef _ jE rfl (fun _ _ _ h => h)))
                        | (exact stepN (wanted_undef 13 true 131 rfl rfl t131) (hK undef _ jE rfl (fun _ _ _ h => h)))
                        | (refine stepY ((wanted_of 13 true 131 _ rfl rfl t131).trans rfl) ?_
                           have e1 := unhide Hp134
                           go_simp
                           exact hK _ _ jE rfl (fun _ _ _ h => h))
                    · refine stepL_plain rfl ?_
                      rintro F a w1 jE ⟨h13, t131, h16, t134, -⟩ - K hK
                      have h13 : (F 13) = .bool p130 := h13
                      rw [h13] at t131
                      clear h13
                      have h16 : (F 16) = (if (p130) = true then .bool p134 else undef) := h16
                      rw [h16] at t134
                      clear h16
                      cases p130 <;> cases p134
                      all_goals
                        obtain rfl := unhide Hp135
                        go_simp
                        exact hK _ _ jE rfl (fun _ _ _ h => h)
                    · refine stepL_plain rfl ?_
                      rintro F a w1 jE ⟨h17, t135, -⟩ - K hK
                      have h17 : (F 17) = .bool p135 := h17
                      rw [h17] at t135
                      clear h17
                      go_simp
                      exact hK _ _ jE rfl (fun _ _ _ h => h)
                  · rintro F wd jE ⟨h18, -⟩
                    have h18 : (F 18) = .bool p135 := h18
                    have hx := jE.ext (Ext.refl _) (by simp)
                    replace E3 := E3.trans hx
                    replace Bs := Bs.ext hx
                    clear jE hx
                    simp only [putL, Act.put, Nat.reduceAdd, Nat.zero_add, List.setIfInBounds_toArray, List.set_cons_succ, List.set_cons_zero]
                    rw [h18]
                    clear h18
                    go_upto_region 21 with fail
                    obtain ⟨p139, hp139⟩ : ∃ x, (p104 && p117) = x := ⟨_, rfl⟩
                    obtain ⟨p142, hp142⟩ : ∃ x, (p139 && p135) = x := ⟨_, rfl⟩
                    obtain ⟨p146, hp146⟩ : ∃ x, decide (0 ≤ s.line) = x := ⟨_, rfl⟩
                    obtain ⟨p147, hp147⟩ : ∃ x, (p142 && p146) = x := ⟨_, rfl⟩
                    obtain ⟨p151, hp151⟩ : ∃ x, decide (s.line ≤ 1099511627776) = x := ⟨_, rfl⟩
                    obtain ⟨p152, hp152⟩ : ∃ x, (p147 && p151) = x := ⟨_, rfl⟩
                    obtain ⟨p156, hp156⟩ : ∃ x, decide ((-1048576) ≤ s.order) = x := ⟨_, rfl⟩
                    obtain ⟨p157, hp157⟩ : ∃ x, (p152 && p156) = x := ⟨_, rfl⟩
                    obtain ⟨p161, hp161⟩ : ∃ x, decide (s.order ≤ 1048576) = x := ⟨_, rfl⟩
                    obtain ⟨p162, hp162⟩ : ∃ x, (p157 && p161) = x := ⟨_, rfl⟩
                    obtain ⟨p167, hp167⟩ : ∃ x, (((s.ul : Nat) : Int) == 0) = x := ⟨_, rfl⟩
                    obtain ⟨p168, hp168⟩ : ∃ x, (p162 && p167) = x := ⟨_, rfl⟩
                    have HF21 : Hid (p168 = (((((((p104 && p117) && p135) && decide (0 ≤ s.line)) && decide (s.line ≤ 1099511627776)) && decide ((-1048576) ≤ s.order)) && decide (s.order ≤ 1048576)) && (((s.ul : Nat) : Int) == 0))) := hide (by rw [← hp168, ← hp167, ← hp162, ← hp161, ← hp157, ← hp156, ← hp152, ← hp151, ← hp147, ← hp146, ← hp142, ← hp139])
                    have Hp139 := hide hp139
                    have Hp142 := hide hp142
                    have Hp146 := hide hp146
                    have Hp147 := hide hp147
                    have Hp151 := hide hp151
                    have Hp152 := hide hp152
                    have Hp156 := hide hp156
                    have Hp157 := hide hp157
                    have Hp161 := hide hp161
                    have Hp162 := hide hp162
                    have Hp167 := hide hp167
                    have Hp168 := hide hp168
                    clear hp139 hp142 hp146 hp147 hp151 hp152 hp156 hp157 hp161 hp162 hp167 hp168
                    refine wp_region_lin0 (fun w' => (ExtX wd w' [])) (fun ii vv ww => match ii with | 0 => vv = .bool p104 | 1 => vv = .bool p104 | 2 => vv = (if (p104) = true then .bool p117 else undef) | 3 => vv = .bool p139 | 4 => vv = .bool p139 | 5 => vv = (if (p139) = true then .bool p135 else undef) | 6 => vv = .bool p142 | 7 => vv = .bool p142 | 8 => vv = (if (p142) = true then .pointer (some ⟨g, 33, none⟩) else undef) | 9 => vv = (if (p142) = true then .int .i64 s.line else undef) | 10 => vv = (if (p142) = true then .bool p146 else undef) | 11 => vv = .bool p147 | 12 => vv = .bool p147 | 13 => vv = (if (p147) = true then .pointer (some ⟨g, 33, none⟩) else undef) | 14 => vv = (if (p147) = true then .int .i64 s.line else undef) | 15 => vv = (if (p147) = true then .bool p151 else undef) | 16 => vv = .bool p152 | 17 => vv = .bool p152 | 18 => vv = (if (p152) = true then .pointer (some ⟨g, 37, none⟩) else undef) | 19 => vv = (if (p152) = true then .int .i64 s.order else undef) | 20 => vv = (if (p152) = true then .bool p156 else undef) | 21 => vv = .bool p157 | 22 => vv = .bool p157 | 23 => vv = (if (p157) = true then .pointer (some ⟨g, 37, none⟩) else undef) | 24 => vv = (if (p157) = true then .int .i64 s.order else undef) | 25 => vv = (if (p157) = true then .bool p161 else undef) | 26 => vv = .bool p162 | 27 => vv = .bool p162 | 28 => vv = (if (p162) = true then .pointer (some ⟨g, 42, none⟩) else undef) | 29 => vv = (if (p162) = true then .slice s.ua s.ul s.uc else undef) | 30 => vv = (if (p162) = true then .int .i64 ((s.ul : Nat) : Int) else undef) | 31 => vv = (if (p162) = true then .bool p167 else undef) | 32 => vv = .bool p168 | 33 => vv = .bool p168 | _ => True) (fun ii => match ii with | 1 => [(0, 136)] | 2 => [(1, 137)] | 3 => [(1, 137), (2, 138)] | 4 => [(3, 139)] | 5 => [(4, 140)] | 6 => [(4, 140), (5, 141)] | 7 => [(6, 142)] | 8 => [(7, 143)] | 9 => [(8, 144), (7, 143)] | 10 => [(9, 145), (7, 143)] | 11 => [(7, 143), (10, 146)] | 12 => [(11, 147)] | 13 => [(12, 148)] | 14 => [(13, 149), (12, 148)] | 15 => [(14, 150), (12, 148)] | 16 => [(12, 148), (15, 151)] | 17 => [(16, 152)] | 18 => [(17, 153)] | 19 => [(18, 154), (17, 153)] | 20 => [(19, 155), (17, 153)] | 21 => [(17, 153), (20, 156)] | 22 => [(21, 157)] | 23 => [(22, 158)] | 24 => [(23, 159), (22, 158)] | 25 => [(24, 160), (22, 158)] | 26 => [(22, 158), (25, 161)] | 27 => [(26, 162)] | 28 => [(27, 163)] | 29 => [(28, 164), (27, 163)] | 30 => [(29, 165), (27, 163)] | 31 => [(30, 166), (27, 163)] | 32 => [(27, 163), (31, 167)] | 33 => [(32, 168)] | _ => []) (fun ii => match ii with | 0 => [8] | 2 => [9] | 5 => [10] | 8 => [1] | 13 => [1] | 18 => [1] | 23 => [1] | 28 => [1] | _ => []) (fun ii => match ii with | 2 => [1] | 5 => [4] | 8 => [7] | 9 => [7] | 10 => [7] | 13 => [12] | 14 => [12] | 15 => [12] | 18 => [17] | 19 => [17] | 20 => [17] | 23 => [22] | 24 => [22] | 25 => [22] | 28 => [27] | 29 => [27] | 30 => [27] | 31 => [27] | _ => []) [33] [0, 1, 3, 7, 15, 31, 63, 127, 255, 511, 1023, 2047, 4095, 8191, 16383, 32767, 65535, 131071, 262143, 524287, 1048575, 2097151, 4194303, 8388607, 16777215, 33554431, 67108863, 134217727, 268435455, 536870911, 1073741823, 2147483647, 4294967295, 8589934591] 169 rfl (by kernel_rfl) (ExtX.refl _ _) ?_ ?_
                    · rename_i hcont; clear hcont
                      refine ⟨?_, ?_, ?_, ?_, ?_, ?_, ?_, ?_, ?_, ?_, ?_, ?_, ?_, ?_, ?_, ?_, ?_, ?_, ?_, ?_, ?_, ?_, ?_, ?_, ?_, ?_, ?_, ?_, ?_, ?_, ?_, ?_, ?_, ?_, trivial⟩
                      · refine stepL_plain rfl ?_
                        rintro F a w1 jE - ⟨t8, -⟩ K hK
                        have t8 : a.tmps[8]? = some (.bool p104) := t8
                        go_simp
                        exact hK _ _ jE rfl (fun _ _ _ h => h)
                      · refine stepL_plain rfl ?_
                        rintro F a w1 jE ⟨h0, t136, -⟩ - K hK
                        have h0 : (F 0) = .bool p104 := h0
                        rw [h0] at t136
                        clear h0
                        go_simp
                        exact hK _ _ jE rfl (fun _ _ _ h => h)
                      · refine stepL_of ?_
                        rintro F a w1 jE ⟨h1, t137, -⟩ ⟨t9, -⟩ K hK
                        have h1 : (F 1) = .bool p104 := h1
                        rw [h1] at t137
                        clear h1
                        have t9 : a.tmps[9]? = some (.bool p117) := t9
                        cases p104
                        all_goals first
                          | (exact stepN ((wanted_of 1 true 137 _ rfl rfl t137).trans rfl) (hK undef _ jE rfl (fun _ _ _ h => h)))
                          | (exact stepN (wanted_undef 1 true 137 rfl rfl t137) (hK undef _ jE rfl (fun _ _ _ h => h)))
                          | (refine stepY ((wanted_of 1 true 137 _ rfl rfl t137).trans rfl) ?_
                             go_simp
                             exact hK _ _ jE rfl (fun _ _ _ h => h))
                      · refine stepL_plain rfl ?_
                        rintro F a w1 jE ⟨h1, t137, h2, t138, -⟩ - K hK
                        have h1 : (F 1) = .bool p104 := h1
                        rw [h1] at t137
                        clear h1
                        have h2 : (F 2) = (if (p104) = true then .bool p117 else undef) := h2
                        rw [h2] at t138
                        clear h2
                        cases p104 <;> cases p117
                        all_goals
                          obtain rfl := unhide Hp139
                          go_simp
                          exact hK _ _ jE rfl (fun _ _ _ h => h)
                      · refine stepL_plain rfl ?_
                        rintro F a w1 jE ⟨h3, t139, -⟩ - K hK
                        have h3 : (F 3) = .bool p139 := h3
                        rw [h3] at t139
                        clear h3
                        go_simp
                        exact hK _ _ jE rfl (fun _ _ _ h => h)
                      · refine stepL_of ?_
                        rintro F a w1 jE ⟨h4, t140, -⟩ ⟨t10, -⟩ K hK
                        have h4 : (F 4) = .bool p139 := h4
                        rw [h4] at t140
                        clear h4
                        have t10 : a.tmps[10]? = some (.bool p135) := t10
                        cases p139
                        all_goals first
                          | (exact stepN ((wanted_of 4 true 140 _ rfl rfl t140).trans rfl) (hK undef _ jE rfl (fun _ _ _ h => h)))
                          | (exact stepN (wanted_undef 4 true 140 rfl rfl t140) (hK undef _ jE rfl (fun _ _ _ h => h)))
                          | (refine stepY ((wanted_of 4 true 140 _ rfl rfl t140).trans rfl) ?_
                             go_simp
                             exact hK _ _ jE rfl (fun _ _ _ h => h))
                      · refine stepL_plain rfl ?_
                        rintro F a w1 jE ⟨h4, t140, h5, t141, -⟩ - K hK
                        have h4 : (F 4) = .bool p139 := h4
                        rw [h4] at t140
                        clear h4
                        have h5 : (F 5) = (if (p139) = true then .bool p135 else undef) := h5
                        rw [h5] at t141
                        clear h5
                        cases p135 <;> cases p139
                        all_goals
                          obtain rfl := unhide Hp142
                          go_simp
                          exact hK _ _ jE rfl (fun _ _ _ h => h)
                      · refine stepL_plain rfl ?_
                        rintro F a w1 jE ⟨h6, t142, -⟩ - K hK
                        have h6 : (F 6) = .bool p142 := h6
                        rw [h6] at t142
                        clear h6
                        go_simp
                        exact hK _ _ jE rfl (fun _ _ _ h => h)
                      · refine stepL_of ?_
                        rintro F a w1 jE ⟨h7, t143, -⟩ ⟨t1, -⟩ K hK
                        have h7 : (F 7) = .bool p142 := h7
                        rw [h7] at t143
                        clear h7
                        have t1 : a.tmps[1]? = some (.pointer (some ⟨g, 0, none⟩)) := t1
                        cases p142
                        all_goals first
                          | (exact stepN ((wanted_of 7 true 143 _ rfl rfl t143).trans rfl) (hK undef _ jE rfl (fun _ _ _ h => h)))
                          | (exact stepN (wanted_undef 7 true 143 rfl rfl t143) (hK undef _ jE rfl (fun _ _ _ h => h)))
                          | (refine stepY ((wanted_of 7 true 143 _ rfl rfl t143).trans rfl) ?_
                             go_simp
                             exact hK _ _ jE rfl (fun _ _ _ h => h))
                      · refine stepL_of ?_
                        rintro F a w1 jE ⟨h8, t144, h7, t143, -⟩ - K hK
                        have h8 : (F 8) = (if (p142) = true then .pointer (some ⟨g, 33, none⟩) else undef) := h8
                        rw [h8] at t144
                        clear h8
                        have h7 : (F 7) = .bool p142 := h7
                        rw [h7] at t143
                        clear h7
                        cases p142
                        all_goals first
                          | (exact stepN ((wanted_of 7 true 143 _ rfl rfl t143).trans rfl) (hK undef _ jE rfl (fun _ _ _ h => h)))
                          | (exact stepN (wanted_undef 7 true 143 rfl rfl t143) (hK undef _ jE rfl (fun _ _ _ h => h)))
                          | (refine stepY ((wanted_of 7 true 143 _ rfl rfl t143).trans rfl) ?_
                             have c := (jE.blk Bs (by simp)).cell
                             go_simp
                             exact hK _ _ jE rfl (fun _ _ _ h => h))
                      · refine stepL_of ?_
                        rintro F a w1 jE ⟨h9, t145, h7, t143, -⟩ - K hK
                        have h9 : (F 9) = (if (p142) = true then .int .i64 s.line else undef) := h9
                        rw [h9] at t145
                        clear h9
                        have h7 : (F 7) = .bool p142 := h7
                        rw [h7] at t143
                        clear h7
                        cases p142
                        all_goals first
                          | (exact stepN ((wanted_of 7 true 143 _ rfl rfl t143).trans rfl) (hK undef _ jE rfl (fun _ _ _ h => h)))
                          | (exact stepN (wanted_undef 7 true 143 rfl rfl t143) (hK undef _ jE rfl (fun _ _ _ h => h)))
                          | (refine stepY ((wanted_of 7 true 143 _ rfl rfl t143).trans rfl) ?_
                             have e1 := unhide Hp146
                             go_simp
                             exact hK _ _ jE rfl (fun _ _ _ h => h))
                      · refine stepL_plain rfl ?_
                        rintro F a w1 jE ⟨h7, t143, h10, t146, -⟩ - K hK
                        have h7 : (F 7) = .bool p142 := h7
                        rw [h7] at t143
                        clear h7
                        have h10 : (F 10) = (if (p142) = true then .bool p146 else undef) := h10
                        rw [h10] at t146
                        clear h10
                        cases p142 <;> cases p146
                        all_goals
                          obtain rfl := unhide Hp147
                          go_simp
                          exact hK _ _ jE rfl (fun _ _ _ h => h)
                      · refine stepL_plain rfl ?_
                        rintro F a w1 jE ⟨h11, t147, -⟩ - K hK
                        have h11 : (F 11) = .bool p147 := h11
                        rw [h11] at t147
                        clear h11
                        go_simp
                        exact hK _ _ jE rfl (fun _ _ _ h => h)
                      · refine stepL_of ?_
                        rintro F a w1 jE ⟨h12, t148, -⟩ ⟨t1, -⟩ K hK
                        have h12 : (F 12) = .bool p147 := h12
                        rw [h12] at t148
                        clear h12
                        have t1 : a.tmps[1]? = some (.pointer (some ⟨g, 0, none⟩)) := t1
                        cases p147
                        all_goals first
                          | (exact stepN ((wanted_of 12 true 148 _ rfl rfl t148).trans rfl) (hK undef _ jE rfl (fun _ _ _ h => h)))
                          | (exact stepN (wanted_undef 12 true 148 rfl rfl t148) (hK undef _ jE rfl (fun _ _ _ h => h)))
                          | (refine stepY ((wanted_of 12 true 148 _ rfl rfl t148).trans rfl) ?_
                             go_simp
                             exact hK _ _ jE rfl (fun _ _ _ h => h))
                      · refine stepL_of ?_
                        rintro F a w1 jE ⟨h13, t149, h12, t148, -⟩ - K hK
                        have h13 : (F 13) = (if (p147) = true then .pointer (some ⟨g, 33, none⟩) else undef) := h13
                        rw [h13] at t149
                        clear h13
                        have h12 : (F 12) = .bool p147 := h12
                        rw [h12] at t148
                        clear h12
                        cases p147
                        all_goals first
                          | (exact stepN ((wanted_of 12 true 148 _ rfl rfl t148).trans rfl) (hK undef _ jE rfl (fun _ _ _ h => h)))
                          | (exact stepN (wanted_undef 12 true 148 rfl rfl t148) (hK undef _ jE rfl (fun _ _ _ h => h)))
                          | (refine stepY ((wanted_of 12 true 148 _ rfl rfl t148).trans rfl) ?_
                             have c := (jE.blk Bs (by simp)).cell
                             go_simp
                             exact hK _ _ jE rfl (fun _ _ _ h => h))
                      · refine stepL_of ?_
                        rintro F a w1 jE ⟨h14, t150, h12, t148, -⟩ - K hK
                        have h14 : (F 14) = (if (p147) = true then .int .i64 s.line else undef) := h14
                        rw [h14] at t150
                        clear h14
                        have h12 : (F 12) = .bool p147 := h12
                        rw [h12] at t148
                        clear h12
                        cases p147
                        all_goals first
                          | (exact stepN ((wanted_of 12 true 148 _ rfl rfl t148).trans rfl) (hK undef _ jE rfl (fun _ _ _ h => h)))
                          | (exact stepN (wanted_undef 12 true 148 rfl rfl t148) (hK undef _ jE rfl (fun _ _ _ h => h)))
                          | (refine stepY ((wanted_of 12 true 148 _ rfl rfl t148).trans rfl) ?_
                             have e1 := unhide Hp151
                             go_simp
                             exact hK _ _ jE rfl (fun _ _ _ h => h))
                      · refine stepL_plain rfl ?_
                        rintro F a w1 jE ⟨h12, t148, h15, t151, -⟩ - K hK
                        have h12 : (F 12) = .bool p147 := h12
                        rw [h12] at t148
                        clear h12
                        have h15 : (F 15) = (if (p147) = true then .bool p151 else undef) := h15
                        rw [h15] at t151
                        clear h15
                        cases p147 <;> cases p151
                        all_goals
                          obtain rfl := unhide Hp152
                          go_simp
                          exact hK _ _ jE rfl (fun _ _ _ h => h)
                      · refine stepL_plain rfl ?_
                        rintro F a w1 jE ⟨h16, t152, -⟩ - K hK
                        have h16 : (F 16) = .bool p152 := h16
                        rw [h16] at t152
                        clear h16
                        go_simp
                        exact hK _ _ jE rfl (fun _ _ _ h => h)
                      · refine stepL_of ?_
                        rintro F a w1 jE ⟨h17, t153, -⟩ ⟨t1, -⟩ K hK
                        have h17 : (F 17) = .bool p152 := h17
                        rw [h17] at t153
                        clear h17
                        have t1 : a.tmps[1]? = some (.pointer (some ⟨g, 0, none⟩)) := t1
                        cases p152
                        all_goals first
                          | (exact stepN ((wanted_of 17 true 153 _ rfl rfl t153).trans rfl) (hK undef _ jE rfl (fun _ _ _ h => h)))
                          | (exact stepN (wanted_undef 17 true 153 rfl rfl t153) (hK undef _ jE rfl (fun _ _ _ h => h)))
                          | (refine stepY ((wanted_of 17 true 153 _ rfl rfl t153).trans rfl) ?_
                             go_simp
                             exact hK _ _ jE rfl (fun _ _ _ h => h))
                      · refine stepL_of ?_
                        rintro F a w1 jE ⟨h18, t154, h17, t153, -⟩ - K hK
                        have h18 : (F 18) = (if (p152) = true then .pointer (some ⟨g, 37, none⟩) else undef) := h18
                        rw [h18] at t154
                        clear h18
                        have h17 : (F 17) = .bool p152 := h17
                        rw [h17] at t153
                        clear h17
                        cases p152
                        all_goals first
                          | (exact stepN ((wanted_of 17 true 153 _ rfl rfl t153).trans rfl) (hK undef _ jE rfl (fun _ _ _ h => h)))
                          | (exact stepN (wanted_undef 17 true 153 rfl rfl t153) (hK undef _ jE rfl (fun _ _ _ h => h)))
                          | (refine stepY ((wanted_of 17 true 153 _ rfl rfl t153).trans rfl) ?_
                             have c := (jE.blk Bs (by simp)).cell
                             go_simp
                             exact hK _ _ jE rfl (fun _ _ _ h => h))
                      · refine stepL_of ?_
                        rintro F a w1 jE ⟨h19, t155, h17, t153, -⟩ - K hK
                        have h19 : (F 19) = (if (p152) = true then .int .i64 s.order else undef) := h19
                        rw [h19] at t155
                        clear h19
                        have h17 : (F 17) = .bool p152 := h17
                        rw [h17] at t153
                        clear h17
                        cases p152
                        all_goals first
                          | (exact stepN ((wanted_of 17 true 153 _ rfl rfl t153).trans rfl) (hK undef _ jE rfl (fun _ _ _ h => h)))
                          | (exact stepN (wanted_undef 17 true 153 rfl rfl t153) (hK undef _ jE rfl (fun _ _ _ h => h)))
                          | (refine stepY ((wanted_of 17 true 153 _ rfl rfl t153).trans rfl) ?_
                             have e1 := unhide Hp156
                             go_simp
                             exact hK _ _ jE rfl (fun _ _ _ h => h))
                      · refine stepL_plain rfl ?_
                        rintro F a w1 jE ⟨h17, t153, h20, t156, -⟩ - K hK
                        have h17 : (F 17) = .bool p152 := h17
                        rw [h17] at t153
                        clear h17
                        have h20 : (F 20) = (if (p152) = true then .bool p156 else undef) := h20
                        rw [h20] at t156
                        clear h20
                        cases p152 <;> cases p156
                        all_goals
                          obtain rfl := unhide Hp157
                          go_simp
                          exact hK _ _ jE rfl (fun _ _ _ h => h)
                      · refine stepL_plain rfl ?_
                        rintro F a w1 jE ⟨h21, t157, -⟩ - K hK
                        have h21 : (F 21) = .bool p157 := h21
                        rw [h21] at t157
                        clear h21
                        go_simp
                        exact hK _ _ jE rfl (fun _ _ _ h => h)
                      · refine stepL_of ?_
                        rintro F a w1 jE ⟨h22, t158, -⟩ ⟨t1, -⟩ K hK
                        have h22 : (F 22) = .bool p157 := h22
                        rw [h22] at t158
                        clear h22
                        have t1 : a.tmps[1]? = some (.pointer (some ⟨g, 0, none⟩)) := t1
                        cases p157
                        all_goals first
                          | (exact stepN ((wanted_of 22 true 158 _ rfl rfl t158).trans rfl) (hK undef _ jE rfl (fun _ _ _ h => h)))
                          | (exact stepN (wanted_undef 22 true 158 rfl rfl t158) (hK undef _ jE rfl (fun _ _ _ h => h)))
                          | (refine stepY ((wanted_of 22 true 158 _ rfl rfl t158).trans rfl) ?_
                             go_simp
                             exact hK _ _ jE rfl (fun _ _ _ h => h))
                      · refine stepL_of ?_
                        rintro F a w1 jE ⟨h23, t159, h22, t158, -⟩ - K hK
                        have h23 : (F 23) = (if (p157) = true then .pointer (some ⟨g, 37, none⟩) else undef) := h23
                        rw [h23] at t159
                        clear h23
                        have h22 : (F 22) = .bool p157 := h22
                        rw [h22] at t158
                        clear h22
                        cases p157
                        all_goals first
                          | (exact stepN ((wanted_of 22 true 158 _ rfl rfl t158).trans rfl) (hK undef _ jE rfl (fun _ _ _ h => h)))
                          | (exact stepN (wanted_undef 22 true 158 rfl rfl t158) (hK undef _ jE rfl (fun _ _ _ h => h)))
                          | (refine stepY ((wanted_of 22 true 158 _ rfl rfl t158).trans rfl) ?_
                             have c := (jE.blk Bs (by simp)).cell
                             go_simp
                             exact hK _ _ jE rfl (fun _ _ _ h => h))
                      · refine stepL_of ?_
                        rintro F a w1 jE ⟨h24, t160, h22, t158, -⟩ - K hK
                        have h24 : (F 24) = (if (p157) = true then .int .i64 s.order else undef) := h24
                        rw [h24] at t160
                        clear h24
                        have h22 : (F 22) = .bool p157 := h22
                        rw [h22] at t158
                        clear h22
                        cases p157
                        all_goals first
                          | (exact stepN ((wanted_of 22 true 158 _ rfl rfl t158).trans rfl) (hK undef _ jE rfl (fun _ _ _ h => h)))
                          | (exact stepN (wanted_undef 22 true 158 rfl rfl t158) (hK undef _ jE rfl (fun _ _ _ h => h)))
                          | (refine stepY ((wanted_of 22 true 158 _ rfl rfl t158).trans rfl) ?_
                             have e1 := unhide Hp161
                             go_simp
                             exact hK _ _ jE rfl (fun _ _ _ h => h))
                      · refine stepL_plain rfl ?_
                        rintro F a w1 jE ⟨h22, t158, h25, t161, -⟩ - K hK
                        have h22 : (F 22) = .bool p157 := h22
                        rw [h22] at t158
                        clear h22
                        have h25 : (F 25) = (if (p157) = true then .bool p161 else undef) := h25
                        rw [h25] at t161
                        clear h25
                        cases p157 <;> cases p161
                        all_goals
                          obtain rfl := unhide Hp162
                          go_simp
                          exact hK _ _ jE rfl (fun _ _ _ h => h)
                      · refine stepL_plain rfl ?_
                        rintro F a w1 jE ⟨h26, t162, -⟩ - K hK
                        have h26 : (F 26) = .bool p162 := h26
                        rw [h26] at t162
                        clear h26
                        go_simp
                        exact hK _ _ jE rfl (fun _ _ _ h => h)
                      · refine stepL_of ?_
                        rintro F a w1 jE ⟨h27, t163, -⟩ ⟨t1, -⟩ K hK
                        have h27 : (F 27) = .bool p162 := h27
                        rw [h27] at t163
                        clear h27
                        have t1 : a.tmps[1]? = some (.pointer (some ⟨g, 0, none⟩)) := t1
                        cases p162
                        all_goals first
                          | (exact stepN ((wanted_of 27 true 163 _ rfl rfl t163).trans rfl) (hK undef _ jE rfl (fun _ _ _ h => h)))
                          | (exact stepN (wanted_undef 27 true 163 rfl rfl t163) (hK undef _ jE rfl (fun _ _ _ h => h)))
                          | (refine stepY ((wanted_of 27 true 163 _ rfl rfl t163).trans rfl) ?_
                             go_simp
                             exact hK _ _ jE rfl (fun _ _ _ h => h))
                      · refine stepL_of ?_
                        rintro F a w1 jE ⟨h28, t164, h27, t163, -⟩ - K hK
                        have h28 : (F 28) = (if (p162) = true then .pointer (some ⟨g, 42, none⟩) else undef) := h28
                        rw [h28] at t164
                        clear h28
                        have h27 : (F 27) = .bool p162 := h27
                        rw [h27] at t163
                        clear h27
                        cases p162
                        all_goals first
                          | (exact stepN ((wanted_of 27 true 163 _ rfl rfl t163).trans rfl) (hK undef _ jE rfl (fun _ _ _ h => h)))
                          | (exact stepN (wanted_undef 27 true 163 rfl rfl t163) (hK undef _ jE rfl (fun _ _ _ h => h)))
                          | (refine stepY ((wanted_of 27 true 163 _ rfl rfl t163).trans rfl) ?_
                             have c := (jE.blk Bs (by simp)).cell
                             go_simp
                             exact hK _ _ jE rfl (fun _ _ _ h => h))
                      · refine stepL_of ?_
                        rintro F a w1 jE ⟨h29, t165, h27, t163, -⟩ - K hK
                        have h29 : (F 29) = (if (p162) = true then .slice s.ua s.ul s.uc else undef) := h29
                        rw [h29] at t165
                        clear h29
                        have h27 : (F 27) = .bool p162 := h27
                        rw [h27] at t163
                        clear h27
                        cases p162
                        all_goals first
                          | (exact stepN ((wanted_of 27 true 163 _ rfl rfl t163).trans rfl) (hK undef _ jE rfl (fun _ _ _ h => h)))
                          | (exact stepN (wanted_undef 27 true 163 rfl rfl t163) (hK undef _ jE rfl (fun _ _ _ h => h)))
                          | (refine stepY ((wanted_of 27 true 163 _ rfl rfl t163).trans rfl) ?_
                             go_simp
                             exact hK _ _ jE rfl (fun _ _ _ h => h))
                      · refine stepL_of ?_
                        rintro F a w1 jE ⟨h30, t166, h27, t163, -⟩ - K hK
                        have h30 : (F 30) = (if (p162) = true then .int .i64 ((s.ul : Nat) : Int) else undef) := h30
                        rw [h30] at t166
                        clear h30
                        have h27 : (F 27) = .bool p162 := h27
                        rw [h27] at t163
                        clear h27
                        cases p162
                        all_goals first
                          | (exact stepN ((wanted_of 27 true 163 _ rfl rfl t163).trans rfl) (hK undef _ jE rfl (fun _ _ _ h => h)))
                          | (exact stepN (wanted_undef 27 true 163 rfl rfl t163) (hK undef _ jE rfl (fun _ _ _ h => h)))
                          | (refine stepY ((wanted_of 27 true 163 _ rfl rfl t163).trans rfl) ?_
                             have e1 := unhide Hp167
                             go_simp
                             exact hK _ _ jE rfl (fun _ _ _ h => h))
                      · refine stepL_plain rfl ?_
                        rintro F a w1 jE ⟨h27, t163, h31, t167, -⟩ - K hK
                        have h27 : (F 27) = .bool p162 := h27
                        rw [h27] at t163
                        clear h27
                        have h31 : (F 31) = (if (p162) = true then .bool p167 else undef) := h31
                        rw [h31] at t167
                        clear h31
                        cases p162 <;> cases p167
                        all_goals
                          obtain rfl := unhide Hp168
                          go_simp
                          exact hK _ _ jE rfl (fun _ _ _ h => h)
                      · refine stepL_plain rfl ?_
                        rintro F a w1 jE ⟨h32, t168, -⟩ - K hK
                        have h32 : (F 32) = .bool p168 := h32
                        rw [h32] at t168
                        clear h32
                        go_simp
                        exact hK _ _ jE rfl (fun _ _ _ h => h)
                    · rintro F we jE ⟨h33, -⟩
                      have h33 : (F 33) = .bool p168 := h33
                      have hx := jE.ext (Ext.refl _) (by simp)
                      replace E3 := E3.trans hx
                      replace Bs := Bs.ext hx
                      clear jE hx
                      simp only [putL, Act.put, Nat.reduceAdd, Nat.zero_add, List.setIfInBounds_toArray, List.set_cons_succ, List.set_cons_zero]
                      rw [h33]
                      clear h33
                      go_wp2_with fail
                      go_ret
                      exact ⟨ret1b (by rw [boxV, unhide HM, unhide HW, unhide HH, flagsV, unhide HF21, unhide HF18, unhide HF19, unhide HF20]; rfl), E3⟩
end Go.Proofs.Ytnolbmfjgfojhaa
