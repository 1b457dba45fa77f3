/- Styles, the document's: of texts, and of all (walks). -/
import Derived.Test.YtnolbmfjgfojhaaSt2
namespace Go.Proofs.Ytnolbmfjgfojhaa
open Go.RowKit
theorem ln_info : (Try.prog.info? 40).map (fun i => (i.zero, i.size, i.bytes)) = some (some (.agg #[.int .u8 0, .int .i64 0]), 2, 16) := by kernel_rfl
@[reducible] def lnC (l : Ln) : List Value := [.int .u8 l.k, .int .i64 l.n]
def lnsC (l : List Ln) : List Value := (l.map lnC).flatten
theorem lnsC_len (l : List Ln) : (lnsC l).length = l.length * 2 := by
  unfold lnsC
  induction l with
  | nil => rfl
  | cons a r ih => simp only [List.map_cons, List.flatten_cons, List.length_append, ih, List.length_cons, lnC, List.length_nil]; omega
theorem lnsC_get : ∀ (l : List Ln) (i : Nat) (x : Ln), l[i]? = some x → (lnsC l)[i * 2]? = some (.int .u8 x.k) ∧ (lnsC l)[i * 2 + 1]? = some (.int .i64 x.n)
  | [], i, x, h => by simp at h
  | a :: r, 0, x, h => by simp at h; subst h; exact ⟨rfl, rfl⟩
  | a :: r, i + 1, x, h => by
    have ih := lnsC_get r i x (by simpa using h)
    have e : lnsC (a :: r) = .int .u8 a.k :: .int .i64 a.n :: lnsC r := rfl
    rw [e, show (i + 1) * 2 = i * 2 + 1 + 1 by omega]
    exact ih
theorem lnsC_append (a b : List Ln) : lnsC (a ++ b) = lnsC a ++ lnsC b := by simp [lnsC]
theorem Rd.one2 {w : World} (l : Ln) (t : TypeId) : Rd (w.alloc (.cells #[.int .u8 l.k, .int .i64 l.n] t)) 2 (some ⟨w.heap.size, 0, none⟩) 1 [.int .u8 l.k, .int .i64 l.n] :=
  ⟨rfl, fun _ => ⟨w.heap.size, 0, rfl, by simp, fun j u hu => by rw [(Blk.new w t _).cell]; simpa using hu⟩⟩
theorem Rd.cell2 {w : World} {A : Option Addr} {n : Nat} {l : List Ln} (h : Rd w 2 A n (lnsC l)) {i : Nat} {x : Ln} (hx : l[i]? = some x) :
    ∃ b off, A = some ⟨b, off, none⟩ ∧ b < w.heap.size ∧ w.cell? ⟨b, off + i * 2, none⟩ = some (.int .u8 x.k) ∧ w.cell? ⟨b, off + i * 2 + 1, none⟩ = some (.int .i64 x.n) := by
  have hl := h.len
  rw [lnsC_len] at hl
  have hi := (List.getElem?_eq_some_iff.1 hx).1
  obtain ⟨b, off, rfl, hb, hc⟩ := h.at_ (by omega)
  obtain ⟨g1, g2⟩ := lnsC_get l i x hx
  exact ⟨b, off, rfl, hb, hc _ _ g1, by rw [Nat.add_assoc]; exact hc _ _ g2⟩
def lensL (s : Sty) : List Ln := [s.w, s.h, s.minw, s.maxw, s.minh, s.maxh, s.basis, s.m0, s.m1, s.m2, s.m3]
theorem lens_take (s : Sty) {k : Nat} (h : k < 4) : lnsC ((lensL s).take (7 + k)) ++ [.int .u8 (mgL s k).k, .int .i64 (mgL s k).n] = lnsC ((lensL s).take (7 + (k + 1))) := by
  rcases nat4' h with rfl | rfl | rfl | rfl <;> rfl
theorem lens_at (s : Sty) {k : Nat} (h : k < 11) : ∃ x, (lensL s)[k]? = some x := ⟨(lensL s)[k]'(by simpa [lensL] using h), List.getElem?_eq_getElem _⟩
def zbOk (s : Sty) (k : Nat) : Bool := !(bdN s k != 0) && !(pdN s k != 0)
def zbV (s : Sty) (k : Nat) : Bool := if k < 4 then zbOk s k && zbV s (k + 1) else true
termination_by 4 - k
def zlOk (l : Ln) : Bool := !(l.k != 0) && !(l.n != 0)
def zlV (s : Sty) (k : Nat) : Bool := if k < 11 then (match (lensL s)[k]? with | some x => zlOk x | none => true) && zlV s (k + 1) else true
termination_by 11 - k
def flags0 (s : Sty) : Bool := (((((((((((!s.flow) && (!s.wrap)) && (s.float == 0)) && (s.clear == 0)) && (s.align == 0)) && (s.justify == 0)) && (s.items == 0)) && (s.line == 0)) && (s.order == 0)) && (s.grow == 0)) && (s.shrink == 0))
/-- has a style nothing but a kind and units? -/
def emptyV (s : Sty) : Bool := zbV s 0 && zlV s 0 && flags0 s

set_option maxRecDepth 100000 in
set_option maxHeartbeats 16000000 in
theorem rempty_any (s : Sty) (w : World) : Calls Try.prog 99 #[.agg s.cells] w fun e w' => e = .returned (.bool (emptyV s)) ∧ Ext w w' := by
  obtain ⟨i0, hi0, hz0, hz1, hz2⟩ := info_parts ln_info
  have HI := hide (And.intro hi0 (And.intro hz0 (And.intro hz1 hz2)))
  clear hi0 hz0 hz1 hz2
  go_enter Try.func99, Try.ntmps99
  go_upto_region 2 with fail
  have B0 : Blk ((w.alloc (.cells s.cells 45)).alloc (.cells #[.int .u8 s.w.k, .int .i64 s.w.n, .int .u8 s.h.k, .int .i64 s.h.n, .int .u8 s.minw.k, .int .i64 s.minw.n, .int .u8 s.maxw.k, .int .i64 s.maxw.n, .int .u8 s.minh.k, .int .i64 s.minh.n, .int .u8 s.maxh.k, .int .i64 s.maxh.n, .int .u8 s.basis.k, .int .i64 s.basis.n] 40)) w.heap.size 45 s.cells := (Blk.new _ _ _).alloc _
  have O0 : ((w.alloc (.cells s.cells 45)).alloc (.cells #[.int .u8 s.w.k, .int .i64 s.w.n, .int .u8 s.h.k, .int .i64 s.h.n, .int .u8 s.minw.k, .int .i64 s.minw.n, .int .u8 s.maxw.k, .int .i64 s.maxw.n, .int .u8 s.minh.k, .int .i64 s.minh.n, .int .u8 s.maxh.k, .int .i64 s.maxh.n, .int .u8 s.basis.k, .int .i64 s.basis.n] 40)).ownsRow (w.heap.size + 1) 40 2 (.slice (some ⟨w.heap.size + 1, 0, none⟩) 7 7) 7 (lnsC ((lensL s).take (7 + 0))) := by
    have := World.ownsRow_lit (base := w.heap.size + 1) (e := 40) (size := 2) (w.alloc (.cells s.cells 45)) #[.int .u8 s.w.k, .int .i64 s.w.n, .int .u8 s.h.k, .int .i64 s.h.n, .int .u8 s.minw.k, .int .i64 s.minw.n, .int .u8 s.maxw.k, .int .i64 s.maxw.n, .int .u8 s.minh.k, .int .i64 s.minh.n, .int .u8 s.maxh.k, .int .i64 s.maxh.n, .int .u8 s.basis.k, .int .i64 s.basis.n] 7 (by simp) (by simp [maxLen]) rfl
    rw [World.size_alloc] at this
    exact this
  have E0 : Ext w ((w.alloc (.cells s.cells 45)).alloc (.cells #[.int .u8 s.w.k, .int .i64 s.w.n, .int .u8 s.h.k, .int .i64 s.h.n, .int .u8 s.minw.k, .int .i64 s.minw.n, .int .u8 s.maxw.k, .int .i64 s.maxw.n, .int .u8 s.minh.k, .int .i64 s.minh.n, .int .u8 s.maxh.k, .int .i64 s.maxh.n, .int .u8 s.basis.k, .int .i64 s.basis.n] 40)) := ((Ext.refl _).alloc _).alloc _
  generalize (w.alloc (.cells s.cells 45)).alloc (.cells #[.int .u8 s.w.k, .int .i64 s.w.n, .int .u8 s.h.k, .int .i64 s.h.n, .int .u8 s.minw.k, .int .i64 s.minw.n, .int .u8 s.maxw.k, .int .i64 s.maxw.n, .int .u8 s.minh.k, .int .i64 s.minh.n, .int .u8 s.maxh.k, .int .i64 s.maxh.n, .int .u8 s.basis.k, .int .i64 s.basis.n] 40) = w0 at *
  generalize hg : w.heap.size = g at *
  have HG := hide hg
  have hg1 : w.heap.size ≤ g := by omega
  clear hg
  go_wp2_with fail
  go_loopw [3, 4] (fun v i wr => ∃ (k : Nat) (A : Option Addr) (c : Nat), i = .int .i64 k ∧ v = .slice A (7 + k) c ∧ k ≤ 4 ∧ Hid (zbV s k = zbV s 0) ∧ Ext w wr ∧ Blk wr g 45 s.cells ∧ wr.ownsRow (g + 1) 40 2 (.slice A (7 + k) c) (7 + k) (lnsC ((lensL s).take (7 + k)))) (fun _ i _ => 4 - (intOf i).toNat)
  case atStart => exact ⟨0, _, _, rfl, rfl, by omega, hide rfl, E0, B0, O0⟩
  case round =>
    clear E0 B0 O0 w0
    obtain ⟨k, A, c, rfl, rfl, q1, HQ, E1, B1, O1⟩ := hrel
    have l1 := B1.lt
    by_cases hk : k < 4
    · obtain ⟨m1, m2, m3, m4⟩ := st_m s hk
      have c1 := (B1.cell _).trans m1
      have c2 := (B1.cell _).trans m2
      have HT := hide (lens_take s hk)
      have HB := hide m3
      have HP := hide m4
      have HOK := hide (show zbOk s k = (!(bdN s k != 0) && !(pdN s k != 0)) from rfl)
      have HN := hide (fun h : zbOk s k = false => (show false = emptyV s by rw [emptyV, ← unhide HQ, zbV, if_pos hk, h]; rfl))
      have HY := hide (fun h : zbOk s k = true => (show zbV s (k + 1) = zbV s 0 by rw [← unhide HQ, zbV.eq_def s k, if_pos hk, h, Bool.true_and]))
      generalize mgL s k = L at *
      generalize bdN s k = bd at *
      generalize pdN s k = pd at *
      have hkI : (0 : Int) ≤ (k : Int) ∧ (k : Int) < 4 := by omega
      clear m1 m2 m3 m4 HQ
      go_wp2_with (first
        | (at_builtin
           refine wpList_append_rd rfl (.tmp 25) (.tmp 30) _ rfl (g + 1) 40 i0 _ 2 16 Try.underlying84 (unhide HI).1 (unhide HI).2.1 (unhide HI).2.2.1 (unhide HI).2.2.2 rfl (by omega) _ (7 + k) (lnsC ((lensL s).take (7 + k))) rfl (O1.alloc _) _ 1 1 [.int .u8 L.k, .int .i64 L.n] rfl (Rd.one2 L _) (by simp [Value.oneCell']) (by simp only [maxLen]; omega) (by omega) (by simp; omega) ?_
           intro A4 c4 w4 own4 g4 at4
           have E4 := (E1.alloc (.cells #[.int .u8 L.k, .int .i64 L.n] 40)).grown g4 (fun j e => by have := (O1.lt j e).1; omega)
           have B4 := (B1.alloc (.cells #[.int .u8 L.k, .int .i64 L.n] 40)).grown g4 (fun e => by have := (O1.lt _ e).1; omega)
           have c3 := (B4.cell _).trans (unhide HB)
           have c4' := (B4.cell _).trans (unhide HP)
           have l4 := B4.lt))
      all_goals first
        | (go_ret; exact ⟨ret1b (unhide HN (by rw [unhide HOK]; simp [*])), E4⟩)
        | (go_roundw
           case rel =>
             rw [unhide HT] at own4
             exact ⟨k + 1, A4, c4, by go_num, by rw [Nat.add_assoc], by omega, hide (unhide HY (by rw [unhide HOK]; simp [*])), E4, B4, own4⟩
           case measure => simp [intOf]; omega)
    · have HM : Hid (zbV s 0 = true) := hide (by rw [← unhide HQ, zbV, if_neg hk])
      have R1 := Rd.of_own O1
      obtain ⟨b, off, rfl, hb, hc⟩ := R1.at_ (by omega)
      have HC := hide hc
      have hkI : ¬ ((k : Int) < 4) := by omega
      have HK := hide (show 7 + k = 11 by omega)
      have hk11 : 7 + k ≤ 11 ∧ 11 ≤ 7 + k := by omega
      clear HQ O1 R1 hc q1
      go_wp2_with fail
      clear hk hkI
      go_loop [5] (fun i => ∃ j : Nat, i = .int .i64 j ∧ j ≤ 11 ∧ Hid (zlV s j = zlV s 0)) (fun i => 11 - (intOf i).toNat)
      case atStart => exact ⟨0, rfl, by omega, hide rfl⟩
      case round =>
        obtain ⟨j, rfl, q1, HQ⟩ := hrel
        by_cases hj : j < 11
        · obtain ⟨x, hx⟩ := lens_at s hj
          have hc := unhide HC
          rw [show (lensL s).take (7 + k) = lensL s by rw [unhide HK]; rfl] at hc
          obtain ⟨g1, g2⟩ := lnsC_get (lensL s) j x hx
          have ck := hc _ _ g1
          have cn := hc _ _ g2
          rw [← Nat.add_assoc] at cn
          have HOK := hide (show zlOk x = (!(x.k != 0) && !(x.n != 0)) from rfl)
          have HN := hide (fun h : zlOk x = false => (show false = emptyV s by rw [emptyV, ← unhide HQ, zlV, if_pos hj, hx]; simp only [h]; simp))
          have HY := hide (fun h : zlOk x = true => (show zlV s (j + 1) = zlV s 0 by rw [← unhide HQ, zlV.eq_def s j, if_pos hj, hx]; simp only [h, Bool.true_and]))
          obtain ⟨Lk, Lnn⟩ := x
          simp only at ck cn HOK
          have hin : (0 : Int) ≤ (j : Int) ∧ (j : Int) < ((7 + k : Nat) : Int) := by omega
          have hj2 : j < 7 + k := by omega
          clear hc g1 g2 hx HQ HC
          go_wp2_with fail
          all_goals first
            | (go_ret; exact ⟨ret1b (unhide HN (by rw [unhide HOK]; simp [*])), E1⟩)
            | (go_round
               case rel => exact ⟨j + 1, by go_num, by omega, hide (unhide HY (by rw [unhide HOK]; simp [*]))⟩
               case measure => simp [intOf]; omega)
        · have HL : Hid (zlV s 0 = true) := hide (by rw [← unhide HQ, zlV, if_neg hj])
          have hj2 : ¬ (j < 7 + k) := by omega
          have hjI : ¬ ((j : Int) < ((7 + k : Nat) : Int)) := by omega
          clear HQ q1 HC
          go_upto_region 13 with fail
          clear hj hj2 hjI
          have Bs := B1
          clear B1
          obtain ⟨p66, hp66⟩ : ∃ x, (!s.flow) = x := ⟨_, rfl⟩
          obtain ⟨p70, hp70⟩ : ∃ x, (!s.wrap) = x := ⟨_, rfl⟩
          obtain ⟨p71, hp71⟩ : ∃ x, (p66 && p70) = x := ⟨_, rfl⟩
          obtain ⟨p75, hp75⟩ : ∃ x, (s.float == 0) = x := ⟨_, rfl⟩
          obtain ⟨p76, hp76⟩ : ∃ x, (p71 && p75) = x := ⟨_, rfl⟩
          obtain ⟨p80, hp80⟩ : ∃ x, (s.clear == 0) = x := ⟨_, rfl⟩
          obtain ⟨p81, hp81⟩ : ∃ x, (p76 && p80) = x := ⟨_, rfl⟩
          obtain ⟨p85, hp85⟩ : ∃ x, (s.align == 0) = x := ⟨_, rfl⟩
          obtain ⟨p86, hp86⟩ : ∃ x, (p81 && p85) = x := ⟨_, rfl⟩
          obtain ⟨p90, hp90⟩ : ∃ x, (s.justify == 0) = x := ⟨_, rfl⟩
          obtain ⟨p91, hp91⟩ : ∃ x, (p86 && p90) = x := ⟨_, rfl⟩
          obtain ⟨p95, hp95⟩ : ∃ x, (s.items == 0) = x := ⟨_, rfl⟩
          obtain ⟨p96, hp96⟩ : ∃ x, (p91 && p95) = x := ⟨_, rfl⟩
          obtain ⟨p100, hp100⟩ : ∃ x, (s.line == 0) = x := ⟨_, rfl⟩
          obtain ⟨p101, hp101⟩ : ∃ x, (p96 && p100) = x := ⟨_, rfl⟩
          obtain ⟨p105, hp105⟩ : ∃ x, (s.order == 0) = x := ⟨_, rfl⟩
          obtain ⟨p106, hp106⟩ : ∃ x, (p101 && p105) = x := ⟨_, rfl⟩
          obtain ⟨p110, hp110⟩ : ∃ x, (s.grow == 0) = x := ⟨_, rfl⟩
          obtain ⟨p111, hp111⟩ : ∃ x, (p106 && p110) = x := ⟨_, rfl⟩
          obtain ⟨p115, hp115⟩ : ∃ x, (s.shrink == 0) = x := ⟨_, rfl⟩
          obtain ⟨p116, hp116⟩ : ∃ x, (p111 && p115) = x := ⟨_, rfl⟩
          have HF : Hid (p116 = (((((((((((!s.flow) && (!s.wrap)) && (s.float == 0)) && (s.clear == 0)) && (s.align == 0)) && (s.justify == 0)) && (s.items == 0)) && (s.line == 0)) && (s.order == 0)) && (s.grow == 0)) && (s.shrink == 0))) := hide (by rw [← hp116, ← hp115, ← hp111, ← hp110, ← hp106, ← hp105, ← hp101, ← hp100, ← hp96, ← hp95, ← hp91, ← hp90, ← hp86, ← hp85, ← hp81, ← hp80, ← hp76, ← hp75, ← hp71, ← hp70, ← hp66])
          have Hp66 := hide hp66
          have Hp70 := hide hp70
          have Hp71 := hide hp71
          have Hp75 := hide hp75
          have Hp76 := hide hp76
          have Hp80 := hide hp80
          have Hp81 := hide hp81
          have Hp85 := hide hp85
          have Hp86 := hide hp86
          have Hp90 := hide hp90
          have Hp91 := hide hp91
          have Hp95 := hide hp95
          have Hp96 := hide hp96
          have Hp100 := hide hp100
          have Hp101 := hide hp101
          have Hp105 := hide hp105
          have Hp106 := hide hp106
          have Hp110 := hide hp110
          have Hp111 := hide hp111
          have Hp115 := hide hp115
          have Hp116 := hide hp116
          clear hp66 hp70 hp71 hp75 hp76 hp80 hp81 hp85 hp86 hp90 hp91 hp95 hp96 hp100 hp101 hp105 hp106 hp110 hp111 hp115 hp116
          refine wp_region_lin0 (fun w' => (ExtX wr w' [])) (fun ii vv ww => match ii with | 0 => vv = .pointer (some ⟨g, 1, none⟩) | 1 => vv = .bool s.flow | 2 => vv = .bool p66 | 3 => vv = .bool p66 | 4 => vv = (if (p66) = true then .pointer (some ⟨g, 34, none⟩) else undef) | 5 => vv = (if (p66) = true then .bool s.wrap else undef) | 6 => vv = (if (p66) = true then .bool p70 else undef) | 7 => vv = .bool p71 | 8 => vv = .bool p71 | 9 => vv = (if (p71) = true then .pointer (some ⟨g, 2, none⟩) else undef) | 10 => vv = (if (p71) = true then .int .u8 s.float else undef) | 11 => vv = (if (p71) = true then .bool p75 else undef) | 12 => vv = .bool p76 | 13 => vv = .bool p76 | 14 => vv = (if (p76) = true then .pointer (some ⟨g, 3, none⟩) else undef) | 15 => vv = (if (p76) = true then .int .u8 s.clear else undef) | 16 => vv = (if (p76) = true then .bool p80 else undef) | 17 => vv = .bool p81 | 18 => vv = .bool p81 | 19 => vv = (if (p81) = true then .pointer (some ⟨g, 32, none⟩) else undef) | 20 => vv = (if (p81) = true then .int .u8 s.align else undef) | 21 => vv = (if (p81) = true then .bool p85 else undef) | 22 => vv = .bool p86 | 23 => vv = .bool p86 | 24 => vv = (if (p86) = true then .pointer (some ⟨g, 35, none⟩) else undef) | 25 => vv = (if (p86) = true then .int .u8 s.justify else undef) | 26 => vv = (if (p86) = true then .bool p90 else undef) | 27 => vv = .bool p91 | 28 => vv = .bool p91 | 29 => vv = (if (p91) = true then .pointer (some ⟨g, 36, none⟩) else undef) | 30 => vv = (if (p91) = true then .int .u8 s.items else undef) | 31 => vv = (if (p91) = true then .bool p95 else undef) | 32 => vv = .bool p96 | 33 => vv = .bool p96 | 34 => vv = (if (p96) = true then .pointer (some ⟨g, 33, none⟩) else undef) | 35 => vv = (if (p96) = true then .int .i64 s.line else undef) | 36 => vv = (if (p96) = true then .bool p100 else undef) | 37 => vv = .bool p101 | 38 => vv = .bool p101 | 39 => vv = (if (p101) = true then .pointer (some ⟨g, 37, none⟩) else undef) | 40 => vv = (if (p101) = true then .int .i64 s.order else undef) | 41 => vv = (if (p101) = true then .bool p105 else undef) | 42 => vv = .bool p106 | 43 => vv = .bool p106 | 44 => vv = (if (p106) = true then .pointer (some ⟨g, 38, none⟩) else undef) | 45 => vv = (if (p106) = true then .int .i64 s.grow else undef) | 46 => vv = (if (p106) = true then .bool p110 else undef) | 47 => vv = .bool p111 | 48 => vv = .bool p111 | 49 => vv = (if (p111) = true then .pointer (some ⟨g, 39, none⟩) else undef) | 50 => vv = (if (p111) = true then .int .i64 s.shrink else undef) | 51 => vv = (if (p111) = true then .bool p115 else undef) | 52 => vv = .bool p116 | 53 => vv = .bool p116 | _ => True) (fun ii => match ii with | 1 => [(0, 64)] | 2 => [(1, 65)] | 3 => [(2, 66)] | 4 => [(3, 67)] | 5 => [(4, 68), (3, 67)] | 6 => [(5, 69), (3, 67)] | 7 => [(3, 67), (6, 70)] | 8 => [(7, 71)] | 9 => [(8, 72)] | 10 => [(9, 73), (8, 72)] | 11 => [(10, 74), (8, 72)] | 12 => [(8, 72), (11, 75)] | 13 => [(12, 76)] | 14 => [(13, 77)] | 15 => [(14, 78), (13, 77)] | 16 => [(15, 79), (13, 77)] | 17 => [(13, 77), (16, 80)] | 18 => [(17, 81)] | 19 => [(18, 82)] | 20 => [(19, 83), (18, 82)] | 21 => [(20, 84), (18, 82)] | 22 => [(18, 82), (21, 85)] | 23 => [(22, 86)] | 24 => [(23, 87)] | 25 => [(24, 88), (23, 87)] | 26 => [(25, 89), (23, 87)] | 27 => [(23, 87), (26, 90)] | 28 => [(27, 91)] | 29 => [(28, 92)] | 30 => [(29, 93), (28, 92)] | 31 => [(30, 94), (28, 92)] | 32 => [(28, 92), (31, 95)] | 33 => [(32, 96)] | 34 => [(33, 97)] | 35 => [(34, 98), (33, 97)] | 36 => [(35, 99), (33, 97)] | 37 => [(33, 97), (36, 100)] | 38 => [(37, 101)] | 39 => [(38, 102)] | 40 => [(39, 103), (38, 102)] | 41 => [(40, 104), (38, 102)] | 42 => [(38, 102), (41, 105)] | 43 => [(42, 106)] | 44 => [(43, 107)] | 45 => [(44, 108), (43, 107)] | 46 => [(45, 109), (43, 107)] | 47 => [(43, 107), (46, 110)] | 48 => [(47, 111)] | 49 => [(48, 112)] | 50 => [(49, 113), (48, 112)] | 51 => [(50, 114), (48, 112)] | 52 => [(48, 112), (51, 115)] | 53 => [(52, 116)] | _ => []) (fun ii => match ii with | 0 => [1] | 4 => [1] | 9 => [1] | 14 => [1] | 19 => [1] | 24 => [1] | 29 => [1] | 34 => [1] | 39 => [1] | 44 => [1] | 49 => [1] | _ => []) (fun ii => match ii with | 4 => [3] | 5 => [3] | 6 => [3] | 9 => [8] | 10 => [8] | 11 => [8] | 14 => [13] | 15 => [13] | 16 => [13] | 19 => [18] | 20 => [18] | 21 => [18] | 24 => [23] | 25 => [23] | 26 => [23] | 29 => [28] | 30 => [28] | 31 => [28] | 34 => [33] | 35 => [33] | 36 => [33] | 39 => [38] | 40 => [38] | 41 => [38] | 44 => [43] | 45 => [43] | 46 => [43] | 49 => [48] | 50 => [48] | 51 => [48] | _ => []) [53] [0, 1, 3, 7, 15, 31, 63, 127, 255, 511, 1023, 2047, 4095, 8191, 16383, 32767, 65535, 131071, 262143, 524287, 1048575, 2097151, 4194303, 8388607, 16777215, 33554431, 67108863, 134217727, 268435455, 536870911, 1073741823, 2147483647, 4294967295, 8589934591, 17179869183, 34359738367, 68719476735, 137438953471, 274877906943, 549755813887, 1099511627775, 2199023255551, 4398046511103, 8796093022207, 17592186044415, 35184372088831, 70368744177663, 140737488355327, 281474976710655, 562949953421311, 1125899906842623, 2251799813685247, 4503599627370495, 9007199254740991] 117 rfl (by kernel_rfl) (ExtX.refl _ _) ?_ ?_
          · rename_i hcont; clear hcont
            refine ⟨?_, ?_, ?_, ?_, ?_, ?_, ?_, ?_, ?_, ?_, ?_, ?_, ?_, ?_, ?_, ?_, ?_, ?_, ?_, ?_, ?_, ?_, ?_, ?_, ?_, ?_, ?_, ?_, ?_, ?_, ?_, ?_, ?_, ?_, ?_, ?_, ?_, ?_, ?_, ?_, ?_, ?_, ?_, ?_, ?_, ?_, ?_, ?_, ?_, ?_, ?_, ?_, ?_, ?_, trivial⟩
            · refine stepL_plain rfl ?_
              rintro F a w1 jE - ⟨t1, -⟩ K hK
              have t1 : a.tmps[1]? = some (.pointer (some ⟨g, 0, none⟩)) := t1
              go_simp
              exact hK _ _ jE rfl (fun _ _ _ h => h)
            · refine stepL_plain rfl ?_
              rintro F a w1 jE ⟨h0, t64, -⟩ - K hK
              have h0 : (F 0) = .pointer (some ⟨g, 1, none⟩) := h0
              rw [h0] at t64
              clear h0
              have c := (jE.blk Bs (by simp)).cell
              go_simp
              exact hK _ _ jE rfl (fun _ _ _ h => h)
            · refine stepL_plain rfl ?_
              rintro F a w1 jE ⟨h1, t65, -⟩ - K hK
              have h1 : (F 1) = .bool s.flow := h1
              rw [h1] at t65
              clear h1
              have e1 := unhide Hp66
              go_simp
              exact hK _ _ jE rfl (fun _ _ _ h => h)
            · refine stepL_plain rfl ?_
              rintro F a w1 jE ⟨h2, t66, -⟩ - K hK
              have h2 : (F 2) = .bool p66 := h2
              rw [h2] at t66
              clear h2
              go_simp
              exact hK _ _ jE rfl (fun _ _ _ h => h)
            · refine stepL_of ?_
              rintro F a w1 jE ⟨h3, t67, -⟩ ⟨t1, -⟩ K hK
              have h3 : (F 3) = .bool p66 := h3
              rw [h3] at t67
              clear h3
              have t1 : a.tmps[1]? = some (.pointer (some ⟨g, 0, none⟩)) := t1
              cases p66
              all_goals first
                | (exact stepN ((wanted_of 3 true 67 _ rfl rfl t67).trans rfl) (hK undef _ jE rfl (fun _ _ _ h => h)))
                | (exact stepN (wanted_undef 3 true 67 rfl rfl t67) (hK undef _ jE rfl (fun _ _ _ h => h)))
                | (refine stepY ((wanted_of 3 true 67 _ rfl rfl t67).trans rfl) ?_
                   go_simp
                   exact hK _ _ jE rfl (fun _ _ _ h => h))
            · refine stepL_of ?_
              rintro F a w1 jE ⟨h4, t68, h3, t67, -⟩ - K hK
              have h4 : (F 4) = (if (p66) = true then .pointer (some ⟨g, 34, none⟩) else undef) := h4
              rw [h4] at t68
              clear h4
              have h3 : (F 3) = .bool p66 := h3
              rw [h3] at t67
              clear h3
              cases p66
              all_goals first
                | (exact stepN ((wanted_of 3 true 67 _ rfl rfl t67).trans rfl) (hK undef _ jE rfl (fun _ _ _ h => h)))
                | (exact stepN (wanted_undef 3 true 67 rfl rfl t67) (hK undef _ jE rfl (fun _ _ _ h => h)))
                | (refine stepY ((wanted_of 3 true 67 _ rfl rfl t67).trans rfl) ?_
                   have c := (jE.blk Bs (by simp)).cell
                   go_simp
                   exact hK _ _ jE rfl (fun _ _ _ h => h))
            · refine stepL_of ?_
              rintro F a w1 jE ⟨h5, t69, h3, t67, -⟩ - K hK
              have h5 : (F 5) = (if (p66) = true then .bool s.wrap else undef) := h5
              rw [h5] at t69
              clear h5
              have h3 : (F 3) = .bool p66 := h3
              rw [h3] at t67
              clear h3
              cases p66
              all_goals first
                | (exact stepN ((wanted_of 3 true 67 _ rfl rfl t67).trans rfl) (hK undef _ jE rfl (fun _ _ _ h => h)))
                | (exact stepN (wanted_undef 3 true 67 rfl rfl t67) (hK undef _ jE rfl (fun _ _ _ h => h)))
                | (refine stepY ((wanted_of 3 true 67 _ rfl rfl t67).trans rfl) ?_
                   have e1 := unhide Hp70
                   go_simp
                   exact hK _ _ jE rfl (fun _ _ _ h => h))
            · refine stepL_plain rfl ?_
              rintro F a w1 jE ⟨h3, t67, h6, t70, -⟩ - K hK
              have h3 : (F 3) = .bool p66 := h3
              rw [h3] at t67
              clear h3
              have h6 : (F 6) = (if (p66) = true then .bool p70 else undef) := h6
              rw [h6] at t70
              clear h6
              cases p66 <;> cases p70
              all_goals
                obtain rfl := unhide Hp71
                go_simp
                exact hK _ _ jE rfl (fun _ _ _ h => h)
            · refine stepL_plain rfl ?_
              rintro F a w1 jE ⟨h7, t71, -⟩ - K hK
              have h7 : (F 7) = .bool p71 := h7
              rw [h7] at t71
              clear h7
              go_simp
              exact hK _ _ jE rfl (fun _ _ _ h => h)
            · refine stepL_of ?_
              rintro F a w1 jE ⟨h8, t72, -⟩ ⟨t1, -⟩ K hK
              have h8 : (F 8) = .bool p71 := h8
              rw [h8] at t72
              clear h8
              have t1 : a.tmps[1]? = some (.pointer (some ⟨g, 0, none⟩)) := t1
              cases p71
              all_goals first
                | (exact stepN ((wanted_of 8 true 72 _ rfl rfl t72).trans rfl) (hK undef _ jE rfl (fun _ _ _ h => h)))
                | (exact stepN (wanted_undef 8 true 72 rfl rfl t72) (hK undef _ jE rfl (fun _ _ _ h => h)))
                | (refine stepY ((wanted_of 8 true 72 _ rfl rfl t72).trans rfl) ?_
                   go_simp
                   exact hK _ _ jE rfl (fun _ _ _ h => h))
            · refine stepL_of ?_
              rintro F a w1 jE ⟨h9, t73, h8, t72, -⟩ - K hK
              have h9 : (F 9) = (if (p71) = true then .pointer (some ⟨g, 2, none⟩) else undef) := h9
              rw [h9] at t73
              clear h9
              have h8 : (F 8) = .bool p71 := h8
              rw [h8] at t72
              clear h8
              cases p71
              all_goals first
                | (exact stepN ((wanted_of 8 true 72 _ rfl rfl t72).trans rfl) (hK undef _ jE rfl (fun _ _ _ h => h)))
                | (exact stepN (wanted_undef 8 true 72 rfl rfl t72) (hK undef _ jE rfl (fun _ _ _ h => h)))
                | (refine stepY ((wanted_of 8 true 72 _ rfl rfl t72).trans rfl) ?_
                   have c := (jE.blk Bs (by simp)).cell
                   go_simp
                   exact hK _ _ jE rfl (fun _ _ _ h => h))
            · refine stepL_of ?_
              rintro F a w1 jE ⟨h10, t74, h8, t72, -⟩ - K hK
              have h10 : (F 10) = (if (p71) = true then .int .u8 s.float else undef) := h10
              rw [h10] at t74
              clear h10
              have h8 : (F 8) = .bool p71 := h8
              rw [h8] at t72
              clear h8
              cases p71
              all_goals first
                | (exact stepN ((wanted_of 8 true 72 _ rfl rfl t72).trans rfl) (hK undef _ jE rfl (fun _ _ _ h => h)))
                | (exact stepN (wanted_undef 8 true 72 rfl rfl t72) (hK undef _ jE rfl (fun _ _ _ h => h)))
                | (refine stepY ((wanted_of 8 true 72 _ rfl rfl t72).trans rfl) ?_
                   have e1 := unhide Hp75
                   go_simp
                   exact hK _ _ jE rfl (fun _ _ _ h => h))
            · refine stepL_plain rfl ?_
              rintro F a w1 jE ⟨h8, t72, h11, t75, -⟩ - K hK
              have h8 : (F 8) = .bool p71 := h8
              rw [h8] at t72
              clear h8
              have h11 : (F 11) = (if (p71) = true then .bool p75 else undef) := h11
              rw [h11] at t75
              clear h11
              cases p71 <;> cases p75
              all_goals
                obtain rfl := unhide Hp76
                go_simp
                exact hK _ _ jE rfl (fun _ _ _ h => h)
            · refine stepL_plain rfl ?_
              rintro F a w1 jE ⟨h12, t76, -⟩ - K hK
              have h12 : (F 12) = .bool p76 := h12
              rw [h12] at t76
              clear h12
              go_simp
              exact hK _ _ jE rfl (fun _ _ _ h => h)
            · refine stepL_of ?_
              rintro F a w1 jE ⟨h13, t77, -⟩ ⟨t1, -⟩ K hK
              have h13 : (F 13) = .bool p76 := h13
              rw [h13] at t77
              clear h13
              have t1 : a.tmps[1]? = some (.pointer (some ⟨g, 0, none⟩)) := t1
              cases p76
              all_goals first
                | (exact stepN ((wanted_of 13 true 77 _ rfl rfl t77).trans rfl) (hK undef _ jE rfl (fun _ _ _ h => h)))
                | (exact stepN (wanted_undef 13 true 77 rfl rfl t77) (hK undef _ jE rfl (fun _ _ _ h => h)))
                | (refine stepY ((wanted_of 13 true 77 _ rfl rfl t77).trans rfl) ?_
                   go_simp
                   exact hK _ _ jE rfl (fun _ _ _ h => h))
            · refine stepL_of ?_
              rintro F a w1 jE ⟨h14, t78, h13, t77, -⟩ - K hK
              have h14 : (F 14) = (if (p76) = true then .pointer (some ⟨g, 3, none⟩) else undef) := h14
              rw [h14] at t78
              clear h14
              have h13 : (F 13) = .bool p76 := h13
              rw [h13] at t77
              clear h13
              cases p76
              all_goals first
                | (exact stepN ((wanted_of 13 true 77 _ rfl rfl t77).trans rfl) (hK undef _ jE rfl (fun _ _ _ h => h)))
                | (exact stepN (wanted_undef 13 true 77 rfl rfl t77) (hK undef _ jE rfl (fun _ _ _ h => h)))
                | (refine stepY ((wanted_of 13 true 77 _ rfl rfl t77).trans rfl) ?_
                   have c := (jE.blk Bs (by simp)).cell
                   go_simp
                   exact hK _ _ jE rfl (fun _ _ _ h => h))
            · refine stepL_of ?_
              rintro F a w1 jE ⟨h15, t79, h13, t77, -⟩ - K hK
              have h15 : (F 15) = (if (p76) = true then .int .u8 s.clear else undef) := h15
              rw [h15] at t79
              clear h15
              have h13 : (F 13) = .bool p76 := h13
              rw [h13] at t77
              clear h13
              cases p76
              all_goals first
                | (exact stepN ((wanted_of 13 true 77 _ rfl rfl t77).trans rfl) (hK undef _ jE rfl (fun _ _ _ h => h)))
                | (exact stepN (wanted_undef 13 true 77 rfl rfl t77) (hK undef _ jE rfl (fun _ _ _ h => h)))
                | (refine stepY ((wanted_of 13 true 77 _ rfl rfl t77).trans rfl) ?_
                   have e1 := unhide Hp80
                   go_simp
                   exact hK _ _ jE rfl (fun _ _ _ h => h))
            · refine stepL_plain rfl ?_
              rintro F a w1 jE ⟨h13, t77, h16, t80, -⟩ - K hK
              have h13 : (F 13) = .bool p76 := h13
              rw [h13] at t77
              clear h13
              have h16 : (F 16) = (if (p76) = true then .bool p80 else undef) := h16
              rw [h16] at t80
              clear h16
              cases p76 <;> cases p80
              all_goals
                obtain rfl := unhide Hp81
                go_simp
                exact hK _ _ jE rfl (fun _ _ _ h => h)
            · refine stepL_plain rfl ?_
              rintro F a w1 jE ⟨h17, t81, -⟩ - K hK
              have h17 : (F 17) = .bool p81 := h17
              rw [h17] at t81
              clear h17
              go_simp
              exact hK _ _ jE rfl (fun _ _ _ h => h)
            · refine stepL_of ?_
              rintro F a w1 jE ⟨h18, t82, -⟩ ⟨t1, -⟩ K hK
              have h18 : (F 18) = .bool p81 := h18
              rw [h18] at t82
              clear h18
              have t1 : a.tmps[1]? = some (.pointer (some ⟨g, 0, none⟩)) := t1
              cases p81
              all_goals first
                | (exact stepN ((wanted_of 18 true 82 _ rfl rfl t82).trans rfl) (hK undef _ jE rfl (fun _ _ _ h => h)))
                | (exact stepN (wanted_undef 18 true 82 rfl rfl t82) (hK undef _ jE rfl (fun _ _ _ h => h)))
                | (refine stepY ((wanted_of 18 true 82 _ rfl rfl t82).trans rfl) ?_
                   go_simp
                   exact hK _ _ jE rfl (fun _ _ _ h => h))
            · refine stepL_of ?_
              rintro F a w1 jE ⟨h19, t83, h18, t82, -⟩ - K hK
              have h19 : (F 19) = (if (p81) = true then .pointer (some ⟨g, 32, none⟩) else undef) := h19
              rw [h19] at t83
              clear h19
              have h18 : (F 18) = .bool p81 := h18
              rw [h18] at t82
              clear h18
              cases p81
              all_goals first
                | (exact stepN ((wanted_of 18 true 82 _ rfl rfl t82).trans rfl) (hK undef _ jE rfl (fun _ _ _ h => h)))
                | (exact stepN (wanted_undef 18 true 82 rfl rfl t82) (hK undef _ jE rfl (fun _ _ _ h => h)))
                | (refine stepY ((wanted_of 18 true 82 _ rfl rfl t82).trans rfl) ?_
                   have c := (jE.blk Bs (by simp)).cell
                   go_simp
                   exact hK _ _ jE rfl (fun _ _ _ h => h))
            · refine stepL_of ?_
              rintro F a w1 jE ⟨h20, t84, h18, t82, -⟩ - K hK
              have h20 : (F 20) = (if (p81) = true then .int .u8 s.align else undef) := h20
              rw [h20] at t84
              clear h20
              have h18 : (F 18) = .bool p81 := h18
              rw [h18] at t82
              clear h18
              cases p81
              all_goals first
                | (exact stepN ((wanted_of 18 true 82 _ rfl rfl t82).trans rfl) (hK undef _ jE rfl (fun _ _ _ h => h)))
                | (exact stepN (wanted_undef 18 true 82 rfl rfl t82) (hK undef _ jE rfl (fun _ _ _ h => h)))
                | (refine stepY ((wanted_of 18 true 82 _ rfl rfl t82).trans rfl) ?_
                   have e1 := unhide Hp85
                   go_simp
                   exact hK _ _ jE rfl (fun _ _ _ h => h))
            · refine stepL_plain rfl ?_
              rintro F a w1 jE ⟨h18, t82, h21, t85, -⟩ - K hK
              have h18 : (F 18) = .bool p81 := h18
              rw [h18] at t82
              clear h18
              have h21 : (F 21) = (if (p81) = true then .bool p85 else undef) := h21
              rw [h21] at t85
              clear h21
              cases p81 <;> cases p85
              all_goals
                obtain rfl := unhide Hp86
                go_simp
                exact hK _ _ jE rfl (fun _ _ _ h => h)
            · refine stepL_plain rfl ?_
              rintro F a w1 jE ⟨h22, t86, -⟩ - K hK
              have h22 : (F 22) = .bool p86 := h22
              rw [h22] at t86
              clear h22
              go_simp
              exact hK _ _ jE rfl (fun _ _ _ h => h)
            · refine stepL_of ?_
              rintro F a w1 jE ⟨h23, t87, -⟩ ⟨t1, -⟩ K hK
              have h23 : (F 23) = .bool p86 := h23
              rw [h23] at t87
              clear h23
              have t1 : a.tmps[1]? = some (.pointer (some ⟨g, 0, none⟩)) := t1
              cases p86
              all_goals first
                | (exact stepN ((wanted_of 23 true 87 _ rfl rfl t87).trans rfl) (hK undef _ jE rfl (fun _ _ _ h => h)))
                | (exact stepN (wanted_undef 23 true 87 rfl rfl t87) (hK undef _ jE rfl (fun _ _ _ h => h)))
                | (refine stepY ((wanted_of 23 true 87 _ rfl rfl t87).trans rfl) ?_
                   go_simp
                   exact hK _ _ jE rfl (fun _ _ _ h => h))
            · refine stepL_of ?_
              rintro F a w1 jE ⟨h24, t88, h23, t87, -⟩ - K hK
              have h24 : (F 24) = (if (p86) = true then .pointer (some ⟨g, 35, none⟩) else undef) := h24
              rw [h24] at t88
              clear h24
              have h23 : (F 23) = .bool p86 := h23
              rw [h23] at t87
              clear h23
              cases p86
              all_goals first
                | (exact stepN ((wanted_of 23 true 87 _ rfl rfl t87).trans rfl) (hK undef _ jE rfl (fun _ _ _ h => h)))
                | (exact stepN (wanted_undef 23 true 87 rfl rfl t87) (hK undef _ jE rfl (fun _ _ _ h => h)))
                | (refine stepY ((wanted_of 23 true 87 _ rfl rfl t87).trans rfl) ?_
                   have c := (jE.blk Bs (by simp)).cell
                   go_simp
                   exact hK _ _ jE rfl (fun _ _ _ h => h))
            · refine stepL_of ?_
              rintro F a w1 jE ⟨h25, t89, h23, t87, -⟩ - K hK
              have h25 : (F 25) = (if (p86) = true then .int .u8 s.justify else undef) := h25
              rw [h25] at t89
              clear h25
              have h23 : (F 23) = .bool p86 := h23
              rw [h23] at t87
              clear h23
              cases p86
              all_goals first
                | (exact stepN ((wanted_of 23 true 87 _ rfl rfl t87).trans rfl) (hK undef _ jE rfl (fun _ _ _ h => h)))
                | (exact stepN (wanted_undef 23 true 87 rfl rfl t87) (hK undef _ jE rfl (fun _ _ _ h => h)))
                | (refine stepY ((wanted_of 23 true 87 _ rfl rfl t87).trans rfl) ?_
                   have e1 := unhide Hp90
                   go_simp
                   exact hK _ _ jE rfl (fun _ _ _ h => h))
            · refine stepL_plain rfl ?_
              rintro F a w1 jE ⟨h23, t87, h26, t90, -⟩ - K hK
              have h23 : (F 23) = .bool p86 := h23
              rw [h23] at t87
              clear h23
              have h26 : (F 26) = (if (p86) = true then .bool p90 else undef) := h26
              rw [h26] at t90
              clear h26
              cases p86 <;> cases p90
              all_goals
                obtain rfl := unhide Hp91
                go_simp
                exact hK _ _ jE rfl (fun _ _ _ h => h)
            · refine stepL_plain rfl ?_
              rintro F a w1 jE ⟨h27, t91, -⟩ - K hK
              have h27 : (F 27) = .bool p91 := h27
              rw [h27] at t91
              clear h27
              go_simp
              exact hK _ _ jE rfl (fun _ _ _ h => h)
            · refine stepL_of ?_
              rintro F a w1 jE ⟨h28, t92, -⟩ ⟨t1, -⟩ K hK
              have h28 : (F 28) = .bool p91 := h28
              rw [h28] at t92
              clear h28
              have t1 : a.tmps[1]? = some (.pointer (some ⟨g, 0, none⟩)) := t1
              cases p91
              all_goals first
                | (exact stepN ((wanted_of 28 true 92 _ rfl rfl t92).trans rfl) (hK undef _ jE rfl (fun _ _ _ h => h)))
                | (exact stepN (wanted_undef 28 true 92 rfl rfl t92) (hK undef _ jE rfl (fun _ _ _ h => h)))
                | (refine stepY ((wanted_of 28 true 92 _ rfl rfl t92).trans rfl) ?_
                   go_simp
                   exact hK _ _ jE rfl (fun _ _ _ h => h))
            · refine stepL_of ?_
              rintro F a w1 jE ⟨h29, t93, h28, t92, -⟩ - K hK
              have h29 : (F 29) = (if (p91) = true then .pointer (some ⟨g, 36, none⟩) else undef) := h29
              rw [h29] at t93
              clear h29
              have h28 : (F 28) = .bool p91 := h28
              rw [h28] at t92
              clear h28
              cases p91
              all_goals first
                | (exact stepN ((wanted_of 28 true 92 _ rfl rfl t92).trans rfl) (hK undef _ jE rfl (fun _ _ _ h => h)))
                | (exact stepN (wanted_undef 28 true 92 rfl rfl t92) (hK undef _ jE rfl (fun _ _ _ h => h)))
                | (refine stepY ((wanted_of 28 true 92 _ rfl rfl t92).trans rfl) ?_
                   have c := (jE.blk Bs (by simp)).cell
                   go_simp
                   exact hK _ _ jE rfl (fun _ _ _ h => h))
            · refine stepL_of ?_
              rintro F a w1 jE ⟨h30, t94, h28, t92, -⟩ - K hK
              have h30 : (F 30) = (if (p91) = true then .int .u8 s.items else undef) := h30
              rw [h30] at t94
              clear h30
              have h28 : (F 28) = .bool p91 := h28
              rw [h28] at t92
              clear h28
              cases p91
              all_goals first
                | (exact stepN ((wanted_of 28 true 92 _ rfl rfl t92).trans rfl) (hK undef _ jE rfl (fun _ _ _ h => h)))
                | (exact stepN (wanted_undef 28 true 92 rfl rfl t92) (hK undef _ jE rfl (fun _ _ _ h => h)))
                | (refine stepY ((wanted_of 28 true 92 _ rfl rfl t92).trans rfl) ?_
                   have e1 := unhide Hp95
                   go_simp
                   exact hK _ _ jE rfl (fun _ _ _ h => h))
            · refine stepL_plain rfl ?_
              rintro F a w1 jE ⟨h28, t92, h31, t95, -⟩ - K hK
              have h28 : (F 28) = .bool p91 := h28
              rw [h28] at t92
              clear h28
              have h31 : (F 31) = (if (p91) = true then .bool p95 else undef) := h31
              rw [h31] at t95
              clear h31
              cases p91 <;> cases p95
              all_goals
                obtain rfl := unhide Hp96
                go_simp
                exact hK _ _ jE rfl (fun _ _ _ h => h)
            · refine stepL_plain rfl ?_
              rintro F a w1 jE ⟨h32, t96, -⟩ - K hK
              have h32 : (F 32) = .bool p96 := h32
              rw [h32] at t96
              clear h32
              go_simp
              exact hK _ _ jE rfl (fun _ _ _ h => h)
            · refine stepL_of ?_
              rintro F a w1 jE ⟨h33, t97, -⟩ ⟨t1, -⟩ K hK
              have h33 : (F 33) = .bool p96 := h33
              rw [h33] at t97
              clear h33
              have t1 : a.tmps[1]? = some (.pointer (some ⟨g, 0, none⟩)) := t1
              cases p96
              all_goals first
                | (exact stepN ((wanted_of 33 true 97 _ rfl rfl t97).trans rfl) (hK undef _ jE rfl (fun _ _ _ h => h)))
                | (exact stepN (wanted_undef 33 true 97 rfl rfl t97) (hK undef _ jE rfl (fun _ _ _ h => h)))
                | (refine stepY ((wanted_of 33 true 97 _ rfl rfl t97).trans rfl) ?_
                   go_simp
                   exact hK _ _ jE rfl (fun _ _ _ h => h))
            · refine stepL_of ?_
              rintro F a w1 jE ⟨h34, t98, h33, t97, -⟩ - K hK
              have h34 : (F 34) = (if (p96) = true then .pointer (some ⟨g, 33, none⟩) else undef) := h34
              rw [h34] at t98
              clear h34
              have h33 : (F 33) = .bool p96 := h33
              rw [h33] at t97
              clear h33
              cases p96
              all_goals first
                | (exact stepN ((wanted_of 33 true 97 _ rfl rfl t97).trans rfl) (hK undef _ jE rfl (fun _ _ _ h => h)))
                | (exact stepN (wanted_undef 33 true 97 rfl rfl t97) (hK undef _ jE rfl (fun _ _ _ h => h)))
                | (refine stepY ((wanted_of 33 true 97 _ rfl rfl t97).trans rfl) ?_
                   have c := (jE.blk Bs (by simp)).cell
                   go_simp
                   exact hK _ _ jE rfl (fun _ _ _ h => h))
            · refine stepL_of ?_
              rintro F a w1 jE ⟨h35, t99, h33, t97, -⟩ - K hK
              have h35 : (F 35) = (if (p96) = true then .int .i64 s.line else undef) := h35
              rw [h35] at t99
              clear h35
              have h33 : (F 33) = .bool p96 := h33
              rw [h33] at t97
              clear h33
              cases p96
              all_goals first
                | (exact stepN ((wanted_of 33 true 97 _ rfl rfl t97).trans rfl) (hK undef _ jE rfl (fun _ _ _ h => h)))
                | (exact stepN (wanted_undef 33 true 97 rfl rfl t97) (hK undef _ jE rfl (fun _ _ _ h => h)))
                | (refine stepY ((wanted_of 33 true 97 _ rfl rfl t97).trans rfl) ?_
                   have e1 := unhide Hp100
                   go_simp
                   exact hK _ _ jE rfl (fun _ _ _ h => h))
            · refine stepL_plain rfl ?_
              rintro F a w1 jE ⟨h33, t97, h36, t100, -⟩ - K hK
              have h33 : (F 33) = .bool p96 := h33
              rw [h33] at t97
              clear h33
              have h36 : (F 36) = (if (p96) = true then .bool p100 else undef) := h36
              rw [h36] at t100
              clear h36
              cases p100 <;> cases p96
              all_goals
                obtain rfl := unhide Hp101
                go_simp
                exact hK _ _ jE rfl (fun _ _ _ h => h)
            · refine stepL_plain rfl ?_
              rintro F a w1 jE ⟨h37, t101, -⟩ - K hK
              have h37 : (F 37) = .bool p101 := h37
              rw [h37] at t101
              clear h37
              go_simp
              exact hK _ _ jE rfl (fun _ _ _ h => h)
            · refine stepL_of ?_
              rintro F a w1 jE ⟨h38, t102, -⟩ ⟨t1, -⟩ K hK
              have h38 : (F 38) = .bool p101 := h38
              rw [h38] at t102
              clear h38
              have t1 : a.tmps[1]? = some (.pointer (some ⟨g, 0, none⟩)) := t1
              cases p101
              all_goals first
                | (exact stepN ((wanted_of 38 true 102 _ rfl rfl t102).trans rfl) (hK undef _ jE rfl (fun _ _ _ h => h)))
                | (exact stepN (wanted_undef 38 true 102 rfl rfl t102) (hK undef _ jE rfl (fun _ _ _ h => h)))
                | (refine stepY ((wanted_of 38 true 102 _ rfl rfl t102).trans rfl) ?_
                   go_simp
                   exact hK _ _ jE rfl (fun _ _ _ h => h))
            · refine stepL_of ?_
              rintro F a w1 jE ⟨h39, t103, h38, t102, -⟩ - K hK
              have h39 : (F 39) = (if (p101) = true then .pointer (some ⟨g, 37, none⟩) else undef) := h39
              rw [h39] at t103
              clear h39
              have h38 : (F 38) = .bool p101 := h38
              rw [h38] at t102
              clear h38
              cases p101
              all_goals first
                | (exact stepN ((wanted_of 38 true 102 _ rfl rfl t102).trans rfl) (hK undef _ jE rfl (fun _ _ _ h => h)))
                | (exact stepN (wanted_undef 38 true 102 rfl rfl t102) (hK undef _ jE rfl (fun _ _ _ h => h)))
                | (refine stepY ((wanted_of 38 true 102 _ rfl rfl t102).trans rfl) ?_
                   have c := (jE.blk Bs (by simp)).cell
                   go_simp
                   exact hK _ _ jE rfl (fun _ _ _ h => h))
            · refine stepL_of ?_
              rintro F a w1 jE ⟨h40, t104, h38, t102, -⟩ - K hK
              have h40 : (F 40) = (if (p101) = true then .int .i64 s.order else undef) := h40
              rw [h40] at t104
              clear h40
              have h38 : (F 38) = .bool p101 := h38
              rw [h38] at t102
              clear h38
              cases p101
              all_goals first
                | (exact stepN ((wanted_of 38 true 102 _ rfl rfl t102).trans rfl) (hK undef _ jE rfl (fun _ _ _ h => h)))
                | (exact stepN (wanted_undef 38 true 102 rfl rfl t102) (hK undef _ jE rfl (fun _ _ _ h => h)))
                | (refine stepY ((wanted_of 38 true 102 _ rfl rfl t102).trans rfl) ?_
                   have e1 := unhide Hp105
                   go_simp
                   exact hK _ _ jE rfl (fun _ _ _ h => h))
            · refine stepL_plain rfl ?_
              rintro F a w1 jE ⟨h38, t102, h41, t105, -⟩ - K hK
              have h38 : (F 38) = .bool p101 := h38
              rw [h38] at t102
              clear h38
              have h41 : (F 41) = (if (p101) = true then .bool p105 else undef) := h41
              rw [h41] at t105
              clear h41
              cases p101 <;> cases p105
              all_goals
                obtain rfl := unhide Hp106
                go_simp
                exact hK _ _ jE rfl (fun _ _ _ h => h)
            · refine stepL_plain rfl ?_
              rintro F a w1 jE ⟨h42, t106, -⟩ - K hK
              have h42 : (F 42) = .bool p106 := h42
              rw [h42] at t106
              clear h42
              go_simp
              exact hK _ _ jE rfl (fun _ _ _ h => h)
            · refine stepL_of ?_
              rintro F a w1 jE ⟨h43, t107, -⟩ ⟨t1, -⟩ K hK
              have h43 : (F 43) = .bool p106 := h43
              rw [h43] at t107
              clear h43
              have t1 : a.tmps[1]? = some (.pointer (some ⟨g, 0, none⟩)) := t1
              cases p106
              all_goals first
                | (exact stepN ((wanted_of 43 true 107 _ rfl rfl t107).trans rfl) (hK undef _ jE rfl (fun _ _ _ h => h)))
                | (exact stepN (wanted_undef 43 true 107 rfl rfl t107) (hK undef _ jE rfl (fun _ _ _ h => h)))
                | (refine stepY ((wanted_of 43 true 107 _ rfl rfl t107).trans rfl) ?_
                   go_simp
                   exact hK _ _ jE rfl (fun _ _ _ h => h))
            · refine stepL_of ?_
              rintro F a w1 jE ⟨h44, t108, h43, t107, -⟩ - K hK
              have h44 : (F 44) = (if (p106) = true then .pointer (some ⟨g, 38, none⟩) else undef) := h44
              rw [h44] at t108
              clear h44
              have h43 : (F 43) = .bool p106 := h43
              rw [h43] at t107
              clear h43
              cases p106
              all_goals first
                | (exact stepN ((wanted_of 43 true 107 _ rfl rfl t107).trans rfl) (hK undef _ jE rfl (fun _ _ _ h => h)))
                | (exact stepN (wanted_undef 43 true 107 rfl rfl t107) (hK undef _ jE rfl (fun _ _ _ h => h)))
                | (refine stepY ((wanted_of 43 true 107 _ rfl rfl t107).trans rfl) ?_
                   have c := (jE.blk Bs (by simp)).cell
                   go_simp
                   exact hK _ _ jE rfl (fun _ _ _ h => h))
            · refine stepL_of ?_
              rintro F a w1 jE ⟨h45, t109, h43, t107, -⟩ - K hK
              have h45 : (F 45) = (if (p106) = true then .int .i64 s.grow else undef) := h45
              rw [h45] at t109
              clear h45
              have h43 : (F 43) = .bool p106 := h43
              rw [h43] at t107
              clear h43
              cases p106
              all_goals first
                | (exact stepN ((wanted_of 43 true 107 _ rfl rfl t107).trans rfl) (hK undef _ jE rfl (fun _ _ _ h => h)))
                | (exact stepN (wanted_undef 43 true 107 rfl rfl t107) (hK undef _ jE rfl (fun _ _ _ h => h)))
                | (refine stepY ((wanted_of 43 true 107 _ rfl rfl t107).trans rfl) ?_
                   have e1 := unhide Hp110
                   go_simp
                   exact hK _ _ jE rfl (fun _ _ _ h => h))
            · refine stepL_plain rfl ?_
              rintro F a w1 jE ⟨h43, t107, h46, t110, -⟩ - K hK
              have h43 : (F 43) = .bool p106 := h43
              rw [h43] at t107
              clear h43
              have h46 : (F 46) = (if (p106) = true then .bool p110 else undef) := h46
              rw [h46] at t110
              clear h46
              cases p106 <;> cases p110
              all_goals
                obtain rfl := unhide Hp111
                go_simp
                exact hK _ _ jE rfl (fun _ _ _ h => h)
            · refine stepL_plain rfl ?_
              rintro F a w1 jE ⟨h47, t111, -⟩ - K hK
              have h47 : (F 47) = .bool p111 := h47
              rw [h47] at t111
              clear h47
              go_simp
              exact hK _ _ jE rfl (fun _ _ _ h => h)
            · refine stepL_of ?_
              rintro F a w1 jE ⟨h48, t112, -⟩ ⟨t1, -⟩ K hK
              have h48 : (F 48) = .bool p111 := h48
              rw [h48] at t112
              clear h48
              have t1 : a.tmps[1]? = some (.pointer (some ⟨g, 0, none⟩)) := t1
              cases p111
              all_goals first
                | (exact stepN ((wanted_of 48 true 112 _ rfl rfl t112).trans rfl) (hK undef _ jE rfl (fun _ _ _ h => h)))
                | (exact stepN (wanted_undef 48 true 112 rfl rfl t112) (hK undef _ jE rfl (fun _ _ _ h => h)))
                | (refine stepY ((wanted_of 48 true 112 _ rfl rfl t112).trans rfl) ?_
                   go_simp
                   exact hK _ _ jE rfl (fun _ _ _ h => h))
            · refine stepL_of ?_
              rintro F a w1 jE ⟨h49, t113, h48, t112, -⟩ - K hK
              have h49 : (F 49) = (if (p111) = true then .pointer (some ⟨g, 39, none⟩) else undef) := h49
              rw [h49] at t113
              clear h49
              have h48 : (F 48) = .bool p111 := h48
              rw [h48] at t112
              clear h48
              cases p111
              all_goals first
                | (exact stepN ((wanted_of 48 true 112 _ rfl rfl t112).trans rfl) (hK undef _ jE rfl (fun _ _ _ h => h)))
                | (exact stepN (wanted_undef 48 true 112 rfl rfl t112) (hK undef _ jE rfl (fun _ _ _ h => h)))
                | (refine stepY ((wanted_of 48 true 112 _ rfl rfl t112).trans rfl) ?_
                   have c := (jE.blk Bs (by simp)).cell
                   go_simp
                   exact hK _ _ jE rfl (fun _ _ _ h => h))
            · refine stepL_of ?_
              rintro F a w1 jE ⟨h50, t114, h48, t112, -⟩ - K hK
              have h50 : (F 50) = (if (p111) = true then .int .i64 s.shrink else undef) := h50
              rw [h50] at t114
              clear h50
              have h48 : (F 48) = .bool p111 := h48
              rw [h48] at t112
              clear h48
              cases p111
              all_goals first
                | (exact stepN ((wanted_of 48 true 112 _ rfl rfl t112).trans rfl) (hK undef _ jE rfl (fun _ _ _ h => h)))
                | (exact stepN (wanted_undef 48 true 112 rfl rfl t112) (hK undef _ jE rfl (fun _ _ _ h => h)))
                | (refine stepY ((wanted_of 48 true 112 _ rfl rfl t112).trans rfl) ?_
                   have e1 := unhide Hp115
                   go_simp
                   exact hK _ _ jE rfl (fun _ _ _ h => h))
            · refine stepL_plain rfl ?_
              rintro F a w1 jE ⟨h48, t112, h51, t115, -⟩ - K hK
              have h48 : (F 48) = .bool p111 := h48
              rw [h48] at t112
              clear h48
              have h51 : (F 51) = (if (p111) = true then .bool p115 else undef) := h51
              rw [h51] at t115
              clear h51
              cases p111 <;> cases p115
              all_goals
                obtain rfl := unhide Hp116
                go_simp
                exact hK _ _ jE rfl (fun _ _ _ h => h)
            · refine stepL_plain rfl ?_
              rintro F a w1 jE ⟨h52, t116, -⟩ - K hK
              have h52 : (F 52) = .bool p116 := h52
              rw [h52] at t116
              clear h52
              go_simp
              exact hK _ _ jE rfl (fun _ _ _ h => h)
          · rintro F wz jE ⟨h53, -⟩
            have h53 : (F 53) = .bool p116 := h53
            have hx := jE.ext (Ext.refl _) (by simp)
            replace E1 := E1.trans hx
            clear jE hx Bs
            simp only [putL, Act.put, Nat.reduceAdd, Nat.zero_add, List.setIfInBounds_toArray, List.set_cons_succ, List.set_cons_zero]
            rw [h53]
            clear h53
            go_wp2_with fail
            go_ret
            exact ⟨ret1b (by rw [emptyV, unhide HM, unhide HL, flags0, unhide HF]; rfl), E1⟩

/-- may a style be? -/
def rightV (s : Sty) : Bool := if s.kind = 1 ∨ s.kind = 2 then boxV s else if s.kind = 3 then emptyV s && decide (s.ul ≤ 65536) else false
set_option maxRecDepth 100000 in
set_option maxHeartbeats 8000000 in
theorem rright_any (s : Sty) (w : World) : Calls Try.prog 73 #[.agg s.cells] w fun e w' => e = .returned (.bool (rightV s)) ∧ Ext w w' := by
  have B0 : Blk (w.alloc (.cells s.cells 45)) w.heap.size 45 s.cells := Blk.new _ _ _
  have E0 : Ext w (w.alloc (.cells s.cells 45)) := (Ext.refl _).alloc _
  have HB := hide (fun h : s.kind = 1 ∨ s.kind = 2 => (show boxV s = rightV s by rw [rightV, if_pos h]))
  have HT := hide (fun h : s.kind = 3 => (show (emptyV s && decide (s.ul ≤ 65536)) = rightV s by rw [rightV, if_neg (by omega), if_pos h]))
  have HF := hide (fun (h1 : s.kind ≠ 1) (h2 : s.kind ≠ 2) (h3 : s.kind ≠ 3) => (show false = rightV s by rw [rightV, if_neg (by omega), if_neg h3]))
  have c0 : ∀ i : Nat, (w.alloc (.cells s.cells 45)).cell? ⟨w.heap.size, i, none⟩ = s.cells[i]? := B0.cell
  have hk0 : (w.alloc (.cells s.cells 45)).cell? ⟨w.heap.size, 0, none⟩ = some (.int .u8 s.kind) := c0 0
  have hul : (w.alloc (.cells s.cells 45)).cell? ⟨w.heap.size, 42, none⟩ = some (.slice s.ua s.ul s.uc) := c0 42
  have cb := fun w => hide (rbox_any s w)
  have ce := fun w => hide (rempty_any s w)
  clear c0
  by_cases k1 : s.kind = 1
  · have HV := hide (unhide HB (.inl k1))
    have e1 : (s.kind == 1) = true := by simpa using k1
    clear k1
    go_enter Try.func73, Try.ntmps73
    go_upto_region 4 with fail
    go_step
    refine wpList_load_blk rfl 45 _ rfl w.heap.size rfl 45 s.cells _ B0 Try.underlying45 rfl (info_style s) ?_
    simp only [Act.put, List.setIfInBounds_toArray, List.set_cons_succ, List.set_cons_zero]
    go_wp2_with fail
    refine (unhide (cb _)).mono ?_
    rintro e w1 ⟨rfl, hx⟩
    go_wp2_with fail
    go_ret
    exact ⟨ret1b (unhide HV), E0.trans hx⟩
  have e1 : (s.kind == 1) = false := by simpa using k1
  by_cases k2 : s.kind = 2
  · have HV := hide (unhide HB (.inr k2))
    have e2 : (s.kind == 2) = true := by simpa using k2
    clear k1 k2
    go_enter Try.func73, Try.ntmps73
    go_upto_region 4 with fail
    go_step
    refine wpList_load_blk rfl 45 _ rfl w.heap.size rfl 45 s.cells _ B0 Try.underlying45 rfl (info_style s) ?_
    simp only [Act.put, List.setIfInBounds_toArray, List.set_cons_succ, List.set_cons_zero]
    go_wp2_with fail
    refine (unhide (cb _)).mono ?_
    rintro e w1 ⟨rfl, hx⟩
    go_wp2_with fail
    go_ret
    exact ⟨ret1b (unhide HV), E0.trans hx⟩
  have e2 : (s.kind == 2) = false := by simpa using k2
  by_cases k3 : s.kind = 3
  · have HV := hide (unhide HT k3)
    have e3 : (s.kind == 3) = true := by simpa using k3
    clear k1 k2 k3
    go_enter Try.func73, Try.ntmps73
    go_upto_region 6 with fail
    go_step
    refine wpList_load_blk rfl 45 _ rfl w.heap.size rfl 45 s.cells _ B0 Try.underlying45 rfl (info_style s) ?_
    simp only [Act.put, List.setIfInBounds_toArray, List.set_cons_succ, List.set_cons_zero]
    go_wp2_with fail
    refine (unhide (ce _)).mono ?_
    rintro e w1 ⟨rfl, hx⟩
    have hul' := (hx.cells.1 w.heap.size 42 (by simp)).trans hul
    have hz := hx.size
    simp only [World.size_alloc] at hz
    generalize emptyV s = em at *
    cases em
    · go_wp2_with fail
      go_ret
      exact ⟨ret1b (by rw [← unhide HV]; rfl), E0.trans hx⟩
    · go_wp2_with fail
      go_ret
      exact ⟨ret1b (by rw [← unhide HV, Bool.true_and]; exact decide_eq_decide.2 (by omega)), E0.trans hx⟩
  · have e3 : (s.kind == 3) = false := by simpa using k3
    have HV := hide (unhide HF k1 k2 k3)
    go_enter Try.func73, Try.ntmps73
    go_wp2_with fail
    go_ret
    exact ⟨ret1b (unhide HV), E0⟩
end Go.Proofs.Ytnolbmfjgfojhaa
