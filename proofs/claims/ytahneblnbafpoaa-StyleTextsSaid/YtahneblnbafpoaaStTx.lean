/- Styles: the law on texts (walk). -/
import Derived.Test.YtahneblnbafpoaaStAu
import Derived.Deep.DeepCutAuto
namespace Go.Proofs.Ytahneblnbafpoaa
open Go.RowKit
def zeros : Array Value := Array.replicate 65537 (.int .u16 0)
theorem make_n {P : Program} (t e : TypeId) (i : TypeInfo) (z : Value) (ht : P.underlying t = some (.slice e)) (hi : P.info? e = some i) (hz : i.zero = some z) (hs : i.size = 1) (hz1 : z.cells = #[z])
    (n : Nat) (hbytes : i.bytes * n ≤ 281474976710656) (h63 : n ≤ 9223372036854775807) (w : World) :
    (Instr.makeSlice t (.int .i64 (n : Int)) (.int .i64 (n : Int))).run P w = .ok (.slice (some ⟨w.heap.size, 0, none⟩) n n) (w.alloc (.cells (Array.replicate n z) e)) := by
  have hb : (i.bytes : Int) * (n : Int) ≤ 281474976710656 := by
    have h : ((i.bytes * n : Nat) : Int) ≤ 281474976710656 := by omega
    rwa [Int.natCast_mul] at h
  have hr := run_make (P := P) w t e i z ht hi hz .i64 .i64 (n : Int) (n : Int) (by omega) (by omega) hb (by omega)
  simp only [Int.toNat_natCast] at hr
  rw [hr, hs, Nat.mul_one, hz1]
  have : madeCells #[z] n = Array.replicate n z := by
    apply Array.toList_inj.1
    rw [toList_madeCells_one, Array.toList_replicate]
  rw [this]
theorem make_long (w : World) : (Instr.makeSlice 26 (.int .i64 65537) (.int .i64 65537)).run Try.prog w = .ok (.slice (some ⟨w.heap.size, 0, none⟩) 65537 65537) (w.alloc (.cells zeros 36)) := by
  obtain ⟨i0, hi0, hz0, hz1, hz2⟩ := info_parts info_u16
  exact make_n 26 36 i0 _ Try.underlying26 hi0 hz0 hz1 rfl 65537 (by rw [hz2]; omega) (by omega) w
theorem long_text (A : Option Addr) (n c : Nat) (h : 65536 < n) : prightV (stk 3 ⟨0, 0⟩ A n c) = false := by
  have : ¬ n ≤ 65536 := by omega
  rw [right_eq]; simp [rightV, this]
/-- a text that says something else -/
theorem text_more (s : Sty) (h : s.kind = 3) (he : emptyV s = false) : prightV s = false := by
  rw [right_eq, rightV, if_neg (by omega), if_pos h, he]; rfl
def setB (s : Sty) (k : Nat) (x : Int) : Sty := match k with | 0 => { s with b0 := x } | 1 => { s with b1 := x } | 2 => { s with b2 := x } | _ => { s with b3 := x }
def setP (s : Sty) (k : Nat) (x : Int) : Sty := match k with | 0 => { s with p0 := x } | 1 => { s with p1 := x } | 2 => { s with p2 := x } | _ => { s with p3 := x }
section
variable {w : World} {g : Nat} {s : Sty} {k : Nat}
theorem setB_blk (B : Blk w g 28 s.cells) (hk : k < 4) (x : Int) : Blk (w.setCell ⟨g, 24 + k, none⟩ (.int .i64 x)) g 28 (setB s k x).cells := by
  have h := B.set_ (24 + k) (.int .i64 x)
  rcases nat4' hk with rfl | rfl | rfl | rfl <;> exact h
theorem setP_blk (B : Blk w g 28 s.cells) (hk : k < 4) (x : Int) : Blk (w.setCell ⟨g, 28 + k, none⟩ (.int .i64 x)) g 28 (setP s k x).cells := by
  have h := B.set_ (28 + k) (.int .i64 x)
  rcases nat4' hk with rfl | rfl | rfl | rfl <;> exact h
theorem cell_b (s : Sty) (hk : k < 4) : s.cells[24 + k]? = some (.int .i64 (bdN s k)) := by rcases nat4' hk with rfl | rfl | rfl | rfl <;> rfl
theorem cell_p (s : Sty) (hk : k < 4) : s.cells[28 + k]? = some (.int .i64 (pdN s k)) := by rcases nat4' hk with rfl | rfl | rfl | rfl <;> rfl
end
theorem more_b (A : Option Addr) (n c : Nat) {k : Nat} (hk : k < 4) : prightV (setB (stk 3 ⟨0, 0⟩ A n c) k 1) = false := by
  refine text_more _ (by unfold setB; split <;> rfl) ?_
  rcases nat4' hk with rfl | rfl | rfl | rfl <;> simp [emptyV, mgV_all, wdV_all, hgV_all, zbV_all, zlV_all, mgOk, hgOk, zbOk, mgL, hgL, bdN, pdN, setB]
theorem more_p (A : Option Addr) (n c : Nat) {k : Nat} (hk : k < 4) : prightV (setP (stk 3 ⟨0, 0⟩ A n c) k 1) = false := by
  refine text_more _ (by unfold setP; split <;> rfl) ?_
  rcases nat4' hk with rfl | rfl | rfl | rfl <;> simp [emptyV, mgV_all, wdV_all, hgV_all, zbV_all, zlV_all, mgOk, hgOk, zbOk, mgL, hgL, bdN, pdN, setP]
theorem more_l (A : Option Addr) (n c : Nat) {k : Nat} (hk : k < 11) : prightV (setL (stk 3 ⟨0, 0⟩ A n c) k ⟨1, 0⟩) = false := by
  refine text_more _ (by unfold setL; split <;> rfl) ?_
  rcases nat11 hk with rfl | rfl | rfl | rfl | rfl | rfl | rfl | rfl | rfl | rfl | rfl <;> simp [emptyV, mgV_all, wdV_all, hgV_all, zbV_all, zlV_all, mgOk, hgOk, zbOk, mgL, hgL, bdN, pdN, setL, zlOk]
theorem more_0 (A : Option Addr) (n c : Nat) : prightV { stk 3 ⟨0, 0⟩ A n c with flow := true } = false := text_more _ rfl (by simp [emptyV, flags0])
theorem more_1 (A : Option Addr) (n c : Nat) : prightV { stk 3 ⟨0, 0⟩ A n c with float := 1 } = false := text_more _ rfl (by simp [emptyV, flags0])
theorem more_2 (A : Option Addr) (n c : Nat) : prightV { stk 3 ⟨0, 0⟩ A n c with clear := 3 } = false := text_more _ rfl (by simp [emptyV, flags0])
theorem more_3 (A : Option Addr) (n c : Nat) : prightV { stk 3 ⟨0, 0⟩ A n c with align := 1 } = false := text_more _ rfl (by simp [emptyV, flags0])
theorem more_4 (A : Option Addr) (n c : Nat) : prightV { stk 3 ⟨0, 0⟩ A n c with line := 1 } = false := text_more _ rfl (by simp [emptyV, flags0])
theorem more_5 (A : Option Addr) (n c : Nat) : prightV { stk 3 ⟨0, 0⟩ A n c with wrap := true } = false := text_more _ rfl (by simp [emptyV, flags0])
theorem more_6 (A : Option Addr) (n c : Nat) : prightV { stk 3 ⟨0, 0⟩ A n c with justify := 1 } = false := text_more _ rfl (by simp [emptyV, flags0])
theorem more_7 (A : Option Addr) (n c : Nat) : prightV { stk 3 ⟨0, 0⟩ A n c with items := 1 } = false := text_more _ rfl (by simp [emptyV, flags0])
theorem more_8 (A : Option Addr) (n c : Nat) : prightV { stk 3 ⟨0, 0⟩ A n c with order := (-1) } = false := text_more _ rfl (by simp [emptyV, flags0])
theorem more_9 (A : Option Addr) (n c : Nat) : prightV { stk 3 ⟨0, 0⟩ A n c with grow := 1 } = false := text_more _ rfl (by simp [emptyV, flags0])
theorem more_10 (A : Option Addr) (n c : Nat) : prightV { stk 3 ⟨0, 0⟩ A n c with shrink := 1 } = false := text_more _ rfl (by simp [emptyV, flags0])
set_option maxRecDepth 100000 in
set_option maxHeartbeats 16000000 in
theorem law_texts (A : Option Addr) (n c : Nat) (us : List Int) (q p : Nat) (hq : q ≤ 255) (hp : p ≤ 255) (w : World) (hR : Rd w 1 A n (u16s us)) :
    Calls Try.prog 7 #[.slice A n c, .int .u8 q, .int .u8 p] w fun e w' => e = .returned (.bool true) ∧ Ext w w' := by
  by_cases hn : 65536 < n
  · have hnI : (65536 : Int) < (n : Int) := by omega
    have E1 : Ext w w := Ext.refl w
    go_enter Try.func7, Try.ntmps7
    go_wp2_with fail
    refine (works_any _).mono ?_
    rintro e w3 ⟨rfl, hx⟩
    go_wp2_with fail
    go_ret
    exact ⟨rfl, hx⟩
  have hnI : ¬ ((65536 : Int) < (n : Int)) := by omega
  have hm : n ≤ 65536 := by omega
  clear hn
  have hw1 : IntKind.u8.wrap (q : Int) = (q : Int) := IntWalk.u8_in _ (by omega)
  go_enter Try.func7, Try.ntmps7
  obtain ⟨i0, hi0, hz0, hz1, hz2⟩ := info_parts info_u16
  have HI := hide (And.intro hi0 (And.intro hz0 (And.intro hz1 hz2)))
  clear hi0 hz0 hz1 hz2
  have O4 : (w.alloc (.cells #[] 36)).ownsRow w.heap.size 36 1 (.slice (some ⟨w.heap.size, 0, none⟩) 0 0) 0 [] :=
    World.ownsRow_lit (base := w.heap.size) (e := 36) (size := 1) w #[] 0 (by omega) (by simp [maxLen]) rfl
  go_upto_region 4 with (first
    | (at_builtin
       refine wpList_append_rd rfl (.tmp 12) (.tmp 13) _ rfl w.heap.size 36 i0 _ 1 2 Try.underlying26 (unhide HI).1 (unhide HI).2.1 (unhide HI).2.2.1 (unhide HI).2.2.2 rfl (by omega) _ 0 [] rfl O4 _ n c (u16s us) rfl (hR.alloc _) (u16s_one us) (by simp only [maxLen]; omega) (by omega) (by simp) ?_
       intro A4 c4 w4 own4 g4 at4
       simp only [Nat.zero_add, List.nil_append] at own4 ⊢
       have E4 : Ext w w4 := Ext.grown ((Ext.refl w).alloc _) g4 (fun j e => by have := (O4.lt j e).1; omega)
       clear own4 g4 at4 O4 HI hR
       simp only [Act.put, List.setIfInBounds_toArray, List.set_cons_succ, List.set_cons_zero]
       refine wpList_buildTo rfl 28 _ rfl _ rfl (stk 3 ⟨0, 0⟩ A4 n c4).cells (by kernel_rfl) ?_
       simp only [Act.put, List.setIfInBounds_toArray, List.set_cons_succ, List.set_cons_zero]
       refine wpList_alloc_var rfl 28 rfl zst.cells zero_st ?_
       intro wa Ba Ea za
       simp only [Act.put, List.setIfInBounds_toArray, List.set_cons_succ, List.set_cons_zero]
       refine wpList_store_blk rfl 28 _ _ rfl w4.heap.size rfl (stk 3 ⟨0, 0⟩ A4 n c4).cells rfl 28 zst.cells Ba (info_style _) rfl (by kernel_rfl) ?_
       intro w3 B1 hgr zs
       simp only [Act.put]
       have E23 : Ext w4 w3 := Ext.grown Ea hgr (fun q e => by injection e with e; omega)
       have E1 := E4.trans E23
       have hg0 : w.heap.size ≤ w4.heap.size := E4.size))
  clear Ba Ea hgr E4 E23 zs za
  generalize w4.heap.size = g at *
  have cR := fun A n c (h : n ≤ 65536) w => hide (wk_r3 A n c h w)
  go_step
  refine wpList_load_blk rfl 28 _ rfl g rfl 28 (stk 3 ⟨0, 0⟩ A4 n c4).cells _ B1 Try.underlying28 rfl (info_style _) ?_
  simp only [Act.put, List.setIfInBounds_toArray, List.set_cons_succ, List.set_cons_zero]
  go_wp2_with fail
  refine (unhide (cR A4 n c4 hm _)).mono ?_
  rintro e w5 ⟨rfl, hx⟩
  replace B1 := B1.ext hx
  replace E1 := E1.trans hx
  clear hx
  obtain ⟨r, hr⟩ : ∃ r, q % 16 = r := ⟨_, rfl⟩
  have x1 : Int.tmod (q : Int) 16 = (r : Int) := by rw [Int.tmod_eq_emod_of_nonneg (by omega)]; omega
  have x2 : IntKind.u8.wrap (r : Int) = (r : Int) := IntWalk.u8_in _ (by omega)
  obtain ⟨z0, hz0⟩ : ∃ z, ((r : Int) == 0) = z := ⟨_, rfl⟩
  have hmk := make_long
  have cL := fun A c w => hide (pright_any (stk 3 ⟨0, 0⟩ A 65537 c) w)
  have hlong := fun A c => long_text A 65537 c (by decide)
  simp only [hlong] at cL
  clear hlong hr
  go_upto_if 21 with (fail)
  go_cut [7] (fun s7 wx => s7 = .pointer (some ⟨g, 0, none⟩) ∧ ∃ (A : Option Addr) (m d : Nat), Blk wx g 28 (stk 3 ⟨0, 0⟩ A m d).cells ∧ m ≤ 65536 ∧ Ext w wx)
  case first =>
    cases z0
    · go_wp2_with fail
      go_meet
      case rel => exact ⟨rfl, A4, n, c4, B1, hm, E1⟩
    · have d1 := B1.cell
      have l1 := B1.lt
      have f1 := B1.frozen
      go_upto_region 8 with fail
      replace E1 := (E1.set (p := ⟨g, 42, none⟩) hg0 (.slice (some ⟨w5.heap.size, 0, none⟩) 65537 65537)).alloc (.cells zeros 36)
      replace B1 := (B1.set_ 42 (.slice (some ⟨w5.heap.size, 0, none⟩) 65537 65537)).alloc (.cells zeros 36)
      clear d1 l1 f1
      generalize World.alloc _ (.cells zeros _) = w6 at *
      generalize w5.heap.size = gz at *
      replace B1 : Blk w6 g 28 (stk 3 ⟨0, 0⟩ (some ⟨gz, 0, none⟩) 65537 65537).cells := B1
      go_step
      refine wpList_load_blk rfl 28 _ rfl g rfl 28 (stk 3 ⟨0, 0⟩ (some ⟨gz, 0, none⟩) 65537 65537).cells _ B1 Try.underlying28 rfl (info_style _) ?_
      simp only [Act.put, List.setIfInBounds_toArray, List.set_cons_succ, List.set_cons_zero]
      go_wp2_with fail
      refine (unhide (cL (some ⟨gz, 0, none⟩) 65537 _)).mono ?_
      rintro e w7 ⟨rfl, hx⟩
      replace B1 := B1.ext hx
      replace E1 := E1.trans hx
      clear hx
      have d1 := B1.cell
      have l1 := B1.lt
      have f1 := B1.frozen
      go_upto_region 11 with fail
      replace E1 := E1.set (p := ⟨g, 42, none⟩) hg0 (.slice (some ⟨gz, 1, none⟩) 65536 65536)
      replace B1 := B1.set_ 42 (.slice (some ⟨gz, 1, none⟩) 65536 65536)
      clear d1 l1 f1
      generalize World.setCell _ _ _ = w8 at *
      replace B1 : Blk w8 g 28 (stk 3 ⟨0, 0⟩ (some ⟨gz, 1, none⟩) 65536 65536).cells := B1
      go_step
      refine wpList_load_blk rfl 28 _ rfl g rfl 28 (stk 3 ⟨0, 0⟩ (some ⟨gz, 1, none⟩) 65536 65536).cells _ B1 Try.underlying28 rfl (info_style _) ?_
      simp only [Act.put, List.setIfInBounds_toArray, List.set_cons_succ, List.set_cons_zero]
      go_wp2_with fail
      refine (unhide (cR (some ⟨gz, 1, none⟩) 65536 65536 (by decide) _)).mono ?_
      rintro e w9 ⟨rfl, hx⟩
      replace B1 := B1.ext hx
      replace E1 := E1.trans hx
      clear hx
      go_wp2_with fail
      go_meet
      case rel => exact ⟨rfl, some ⟨gz, 1, none⟩, 65536, 65536, B1, by decide, E1⟩
  case rest =>
    obtain ⟨rfl, A, m, d, B1, hm, E1⟩ := hcut
    clear x1 x2 hz0 hmk cL cR
    clear hw1
    obtain ⟨r, hr⟩ : ∃ r, p % 16 = r := ⟨_, rfl⟩
    obtain ⟨v, hv⟩ : ∃ v, p / 16 = v := ⟨_, rfl⟩
    have x1 : Int.tmod (p : Int) 16 = (r : Int) := by rw [Int.tmod_eq_emod_of_nonneg (by omega)]; omega
    have x2 : IntKind.u8.wrap (r : Int) = (r : Int) := IntWalk.u8_in _ (by omega)
    have hv15 : v ≤ 15 := by omega
    have hr15 : r ≤ 15 := by omega
    have d1 := B1.cell
    have l1 := B1.lt
    have f1 := B1.frozen
    have HV := hide hv
    have HRR := hide hr
    clear hr hv
    rcases Nat.lt_or_ge 0 r with h0 | h0
    rotate_left
    · obtain rfl : r = 0 := by omega
      have c9 := fun w => hide (pright_any ({ stk 3 ⟨0, 0⟩ A m d with flow := true } : Sty) w)
      rw [more_0] at c9
      go_upto_region 41 with fail
      replace E1 := E1.set (p := ⟨g, 1, none⟩) hg0 (.bool true)
      replace B1 := B1.set_ 1 (.bool true)
      clear d1 l1 f1 x1 x2
      generalize World.setCell _ _ _ = ws at *
      replace B1 : Blk ws g 28 ({ stk 3 ⟨0, 0⟩ A m d with flow := true } : Sty).cells := B1
      go_step
      refine wpList_load_blk rfl 28 _ rfl g rfl 28 ({ stk 3 ⟨0, 0⟩ A m d with flow := true } : Sty).cells _ B1 Try.underlying28 rfl (info_style _) ?_
      simp only [Act.put, List.setIfInBounds_toArray, List.set_cons_succ, List.set_cons_zero]
      go_wp2_with fail
      refine (unhide (c9 _)).mono ?_
      rintro e w20 ⟨rfl, hx⟩
      replace B1 := B1.ext hx
      replace E1 := E1.trans hx
      clear hx
      go_wp2_with fail
      refine (works_any _).mono ?_
      rintro e w99 ⟨rfl, hx⟩
      go_wp2_with fail
      go_ret
      exact ⟨rfl, E1.trans hx⟩
    rcases Nat.lt_or_ge 1 r with h1 | h1
    rotate_left
    · obtain rfl : r = 1 := by omega
      have c9 := fun w => hide (pright_any ({ stk 3 ⟨0, 0⟩ A m d with float := 1 } : Sty) w)
      rw [more_1] at c9
      go_upto_region 41 with fail
      replace E1 := E1.set (p := ⟨g, 2, none⟩) hg0 (.int .u8 1)
      replace B1 := B1.set_ 2 (.int .u8 1)
      clear d1 l1 f1 x1 x2
      generalize World.setCell _ _ _ = ws at *
      replace B1 : Blk ws g 28 ({ stk 3 ⟨0, 0⟩ A m d with float := 1 } : Sty).cells := B1
      go_step
      refine wpList_load_blk rfl 28 _ rfl g rfl 28 ({ stk 3 ⟨0, 0⟩ A m d with float := 1 } : Sty).cells _ B1 Try.underlying28 rfl (info_style _) ?_
      simp only [Act.put, List.setIfInBounds_toArray, List.set_cons_succ, List.set_cons_zero]
      go_wp2_with fail
      refine (unhide (c9 _)).mono ?_
      rintro e w20 ⟨rfl, hx⟩
      replace B1 := B1.ext hx
      replace E1 := E1.trans hx
      clear hx
      go_wp2_with fail
      refine (works_any _).mono ?_
      rintro e w99 ⟨rfl, hx⟩
      go_wp2_with fail
      go_ret
      exact ⟨rfl, E1.trans hx⟩
    rcases Nat.lt_or_ge 2 r with h2 | h2
    rotate_left
    · obtain rfl : r = 2 := by omega
      have c9 := fun w => hide (pright_any ({ stk 3 ⟨0, 0⟩ A m d with clear := 3 } : Sty) w)
      rw [more_2] at c9
      go_upto_region 41 with fail
      replace E1 := E1.set (p := ⟨g, 3, none⟩) hg0 (.int .u8 3)
      replace B1 := B1.set_ 3 (.int .u8 3)
      clear d1 l1 f1 x1 x2
      generalize World.setCell _ _ _ = ws at *
      replace B1 : Blk ws g 28 ({ stk 3 ⟨0, 0⟩ A m d with clear := 3 } : Sty).cells := B1
      go_step
      refine wpList_load_blk rfl 28 _ rfl g rfl 28 ({ stk 3 ⟨0, 0⟩ A m d with clear := 3 } : Sty).cells _ B1 Try.underlying28 rfl (info_style _) ?_
      simp only [Act.put, List.setIfInBounds_toArray, List.set_cons_succ, List.set_cons_zero]
      go_wp2_with fail
      refine (unhide (c9 _)).mono ?_
      rintro e w20 ⟨rfl, hx⟩
      replace B1 := B1.ext hx
      replace E1 := E1.trans hx
      clear hx
      go_wp2_with fail
      refine (works_any _).mono ?_
      rintro e w99 ⟨rfl, hx⟩
      go_wp2_with fail
      go_ret
      exact ⟨rfl, E1.trans hx⟩
    rcases Nat.lt_or_ge 3 r with h3 | h3
    rotate_left
    · obtain rfl : r = 3 := by omega
      have c9 := fun w => hide (pright_any ({ stk 3 ⟨0, 0⟩ A m d with align := 1 } : Sty) w)
      rw [more_3] at c9
      go_upto_region 41 with fail
      replace E1 := E1.set (p := ⟨g, 32, none⟩) hg0 (.int .u8 1)
      replace B1 := B1.set_ 32 (.int .u8 1)
      clear d1 l1 f1 x1 x2
      generalize World.setCell _ _ _ = ws at *
      replace B1 : Blk ws g 28 ({ stk 3 ⟨0, 0⟩ A m d with align := 1 } : Sty).cells := B1
      go_step
      refine wpList_load_blk rfl 28 _ rfl g rfl 28 ({ stk 3 ⟨0, 0⟩ A m d with align := 1 } : Sty).cells _ B1 Try.underlying28 rfl (info_style _) ?_
      simp only [Act.put, List.setIfInBounds_toArray, List.set_cons_succ, List.set_cons_zero]
      go_wp2_with fail
      refine (unhide (c9 _)).mono ?_
      rintro e w20 ⟨rfl, hx⟩
      replace B1 := B1.ext hx
      replace E1 := E1.trans hx
      clear hx
      go_wp2_with fail
      refine (works_any _).mono ?_
      rintro e w99 ⟨rfl, hx⟩
      go_wp2_with fail
      go_ret
      exact ⟨rfl, E1.trans hx⟩
    rcases Nat.lt_or_ge 4 r with h4 | h4
    rotate_left
    · obtain rfl : r = 4 := by omega
      have c9 := fun w => hide (pright_any ({ stk 3 ⟨0, 0⟩ A m d with line := 1 } : Sty) w)
      rw [more_4] at c9
      go_upto_region 41 with fail
      replace E1 := E1.set (p := ⟨g, 33, none⟩) hg0 (.int .i64 1)
      replace B1 := B1.set_ 33 (.int .i64 1)
      clear d1 l1 f1 x1 x2
      generalize World.setCell _ _ _ = ws at *
      replace B1 : Blk ws g 28 ({ stk 3 ⟨0, 0⟩ A m d with line := 1 } : Sty).cells := B1
      go_step
      refine wpList_load_blk rfl 28 _ rfl g rfl 28 ({ stk 3 ⟨0, 0⟩ A m d with line := 1 } : Sty).cells _ B1 Try.underlying28 rfl (info_style _) ?_
      simp only [Act.put, List.setIfInBounds_toArray, List.set_cons_succ, List.set_cons_zero]
      go_wp2_with fail
      refine (unhide (c9 _)).mono ?_
      rintro e w20 ⟨rfl, hx⟩
      replace B1 := B1.ext hx
      replace E1 := E1.trans hx
      clear hx
      go_wp2_with fail
      refine (works_any _).mono ?_
      rintro e w99 ⟨rfl, hx⟩
      go_wp2_with fail
      go_ret
      exact ⟨rfl, E1.trans hx⟩
    rcases Nat.lt_or_ge 5 r with h5 | h5
    rotate_left
    · obtain rfl : r = 5 := by omega
      have c9 := fun w => hide (pright_any ({ stk 3 ⟨0, 0⟩ A m d with wrap := true } : Sty) w)
      rw [more_5] at c9
      go_upto_region 41 with fail
      replace E1 := E1.set (p := ⟨g, 34, none⟩) hg0 (.bool true)
      replace B1 := B1.set_ 34 (.bool true)
      clear d1 l1 f1 x1 x2
      generalize World.setCell _ _ _ = ws at *
      replace B1 : Blk ws g 28 ({ stk 3 ⟨0, 0⟩ A m d with wrap := true } : Sty).cells := B1
      go_step
      refine wpList_load_blk rfl 28 _ rfl g rfl 28 ({ stk 3 ⟨0, 0⟩ A m d with wrap := true } : Sty).cells _ B1 Try.underlying28 rfl (info_style _) ?_
      simp only [Act.put, List.setIfInBounds_toArray, List.set_cons_succ, List.set_cons_zero]
      go_wp2_with fail
      refine (unhide (c9 _)).mono ?_
      rintro e w20 ⟨rfl, hx⟩
      replace B1 := B1.ext hx
      replace E1 := E1.trans hx
      clear hx
      go_wp2_with fail
      refine (works_any _).mono ?_
      rintro e w99 ⟨rfl, hx⟩
      go_wp2_with fail
      go_ret
      exact ⟨rfl, E1.trans hx⟩
    rcases Nat.lt_or_ge 6 r with h6 | h6
    rotate_left
    · obtain rfl : r = 6 := by omega
      have c9 := fun w => hide (pright_any ({ stk 3 ⟨0, 0⟩ A m d with justify := 1 } : Sty) w)
      rw [more_6] at c9
      go_upto_region 41 with fail
      replace E1 := E1.set (p := ⟨g, 35, none⟩) hg0 (.int .u8 1)
      replace B1 := B1.set_ 35 (.int .u8 1)
      clear d1 l1 f1 x1 x2
      generalize World.setCell _ _ _ = ws at *
      replace B1 : Blk ws g 28 ({ stk 3 ⟨0, 0⟩ A m d with justify := 1 } : Sty).cells := B1
      go_step
      refine wpList_load_blk rfl 28 _ rfl g rfl 28 ({ stk 3 ⟨0, 0⟩ A m d with justify := 1 } : Sty).cells _ B1 Try.underlying28 rfl (info_style _) ?_
      simp only [Act.put, List.setIfInBounds_toArray, List.set_cons_succ, List.set_cons_zero]
      go_wp2_with fail
      refine (unhide (c9 _)).mono ?_
      rintro e w20 ⟨rfl, hx⟩
      replace B1 := B1.ext hx
      replace E1 := E1.trans hx
      clear hx
      go_wp2_with fail
      refine (works_any _).mono ?_
      rintro e w99 ⟨rfl, hx⟩
      go_wp2_with fail
      go_ret
      exact ⟨rfl, E1.trans hx⟩
    rcases Nat.lt_or_ge 7 r with h7 | h7
    rotate_left
    · obtain rfl : r = 7 := by omega
      have c9 := fun w => hide (pright_any ({ stk 3 ⟨0, 0⟩ A m d with items := 1 } : Sty) w)
      rw [more_7] at c9
      go_upto_region 41 with fail
      replace E1 := E1.set (p := ⟨g, 36, none⟩) hg0 (.int .u8 1)
      replace B1 := B1.set_ 36 (.int .u8 1)
      clear d1 l1 f1 x1 x2
      generalize World.setCell _ _ _ = ws at *
      replace B1 : Blk ws g 28 ({ stk 3 ⟨0, 0⟩ A m d with items := 1 } : Sty).cells := B1
      go_step
      refine wpList_load_blk rfl 28 _ rfl g rfl 28 ({ stk 3 ⟨0, 0⟩ A m d with items := 1 } : Sty).cells _ B1 Try.underlying28 rfl (info_style _) ?_
      simp only [Act.put, List.setIfInBounds_toArray, List.set_cons_succ, List.set_cons_zero]
      go_wp2_with fail
      refine (unhide (c9 _)).mono ?_
      rintro e w20 ⟨rfl, hx⟩
      replace B1 := B1.ext hx
      replace E1 := E1.trans hx
      clear hx
      go_wp2_with fail
      refine (works_any _).mono ?_
      rintro e w99 ⟨rfl, hx⟩
      go_wp2_with fail
      go_ret
      exact ⟨rfl, E1.trans hx⟩
    rcases Nat.lt_or_ge 8 r with h8 | h8
    rotate_left
    · obtain rfl : r = 8 := by omega
      have c9 := fun w => hide (pright_any ({ stk 3 ⟨0, 0⟩ A m d with order := (-1) } : Sty) w)
      rw [more_8] at c9
      go_upto_region 41 with fail
      replace E1 := E1.set (p := ⟨g, 37, none⟩) hg0 (.int .i64 (-1))
      replace B1 := B1.set_ 37 (.int .i64 (-1))
      clear d1 l1 f1 x1 x2
      generalize World.setCell _ _ _ = ws at *
      replace B1 : Blk ws g 28 ({ stk 3 ⟨0, 0⟩ A m d with order := (-1) } : Sty).cells := B1
      go_step
      refine wpList_load_blk rfl 28 _ rfl g rfl 28 ({ stk 3 ⟨0, 0⟩ A m d with order := (-1) } : Sty).cells _ B1 Try.underlying28 rfl (info_style _) ?_
      simp only [Act.put, List.setIfInBounds_toArray, List.set_cons_succ, List.set_cons_zero]
      go_wp2_with fail
      refine (unhide (c9 _)).mono ?_
      rintro e w20 ⟨rfl, hx⟩
      replace B1 := B1.ext hx
      replace E1 := E1.trans hx
      clear hx
      go_wp2_with fail
      refine (works_any _).mono ?_
      rintro e w99 ⟨rfl, hx⟩
      go_wp2_with fail
      go_ret
      exact ⟨rfl, E1.trans hx⟩
    rcases Nat.lt_or_ge 9 r with h9 | h9
    rotate_left
    · obtain rfl : r = 9 := by omega
      have c9 := fun w => hide (pright_any ({ stk 3 ⟨0, 0⟩ A m d with grow := 1 } : Sty) w)
      rw [more_9] at c9
      go_upto_region 41 with fail
      replace E1 := E1.set (p := ⟨g, 38, none⟩) hg0 (.int .i64 1)
      replace B1 := B1.set_ 38 (.int .i64 1)
      clear d1 l1 f1 x1 x2
      generalize World.setCell _ _ _ = ws at *
      replace B1 : Blk ws g 28 ({ stk 3 ⟨0, 0⟩ A m d with grow := 1 } : Sty).cells := B1
      go_step
      refine wpList_load_blk rfl 28 _ rfl g rfl 28 ({ stk 3 ⟨0, 0⟩ A m d with grow := 1 } : Sty).cells _ B1 Try.underlying28 rfl (info_style _) ?_
      simp only [Act.put, List.setIfInBounds_toArray, List.set_cons_succ, List.set_cons_zero]
      go_wp2_with fail
      refine (unhide (c9 _)).mono ?_
      rintro e w20 ⟨rfl, hx⟩
      replace B1 := B1.ext hx
      replace E1 := E1.trans hx
      clear hx
      go_wp2_with fail
      refine (works_any _).mono ?_
      rintro e w99 ⟨rfl, hx⟩
      go_wp2_with fail
      go_ret
      exact ⟨rfl, E1.trans hx⟩
    rcases Nat.lt_or_ge 10 r with h10 | h10
    rotate_left
    · obtain rfl : r = 10 := by omega
      have c9 := fun w => hide (pright_any ({ stk 3 ⟨0, 0⟩ A m d with shrink := 1 } : Sty) w)
      rw [more_10] at c9
      go_upto_region 41 with fail
      replace E1 := E1.set (p := ⟨g, 39, none⟩) hg0 (.int .i64 1)
      replace B1 := B1.set_ 39 (.int .i64 1)
      clear d1 l1 f1 x1 x2
      generalize World.setCell _ _ _ = ws at *
      replace B1 : Blk ws g 28 ({ stk 3 ⟨0, 0⟩ A m d with shrink := 1 } : Sty).cells := B1
      go_step
      refine wpList_load_blk rfl 28 _ rfl g rfl 28 ({ stk 3 ⟨0, 0⟩ A m d with shrink := 1 } : Sty).cells _ B1 Try.underlying28 rfl (info_style _) ?_
      simp only [Act.put, List.setIfInBounds_toArray, List.set_cons_succ, List.set_cons_zero]
      go_wp2_with fail
      refine (unhide (c9 _)).mono ?_
      rintro e w20 ⟨rfl, hx⟩
      replace B1 := B1.ext hx
      replace E1 := E1.trans hx
      clear hx
      go_wp2_with fail
      refine (works_any _).mono ?_
      rintro e w99 ⟨rfl, hx⟩
      go_wp2_with fail
      go_ret
      exact ⟨rfl, E1.trans hx⟩
    rcases Nat.lt_or_ge 11 r with h11 | h11
    rotate_left
    · obtain rfl : r = 11 := by omega
      obtain ⟨k, hk⟩ : ∃ k, v % 4 = k := ⟨_, rfl⟩
      have hk4 : k < 4 := by omega
      have y1 : Int.tdiv (p : Int) 16 = (v : Int) := by have := unhide HV; rw [Int.tdiv_eq_ediv_of_nonneg (by omega)]; omega
      have y2 : IntKind.u8.wrap (v : Int) = (v : Int) := IntWalk.u8_in _ (by omega)
      have y3 : Int.tmod (v : Int) 4 = (k : Int) := by rw [Int.tmod_eq_emod_of_nonneg (by omega)]; omega
      have y4 : IntKind.u8.wrap (k : Int) = (k : Int) := IntWalk.u8_in _ (by omega)
      have y5 : (0 : Int) ≤ (k : Int) ∧ (k : Int) < 4 := by omega
      have d2 := (d1 (24 + k)).trans (cell_b (stk 3 ⟨0, 0⟩ A m d) hk4)
      have c9 := fun w => hide (pright_any (setB (stk 3 ⟨0, 0⟩ A m d) k 1) w)
      rw [more_b A m d hk4] at c9
      clear hk d1
      go_upto_region 41 with fail
      replace E1 := E1.set (p := ⟨g, 24 + k, none⟩) hg0 (.int .i64 1)
      replace B1 := setB_blk B1 hk4 1
      clear l1 f1 x1 x2 d2
      generalize World.setCell _ _ _ = ws at *
      go_step
      refine wpList_load_blk rfl 28 _ rfl g rfl 28 (setB (stk 3 ⟨0, 0⟩ A m d) k 1).cells _ B1 Try.underlying28 rfl (info_style _) ?_
      simp only [Act.put, List.setIfInBounds_toArray, List.set_cons_succ, List.set_cons_zero]
      go_wp2_with fail
      refine (unhide (c9 _)).mono ?_
      rintro e w20 ⟨rfl, hx⟩
      replace B1 := B1.ext hx
      replace E1 := E1.trans hx
      clear hx
      go_wp2_with fail
      refine (works_any _).mono ?_
      rintro e w99 ⟨rfl, hx⟩
      go_wp2_with fail
      go_ret
      exact ⟨rfl, E1.trans hx⟩
    rcases Nat.lt_or_ge 12 r with h12 | h12
    rotate_left
    · obtain rfl : r = 12 := by omega
      obtain ⟨k, hk⟩ : ∃ k, v % 4 = k := ⟨_, rfl⟩
      have hk4 : k < 4 := by omega
      have y1 : Int.tdiv (p : Int) 16 = (v : Int) := by have := unhide HV; rw [Int.tdiv_eq_ediv_of_nonneg (by omega)]; omega
      have y2 : IntKind.u8.wrap (v : Int) = (v : Int) := IntWalk.u8_in _ (by omega)
      have y3 : Int.tmod (v : Int) 4 = (k : Int) := by rw [Int.tmod_eq_emod_of_nonneg (by omega)]; omega
      have y4 : IntKind.u8.wrap (k : Int) = (k : Int) := IntWalk.u8_in _ (by omega)
      have y5 : (0 : Int) ≤ (k : Int) ∧ (k : Int) < 4 := by omega
      have d2 := (d1 (28 + k)).trans (cell_p (stk 3 ⟨0, 0⟩ A m d) hk4)
      have c9 := fun w => hide (pright_any (setP (stk 3 ⟨0, 0⟩ A m d) k 1) w)
      rw [more_p A m d hk4] at c9
      clear hk d1
      go_upto_region 41 with fail
      replace E1 := E1.set (p := ⟨g, 28 + k, none⟩) hg0 (.int .i64 1)
      replace B1 := setP_blk B1 hk4 1
      clear l1 f1 x1 x2 d2
      generalize World.setCell _ _ _ = ws at *
      go_step
      refine wpList_load_blk rfl 28 _ rfl g rfl 28 (setP (stk 3 ⟨0, 0⟩ A m d) k 1).cells _ B1 Try.underlying28 rfl (info_style _) ?_
      simp only [Act.put, List.setIfInBounds_toArray, List.set_cons_succ, List.set_cons_zero]
      go_wp2_with fail
      refine (unhide (c9 _)).mono ?_
      rintro e w20 ⟨rfl, hx⟩
      replace B1 := B1.ext hx
      replace E1 := E1.trans hx
      clear hx
      go_wp2_with fail
      refine (works_any _).mono ?_
      rintro e w99 ⟨rfl, hx⟩
      go_wp2_with fail
      go_ret
      exact ⟨rfl, E1.trans hx⟩
    have n0 : ((r : Int) == 0) = false := by simp; omega
    have n1 : ((r : Int) == 1) = false := by simp; omega
    have n2 : ((r : Int) == 2) = false := by simp; omega
    have n3 : ((r : Int) == 3) = false := by simp; omega
    have n4 : ((r : Int) == 4) = false := by simp; omega
    have n5 : ((r : Int) == 5) = false := by simp; omega
    have n6 : ((r : Int) == 6) = false := by simp; omega
    have n7 : ((r : Int) == 7) = false := by simp; omega
    have n8 : ((r : Int) == 8) = false := by simp; omega
    have n9 : ((r : Int) == 9) = false := by simp; omega
    have n10 : ((r : Int) == 10) = false := by simp; omega
    have n11 : ((r : Int) == 11) = false := by simp; omega
    have n12 : ((r : Int) == 12) = false := by simp; omega
    obtain ⟨k, hk⟩ : ∃ k, v % 11 = k := ⟨_, rfl⟩
    have hk11 : k < 11 := by omega
    have y1 : Int.tdiv (p : Int) 16 = (v : Int) := by have := unhide HV; rw [Int.tdiv_eq_ediv_of_nonneg (by omega)]; omega
    have y2 : IntKind.u8.wrap (v : Int) = (v : Int) := IntWalk.u8_in _ (by omega)
    have y3 : IntKind.i64.wrap (v : Int) = (v : Int) := IntWalk.i64_in _ (by omega)
    have y4 : Int.tmod (v : Int) 11 = (k : Int) := by rw [Int.tmod_eq_emod_of_nonneg (by omega)]; omega
    have y5 : IntKind.i64.wrap (k : Int) = (k : Int) := IntWalk.i64_in _ (by omega)
    have y6 : (0 : Int) ≤ (k : Int) ∧ (k : Int) < 11 := by omega
    have c9 := fun w => hide (pright_any (setL (stk 3 ⟨0, 0⟩ A m d) k ⟨1, 0⟩) w)
    rw [more_l A m d hk11] at c9
    clear hk d1 l1 f1
    go_wp2_with fail
    refine (lens_any g _).mono ?_
    rintro e wl ⟨gq, rfl, BL, hge, hx⟩
    replace B1 := B1.ext hx
    replace E1 := E1.trans hx
    clear hx hge
    have dl := (BL.cell k).trans (lensC_at g hk11)
    have ll := BL.lt
    go_upto_region 41 with (first
      | (refine wpList_store_mid rfl 23 _ _ rfl g (lensO k) #[.int .u8 1, .int .i64 0] rfl rfl (setL_there B1 hk11) (by kernel_rfl) (by kernel_rfl) ?_
         simp only [Act.put, List.setIfInBounds_toArray, List.set_cons_succ, List.set_cons_zero]))
    replace E1 := setL_ext E1 hg0 (lensO k) (.int .u8 1) (.int .i64 0)
    replace B1 := setL_blk B1 hk11 ⟨1, 0⟩
    generalize World.setCells _ _ _ _ = ws at *
    clear dl ll BL
    go_step
    refine wpList_load_blk rfl 28 _ rfl g rfl 28 (setL (stk 3 ⟨0, 0⟩ A m d) k ⟨1, 0⟩).cells _ B1 Try.underlying28 rfl (info_style _) ?_
    simp only [Act.put, List.setIfInBounds_toArray, List.set_cons_succ, List.set_cons_zero]
    go_wp2_with fail
    refine (unhide (c9 _)).mono ?_
    rintro e w20 ⟨rfl, hx⟩
    replace B1 := B1.ext hx
    replace E1 := E1.trans hx
    clear hx
    go_wp2_with fail
    refine (works_any _).mono ?_
    rintro e w99 ⟨rfl, hx⟩
    go_wp2_with fail
    go_ret
    exact ⟨rfl, E1.trans hx⟩
end Go.Proofs.Ytahneblnbafpoaa
