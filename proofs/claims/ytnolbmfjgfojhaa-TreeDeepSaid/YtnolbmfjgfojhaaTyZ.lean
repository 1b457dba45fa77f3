/- Trees: the law TreeDeep: chains and stars, and the walk. -/
import Derived.Test.YtnolbmfjgfojhaaTyU
namespace Go.Proofs.Ytnolbmfjgfojhaa
open Go.RowKit
/-- a chain of k blocks -/
def chainT (k : Nat) : List Nd := (List.range k).map (fun i : Nat => ndK ((i : Int) - 1) 1)
theorem chainT_len (k : Nat) : (chainT k).length = k := by simp [chainT]
theorem chainT_get {k i : Nat} (h : i < k) : (chainT k)[i]? = some (ndK ((i : Int) - 1) 1) := by simp [chainT, h]
theorem chainT_succ (k : Nat) : chainT (k + 1) = chainT k ++ [ndK ((k : Int) - 1) 1] := by
  rw [chainT, List.range_succ, List.map_append]; rfl
theorem blk_ok : ¬ ((stK 1).kind ≠ 1 ∨ looseV (stK 1) = true) := by decide
theorem blk_ul : ¬ 65536 < (stK 1).ul := by decide
theorem adv0 : ¬ advV [] 0 = false := by rw [advV, if_neg (by simp)]; decide
theorem right1 : rightV (stK 1) = true := by kernel_rfl
theorem chain_par {k i : Nat} (h : i + 1 < k) : parN (chainT k) (i + 1) = i := by
  rw [parN_of (chainT_get h), par]
  simp only
  rw [if_pos (by omega)]
  omega
theorem chain_par0 {k : Nat} (h : 0 < k) : parN (chainT k) 0 = -1 := by
  rw [parN_of (chainT_get h), par]
  simp only
  rw [if_neg (by omega)]
theorem chain_dep {k : Nat} : ∀ i, i < k → dep (chainT k) i = i + 1
  | 0, h => by rw [dep_eq, chain_par0 h, depI, if_neg (by omega)]
  | i + 1, h => by
    rw [dep_eq, chain_par h, depI, if_pos (by omega), Int.toNat_natCast, chain_dep i (by omega)]
theorem chain_kind {k i : Nat} (h : i < k) : nK (chainT k) i = 1 := by rw [nK, chainT_get h]
theorem chain_node {k i : Nat} (h : i < k) : nodeV (chainT k) i = if 512 < i + 1 then 8 else 0 := by
  rw [nodeV_of (chainT_get h), nodeE, if_neg, if_neg blk_ul, chain_dep i h]
  · split
    · rfl
    · rw [if_neg (by rw [right1]; decide)]
      by_cases i0 : i = 0
      · rw [if_pos i0, if_neg blk_ok]
      · rw [if_neg i0]
        obtain ⟨j, rfl⟩ : ∃ j, i = j + 1 := ⟨i - 1, by omega⟩
        have e : (((j + 1 : Nat) : Int) - 1) = (j : Int) := by omega
        simp only [e, Int.toNat_natCast]
        rw [chain_kind (by omega), if_neg (by decide), if_neg (by decide), firstN, if_neg (by omega)]
  · simp only
    rintro (⟨h1, h2⟩ | ⟨_, h2, _⟩)
    · subst h1; exact h2 (by decide)
    · exact h2 rfl
theorem chain_check {k : Nat} (h0 : 0 < k) (hk : k ≤ 65536) : checkV (chainT k) [] 0 = if 512 < k then (512, 8) else (0, 0) := by
  have hw : wholeV (chainT k) [] 0 = 0 := by
    unfold wholeV
    rw [chainT_len, if_neg (by simp; omega), if_neg (by omega), if_neg adv0]
  rw [check_whole, if_pos hw]
  by_cases h : 512 < k
  · rw [if_pos h]
    have hn : nodeV (chainT k) 512 = 8 := by rw [chain_node h, if_pos (by omega)]
    have := bad_from (ns := chainT k) (i := 512) (by rw [chainT_len]; omega) (by rw [hn]; decide) _ 0 rfl (by omega) (fun j _ hj => by rw [chain_node (by omega), if_neg (by omega)])
    rw [this, hn]; rfl
  · rw [if_neg h]
    exact bad_ok _ 0 rfl (fun j _ hj => by rw [chainT_len] at hj; rw [chain_node hj, if_neg (by omega)])
/-- a block and k blocks below it -/
def starT (k : Nat) : List Nd := ndK (-1) 1 :: List.replicate k (ndK 0 1)
theorem starT_len (k : Nat) : (starT k).length = k + 1 := by simp [starT]
theorem starT_0 (k : Nat) : (starT k)[0]? = some (ndK (-1) 1) := rfl
theorem starT_get {k i : Nat} (h : i < k) : (starT k)[i + 1]? = some (ndK 0 1) := by simp [starT, h]
theorem star_par0 (k : Nat) : parN (starT k) 0 = -1 := by rw [parN_of (starT_0 k), par]; simp
theorem star_par {k i : Nat} (h : i < k) : parN (starT k) (i + 1) = 0 := by
  rw [parN_of (starT_get h), par]
  simp only
  rw [if_pos (by omega)]
theorem star_dep {k i : Nat} (h : i < k) : dep (starT k) (i + 1) = 2 := by
  rw [dep_eq, star_par h, depI, if_pos (by omega)]
  have : dep (starT k) (0 : Int).toNat = 1 := by
    show dep (starT k) 0 = 1
    rw [dep_eq, star_par0, depI, if_neg (by omega)]
  rw [this]
theorem star_dep0 (k : Nat) : dep (starT k) 0 = 1 := by rw [dep_eq, star_par0, depI, if_neg (by omega)]
theorem star_kind {k i : Nat} (h : i < k + 1) : nK (starT k) i = 1 := by
  rw [nK]
  cases i with
  | zero => rfl
  | succ i => rw [starT_get (by omega)]
theorem star_node {k i : Nat} (h : i < k + 1) : nodeV (starT k) i = 0 := by
  cases i with
  | zero =>
    rw [nodeV_of (starT_0 k), nodeE, if_neg (by simp), if_neg blk_ul, star_dep0, if_neg (by omega), if_neg (by rw [right1]; decide), if_pos rfl, if_neg blk_ok]
  | succ i =>
    rw [nodeV_of (starT_get (by omega)), nodeE, if_neg, if_neg blk_ul, star_dep (by omega), if_neg (by omega), if_neg (by rw [right1]; decide), if_neg (by omega)]
    · show (if nK (starT k) 0 = 3 then (6 : Int) else if nK (starT k) 0 = 2 then _ else if 0 ≤ firstN (starT k) 0 (i + 1) 1 ∧ ((nK (starT k) (firstN (starT k) 0 (i + 1) 1).toNat == 3) != ((ndK 0 1).s.kind == 3)) = true then 6 else 0) = 0
      rw [star_kind (by omega), if_neg (by decide), if_neg (by decide), if_neg]
      rintro ⟨h1, h2⟩
      rcases firstN_at (starT k) 0 (i + 1) 1 with h3 | ⟨m, h3, _, h5⟩
      · omega
      · rw [h3, Int.toNat_natCast, star_kind (by omega)] at h2
        exact absurd h2 (by decide)
    · rintro (⟨h1, _⟩ | ⟨_, h2, h3⟩)
      · omega
      · rcases h3 with h3 | h3 | h3
        · exact absurd h3 (by decide)
        · simp only at h3; omega
        · simp only at h3 h2
          rw [Nat.add_sub_cancel] at h3
          cases i with
          | zero => exact h2 (by simp)
          | succ j =>
            rw [bel, star_par (by omega)] at h3
            simp at h3
theorem star_check (k : Nat) (hk : k < 65536) : checkV (starT k) [] 0 = (0, 0) := by
  have hw : wholeV (starT k) [] 0 = 0 := by
    unfold wholeV
    rw [starT_len, if_neg (by simp; omega), if_neg (by omega), if_neg adv0]
  rw [check_whole, if_pos hw]
  exact bad_ok _ 0 rfl (fun j _ hj => by rw [starT_len] at hj; exact star_node hj)
/-- what the law builds: a node more than may be -/
def manyT (k : Nat) : List Nd := (List.range k).map (fun i : Nat => ndK (min ((i : Int) - 1) 0) 1)
theorem manyT_len (k : Nat) : (manyT k).length = k := by simp [manyT]
theorem manyT_succ (k : Nat) : manyT (k + 1) = manyT k ++ [ndK (min ((k : Int) - 1) 0) 1] := by
  rw [manyT, List.range_succ, List.map_append]; rfl
theorem many_check (k : Nat) (hk : 65536 < k) : checkV (manyT k) [] 0 = (0, 7) := by
  unfold checkV
  rw [if_pos (.inl (by rw [manyT_len]; exact hk))]
theorem many_star (k : Nat) : (manyT (k + 2)).drop 1 = ndK 0 1 :: List.replicate k (ndK 0 1) := by
  refine List.ext_getElem? fun i => ?_
  rw [List.getElem?_drop]
  by_cases h : i < k + 1
  · have h1 : (manyT (k + 2))[1 + i]? = some (ndK (min (((1 + i : Nat) : Int) - 1) 0) 1) := by
      unfold manyT
      rw [List.getElem?_map, List.getElem?_range (by omega)]; rfl
    have h2 : min (((1 + i : Nat) : Int) - 1) 0 = 0 := by omega
    rw [h1, h2]
    cases i with
    | zero => rfl
    | succ j => rw [List.getElem?_cons_succ, List.getElem?_replicate, if_pos (by omega)]
  · rw [List.getElem?_eq_none (by rw [manyT_len]; omega), List.getElem?_eq_none (by simp; omega)]
set_option maxRecDepth 100000 in
set_option maxHeartbeats 16000000 in
theorem deep_chain (x : Int) (hx : 0 ≤ x ∧ x ≤ 255) (w : World) :
    Calls Try.prog 7 #[.int .u8 x, .bool false] w fun e w' => e = .returned (.bool true) ∧ Ext w w' := by
  have cW := fun w => hide (works05_any w)
  have cc := fun t ns w h hm ha => hide (check_any t ns [] w h hm ha)
  obtain ⟨i0, hi0, hz0, hz1, hz2⟩ := node_all
  have HI := hide (And.intro hi0 (And.intro hz0 (And.intro hz1 hz2)))
  clear hi0 hz0 hz1 hz2
  obtain ⟨x0, hx0⟩ : ∃ x0 : Nat, x.tmod 10 = x0 := ⟨(x.tmod 10).toNat, by
    rw [Int.tmod_eq_emod_of_nonneg hx.1]; omega⟩
  have hx1 : x0 < 10 := by rw [Int.tmod_eq_emod_of_nonneg hx.1] at hx0; omega
  obtain ⟨k, hk⟩ : ∃ k, 507 + x0 = k := ⟨_, rfl⟩
  have hkI : 507 + (x0 : Int) = (k : Int) := by omega
  have hk2 : 507 ≤ k ∧ k ≤ 516 := by omega
  have HCK := hide (chain_check (k := k) (by omega) (by omega))
  have hxl : 0 ≤ x := hx.1
  have hxh : x ≤ 255 := hx.2
  clear hx hk hx1
  go_enter Try.func7, Try.ntmps7
  go_upto_region 1 with fail
  go_step
  refine wpList_alloc_var rfl 25 rfl #[.slice none 0 0, .slice none 0 0, .int .i64 0] zero_tr ?_
  intro w1 BV E1 z1
  simp only [Act.put, List.setIfInBounds_toArray, List.set_cons_succ, List.set_cons_zero]
  generalize hgv : w.heap.size = gv at *
  have HG := hide hgv
  clear hgv z1
  go_wp2_with fail
  clear hxl hxh hx0 hkI
  go_loopw [12] (fun v wr => ∃ (i : Nat) (A : Option Addr) (c : Nat), v = .int .i64 i ∧ i ≤ k ∧ Ext w wr ∧ Blk wr gv 25 #[.slice A i c, .slice none 0 0, .int .i64 0] ∧ wr.ownsRow (gv + 1) 47 44 (.slice A i c) i (nds (chainT i))) (fun v _ => k - (intOf v).toNat)
  case atStart => exact ⟨0, none, 0, rfl, by omega, E1, BV, ⟨rfl, .inl ⟨rfl, rfl⟩⟩⟩
  case round =>
    clear E1 BV
    obtain ⟨i, A, c, rfl, i1, E1, BV, OW⟩ := hrel
    have c1 := BV.cell
    have l1 := BV.lt
    by_cases hi : i < k
    · have hiI : (i : Int) < (k : Int) := by omega
      have HS := hide (chainT_succ i)
      go_upto_region 16 with fail
      iterate 13 go_step
      refine wpList_buildTo rfl 45 _ rfl _ rfl (stK 1).cells (by kernel_rfl) ?_
      simp only [Act.put, List.setIfInBounds_toArray, List.set_cons_succ, List.set_cons_zero]
      refine wpList_buildTo rfl 47 _ rfl _ rfl (ndK ((i : Int) - 1) 1).cells.toArray (by kernel_rfl) ?_
      simp only [Act.put, List.setIfInBounds_toArray, List.set_cons_succ, List.set_cons_zero]
      refine wpList_nodes rfl 1 _ rfl [ndK ((i : Int) - 1) 1] (by decide) (by kernel_rfl) ?_
      intro w3 B3 E3 z3
      simp only [Act.put, List.setIfInBounds_toArray, List.set_cons_succ, List.set_cons_zero]
      have RS : Rd w3 44 (some ⟨wr.heap.size, 0, none⟩) 1 (nds [ndK ((i : Int) - 1) 1]) := by have := B3.rdk (n := 1) (k := 44) (by rw [List.size_toArray, nds_len]; rfl); simpa using this
      refine wpList_append_rd rfl (.tmp 71) (.tmp 76) _ rfl (gv + 1) 47 i0 _ 44 328 Try.underlying22 (unhide HI).1 (unhide HI).2.1 (unhide HI).2.2.1 (unhide HI).2.2.2 rfl (by omega) _ i (nds (chainT i)) rfl (own_far OW E3) _ 1 1 (nds [ndK ((i : Int) - 1) 1]) rfl RS (nodes_one _) (by simp only [maxLen]; omega) (by omega) (by have := BV.lt; omega) ?_
      intro A4 c4 w4 own4 g4 at4
      simp only [Act.put, List.setIfInBounds_toArray, List.set_cons_succ, List.set_cons_zero]
      have r4 : ∀ q, Value.ownBlock (.slice A i c) = some q → gv + 1 ≤ q := fun q e => (OW.lt q e).1
      have E4 : Ext w w4 := Ext.grown (E1.trans E3) g4 (fun j e => by have := r4 j e; have := unhide HG; omega)
      have BV4 := (BV.ext E3).grown g4 (fun e => by have := r4 _ e; omega)
      iterate 3 go_step
      refine wpList_store_cell rfl 22 _ _ rfl gv 0 rfl (.slice A4 (i + 1) c4) rfl rfl 25 #[.slice A i c, .slice none 0 0, .int .i64 0] BV4 (show 0 < 3 by decide) (by kernel_rfl) ?_
      intro w5 BV5 hg5 zs5
      simp only [Act.put]
      have E5 : Ext w w5 := Ext.grown E4 hg5 (fun q e => by injection e with e; have := unhide HG; omega)
      have O5 : w5.ownsRow (gv + 1) 47 44 (.slice A4 (i + 1) c4) (i + 1) (nds (chainT i) ++ nds [ndK ((i : Int) - 1) 1]) := own4.kept hg5 (by
        cases e : Value.ownBlock (.slice A4 (i + 1) c4) with
        | none => exact .inl rfl
        | some b => exact .inr (fun e2 => by have := (own4.lt b e).1; have e2 := Option.some.inj e2; omega))
      rw [← nds_append] at O5
      rw [← unhide HS] at O5
      have BV6 : Blk w5 gv 25 #[.slice A4 (i + 1) c4, .slice none 0 0, .int .i64 0] := by simpa using BV5
      clear E1 E3 E4 B3 z3 RS own4 g4 at4 r4 BV BV4 BV5 OW hg5 zs5
      go_wp2_with fail
      go_roundw
      case rel => exact ⟨i + 1, A4, c4, by go_num, by omega, E5, BV6, O5⟩
      case measure => simp [intOf]; omega
    · have hik : i = k := by omega
      have hiI : ¬ (i : Int) < (k : Int) := by omega
      have HIK := hide hik
      have hmi : i ≤ 516 := by omega
      have hck := unhide HCK
      rw [← hik] at hck
      have hkb : ((512 : Int) < (k : Int)) ↔ 512 < k := by omega
      clear hik
      have ccv := cc ⟨A, i, c, none, 0, 0, 0⟩ (chainT i) wr ⟨Rd.of_own OW, Rd.nil _ _ _⟩ (by simp only; omega) (by simp [maxLen])
      simp only at ccv
      rw [hck] at ccv
      by_cases h512 : 512 < i
      · rw [if_pos h512] at ccv
        have hI : (512 : Int) < (k : Int) := by have := unhide HIK; omega
        clear hkb hck
        go_wp2_with fail
        refine (unhide ccv).mono ?_
        rintro e w3 ⟨rfl, hx⟩
        replace E1 := E1.trans hx
        clear hx
        simp only []
        go_wp2_with fail
        refine (unhide (cW _)).mono ?_
        rintro e w9 ⟨rfl, hx⟩
        go_wp2_with fail
        go_ret
        exact ⟨rfl, E1.trans hx⟩
      · rw [if_neg h512] at ccv
        have hI : ¬ (512 : Int) < (k : Int) := by have := unhide HIK; omega
        clear hkb hck
        go_wp2_with fail
        refine (unhide ccv).mono ?_
        rintro e w3 ⟨rfl, hx⟩
        replace E1 := E1.trans hx
        clear hx
        simp only []
        go_wp2_with fail
        refine (unhide (cW _)).mono ?_
        rintro e w9 ⟨rfl, hx⟩
        go_wp2_with fail
        go_ret
        exact ⟨rfl, E1.trans hx⟩
/-- a row of nodes, its first one left away, and the next one made the first -/
theorem star_rd {w : World} {B : Nat} {A : Option Addr} {k c : Nat} (h : w.ownsRow B 47 44 (.slice A (k + 2) c) (k + 2) (nds (manyT (k + 2)))) :
    ∃ g, A = some ⟨g, 0, none⟩ ∧ B ≤ g ∧ g < w.heap.size ∧ k + 2 ≤ c ∧ w.cell? ⟨g, 44, none⟩ = some (.int .i64 0) ∧ w.frozen? ⟨g, 44, none⟩ = false ∧
      Rd (w.setCell ⟨g, 44, none⟩ (.int .i64 (-1))) 44 (some ⟨g, 44, none⟩) (k + 1) (nds (starT k)) := by
  have hr := Rd.of_own h
  rcases h.2 with ⟨hv, h0⟩ | ⟨g, cap, cur, hv, hb, hg, hnc, hm, hs, hx⟩
  · omega
  injection hv with e1 e2 e3
  subst e1 e3
  have hlt : g < w.heap.size := (Array.getElem?_eq_some_iff.1 hg).1
  obtain ⟨b', o', hA, _, hc⟩ := hr.at_ (by omega)
  injection hA with hA; injection hA with e1 e2
  subst e1 e2
  have hd : nds (manyT (k + 2)) = nds [ndK (-1) 1] ++ nds (ndK 0 1 :: List.replicate k (ndK 0 1)) := by
    rw [← many_star, ← nds_append]
    congr 1
    have e : manyT (k + 2) = (manyT (k + 2)).take 1 ++ (manyT (k + 2)).drop 1 := (List.take_append_drop 1 _).symm
    have e2 : (manyT (k + 2)).take 1 = [ndK (-1) 1] := by
      refine List.ext_getElem? fun i => ?_
      rw [List.getElem?_take]
      cases i with
      | zero => simp [manyT]; omega
      | succ i => simp
    rw [← e2]; exact e
  have hcd : ∀ j u, (nds (ndK 0 1 :: List.replicate k (ndK 0 1)))[j]? = some u → w.cell? ⟨g, 44 + j, none⟩ = some u := fun j u hu => by
    have := hc (44 + j) u (by rw [hd, List.getElem?_append_right (by rw [nds_len]; simp)]; rw [nds_len]; simpa using hu)
    rwa [Nat.zero_add] at this
  have bk : Blk w g 47 cur := hg
  have c44 : w.cell? ⟨g, 44, none⟩ = some (.int .i64 0) := hcd 0 _ rfl
  have hl44 : 44 < cur.size := by rw [hs]; omega
  have bk2 := bk.set_ 44 (.int .i64 (-1))
  refine ⟨g, rfl, hb, hlt, hnc, c44, bk.frozen 44, by rw [nds_len, starT_len], fun _ => ⟨g, 44, rfl, bk2.lt, fun j u hu => ?_⟩⟩
  rw [bk2.cell]
  have hst : nds (starT k) = .int .i64 (-1) :: (nds (ndK 0 1 :: List.replicate k (ndK 0 1))).tail := rfl
  rw [hst] at hu
  cases j with
  | zero =>
    rw [Nat.add_zero, Array.getElem?_setIfInBounds_self_of_lt hl44]
    simpa using hu
  | succ j =>
    rw [Array.getElem?_setIfInBounds_ne (by omega), ← bk.cell]
    refine hcd (j + 1) u ?_
    rw [List.getElem?_cons_succ, List.getElem?_tail] at hu
    exact hu
set_option maxRecDepth 100000 in
set_option maxHeartbeats 16000000 in
theorem deep_many (x : Int) (w : World) :
    Calls Try.prog 7 #[.int .u8 x, .bool true] w fun e w' => e = .returned (.bool true) ∧ Ext w w' := by
  have cW := fun w => hide (works05_any w)
  have cc := fun t ns w h hm ha => hide (check_any t ns [] w h hm ha)
  obtain ⟨i0, hi0, hz0, hz1, hz2⟩ := node_all
  have HI := hide (And.intro hi0 (And.intro hz0 (And.intro hz1 hz2)))
  clear hi0 hz0 hz1 hz2
  obtain ⟨k, hk⟩ : ∃ k, 65535 = k := ⟨_, rfl⟩
  have HK := hide hk
  obtain ⟨m, hm⟩ : ∃ m, k + 2 = m := ⟨_, rfl⟩
  have HMK := hide hm
  have HM := hide (many_check m (by omega))
  have HST := hide (star_check k (by omega))
  clear hk hm
  go_enter Try.func7, Try.ntmps7
  go_upto_region 1 with fail
  go_step
  refine wpList_alloc_var rfl 25 rfl #[.slice none 0 0, .slice none 0 0, .int .i64 0] zero_tr ?_
  intro w1 BV E1 z1
  simp only [Act.put, List.setIfInBounds_toArray, List.set_cons_succ, List.set_cons_zero]
  generalize hgv : w.heap.size = gv at *
  have HG := hide hgv
  clear hgv z1
  go_wp2_with fail
  go_loopw [6] (fun v wr => ∃ (i : Nat) (A : Option Addr) (c : Nat), v = .int .i64 i ∧ i ≤ m ∧ Ext w wr ∧ Blk wr gv 25 #[.slice A i c, .slice none 0 0, .int .i64 0] ∧ wr.ownsRow (gv + 1) 47 44 (.slice A i c) i (nds (manyT i))) (fun v _ => m - (intOf v).toNat)
  case atStart => exact ⟨0, none, 0, rfl, by omega, E1, BV, ⟨rfl, .inl ⟨rfl, rfl⟩⟩⟩
  case round =>
    clear E1 BV
    obtain ⟨i, A, c, rfl, i1, E1, BV, OW⟩ := hrel
    have c1 := BV.cell
    have l1 := BV.lt
    by_cases hi : i < m
    · have hiI : (i : Int) ≤ 65536 := by have := unhide HK; have := unhide HMK; omega
      have hi2 : i < 65537 := by have := unhide HK; have := unhide HMK; omega
      have HS := hide (manyT_succ i)
      obtain ⟨P, hP⟩ : ∃ P, min ((i : Int) - 1) 0 = P := ⟨_, rfl⟩
      rw [hP] at HS
      have HPP := hide hP
      go_upto_region 6 with fail
      iterate 16 go_step
      refine wpList_buildTo rfl 45 _ rfl _ rfl (stK 1).cells (by kernel_rfl) ?_
      simp only [Act.put, List.setIfInBounds_toArray, List.set_cons_succ, List.set_cons_zero]
      refine wpList_buildTo rfl 47 _ rfl _ rfl (ndK P 1).cells.toArray (by kernel_rfl) ?_
      simp only [Act.put, List.setIfInBounds_toArray, List.set_cons_succ, List.set_cons_zero]
      refine wpList_nodes rfl 1 _ rfl [ndK P 1] (by decide) (by kernel_rfl) ?_
      intro w3 B3 E3 z3
      simp only [Act.put, List.setIfInBounds_toArray, List.set_cons_succ, List.set_cons_zero]
      have RS : Rd w3 44 (some ⟨wr.heap.size, 0, none⟩) 1 (nds [ndK P 1]) := by have := B3.rdk (n := 1) (k := 44) (by rw [List.size_toArray, nds_len]; rfl); simpa using this
      refine wpList_append_rd rfl (.tmp 21) (.tmp 27) _ rfl (gv + 1) 47 i0 _ 44 328 Try.underlying22 (unhide HI).1 (unhide HI).2.1 (unhide HI).2.2.1 (unhide HI).2.2.2 rfl (by omega) _ i (nds (manyT i)) rfl (own_far OW E3) _ 1 1 (nds [ndK P 1]) rfl RS (nodes_one _) (by simp only [maxLen]; omega) (by omega) (by have := BV.lt; omega) ?_
      intro A4 c4 w4 own4 g4 at4
      simp only [Act.put, List.setIfInBounds_toArray, List.set_cons_succ, List.set_cons_zero]
      have r4 : ∀ q, Value.ownBlock (.slice A i c) = some q → gv + 1 ≤ q := fun q e => (OW.lt q e).1
      have E4 : Ext w w4 := Ext.grown (E1.trans E3) g4 (fun j e => by have := r4 j e; have := unhide HG; omega)
      have BV4 := (BV.ext E3).grown g4 (fun e => by have := r4 _ e; omega)
      iterate 3 go_step
      refine wpList_store_cell rfl 22 _ _ rfl gv 0 rfl (.slice A4 (i + 1) c4) rfl rfl 25 #[.slice A i c, .slice none 0 0, .int .i64 0] BV4 (show 0 < 3 by decide) (by kernel_rfl) ?_
      intro w5 BV5 hg5 zs5
      simp only [Act.put]
      have E5 : Ext w w5 := Ext.grown E4 hg5 (fun q e => by injection e with e; have := unhide HG; omega)
      have O5 : w5.ownsRow (gv + 1) 47 44 (.slice A4 (i + 1) c4) (i + 1) (nds (manyT i) ++ nds [ndK P 1]) := own4.kept hg5 (by
        cases e : Value.ownBlock (.slice A4 (i + 1) c4) with
        | none => exact .inl rfl
        | some b => exact .inr (fun e2 => by have := (own4.lt b e).1; have e2 := Option.some.inj e2; omega))
      rw [← nds_append] at O5
      rw [← unhide HS] at O5
      have BV6 : Blk w5 gv 25 #[.slice A4 (i + 1) c4, .slice none 0 0, .int .i64 0] := by simpa using BV5
      clear E1 E3 E4 B3 z3 RS own4 g4 at4 r4 BV BV4 BV5 OW hg5 zs5
      go_wp2_with fail
      go_roundw
      case rel => exact ⟨i + 1, A4, c4, by go_num, by omega, E5, BV6, O5⟩
      case measure => simp [intOf]; omega
    · have hik : i = m := by omega
      have hiI : ¬ (i : Int) ≤ 65536 := by have := unhide HK; have := unhide HMK; omega
      have hmi : i ≤ 1000000 := by have := unhide HK; have := unhide HMK; omega
      have HIK := hide hik
      have ccv := cc ⟨A, i, c, none, 0, 0, 0⟩ (manyT i) wr ⟨Rd.of_own OW, Rd.nil _ _ _⟩ (by simp only; exact hmi) (by simp [maxLen])
      simp only at ccv
      rw [show manyT i = manyT m by rw [hik], unhide HM] at ccv
      clear hik
      go_wp2_with fail
      refine (unhide ccv).mono ?_
      rintro e w3 ⟨rfl, hx⟩
      replace E1 := E1.trans hx
      replace BV := BV.ext hx
      replace OW := own_far OW hx
      clear hx c1 l1
      simp only []
      obtain ⟨g, hA, _, _, hkc, _⟩ := star_rd (k := k) (by rw [unhide HMK, ← unhide HIK]; exact OW)
      subst hA
      have c1 := BV.cell
      have l1 := BV.lt
      have hic : i ≤ c := by have := unhide HMK; have := unhide HIK; omega
      have h1i : 1 ≤ i := by have := unhide HMK; have := unhide HIK; omega
      go_upto_region 8 with fail
      iterate 10 go_step
      iterate 3 go_step
      refine wpList_store_cell rfl 22 _ _ rfl gv 0 rfl (.slice (some ⟨g, 44, none⟩) (i - 1) (c - 1)) rfl rfl 25 #[.slice (some ⟨g, 0, none⟩) i c, .slice none 0 0, .int .i64 0] BV (show 0 < 3 by decide) (by kernel_rfl) ?_
      intro w5 BV5 hg5 zs5
      simp only [Act.put]
      have E5 : Ext w w5 := Ext.grown E1 hg5 (fun q e => by injection e with e; have := unhide HG; omega)
      have O5 := OW.kept hg5 (by
        cases e : Value.ownBlock (.slice (some ⟨g, 0, none⟩) i c) with
        | none => exact .inl rfl
        | some b => exact .inr (fun e2 => by have := (OW.lt b e).1; have e2 := Option.some.inj e2; omega))
      have BV6 : Blk w5 gv 25 #[.slice (some ⟨g, 44, none⟩) (i - 1) (c - 1), .slice none 0 0, .int .i64 0] := by simpa using BV5
      obtain ⟨g', hA, hg', hgl', hkc', c44, f44, hR⟩ := star_rd (k := k) (by rw [unhide HMK, ← unhide HIK]; exact O5)
      have hgg : g' = g := by injection hA with hA; injection hA with e1; exact e1.symm
      subst hgg
      clear BV BV5 OW O5 E1 c1 l1 hg5 zs5 hg' hA
      have c1 := BV6.cell
      have l1 := BV6.lt
      have h0i : 0 < i - 1 := by have := unhide HMK; have := unhide HIK; omega
      have hwg : w.heap.size ≤ g' := by have := unhide HG; omega
      have hne : gv ≠ g' := by omega
      have BV7 := BV6.far (p := ⟨g', 44, none⟩) hne (.int .i64 (-1))
      have E7 := E5.set (p := ⟨g', 44, none⟩) hwg (.int .i64 (-1))
      have hkk : k + 1 = i - 1 := by have := unhide HMK; have := unhide HIK; omega
      rw [hkk] at hR
      have ccw := cc ⟨(some ⟨g', 44, none⟩), (i - 1), (c - 1), none, 0, 0, 0⟩ (starT k) (w5.setCell ⟨g', 44, none⟩ (.int .i64 (-1))) ⟨hR, Rd.nil _ _ _⟩ (by simp only; omega) (by simp [maxLen])
      simp only at ccw
      rw [unhide HST] at ccw
      clear hkk hR BV6 E5
      go_upto_region 10 with fail
      generalize w5.setCell ⟨g', 44, none⟩ (.int .i64 (-1)) = w7 at *
      clear c1 l1 c44 f44
      have c1 := BV7.cell
      have l1 := BV7.lt
      replace E1 := E7
      clear E7
      go_wp2_with fail
      refine (unhide ccw).mono ?_
      rintro e w8 ⟨rfl, hx⟩
      replace E1 := E1.trans hx
      clear hx
      simp only []
      go_wp2_with fail
      refine (unhide (cW _)).mono ?_
      rintro e w9 ⟨rfl, hx⟩
      go_wp2_with fail
      go_ret
      exact ⟨rfl, E1.trans hx⟩
theorem law_tyDeep (x : Int) (b : Bool) (hx : 0 ≤ x ∧ x ≤ 255) (w : World) :
    Calls Try.prog 7 #[.int .u8 x, .bool b] w fun e w' => e = .returned (.bool true) ∧ Ext w w' := by
  cases b with
  | false => exact deep_chain x hx w
  | true => exact deep_many x w
end Go.Proofs.Ytnolbmfjgfojhaa
