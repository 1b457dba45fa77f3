/- Graphs: the document's graph of those that wait (walk). -/
import Derived.Test.YtnolbmfjgfojhaaGrB
namespace Go.Proofs.Ytnolbmfjgfojhaa
open Go.RowKit
theorem nE_more (E : List (Int × Int)) (i x : Int) (q : Nat) : nE (E ++ [(i, x)]) q = if x = (q : Int) then nE E q ++ [i] else nE E q := by
  unfold nE
  rw [List.filter_append, List.map_append]
  by_cases h : x = (q : Int)
  · rw [if_pos h]; simp [h]
  · rw [if_neg h]; simp [h]
/-- who waits for those ahead of i is told whole, of i as far as E goes -/
def nI (KW : Nat → List Int) (n : Nat) (E : List (Int × Int)) (i q : Nat) : List Int := if q < i then nE (ofE KW n) q else if q = i then nE E i else []
def wI (KW : Nat → List Int) (n i : Nat) : List Int := (List.range n).map fun q => if q < i then ((KW q).length : Int) else 0
theorem wI_len (KW : Nat → List Int) (n i : Nat) : (wI KW n i).length = n := by simp [wI]
theorem wI_get (KW : Nat → List Int) {n q : Nat} (i : Nat) (h : q < n) : (wI KW n i)[q]? = some (if q < i then ((KW q).length : Int) else 0) := by simp [wI, h]
theorem wI_0 (KW : Nat → List Int) (n : Nat) : List.replicate n 0 = wI KW n 0 := by
  apply List.ext_getElem?
  intro q
  by_cases h : q < n
  · rw [wI_get KW 0 h]; simp [h]
  · rw [List.getElem?_eq_none (by simp; omega), List.getElem?_eq_none (by rw [wI_len]; omega)]
theorem wI_set (KW : Nat → List Int) {n i : Nat} (hi : i < n) : wI KW n (i + 1) = (wI KW n i).set i ((KW i).length : Int) := by
  apply List.ext_getElem?
  intro q
  rw [List.getElem?_set]
  by_cases h : q < n
  · rw [wI_get KW _ h, wI_get KW _ h]
    by_cases hq : i = q
    · subst hq
      rw [if_pos (Nat.lt_succ_self _), if_pos rfl, if_pos (by rw [wI_len]; exact h)]
    · rw [if_neg hq]
      by_cases h2 : q < i
      · rw [if_pos h2, if_pos (by omega)]
      · rw [if_neg h2, if_neg (by omega)]
  · rw [List.getElem?_eq_none (by rw [wI_len]; omega), if_neg (by omega), List.getElem?_eq_none (by rw [wI_len]; omega)]
theorem nI_0 (KW : Nat → List Int) (n q : Nat) : nI KW n [] 0 q = [] := by
  unfold nI
  rw [if_neg (by omega)]
  split <;> rfl
theorem nI_next (KW : Nat → List Int) (n i q : Nat) : nI KW n [] (i + 1) q = nI KW n (ofE KW n) i q := by
  unfold nI
  by_cases h1 : q < i
  · rw [if_pos (by omega), if_pos h1]
  · by_cases h2 : q = i
    · subst h2
      rw [if_pos (by omega), if_neg h1, if_pos rfl]
    · rw [if_neg (by omega), if_neg h1, if_neg h2]
      split <;> rfl
theorem nI_yes (KW : Nat → List Int) (n : Nat) (E : List (Int × Int)) (a : Int) (i q : Nat) : nI KW n (E ++ [(a, (i : Int))]) i q = if q = i then nI KW n E i i ++ [a] else nI KW n E i q := by
  by_cases h2 : q = i
  · subst h2
    rw [if_pos rfl]
    unfold nI
    rw [if_neg (by omega), if_pos rfl, if_neg (by omega), if_pos rfl, nE_more, if_pos rfl]
  · rw [if_neg h2]
    unfold nI
    by_cases h1 : q < i
    · rw [if_pos h1, if_pos h1]
    · rw [if_neg h1, if_neg h2, if_neg h1, if_neg h2]
theorem nI_not (KW : Nat → List Int) (n : Nat) (E : List (Int × Int)) (a : Int) {x : Int} {i : Nat} (hx : ¬ x = (i : Int)) (q : Nat) : nI KW n (E ++ [(a, x)]) i q = nI KW n E i q := by
  unfold nI
  by_cases h1 : q < i
  · rw [if_pos h1, if_pos h1]
  · rw [if_neg h1, if_neg h1]
    by_cases h2 : q = i
    · rw [if_pos h2, if_pos h2, nE_more, if_neg hx]
    · rw [if_neg h2, if_neg h2]
theorem nI_end (KW : Nat → List Int) {n q : Nat} (h : q < n) : nE (ofE KW n) q = nI KW n [] n q := by
  unfold nI
  rw [if_pos h]
theorem flat_one {m : Nat} (f : Nat → List (Int × Int)) (g : Int × Int → Bool) (i : Nat) (hn : ∀ j, j < m → j ≠ i → (f j).filter g = []) : ((List.range m).map f).flatten.filter g = if i < m then (f i).filter g else [] := by
  induction m with
  | zero => simp
  | succ m ih =>
    rw [List.range_succ, List.map_append, List.flatten_append, List.filter_append, ih (fun j hj => hn j (by omega))]
    simp only [List.map_cons, List.map_nil, List.flatten_cons, List.flatten_nil, List.append_nil]
    by_cases h : i = m
    · subst h
      rw [if_neg (by omega), if_pos (by omega), List.nil_append]
    · rw [hn m (by omega) (fun e => h e.symm), List.append_nil]
      by_cases h2 : i < m
      · rw [if_pos h2, if_pos (by omega)]
      · rw [if_neg h2, if_neg (by omega)]
theorem wE_of (KW : Nat → List Int) {n i : Nat} (hi : i < n) : wE (ofE KW n) i = ((KW i).length : Int) := by
  unfold wE ofE
  rw [flat_one _ _ i (fun j _ hj => List.filter_eq_nil_iff.2 (fun a ha => by
    obtain ⟨k, _, rfl⟩ := List.mem_map.1 ha
    simp; omega)), if_pos hi, List.filter_eq_self.2 (fun a ha => by
    obtain ⟨k, _, rfl⟩ := List.mem_map.1 ha
    simp), List.length_map]
theorem wI_end (KW : Nat → List Int) (n : Nat) : wL (ofE KW n) n = wI KW n n := by
  apply List.ext_getElem?
  intro q
  by_cases h : q < n
  · rw [wI_get KW _ h, wL_get _ h, if_pos h, wE_of KW h]
  · rw [List.getElem?_eq_none (by rw [wL_len]; omega), List.getElem?_eq_none (by rw [wI_len]; omega)]
theorem nI_bd {KW : Nat → List Int} {n : Nat} (hK : ∀ j, (KW j).length ≤ n) (hn : n ≤ 900) (E : List (Int × Int)) (hE : E.length ≤ 1000000) (i q : Nat) : (nI KW n E i q).length ≤ 1000000 := by
  unfold nI
  split
  · have := nE_bd (ofE KW n) q
    have h := ofE_bd hK n
    have h2 : n * n ≤ 900 * 900 := Nat.mul_le_mul hn hn
    omega
  · split
    · have := nE_bd E i
      omega
    · simp
theorem ne_types {w : World} {g h : Nat} {s t : TypeId} {cs ds : Array Value} (h1 : Blk w g s cs) (h2 : Blk w h t ds) (hne : (s == t) = false) : g ≠ h := by
  rintro rfl
  have h3 := h1.symm.trans h2
  injection h3 with h3
  injection h3 with _ h4 _
  subst h4
  simp at hne
set_option maxRecDepth 100000 in
set_option maxHeartbeats 8000000 in
theorem of_rows (KW : Nat → List Int) (n bk ok c Bk : Nat) (hn : n ≤ 900) (hK : ∀ j, (KW j).length ≤ n) (w : World) (h : RdR w Bk (some ⟨bk, ok, none⟩) n KW) :
    Calls Try.prog 68 #[.slice (some ⟨bk, ok, none⟩) n c] w (GOut w n (ofE KW n)) := by
  have hmk := make_rows n (by omega)
  have hmi := make_ints n (by omega)
  obtain ⟨i0, hi0, hz0, hz1, hz2⟩ := info_parts int_info
  have HI := hide (And.intro hi0 (And.intro hz0 (And.intro hz1 hz2)))
  clear hi0 hz0 hz1 hz2
  go_enter Try.func68, Try.ntmps68
  go_upto_region 1 with fail
  have B0 : Blk (w.alloc (.cells #[.slice none 0 0, .slice none 0 0] 55)) w.heap.size 55 #[.slice none 0 0, .slice none 0 0] := Blk.new _ _ _
  have E0 : Ext w (w.alloc (.cells #[.slice none 0 0, .slice none 0 0] 55)) := (Ext.refl _).alloc _
  have hs : (w.alloc (.cells #[.slice none 0 0, .slice none 0 0] 55)).heap.size = w.heap.size + 1 := by simp
  have RK := h.ext E0
  generalize w.alloc (.cells #[.slice none 0 0, .slice none 0 0] 55) = w0 at *
  generalize hg : w.heap.size = g at *
  have HG := hide hg
  have HS := hide hs
  clear hg hs h
  refine wp_region_linT (by kernel_rfl) (fun w' => (Ext w0 w')) (fun ii vv ww => match ii with | 0 => vv = .slice (some ⟨bk, ok, none⟩) n c | 1 => vv = .int .i64 ((n : Nat) : Int) | 2 => ∃ ga, vv = .slice (some ⟨ga, 0, none⟩) n n ∧ w0.heap.size ≤ ga ∧ Blk ww ga 3 (Array.replicate n (.int .i64 0)) | 3 => vv = .slice (some ⟨bk, ok, none⟩) n c | 4 => vv = .int .i64 ((n : Nat) : Int) | 5 => ∃ gb, vv = .slice (some ⟨gb, 0, none⟩) n n ∧ w0.heap.size ≤ gb ∧ Blk ww gb 36 (Array.replicate n (.slice none 0 0)) | 6 => ∃ ga gb, vv = .agg #[.slice (some ⟨ga, 0, none⟩) n n, .slice (some ⟨gb, 0, none⟩) n n] ∧ w0.heap.size ≤ ga ∧ w0.heap.size ≤ gb ∧ Blk ww ga 3 (Array.replicate n (.int .i64 0)) ∧ Blk ww gb 36 (Array.replicate n (.slice none 0 0)) | 7 => ∃ gc, vv = .pointer (some ⟨gc, 0, none⟩) ∧ w0.heap.size ≤ gc ∧ Blk ww gc 55 #[.slice none 0 0, .slice none 0 0] | _ => True) (fun ii => match ii with | 1 => [(0, 7)] | 2 => [(1, 8)] | 4 => [(3, 10)] | 5 => [(4, 11)] | 6 => [(2, 9), (5, 12)] | 8 => [(7, 3), (6, 13)] | _ => []) (fun ii => match ii with | 0 => [0] | 3 => [0] | _ => []) (fun ii => match ii with | 0 => [3, 4, 5, 7] | 1 => [3, 4, 5, 7] | 2 => [3, 4, 5, 7] | 3 => [0, 1, 2, 7] | 4 => [0, 1, 2, 7] | 5 => [0, 1, 2, 7] | 6 => [7] | 7 => [0, 1, 3, 4, 2, 5, 6] | _ => []) [] [0, 1, 3, 0, 8, 24, 63, 0, 255] (fun _ => True) [] (fun FT wT => ∃ gc ga gb, FT 7 = .pointer (some ⟨gc, 0, none⟩) ∧ GSt w0 wT wT w0.heap.size wT.heap.size wT.heap.size gc ga gb n (List.replicate n 0) (fun _ => []) (List.replicate n (.slice none 0 0))) 8 66 rfl (by kernel_rfl) (by kernel_rfl) (.inl (by kernel_rfl)) ((Ext.refl _).drew) trivial ?_ ?_
  · rename_i hcont; clear hcont
    refine ⟨?_, ?_, ?_, ?_, ?_, ?_, ?_, ?_, ?_, trivial⟩
    · refine stepT_plain rfl ?_
      rintro F a w1 jE - ⟨t0, -⟩ - K hK
      have t0 : a.tmps[0]? = some (.slice (some ⟨bk, ok, none⟩) n c) := t0
      go_simp
      exact hK _ _ jE rfl (fun _ _ _ h => h) (fun _ => trivial) (fun he => absurd he (by decide))
    · refine stepT_plain rfl ?_
      rintro F a w1 jE ⟨h0, t7, -⟩ - - K hK
      have h0 : (F 0) = .slice (some ⟨bk, ok, none⟩) n c := h0
      rw [h0] at t7
      clear h0
      go_simp
      exact hK _ _ jE rfl (fun _ _ _ h => h) (fun _ => trivial) (fun he => absurd he (by decide))
    · refine stepT_plain rfl ?_
      rintro F a w1 jE ⟨h1, t8, -⟩ - - K hK
      have h1 : (F 1) = .int .i64 ((n : Nat) : Int) := h1
      rw [h1] at t8
      clear h1
      go_simp
      have hx : Ext w1 (w1.alloc (.cells (Array.replicate n (.int .i64 0)) 3)) := (Ext.refl _).alloc _
      exact hK _ _ (jE.trans hx) ⟨w1.heap.size, rfl, jE.size, Blk.new _ _ _⟩ (by intro jq hj uq h; have hj : jq ∈ [3, 4, 5, 7] := hj; simp only [List.mem_cons, List.not_mem_nil, or_false] at hj; rcases hj with rfl | rfl | rfl | rfl; exact h; exact h; exact (have h : ∃ gb, uq = .slice (some ⟨gb, 0, none⟩) n n ∧ w0.heap.size ≤ gb ∧ Blk w1 gb 36 (Array.replicate n (.slice none 0 0)) := h; h.imp fun _ k => ⟨k.1, k.2.1, k.2.2.ext hx⟩); exact (have h : ∃ gc, uq = .pointer (some ⟨gc, 0, none⟩) ∧ w0.heap.size ≤ gc ∧ Blk w1 gc 55 #[.slice none 0 0, .slice none 0 0] := h; h.imp fun _ k => ⟨k.1, k.2.1, k.2.2.ext hx⟩)) (fun _ => trivial) (fun he => absurd he (by decide))
    · refine stepT_plain rfl ?_
      rintro F a w1 jE - ⟨t0, -⟩ - K hK
      have t0 : a.tmps[0]? = some (.slice (some ⟨bk, ok, none⟩) n c) := t0
      go_simp
      exact hK _ _ jE rfl (fun _ _ _ h => h) (fun _ => trivial) (fun he => absurd he (by decide))
    · refine stepT_plain rfl ?_
      rintro F a w1 jE ⟨h3, t10, -⟩ - - K hK
      have h3 : (F 3) = .slice (some ⟨bk, ok, none⟩) n c := h3
      rw [h3] at t10
      clear h3
      go_simp
      exact hK _ _ jE rfl (fun _ _ _ h => h) (fun _ => trivial) (fun he => absurd he (by decide))
    · refine stepT_plain rfl ?_
      rintro F a w1 jE ⟨h4, t11, -⟩ - - K hK
      have h4 : (F 4) = .int .i64 ((n : Nat) : Int) := h4
      rw [h4] at t11
      clear h4
      go_simp
      have hx : Ext w1 (w1.alloc (.cells (Array.replicate n (.slice none 0 0)) 36)) := (Ext.refl _).alloc _
      exact hK _ _ (jE.trans hx) ⟨w1.heap.size, rfl, jE.size, Blk.new _ _ _⟩ (by intro jq hj uq h; have hj : jq ∈ [0, 1, 2, 7] := hj; simp only [List.mem_cons, List.not_mem_nil, or_false] at hj; rcases hj with rfl | rfl | rfl | rfl; exact h; exact h; exact (have h : ∃ ga, uq = .slice (some ⟨ga, 0, none⟩) n n ∧ w0.heap.size ≤ ga ∧ Blk w1 ga 3 (Array.replicate n (.int .i64 0)) := h; h.imp fun _ k => ⟨k.1, k.2.1, k.2.2.ext hx⟩); exact (have h : ∃ gc, uq = .pointer (some ⟨gc, 0, none⟩) ∧ w0.heap.size ≤ gc ∧ Blk w1 gc 55 #[.slice none 0 0, .slice none 0 0] := h; h.imp fun _ k => ⟨k.1, k.2.1, k.2.2.ext hx⟩)) (fun _ => trivial) (fun he => absurd he (by decide))
    · refine stepT_plain rfl ?_
      rintro F a w1 jE ⟨h2, t9, h5, t12, -⟩ - - K hK
      have h2 : ∃ ga, (F 2) = .slice (some ⟨ga, 0, none⟩) n n ∧ w0.heap.size ≤ ga ∧ Blk w1 ga 3 (Array.replicate n (.int .i64 0)) := h2
      have h5 : ∃ gb, (F 5) = .slice (some ⟨gb, 0, none⟩) n n ∧ w0.heap.size ≤ gb ∧ Blk w1 gb 36 (Array.replicate n (.slice none 0 0)) := h5
      obtain ⟨ga, e2, q2, k2⟩ := h2
      obtain ⟨gb, e5, q5, k5⟩ := h5
      rw [e2] at t9
      rw [e5] at t12
      go_simp
      exact hK _ _ jE ⟨ga, gb, rfl, q2, q5, k2, k5⟩ (fun _ _ _ h => h) (fun _ => trivial) (fun he => absurd he (by decide))
    · refine stepT_plain rfl ?_
      rintro F a w1 jE - - - K hK
      go_simp
      have hx : Ext w1 (w1.alloc (.cells #[.slice none 0 0, .slice none 0 0] 55)) := (Ext.refl _).alloc _
      exact hK _ _ (jE.trans hx) ⟨w1.heap.size, rfl, jE.size, Blk.new _ _ _⟩ (by intro jq hj uq h; have hj : jq ∈ [0, 1, 3, 4, 2, 5, 6] := hj; simp only [List.mem_cons, List.not_mem_nil, or_false] at hj; rcases hj with rfl | rfl | rfl | rfl | rfl | rfl | rfl; exact h; exact h; exact h; exact h; exact (have h : ∃ ga, uq = .slice (some ⟨ga, 0, none⟩) n n ∧ w0.heap.size ≤ ga ∧ Blk w1 ga 3 (Array.replicate n (.int .i64 0)) := h; h.imp fun _ k => ⟨k.1, k.2.1, k.2.2.ext hx⟩); exact (have h : ∃ gb, uq = .slice (some ⟨gb, 0, none⟩) n n ∧ w0.heap.size ≤ gb ∧ Blk w1 gb 36 (Array.replicate n (.slice none 0 0)) := h; h.imp fun _ k => ⟨k.1, k.2.1, k.2.2.ext hx⟩); exact (have h : ∃ ga gb, uq = .agg #[.slice (some ⟨ga, 0, none⟩) n n, .slice (some ⟨gb, 0, none⟩) n n] ∧ w0.heap.size ≤ ga ∧ w0.heap.size ≤ gb ∧ Blk w1 ga 3 (Array.replicate n (.int .i64 0)) ∧ Blk w1 gb 36 (Array.replicate n (.slice none 0 0)) := h; h.imp fun _ k => k.imp fun _ k => ⟨k.1, k.2.1, k.2.2.1, k.2.2.2.1.ext hx, k.2.2.2.2.ext hx⟩)) (fun _ => trivial) (fun he => absurd he (by decide))
    · refine stepT_plain rfl ?_
      rintro F a w1 jE ⟨h7, t3, h6, t13, -⟩ - - K hK
      have h7 : ∃ gc, (F 7) = .pointer (some ⟨gc, 0, none⟩) ∧ w0.heap.size ≤ gc ∧ Blk w1 gc 55 #[.slice none 0 0, .slice none 0 0] := h7
      have h6 : ∃ ga gb, (F 6) = .agg #[.slice (some ⟨ga, 0, none⟩) n n, .slice (some ⟨gb, 0, none⟩) n n] ∧ w0.heap.size ≤ ga ∧ w0.heap.size ≤ gb ∧ Blk w1 ga 3 (Array.replicate n (.int .i64 0)) ∧ Blk w1 gb 36 (Array.replicate n (.slice none 0 0)) := h6
      obtain ⟨gc, e7, q7, k7⟩ := h7
      obtain ⟨ga, gb, e6, q2, q5, k2, k5⟩ := h6
      have e7' := e7
      rw [e7] at t3
      rw [e6] at t13
      have c := k7.cell
      have f := k7.frozen
      have l := k7.lt
      go_simp
      have n1 := ne_types k2 k7 rfl
      have n2 := ne_types k5 k7 rfl
      have n3 := ne_types k2 k5 rfl
      exact hK undef _ ((jE.set q7 _).set q7 _) trivial (fun _ hj _ _ => (List.not_mem_nil hj).elim) (fun _ => trivial) (fun _ => ⟨gc, ga, gb, e7', GSt.start ((jE.set q7 _).set q7 _) (Nat.le_refl _) ((k7.set_ 0 _).set_ 1 _) ((k2.far n1 _).far n1 _) ((k5.far n2 _).far n2 _) ⟨q7, q2, q5⟩ ⟨n3, fun e => n1 e.symm, fun e => n2 e.symm⟩⟩)
  · rintro F w9 jE - hT
    obtain ⟨gc, ga, gb, e7, G0⟩ := hT (by decide)
    clear hT
    simp only [putL, Act.put, Nat.reduceAdd, Nat.zero_add, List.setIfInBounds_toArray, List.set_cons_succ, List.set_cons_zero]
    rw [e7]
    clear e7
    rw [wI_0 KW] at G0
    have hin : (0 : Int) ≤ (n : Int) := by omega
    go_wp2_with fail
    go_loopw [4] (fun v wr => ∃ (i : Nat) (vs : List Value), v = .int .i64 i ∧ i ≤ n ∧ GSt w0 w9 wr w0.heap.size w9.heap.size w9.heap.size gc ga gb n (wI KW n i) (nI KW n [] i) vs) (fun v _ => n - (intOf v).toNat)
    case atStart => exact ⟨0, _, rfl, by omega, G0.congr rfl (fun q _ => nI_0 KW n q)⟩
    case round =>
      clear G0
      obtain ⟨i, vs, rfl, q1, G1⟩ := hrel
      by_cases hi : i < n
      · obtain ⟨Ai, ci, hb1, hc1, hr1⟩ := (RK.ext G1.ext).rowIn hi
        obtain ⟨KL, hKL⟩ : ∃ KL, (KW i).length = KL := ⟨_, rfl⟩
        rw [hKL] at hc1
        have HKL := hide hKL
        have hKLb : KL ≤ n := by rw [← hKL]; exact hK i
        have hiI : (0 : Int) ≤ (i : Int) ∧ (i : Int) < (n : Int) := by omega
        clear hKL hr1
        go_upto_region 5 with fail
        refine wp_region_linV (by kernel_rfl) (fun w' => (True)) (fun ii vv ww => match ii with | 0 => vv = .pointer (some ⟨gc, 0, none⟩) | 1 => vv = .slice (some ⟨ga, 0, none⟩) n n | 2 => vv = .int .i64 (i : Int) | 3 => vv = .slice (some ⟨bk, ok, none⟩) n c | 4 => vv = .int .i64 (i : Int) | 5 => vv = .pointer (some ⟨bk, ok + i, none⟩) | 6 => vv = .slice Ai KL ci | 7 => vv = .int .i64 ((KL : Nat) : Int) | 8 => vv = .pointer (some ⟨ga, i, none⟩) | _ => True) (fun ii => match ii with | 1 => [(0, 20)] | 5 => [(3, 23), (4, 24)] | 6 => [(5, 25)] | 7 => [(6, 26)] | 8 => [(1, 21), (2, 22)] | 9 => [(8, 28), (7, 27)] | _ => []) (fun ii => match ii with | 0 => [3] | 2 => [4] | 3 => [0] | 4 => [4] | _ => []) (fun ii => match ii with | 0 => [3, 4, 5, 6, 2, 7] | 1 => [3, 4, 5, 6, 2, 7] | 2 => [0, 3, 4, 5, 6, 1, 7] | 3 => [0, 4, 1, 2] | 4 => [0, 3, 1, 2] | 5 => [0, 1, 2] | 6 => [0, 1, 2] | 7 => [0, 1, 2] | 8 => [7] | _ => []) [] [0, 1, 0, 0, 0, 24, 56, 120, 255, 511] (fun w0q => Ext wr w0q) [9] [] (fun FT wT => GSt w0 w9 wT w0.heap.size w9.heap.size w9.heap.size gc ga gb n (wI KW n (i + 1)) (nI KW n [] i) vs) 9 66 rfl (by kernel_rfl) (by kernel_rfl) (.inl (by kernel_rfl)) (trivial) ((Ext.refl _).drew) ?_ ?_
        · rename_i hcont; clear hcont
          refine ⟨?_, ?_, ?_, ?_, ?_, ?_, ?_, ?_, ?_, ?_, trivial⟩
          · refine stepV_plain rfl ?_
            rintro F a w1 jE - ⟨t3, -⟩ iO K hK
            replace iO := iO (by decide)
            have t3 : a.tmps[3]? = some (.pointer (some ⟨gc, 0, none⟩)) := t3
            go_simp
            exact hK _ _ jE rfl (fun _ _ _ h => h) (fun _ h => h) (fun he => absurd he (by decide))
          · refine stepV_plain rfl ?_
            rintro F a w1 jE ⟨h0, t20, -⟩ - iO K hK
            replace iO := iO (by decide)
            have h0 : (F 0) = .pointer (some ⟨gc, 0, none⟩) := h0
            rw [h0] at t20
            clear h0
            have c := (G1.blk.ext iO).cell 0
            go_simp
            exact hK _ _ jE rfl (fun _ _ _ h => h) (fun _ h => h) (fun he => absurd he (by decide))
          · refine stepV_plain rfl ?_
            rintro F a w1 jE - ⟨t4, -⟩ iO K hK
            replace iO := iO (by decide)
            have t4 : a.tmps[4]? = some (.int .i64 (i : Int)) := t4
            go_simp
            exact hK _ _ jE rfl (fun _ _ _ h => h) (fun _ h => h) (fun he => absurd he (by decide))
          · refine stepV_plain rfl ?_
            rintro F a w1 jE - ⟨t0, -⟩ iO K hK
            replace iO := iO (by decide)
            have t0 : a.tmps[0]? = some (.slice (some ⟨bk, ok, none⟩) n c) := t0
            go_simp
            exact hK _ _ jE rfl (fun _ _ _ h => h) (fun _ h => h) (fun he => absurd he (by decide))
          · refine stepV_plain rfl ?_
            rintro F a w1 jE - ⟨t4, -⟩ iO K hK
            replace iO := iO (by decide)
            have t4 : a.tmps[4]? = some (.int .i64 (i : Int)) := t4
            go_simp
            exact hK _ _ jE rfl (fun _ _ _ h => h) (fun _ h => h) (fun he => absurd he (by decide))
          · refine stepV_plain rfl ?_
            rintro F a w1 jE ⟨h3, t23, h4, t24, -⟩ - iO K hK
            replace iO := iO (by decide)
            have h3 : (F 3) = .slice (some ⟨bk, ok, none⟩) n c := h3
            rw [h3] at t23
            clear h3
            have h4 : (F 4) = .int .i64 (i : Int) := h4
            rw [h4] at t24
            clear h4
            go_simp
            exact hK _ _ jE rfl (fun _ _ _ h => h) (fun _ h => h) (fun he => absurd he (by decide))
          · refine stepV_plain rfl ?_
            rintro F a w1 jE ⟨h5, t25, -⟩ - iO K hK
            replace iO := iO (by decide)
            have h5 : (F 5) = .pointer (some ⟨bk, ok + i, none⟩) := h5
            rw [h5] at t25
            clear h5
            have c := (iO.cells.1 bk _ hb1).trans hc1
            go_simp
            exact hK _ _ jE rfl (fun _ _ _ h => h) (fun _ h => h) (fun he => absurd he (by decide))
          · refine stepV_plain rfl ?_
            rintro F a w1 jE ⟨h6, t26, -⟩ - iO K hK
            replace iO := iO (by decide)
            have h6 : (F 6) = .slice Ai KL ci := h6
            rw [h6] at t26
            clear h6
            go_simp
            exact hK _ _ jE rfl (fun _ _ _ h => h) (fun _ h => h) (fun he => absurd he (by decide))
          · refine stepV_plain rfl ?_
            rintro F a w1 jE ⟨h1, t21, h2, t22, -⟩ - iO K hK
            replace iO := iO (by decide)
            have h1 : (F 1) = .slice (some ⟨ga, 0, none⟩) n n := h1
            rw [h1] at t21
            clear h1
            have h2 : (F 2) = .int .i64 (i : Int) := h2
            rw [h2] at t22
            clear h2
            go_simp
            exact hK _ _ jE rfl (fun _ _ _ h => h) (fun _ h => h) (fun he => absurd he (by decide))
          · refine stepV_plain rfl ?_
            rintro F a w1 jE ⟨h8, t28, h7, t27, -⟩ - iO K hK
            replace iO := iO (by decide)
            have h8 : (F 8) = .pointer (some ⟨ga, i, none⟩) := h8
            rw [h8] at t28
            clear h8
            have h7 : (F 7) = .int .i64 ((KL : Nat) : Int) := h7
            rw [h7] at t27
            clear h7
            have c := ((G1.step iO).wts).cell i
            have f := ((G1.step iO).wts).frozen i
            have l := ((G1.step iO).wts).lt
            rw [List.getElem?_toArray, ints, List.getElem?_map, wI_get KW i hi] at c
            go_simp
            exact hK undef _ trivial trivial (fun _ hj _ _ => (List.not_mem_nil hj).elim) (fun h => (h (by simp)).elim) (fun _ => ((G1.step iO).count i ((KL : Nat) : Int)).congr (by rw [wI_set KW hi, unhide HKL]) (fun _ _ => rfl))
        · rintro F w8 jE - hT
          have G2 := hT (by decide)
          simp only [putL, Act.put, Nat.reduceAdd, Nat.zero_add, List.setIfInBounds_toArray, List.set_cons_succ, List.set_cons_zero]
          clear hT hc1 hb1 jE
          clear G1
          go_wp2_with fail
          clear wr
          go_loopw [5] (fun v wr => ∃ (k : Nat) (vs : List Value), v = .int .i64 k ∧ k ≤ n ∧ GSt w0 w9 wr w0.heap.size w9.heap.size w9.heap.size gc ga gb n (wI KW n (i + 1)) (nI KW n (ofE KW k) i) vs) (fun v _ => n - (intOf v).toNat)
          case atStart => exact ⟨0, _, rfl, by omega, G2⟩
          case round =>
            clear G2
            obtain ⟨k, vs2, rfl, q2, G3⟩ := hrel
            by_cases hk : k < n
            · have hkI : (0 : Int) ≤ (k : Int) ∧ (k : Int) < (n : Int) := by omega
              obtain ⟨KM, hKM⟩ : ∃ KM, (KW k).length = KM := ⟨_, rfl⟩
              have HKM := hide hKM
              have hKMb : KM ≤ n := by rw [← hKM]; exact hK k
              clear hKM
              go_wp2_with fail
              go_loopw [6] (fun v wr => ∃ (j : Nat) (vs : List Value), v = .int .i64 j ∧ j ≤ KM ∧ GSt w0 w9 wr w0.heap.size w9.heap.size w9.heap.size gc ga gb n (wI KW n (i + 1)) (nI KW n (ofT KW k j) i) vs) (fun v _ => KM - (intOf v).toNat)
              case atStart => exact ⟨0, _, rfl, by omega, by rw [ofT_0]; exact G3⟩
              case round =>
                clear G3
                obtain ⟨j, vs3, rfl, q3, G4⟩ := hrel
                obtain ⟨Ak, ck, hb1, hc1, hr1⟩ := (RK.ext G4.ext).rowIn hk
                rw [unhide HKM] at hc1 hr1
                by_cases hj : j < KM
                · have hjI : (0 : Int) ≤ (j : Int) ∧ (j : Int) < (KM : Int) := by omega
                  obtain ⟨x, hx⟩ : ∃ x, (KW k)[j]? = some x := ⟨_, List.getElem?_eq_getElem (by rw [unhide HKM]; exact hj)⟩
                  have HT := hide (ofT_snoc KW hx)
                  obtain ⟨bi, oi, hAi, hb2, hc2⟩ := hr1.intIn hx
                  subst hAi
                  have HB := hide (ofT_bd hK hn q2 j)
                  clear hx hr1
                  generalize hE : ofT KW k j = E at *
                  by_cases hxi : x = (i : Int)
                  · subst hxi
                    have HN := hide (nI_bd hK hn E (unhide HB) i i)
                    obtain ⟨v, hv, hc, hf, ho⟩ := G4.rws.get hi
                    obtain ⟨A, c', rfl⟩ := kids_own ho
                    obtain ⟨m, hm⟩ : ∃ m, (nI KW n E i i).length = m := ⟨_, rfl⟩
                    have hl := unhide HN
                    rw [hm] at hc ho hv hl
                    have HV := hide hv
                    have HM := hide hm
                    clear hv hm hE HN
                    go_upto_region 13 with fail
                    clear hb1 hc1 hb2 hc2
                    refine wp_region_linV (by kernel_rfl) (fun w' => (Blk w' gc 55 #[.slice (some ⟨ga, 0, none⟩) n n, .slice (some ⟨gb, 0, none⟩) n n])) (fun ii vv ww => match ii with | 0 => vv = .pointer (some ⟨gc, 1, none⟩) | 1 => vv = .slice (some ⟨gb, 0, none⟩) n n | 2 => vv = .int .i64 (i : Int) | 3 => vv = .pointer (some ⟨gc, 1, none⟩) | 4 => vv = .slice (some ⟨gb, 0, none⟩) n n | 5 => vv = .int .i64 (i : Int) | 6 => vv = .pointer (some ⟨gb, i, none⟩) | 7 => vv = .slice A m c' | 8 => vv = .int .i64 (k : Int) | 9 => ∃ gq, vv = .slice (some ⟨gq, 0, none⟩) 1 1 ∧ Rd ww 1 (some ⟨gq, 0, none⟩) 1 [.int .i64 (k : Int)] | 10 => ∃ A' c'', vv = .slice A' (m + 1) c'' ∧ GSt w0 w9 (ww.setCell ⟨gb, i, none⟩ (.slice A' (m + 1) c'')) w0.heap.size w9.heap.size w9.heap.size gc ga gb n (wI KW n (i + 1)) (fun q => if q = i then nI KW n E i i ++ [(k : Int)] else nI KW n E i q) (vs3.set i (.slice A' (m + 1) c'')) ∧ (∃ u, ww.cell? ⟨gb, i, none⟩ = some u) ∧ ww.frozen? ⟨gb, i, none⟩ = false | 11 => vv = .pointer (some ⟨gb, i, none⟩) | _ => True) (fun ii => match ii with | 1 => [(0, 53)] | 4 => [(3, 56)] | 6 => [(4, 57), (5, 58)] | 7 => [(6, 59)] | 9 => [(8, 61)] | 10 => [(7, 60), (9, 62)] | 11 => [(1, 54), (2, 55)] | 12 => [(11, 64), (10, 63)] | _ => []) (fun ii => match ii with | 0 => [3] | 2 => [4] | 3 => [3] | 5 => [4] | 8 => [5] | _ => []) (fun ii => match ii with | 0 => [3, 4, 5, 6, 8, 7, 9, 2, 10] | 1 => [3, 4, 5, 6, 8, 7, 9, 2, 10] | 2 => [0, 3, 4, 5, 6, 8, 7, 9, 1, 10] | 3 => [0, 5, 8, 9, 1, 2] | 4 => [0, 5, 8, 9, 1, 2] | 5 => [0, 3, 4, 8, 9, 1, 2] | 6 => [0, 8, 9, 1, 2] | 7 => [0, 8, 9, 1, 2] | 8 => [0, 3, 4, 5, 6, 7, 1, 2] | 9 => [0, 3, 4, 5, 6, 7, 1, 2] | 10 => [0, 1, 2] | 11 => [10] | _ => []) [] [0, 1, 0, 0, 8, 0, 56, 120, 0, 256, 1016, 2047, 4095] (fun w0q => Ext wr w0q) [10, 12] [0, 1, 2, 11, 12] (fun FT wT => ∃ vs', GSt w0 w9 wT w0.heap.size w9.heap.size w9.heap.size gc ga gb n (wI KW n (i + 1)) (fun q => if q = i then nI KW n E i i ++ [(k : Int)] else nI KW n E i q) vs') 12 66 rfl (by kernel_rfl) (by kernel_rfl) (.inl (by kernel_rfl)) (G4.blk) ((Ext.refl _).drew) ?_ ?_
                    · rename_i hcont; clear hcont
                      refine ⟨?_, ?_, ?_, ?_, ?_, ?_, ?_, ?_, ?_, ?_, ?_, ?_, ?_, trivial⟩
                      · refine stepV_plain rfl ?_
                        rintro F a w1 jE - ⟨t3, -⟩ iO K hK
                        clear iO
                        have t3 : a.tmps[3]? = some (.pointer (some ⟨gc, 0, none⟩)) := t3
                        go_simp
                        exact hK _ _ jE rfl (fun _ _ _ h => h) (fun _ h => h) (fun he => absurd he (by decide))
                      · refine stepV_plain rfl ?_
                        rintro F a w1 jE ⟨h0, t53, -⟩ - iO K hK
                        clear iO
                        have h0 : (F 0) = .pointer (some ⟨gc, 1, none⟩) := h0
                        rw [h0] at t53
                        clear h0
                        have c := jE.cell 1
                        go_simp
                        exact hK _ _ jE rfl (fun _ _ _ h => h) (fun _ h => h) (fun he => absurd he (by decide))
                      · refine stepV_plain rfl ?_
                        rintro F a w1 jE - ⟨t4, -⟩ iO K hK
                        clear iO
                        have t4 : a.tmps[4]? = some (.int .i64 (i : Int)) := t4
                        go_simp
                        exact hK _ _ jE rfl (fun _ _ _ h => h) (fun _ h => h) (fun he => absurd he (by decide))
                      · refine stepV_plain rfl ?_
                        rintro F a w1 jE - ⟨t3, -⟩ iO K hK
                        replace iO := iO (by decide)
                        have t3 : a.tmps[3]? = some (.pointer (some ⟨gc, 0, none⟩)) := t3
                        go_simp
                        exact hK _ _ jE rfl (fun _ _ _ h => h) (fun _ h => h) (fun he => absurd he (by decide))
                      · refine stepV_plain rfl ?_
                        rintro F a w1 jE ⟨h3, t56, -⟩ - iO K hK
                        replace iO := iO (by decide)
                        have h3 : (F 3) = .pointer (some ⟨gc, 1, none⟩) := h3
                        rw [h3] at t56
                        clear h3
                        have c := jE.cell 1
                        go_simp
                        exact hK _ _ jE rfl (fun _ _ _ h => h) (fun _ h => h) (fun he => absurd he (by decide))
                      · refine stepV_plain rfl ?_
                        rintro F a w1 jE - ⟨t4, -⟩ iO K hK
                        replace iO := iO (by decide)
                        have t4 : a.tmps[4]? = some (.int .i64 (i : Int)) := t4
                        go_simp
                        exact hK _ _ jE rfl (fun _ _ _ h => h) (fun _ h => h) (fun he => absurd he (by decide))
                      · refine stepV_plain rfl ?_
                        rintro F a w1 jE ⟨h4, t57, h5, t58, -⟩ - iO K hK
                        replace iO := iO (by decide)
                        have h4 : (F 4) = .slice (some ⟨gb, 0, none⟩) n n := h4
                        rw [h4] at t57
                        clear h4
                        have h5 : (F 5) = .int .i64 (i : Int) := h5
                        rw [h5] at t58
                        clear h5
                        go_simp
                        exact hK _ _ jE rfl (fun _ _ _ h => h) (fun _ h => h) (fun he => absurd he (by decide))
                      · refine stepV_plain rfl ?_
                        rintro F a w1 jE ⟨h6, t59, -⟩ - iO K hK
                        replace iO := iO (by decide)
                        have h6 : (F 6) = .pointer (some ⟨gb, i, none⟩) := h6
                        rw [h6] at t59
                        clear h6
                        have c := (iO.cells.1 gb _ G4.rws.blk.lt).trans hc
                        go_simp
                        exact hK _ _ jE rfl (fun _ _ _ h => h) (fun _ h => h) (fun he => absurd he (by decide))
                      · refine stepV_plain rfl ?_
                        rintro F a w1 jE - ⟨t5, -⟩ iO K hK
                        replace iO := iO (by decide)
                        have t5 : a.tmps[5]? = some (.int .i64 (k : Int)) := t5
                        go_simp
                        exact hK _ _ jE rfl (fun _ _ _ h => h) (fun _ h => h) (fun he => absurd he (by decide))
                      · refine stepV_plain rfl ?_
                        rintro F a w1 jE ⟨h8, t61, -⟩ - iO K hK
                        replace iO := iO (by decide)
                        have h8 : (F 8) = .int .i64 (k : Int) := h8
                        rw [h8] at t61
                        clear h8
                        go_simp
                        have hx : Ext w1 (w1.alloc (.cells #[.int .i64 (k : Int)] 3)) := (Ext.refl _).alloc _
                        exact hK _ _ (jE.ext hx) ⟨_, rfl, Rd.one _ _⟩ (by intro jq hj uq h; have hj : jq ∈ [0, 3, 4, 5, 6, 7, 1, 2] := hj; simp only [List.mem_cons, List.not_mem_nil, or_false] at hj; rcases hj with rfl | rfl | rfl | rfl | rfl | rfl | rfl | rfl; exact h; exact h; exact h; exact h; exact h; exact h; exact h; exact h) (fun _ _ => iO.trans hx) (fun he => absurd he (by decide))
                      · refine stepV_plain rfl ?_
                        rintro F a w1 jE ⟨h7, t60, h9, t62, -⟩ - iO K hK
                        replace iO := iO (by decide)
                        have h7 : (F 7) = .slice A m c' := h7
                        rw [h7] at t60
                        clear h7
                        have h9 : ∃ gq, (F 9) = .slice (some ⟨gq, 0, none⟩) 1 1 ∧ Rd w1 1 (some ⟨gq, 0, none⟩) 1 [.int .i64 (k : Int)] := h9
                        obtain ⟨gq, e9, r9⟩ := h9
                        rw [e9] at t62
                        have OO := own_far ho iO
                        refine wp_append_rd (.tmp 60) (.tmp 62) _ rfl w0.heap.size 3 i0 _ 1 8 Try.underlying36 (unhide HI).1 (unhide HI).2.1 (unhide HI).2.2.1 (unhide HI).2.2.2 rfl (by omega) _ m (ints (nI KW n E i i)) (eval_tmp t60) OO _ 1 1 [.int .i64 (k : Int)] (eval_tmp t62) r9 (by simp [Value.oneCell']) (by simp only [maxLen]; omega) (by omega) (by have := (G4.step iO).rws.base; have := (G4.step iO).rws.blk.lt; omega) ?_
                        intro A' c'' w2 own4 g4 at4
                        have G5 := G4.push iO (unhide HV) g4 (by rw [List.length_append, unhide HM]; rfl) own4 at4
                        have n1 := G4.offs i _ (unhide HV)
                        have hb := g4.block gb (by have := (G4.step iO).rws.blk.lt; omega) (fun e => G4.rws.off i _ (unhide HV) e.symm)
                        exact hK _ _ (jE.grown g4 (fun e => (n1 gc e).2.1 rfl)) ⟨A', c'', rfl, G5, ⟨_, (World.cell?_of_block hb).trans ((iO.cells.1 gb _ G4.rws.blk.lt).trans hc)⟩, (World.frozen?_of_block hb).trans ((iO.cells.2 gb _ G4.rws.blk.lt).trans hf)⟩ (by intro jq hj uq h; have hj : jq ∈ [0, 1, 2] := hj; simp only [List.mem_cons, List.not_mem_nil, or_false] at hj; rcases hj with rfl | rfl | rfl; exact h; exact h; exact h) (fun h => (h (by simp)).elim) (fun he => absurd he (by decide))
                      · refine stepV_plain rfl ?_
                        rintro F a w1 jE ⟨h1, t54, h2, t55, -⟩ - iO K hK
                        clear iO
                        have h1 : (F 1) = .slice (some ⟨gb, 0, none⟩) n n := h1
                        rw [h1] at t54
                        clear h1
                        have h2 : (F 2) = .int .i64 (i : Int) := h2
                        rw [h2] at t55
                        clear h2
                        go_simp
                        exact hK _ _ jE rfl (fun _ _ _ h => h) (fun _ h => h) (fun he => absurd he (by decide))
                      · refine stepV_plain rfl ?_
                        rintro F a w1 jE ⟨h11, t64, h10, t63, -⟩ - iO K hK
                        clear iO
                        have h11 : (F 11) = .pointer (some ⟨gb, i, none⟩) := h11
                        rw [h11] at t64
                        clear h11
                        have h10 : ∃ A' c'', (F 10) = .slice A' (m + 1) c'' ∧ GSt w0 w9 (w1.setCell ⟨gb, i, none⟩ (.slice A' (m + 1) c'')) w0.heap.size w9.heap.size w9.heap.size gc ga gb n (wI KW n (i + 1)) (fun q => if q = i then nI KW n E i i ++ [(k : Int)] else nI KW n E i q) (vs3.set i (.slice A' (m + 1) c'')) ∧ (∃ u, w1.cell? ⟨gb, i, none⟩ = some u) ∧ w1.frozen? ⟨gb, i, none⟩ = false := h10
                        obtain ⟨A', c'', e10, G5, ⟨u, c⟩, f⟩ := h10
                        rw [e10] at t63
                        go_simp
                        exact hK undef _ (jE.far (show gc ≠ gb from G4.ne.2.2) _) trivial (fun _ hj _ _ => (List.not_mem_nil hj).elim) (fun h => (h (by simp)).elim) (fun _ => ⟨_, G5⟩)
                    · rintro F w7 jE - hT
                      obtain ⟨vs', G5⟩ := hT (by decide)
                      simp only [putL, Act.put, Nat.reduceAdd, Nat.zero_add, List.setIfInBounds_toArray, List.set_cons_succ, List.set_cons_zero]
                      have G6 := G5.congr (V := wI KW n (i + 1)) (M := nI KW n (ofT KW k (j + 1)) i) rfl (fun q _ => by rw [unhide HT]; exact nI_yes KW n E _ i q)
                      clear G5 hT jE G4 hc hf ho
                      go_wp2_with fail
                      go_roundw
                      case rel => exact ⟨j + 1, vs', by go_num, by omega, G6⟩
                      case measure => simp [intOf]; omega
                  · have hxb : (x == (i : Int)) = false := by simpa using hxi
                    have hG5 : GSt w0 w9 wr w0.heap.size w9.heap.size w9.heap.size gc ga gb n (wI KW n (i + 1)) (nI KW n (ofT KW k (j + 1)) i) vs3 := G4.congr rfl (fun q _ => by rw [unhide HT]; exact nI_not KW n E _ hxi q)
                    clear hxi HT hE
                    go_wp2_with fail
                    go_roundw
                    case rel => exact ⟨j + 1, vs3, by go_num, by omega, hG5⟩
                    case measure => simp [intOf]; omega
                · have hje : j = KM := by omega
                  have hG5 : GSt w0 w9 wr w0.heap.size w9.heap.size w9.heap.size gc ga gb n (wI KW n (i + 1)) (nI KW n (ofE KW (k + 1)) i) vs3 := by rw [ofE_succ, unhide HKM]; rw [hje] at G4; exact G4
                  have hjI : ¬ (j : Int) < (KM : Int) := by omega
                  clear hje G4 hr1
                  go_wp2_with fail
                  go_roundw
                  case rel => exact ⟨k + 1, vs3, by go_num, by omega, hG5⟩
                  case measure => simp [intOf]; omega
            · have hke : k = n := by omega
              have hG5 : GSt w0 w9 wr w0.heap.size w9.heap.size w9.heap.size gc ga gb n (wI KW n (i + 1)) (nI KW n [] (i + 1)) vs2 := by rw [hke] at G3; exact G3.congr rfl (fun q _ => nI_next KW n i q)
              have hkI : ¬ (k : Int) < (n : Int) := by omega
              clear hke G3
              go_wp2_with fail
              go_roundw
              case rel => exact ⟨i + 1, vs2, by go_num, by omega, hG5⟩
              case measure => simp [intOf]; omega
      · have hin2 : i = n := by omega
        have G2 : GSt w0 w9 wr w0.heap.size w9.heap.size w9.heap.size gc ga gb n (wL (ofE KW n) n) (nE (ofE KW n)) vs := by
          rw [hin2] at G1
          exact G1.congr (wI_end KW n) (fun q hq => nI_end KW hq)
        clear hin2 G1
        have B2 := B0.ext G2.ext
        have c0 := B2.cell
        have f0 := B2.frozen
        have l0 := B2.lt
        have c1 := G2.blk.cell 0
        have c2 := G2.blk.cell 1
        have l1 := G2.blk.lt
        clear hmk hmi B0
        go_wp2_with fail
        refine bodyPost_ret (results_cellG Try.results68 _ _ g 55 _ _ rfl ((B2.set_ 0 _).set_ 1 _) Try.underlying55 rfl (by kernel_rfl)) rfl ?_
        have hb1 := unhide HG
        have hb2 := unhide HS
        have hb3 := G2.base
        have X : ExtX wr ((wr.setCell ⟨g, 0, none⟩ (.slice (some ⟨ga, 0, none⟩) n n)).setCell ⟨g, 1, none⟩ (.slice (some ⟨gb, 0, none⟩) n n)) [g] := ((ExtX.refl wr [g]).set (by simp) _).set (by simp) _
        refine ⟨some ⟨ga, 0, none⟩, some ⟨gb, 0, none⟩, rfl, X.rd (G2.rd) (fun b off e hm => ?_), (G2.rws.rdr.past X (fun q hq => ?_)).mono ?_, fun b off e => ?_, X.ext (E0.trans G2.ext) (fun q hq => ?_)⟩
        · have hm := List.mem_singleton.1 hm
          injection e with e
          injection e with e
          omega
        · rw [List.mem_singleton.1 hq]; omega
        · omega
        · injection e with e
          injection e with e
          omega
        · rw [List.mem_singleton.1 hq]; omega
end Go.Proofs.Ytnolbmfjgfojhaa
