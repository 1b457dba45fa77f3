/- Graphs: the state of a graph that is laid (contract of the closure that lays an edge). -/
import Derived.Test.YtnolbmfjgfojhaaRow
import Derived.Test.YtnolbmfjgfojhaaTrK
import Derived.Test.YtnolbmfjgfojhaaIsD
import Derived.Test.YtnolbmfjgfojhaaTyF
import Derived.Test.YtnolbmfjgfojhaaLinN
import Derived.Deep.Cut
namespace Go.Proofs.Ytnolbmfjgfojhaa
open Go.RowKit
/-- the state in which a graph is laid: its blocks gc (the struct), ga (Waits), gb (Next); all from B on; what lies from C to D stays as it was in wk -/
structure GSt (w0 wk w : World) (B C D gc ga gb n : Nat) (W : List Int) (L : Nat → List Int) (vs : List Value) : Prop where
  ext : Ext w0 w
  low : w0.heap.size ≤ B
  blk : Blk w gc 55 #[.slice (some ⟨ga, 0, none⟩) n n, .slice (some ⟨gb, 0, none⟩) n n]
  wts : Blk w ga 3 (ints W).toArray
  wl : W.length = n
  rws : Rws w B gb n L vs
  base : B ≤ gc ∧ B ≤ ga
  ne : ga ≠ gb ∧ gc ≠ ga ∧ gc ≠ gb
  lo : gc < C ∧ ga < C ∧ gb < C
  mid : D ≤ w.heap.size ∧ ∀ q, C ≤ q → q < D → w.heap[q]? = wk.heap[q]?
  offs : ∀ (i : Nat) (v : Value), vs[i]? = some v → ∀ b, v.ownBlock = some b → b ≠ ga ∧ b ≠ gc ∧ (b < C ∨ D ≤ b)
section
variable {w0 wk w w' w1 w2 : World} {B C D gc ga gb n : Nat} {W : List Int} {L : Nat → List Int} {vs : List Value}
theorem GSt.step (h : GSt w0 wk w B C D gc ga gb n W L vs) (hx : Ext w w') : GSt w0 wk w' B C D gc ga gb n W L vs :=
  ⟨h.ext.trans hx, h.low, h.blk.ext hx, h.wts.ext hx, h.wl, h.rws.ext hx, h.base, h.ne, h.lo, ⟨Nat.le_trans h.mid.1 hx.size, fun q h1 h2 => (hx.block q (Nat.lt_of_lt_of_le h2 h.mid.1)).trans (h.mid.2 q h1 h2)⟩, h.offs⟩
theorem GSt.congr (h : GSt w0 wk w B C D gc ga gb n W L vs) {V : List Int} {M : Nat → List Int} (hV : V = W) (hM : ∀ i, i < n → M i = L i) : GSt w0 wk w B C D gc ga gb n V M vs :=
  ⟨h.ext, h.low, h.blk, by rw [hV]; exact h.wts, by rw [hV]; exact h.wl, h.rws.congr hM, h.base, h.ne, h.lo, h.mid, h.offs⟩
theorem Rws.far {B g n : Nat} (h : Rws w B g n L vs) {p : Addr} (hp : p.block ≠ g) (ho : ∀ (i : Nat) (v : Value), vs[i]? = some v → v.ownBlock ≠ some p.block) (u : Value) : Rws (w.setCell p u) B g n L vs :=
  h.grown (row := some p.block) ⟨rfl, rfl, rfl, by simp [World.setCell], fun k _ hk => Below.heap_setCell w p u k (fun e => hk (by rw [e]))⟩ (fun e => hp (Option.some.inj e)) (fun i v hv => .inr (ho i v hv))
/-- a number is put into Waits -/
theorem GSt.count (h : GSt w0 wk w B C D gc ga gb n W L vs) (k : Nat) (x : Int) : GSt w0 wk (w.setCell ⟨ga, k, none⟩ (.int .i64 x)) B C D gc ga gb n (W.set k x) L vs := by
  obtain ⟨b1, b2⟩ := h.base
  obtain ⟨n1, n2, n3⟩ := h.ne
  obtain ⟨l1, l2, l3⟩ := h.lo
  refine ⟨h.ext.set (p := ⟨ga, k, none⟩) (by have := h.low; show w0.heap.size ≤ ga; omega) _, h.low, h.blk.far (show gc ≠ ga from n2) _, ?_, by rw [List.length_set]; exact h.wl, ?_, h.base, h.ne, h.lo, ⟨by simpa [World.setCell] using h.mid.1, fun q h1 h2 => ?_⟩, h.offs⟩
  · have := h.wts.set_ k (.int .i64 x)
    rwa [ints_set] at this
  · exact h.rws.far (p := ⟨ga, k, none⟩) n1 (fun i v hv e => (h.offs i v hv ga e).1 rfl) _
  · rw [Below.heap_setCell w ⟨ga, k, none⟩ _ q (by show q ≠ ga; omega)]
    exact h.mid.2 q h1 h2
/-- a row of Next has grown by one -/
theorem GSt.push (h : GSt w0 wk w B C D gc ga gb n W L vs) (hx : Ext w w1) {p : Nat} {v v' : Value} {x : Int} {m : Nat} (hv : vs[p]? = some v) (g4 : w1.grownBy w2 v.ownBlock) (hm : m = (L p ++ [x]).length)
    (hown : w2.ownsRow B 3 1 v' m (ints (L p) ++ [.int .i64 x])) (hat : v'.ownBlock = v.ownBlock ∨ v'.ownBlock = some w1.heap.size) :
    GSt w0 wk (w2.setCell ⟨gb, p, none⟩ v') B C D gc ga gb n W (fun q => if q = p then L p ++ [x] else L q) (vs.set p v') := by
  obtain ⟨b1, b2⟩ := h.base
  obtain ⟨n1, n2, n3⟩ := h.ne
  obtain ⟨l1, l2, l3⟩ := h.lo
  have h1 := h.step hx
  have hr : ∀ b, v.ownBlock = some b → B ≤ b := fun b e => ((h1.rws.row p v hv).lt b e).1
  refine ⟨(h1.ext.grown g4 (fun g e => Nat.le_trans h.low (hr g e))).set (p := ⟨gb, p, none⟩) (by have := h.low; have := h.rws.base; show w0.heap.size ≤ gb; omega) _, h.low, (h1.blk.grown g4 (fun e => (h.offs p v hv gc e).2.1 rfl)).far (show gc ≠ gb from n3) _,
    (h1.wts.grown g4 (fun e => (h.offs p v hv ga e).1 rfl)).far (show ga ≠ gb from n1) _, h.wl, h1.rws.step hv g4 hm hown hat, h.base, h.ne, h.lo, ⟨?_, fun q q1 q2 => ?_⟩, fun i u hu b hb => ?_⟩
  · have := h1.mid.1
    have := g4.size
    simp only [World.setCell, Array.size_modify]
    first | omega | (simp; omega)
  · rw [Below.heap_setCell w2 ⟨gb, p, none⟩ _ q (by show q ≠ gb; omega)]
    refine (g4.block q (Nat.lt_of_lt_of_le q2 h1.mid.1) (fun e => ?_)).trans (h1.mid.2 q q1 q2)
    have := (h.offs p v hv q e.symm).2.2
    omega
  · by_cases hi : i = p
    · subst hi
      have hpl := (List.getElem?_eq_some_iff.1 hv).1
      rw [List.getElem?_set_self hpl] at hu
      obtain rfl := Option.some.inj hu
      rcases hat with e | e
      · exact h.offs i v hv b (by rw [← e]; exact hb)
      · rw [e] at hb
        have hb := Option.some.inj hb
        have q1 := h1.blk.lt
        have q2 := h1.wts.lt
        have q3 := h1.mid.1
        refine ⟨by omega, by omega, by omega⟩
    · rw [List.getElem?_set_ne (fun e => hi e.symm)] at hu
      exact h.offs i u hu b hb
/-- how it begins -/
theorem GSt.start (hx : Ext w0 w) (hlow : w0.heap.size ≤ B) (h1 : Blk w gc 55 #[.slice (some ⟨ga, 0, none⟩) n n, .slice (some ⟨gb, 0, none⟩) n n]) (h2 : Blk w ga 3 (Array.replicate n (.int .i64 0))) (h3 : Blk w gb 36 (Array.replicate n (.slice none 0 0)))
    (hb : B ≤ gc ∧ B ≤ ga ∧ B ≤ gb) (hne : ga ≠ gb ∧ gc ≠ ga ∧ gc ≠ gb) : GSt w0 w w B w.heap.size w.heap.size gc ga gb n (List.replicate n 0) (fun _ => []) (List.replicate n (.slice none 0 0)) := by
  have key : ∀ (i : Nat) (v : Value), (List.replicate n (Value.slice none 0 0))[i]? = some v → v = .slice none 0 0 := by
    intro i v h
    exact (List.mem_replicate.1 (List.mem_of_getElem? h)).2
  refine ⟨hx, hlow, h1, ?_, by simp, ⟨by rw [List.toArray_replicate]; exact h3, by simp, hb.2.2, fun i v h => ?_, fun i j v u b _ h _ hb => ?_, fun i v h => ?_⟩, ⟨hb.1, hb.2.1⟩, hne, ⟨h1.lt, h2.lt, h3.lt⟩, ⟨Nat.le_refl _, fun q q1 q2 => by omega⟩, fun i v h b hb => ?_⟩
  · rw [ints, List.map_replicate, List.toArray_replicate]; exact h2
  · rw [key i v h]; exact World.ownsRow_nil ..
  · rw [key i v h] at hb; cases hb
  · rw [key i v h]; simp [Value.ownBlock]
  · rw [key i v h] at hb; cases hb
/-- what was laid since then stays as it is -/
theorem GSt.hold (h : GSt w0 wk w B C D gc ga gb n W L vs) (hx : Ext w w') (hn : ∀ (i : Nat) (v : Value), vs[i]? = some v → v.ownBlock = none) : GSt w0 w' w' B w.heap.size w'.heap.size gc ga gb n W L vs :=
  ⟨h.ext.trans hx, h.low, h.blk.ext hx, h.wts.ext hx, h.wl, h.rws.ext hx, h.base, h.ne, ⟨h.blk.lt, h.wts.lt, h.rws.blk.lt⟩, ⟨Nat.le_refl _, fun q _ _ => rfl⟩, fun i v hv b hb => by rw [hn i v hv] at hb; cases hb⟩
theorem RdR.kept {A : Option Addr} {m : Nat} {M : Nat → List Int} (h : RdR wk C A m M) (h' : D = wk.heap.size) (hm : D ≤ w.heap.size ∧ ∀ q, C ≤ q → q < D → w.heap[q]? = wk.heap[q]?) : RdR w C A m M :=
  ⟨fun i hi => by
    subst h'
    obtain ⟨b, off, Ai, ci, ha, hB, hb, hc, hr, hf⟩ := h.at_ i hi
    refine ⟨b, off, Ai, ci, ha, hB, Nat.lt_of_lt_of_le hb hm.1, (World.cell?_of_block (hm.2 b hB hb)).trans hc, ⟨hr.len, fun h0 => ?_⟩, hf⟩
    obtain ⟨b', off', he, hb', hc'⟩ := hr.at_ h0
    exact ⟨b', off', he, Nat.lt_of_lt_of_le hb' hm.1, fun j u hu => (World.cell?_of_block (hm.2 b' (hf b' off' he) hb')).trans (hc' j u hu)⟩⟩
set_option maxRecDepth 100000 in
set_option maxHeartbeats 4000000 in
theorem put_any (G : GSt w0 wk w B C D gc ga gb n W L vs) {i p : Nat} (hi : i < n) (hp : p < n) {x : Int} (hx : W[i]? = some x) (hx0 : 0 ≤ x ∧ x ≤ 1000000) (hl : (L p).length ≤ 1000000) :
    Calls Try.prog 75 #[.int .i64 (i : Int), .int .i64 (p : Int), .pointer (some ⟨gc, 0, none⟩)] w
      fun e w' => e = .returned (.tuple #[]) ∧ ∃ vs', GSt w0 wk w' B C D gc ga gb n (W.set i (x + 1)) (fun q => if q = p then L p ++ [(i : Int)] else L q) vs' := by
  obtain ⟨i0, hi0, hz0, hz1, hz2⟩ := info_parts int_info
  have HI := hide (And.intro hi0 (And.intro hz0 (And.intro hz1 hz2)))
  clear hi0 hz0 hz1 hz2
  have hiI : (0 : Int) ≤ (i : Int) ∧ (i : Int) < (n : Int) := by omega
  have hpI : (0 : Int) ≤ (p : Int) ∧ (p : Int) < (n : Int) := by omega
  have c1 := G.blk.cell 0
  have c2 := G.blk.cell 1
  have l1 := G.blk.lt
  have ca : w.cell? ⟨ga, i, none⟩ = some (.int .i64 x) := by
    rw [G.wts.cell, List.getElem?_toArray, ints, List.getElem?_map, hx]; rfl
  have fa := G.wts.frozen i
  have la := G.wts.lt
  go_enter Try.func75, Try.ntmps75
  go_upto_region 1 with fail
  clear c1 c2 l1 ca fa la
  have G1 := G.count i (x + 1)
  clear G hx
  generalize w.setCell ⟨ga, i, none⟩ (.int .i64 (x + 1)) = w1 at *
  obtain ⟨W1, hW1⟩ : ∃ W1, W.set i (x + 1) = W1 := ⟨_, rfl⟩
  rw [hW1] at G1
  have HW := hide hW1
  clear hW1
  obtain ⟨v, hv, hc, hf, ho⟩ := G1.rws.get hp
  obtain ⟨A, c, rfl⟩ := kids_own ho
  obtain ⟨m, hm⟩ : ∃ m, (L p).length = m := ⟨_, rfl⟩
  rw [hm] at hc ho hv hl
  have HV := hide hv
  have HM := hide hm
  clear hv hm
  refine wp_region_linV (by kernel_rfl) (fun w' => (Blk w' gc 55 #[.slice (some ⟨ga, 0, none⟩) n n, .slice (some ⟨gb, 0, none⟩) n n])) (fun ii vv ww => match ii with | 0 => vv = .pointer (some ⟨gc, 1, none⟩) | 1 => vv = .slice (some ⟨gb, 0, none⟩) n n | 2 => vv = .int .i64 (p : Int) | 3 => vv = .pointer (some ⟨gc, 1, none⟩) | 4 => vv = .slice (some ⟨gb, 0, none⟩) n n | 5 => vv = .int .i64 (p : Int) | 6 => vv = .pointer (some ⟨gb, p, none⟩) | 7 => vv = .slice A m c | 8 => vv = .int .i64 (i : Int) | 9 => ∃ gq, vv = .slice (some ⟨gq, 0, none⟩) 1 1 ∧ Rd ww 1 (some ⟨gq, 0, none⟩) 1 [.int .i64 (i : Int)] | 10 => ∃ A' c', vv = .slice A' (m + 1) c' ∧ GSt w0 wk (ww.setCell ⟨gb, p, none⟩ (.slice A' (m + 1) c')) B C D gc ga gb n W1 (fun q => if q = p then L p ++ [(i : Int)] else L q) (vs.set p (.slice A' (m + 1) c')) ∧ (∃ u, ww.cell? ⟨gb, p, none⟩ = some u) ∧ ww.frozen? ⟨gb, p, none⟩ = false | 11 => vv = .pointer (some ⟨gb, p, none⟩) | _ => True) (fun ii => match ii with | 1 => [(0, 12)] | 4 => [(3, 15)] | 6 => [(4, 16), (5, 17)] | 7 => [(6, 18)] | 9 => [(8, 20)] | 10 => [(7, 19), (9, 21)] | 11 => [(1, 13), (2, 14)] | 12 => [(11, 23), (10, 22)] | _ => []) (fun ii => match ii with | 0 => [2] | 2 => [1] | 3 => [2] | 5 => [1] | 8 => [0] | _ => []) (fun ii => match ii with | 0 => [3, 4, 5, 6, 8, 7, 9, 2, 10] | 1 => [3, 4, 5, 6, 8, 7, 9, 2, 10] | 2 => [0, 3, 4, 5, 6, 8, 7, 9, 1, 10] | 3 => [0, 5, 8, 9, 1, 2] | 4 => [0, 5, 8, 9, 1, 2] | 5 => [0, 3, 4, 8, 9, 1, 2] | 6 => [0, 8, 9, 1, 2] | 7 => [0, 8, 9, 1, 2] | 8 => [0, 3, 4, 5, 6, 7, 1, 2] | 9 => [0, 3, 4, 5, 6, 7, 1, 2] | 10 => [0, 1, 2] | 11 => [10] | _ => []) [] [0, 1, 0, 0, 8, 0, 56, 120, 0, 256, 1016, 2047, 4095] (fun w0q => Ext w1 w0q) [10, 12] [0, 1, 2, 11, 12] (fun FT wT => ∃ vs', GSt w0 wk wT B C D gc ga gb n W1 (fun q => if q = p then L p ++ [(i : Int)] else L q) vs') 12 24 rfl (by kernel_rfl) (by kernel_rfl) (.inl (by kernel_rfl)) (G1.blk) ((Ext.refl _).drew) ?_ ?_
  · rename_i hcont; clear hcont
    refine ⟨?_, ?_, ?_, ?_, ?_, ?_, ?_, ?_, ?_, ?_, ?_, ?_, ?_, trivial⟩
    · refine stepV_plain rfl ?_
      rintro F a w1 jE - ⟨t2, -⟩ iO K hK
      clear iO
      have t2 : a.tmps[2]? = some (.pointer (some ⟨gc, 0, none⟩)) := t2
      go_simp
      exact hK _ _ jE rfl (fun _ _ _ h => h) (fun _ h => h) (fun he => absurd he (by decide))
    · refine stepV_plain rfl ?_
      rintro F a w1 jE ⟨h0, t12, -⟩ - iO K hK
      clear iO
      have h0 : (F 0) = .pointer (some ⟨gc, 1, none⟩) := h0
      rw [h0] at t12
      clear h0
      have c := jE.cell 1
      go_simp
      exact hK _ _ jE rfl (fun _ _ _ h => h) (fun _ h => h) (fun he => absurd he (by decide))
    · refine stepV_plain rfl ?_
      rintro F a w1 jE - ⟨t1, -⟩ iO K hK
      clear iO
      have t1 : a.tmps[1]? = some (.int .i64 (p : Int)) := t1
      go_simp
      exact hK _ _ jE rfl (fun _ _ _ h => h) (fun _ h => h) (fun he => absurd he (by decide))
    · refine stepV_plain rfl ?_
      rintro F a w1 jE - ⟨t2, -⟩ iO K hK
      replace iO := iO (by decide)
      have t2 : a.tmps[2]? = some (.pointer (some ⟨gc, 0, none⟩)) := t2
      go_simp
      exact hK _ _ jE rfl (fun _ _ _ h => h) (fun _ h => h) (fun he => absurd he (by decide))
    · refine stepV_plain rfl ?_
      rintro F a w1 jE ⟨h3, t15, -⟩ - iO K hK
      replace iO := iO (by decide)
      have h3 : (F 3) = .pointer (some ⟨gc, 1, none⟩) := h3
      rw [h3] at t15
      clear h3
      have c := jE.cell 1
      go_simp
      exact hK _ _ jE rfl (fun _ _ _ h => h) (fun _ h => h) (fun he => absurd he (by decide))
    · refine stepV_plain rfl ?_
      rintro F a w1 jE - ⟨t1, -⟩ iO K hK
      replace iO := iO (by decide)
      have t1 : a.tmps[1]? = some (.int .i64 (p : Int)) := t1
      go_simp
      exact hK _ _ jE rfl (fun _ _ _ h => h) (fun _ h => h) (fun he => absurd he (by decide))
    · refine stepV_plain rfl ?_
      rintro F a w1 jE ⟨h4, t16, h5, t17, -⟩ - iO K hK
      replace iO := iO (by decide)
      have h4 : (F 4) = .slice (some ⟨gb, 0, none⟩) n n := h4
      rw [h4] at t16
      clear h4
      have h5 : (F 5) = .int .i64 (p : Int) := h5
      rw [h5] at t17
      clear h5
      go_simp
      exact hK _ _ jE rfl (fun _ _ _ h => h) (fun _ h => h) (fun he => absurd he (by decide))
    · refine stepV_plain rfl ?_
      rintro F a w1 jE ⟨h6, t18, -⟩ - iO K hK
      replace iO := iO (by decide)
      have h6 : (F 6) = .pointer (some ⟨gb, p, none⟩) := h6
      rw [h6] at t18
      clear h6
      have c := (iO.cells.1 gb _ G1.rws.blk.lt).trans hc
      go_simp
      exact hK _ _ jE rfl (fun _ _ _ h => h) (fun _ h => h) (fun he => absurd he (by decide))
    · refine stepV_plain rfl ?_
      rintro F a w1 jE - ⟨t0, -⟩ iO K hK
      replace iO := iO (by decide)
      have t0 : a.tmps[0]? = some (.int .i64 (i : Int)) := t0
      go_simp
      exact hK _ _ jE rfl (fun _ _ _ h => h) (fun _ h => h) (fun he => absurd he (by decide))
    · refine stepV_plain rfl ?_
      rintro F a w1 jE ⟨h8, t20, -⟩ - iO K hK
      replace iO := iO (by decide)
      have h8 : (F 8) = .int .i64 (i : Int) := h8
      rw [h8] at t20
      clear h8
      go_simp
      have hx : Ext w1 (w1.alloc (.cells #[.int .i64 (i : Int)] 3)) := (Ext.refl _).alloc _
      exact hK _ _ (jE.ext hx) ⟨_, rfl, Rd.one _ _⟩ (by intro jq hj uq h; have hj : jq ∈ [0, 3, 4, 5, 6, 7, 1, 2] := hj; simp only [List.mem_cons, List.not_mem_nil, or_false] at hj; rcases hj with rfl | rfl | rfl | rfl | rfl | rfl | rfl | rfl; exact h; exact h; exact h; exact h; exact h; exact h; exact h; exact h) (fun _ _ => iO.trans hx) (fun he => absurd he (by decide))
    · refine stepV_plain rfl ?_
      rintro F a w1 jE ⟨h7, t19, h9, t21, -⟩ - iO K hK
      replace iO := iO (by decide)
      have h7 : (F 7) = .slice A m c := h7
      rw [h7] at t19
      clear h7
      have h9 : ∃ gq, (F 9) = .slice (some ⟨gq, 0, none⟩) 1 1 ∧ Rd w1 1 (some ⟨gq, 0, none⟩) 1 [.int .i64 (i : Int)] := h9
      obtain ⟨gq, e9, r9⟩ := h9
      rw [e9] at t21
      have OO := own_far ho iO
      refine wp_append_rd (.tmp 19) (.tmp 21) _ rfl B 3 i0 _ 1 8 Try.underlying36 (unhide HI).1 (unhide HI).2.1 (unhide HI).2.2.1 (unhide HI).2.2.2 rfl (by omega) _ m (ints (L p)) (eval_tmp t19) OO _ 1 1 [.int .i64 (i : Int)] (eval_tmp t21) r9 (by simp [Value.oneCell']) (by simp only [maxLen]; omega) (by omega) (by have := (G1.step iO).rws.base; have := (G1.step iO).rws.blk.lt; omega) ?_
      intro A' c' w2 own4 g4 at4
      have G2 := G1.push iO (unhide HV) g4 (by rw [List.length_append, unhide HM]; rfl) own4 at4
      have n1 := G1.offs p _ (unhide HV)
      have hb := g4.block gb (by have := (G1.step iO).rws.blk.lt; omega) (fun e => G1.rws.off p _ (unhide HV) e.symm)
      exact hK _ _ (jE.grown g4 (fun e => (n1 gc e).2.1 rfl)) ⟨A', c', rfl, G2, ⟨_, (World.cell?_of_block hb).trans ((iO.cells.1 gb _ G1.rws.blk.lt).trans hc)⟩, (World.frozen?_of_block hb).trans ((iO.cells.2 gb _ G1.rws.blk.lt).trans hf)⟩ (by intro jq hj uq h; have hj : jq ∈ [0, 1, 2] := hj; simp only [List.mem_cons, List.not_mem_nil, or_false] at hj; rcases hj with rfl | rfl | rfl; exact h; exact h; exact h) (fun h => (h (by simp)).elim) (fun he => absurd he (by decide))
    · refine stepV_plain rfl ?_
      rintro F a w1 jE ⟨h1, t13, h2, t14, -⟩ - iO K hK
      clear iO
      have h1 : (F 1) = .slice (some ⟨gb, 0, none⟩) n n := h1
      rw [h1] at t13
      clear h1
      have h2 : (F 2) = .int .i64 (p : Int) := h2
      rw [h2] at t14
      clear h2
      go_simp
      exact hK _ _ jE rfl (fun _ _ _ h => h) (fun _ h => h) (fun he => absurd he (by decide))
    · refine stepV_plain rfl ?_
      rintro F a w1 jE ⟨h11, t23, h10, t22, -⟩ - iO K hK
      clear iO
      have h11 : (F 11) = .pointer (some ⟨gb, p, none⟩) := h11
      rw [h11] at t23
      clear h11
      have h10 : ∃ A' c', (F 10) = .slice A' (m + 1) c' ∧ GSt w0 wk (w1.setCell ⟨gb, p, none⟩ (.slice A' (m + 1) c')) B C D gc ga gb n W1 (fun q => if q = p then L p ++ [(i : Int)] else L q) (vs.set p (.slice A' (m + 1) c')) ∧ (∃ u, w1.cell? ⟨gb, p, none⟩ = some u) ∧ w1.frozen? ⟨gb, p, none⟩ = false := h10
      obtain ⟨A', c', e10, G2, ⟨u, c⟩, f⟩ := h10
      rw [e10] at t22
      go_simp
      exact hK undef _ (jE.far (show gc ≠ gb from G1.ne.2.2) _) trivial (fun _ hj _ _ => (List.not_mem_nil hj).elim) (fun h => (h (by simp)).elim) (fun _ => ⟨_, G2⟩)
  · rintro F w9 jE - hT
    have hT := hT (by decide)
    obtain ⟨vs', G2⟩ := hT
    simp only [putL, Act.put, Nat.reduceAdd, Nat.zero_add, List.setIfInBounds_toArray, List.set_cons_succ, List.set_cons_zero]
    rw [← unhide HW] at G2
    go_end0
    exact ⟨rfl, vs', G2⟩
end
end Go.Proofs.Ytnolbmfjgfojhaa
