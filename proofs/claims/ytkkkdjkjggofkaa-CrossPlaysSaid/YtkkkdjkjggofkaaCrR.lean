/- Layer 20: units that came in; what stands side by side (plain laws). -/
import Derived.Test.YtkkkdjkjggofkaaCrP
import Derived.Test.YtkkkdjkjggofkaaStyO
import Derived.Test.YtkkkdjkjggofkaaSl
import Derived.Test.YtkkkdjkjggofkaaLaw
import Derived.Test.YtkkkdjkjggofkaaOk
namespace Go.Proofs.Ytkkkdjkjggofkaa
open Go.ChangeShapes Go.WideShapes Go.ChangeAt Go.RowKit
def u16s (us : List Int) : List Value := us.map (Value.int .u16 ·)
theorem u16s_len (us : List Int) : (u16s us).length = us.length := by simp [u16s]
theorem u16s_get {us : List Int} {i : Nat} {x : Int} (h : us[i]? = some x) : (u16s us)[i]? = some (.int .u16 x) := by simp [u16s, h]
theorem flat_u16 : flat Try.prog 3 52 = some [.int .u16] := by kernel_rfl
theorem cells_u16 : Try.prog.cellsOf 52 = 1 := by kernel_rfl
theorem u16s_of : ∀ (xss : List (List Value)), (∀ xs ∈ xss, ∃ z : Int, xs = [.int .u16 z] ∧ 0 ≤ z ∧ z ≤ 65535) → ∃ us, xss.flatten = u16s us ∧ ∀ z ∈ us, 0 ≤ z ∧ z ≤ 65535
  | [], _ => ⟨[], rfl, fun z hz => by cases hz⟩
  | xs :: t, h => by
    obtain ⟨z, h1, hz⟩ := h xs (List.mem_cons_self ..)
    obtain ⟨us, h2, hu⟩ := u16s_of t (fun y hy => h y (List.mem_cons_of_mem _ hy))
    refine ⟨z :: us, by rw [List.flatten_cons, h1, h2]; rfl, fun y hy => ?_⟩
    rcases List.mem_cons.1 hy with rfl | hy
    · exact hz
    · exact hu y hy
section
variable {H : Type} {enc : TypeId × Value → H} {w : World} {spare : Nat → Bool} {held : Bool}
set_option maxRecDepth 100000 in
theorem units_rd {A : Option Addr} {n c : Nat} (h : SliceOk enc Try.prog w 0 spare held 52 A n c) : ∃ us : List Int, Rd w 1 A n (u16s us) ∧ ∀ z ∈ us, 0 ≤ z ∧ z ≤ 65535 := by
  obtain ⟨xss, hl, _, hr, hx⟩ := h.rd cells_u16 (by omega)
  obtain ⟨us, hu, hb⟩ := u16s_of xss (fun xs hm => by
    obtain ⟨x, fuel, ht⟩ := hx xs hm
    have hl := flat_ok 3 52 _ fuel xs x flat_u16 ht
    obtain ⟨v0, t0, rfl, k0, h0⟩ := hl.cons
    obtain rfl := h0.nil
    obtain ⟨z, rfl, hz⟩ := k0
    exact ⟨z, rfl, bd_u16 hz⟩)
  exact ⟨us, hu ▸ hr, hb⟩
set_option maxRecDepth 100000 in
theorem open_units {r : Reach} {b0 : Nat} {v : Value} {d : DataW H} {p : List MemPlace} (hv : Value.okWide Try.prog w r b0 26 v) (h : DataW.Trod enc Try.prog w 0 spare held 26 v d p) :
    ∃ A n c us, v = .slice A n c ∧ Rd w 1 A n (u16s us) ∧ ∀ z ∈ us, 0 ≤ z ∧ z ≤ 65535 := by
  obtain ⟨a, len, cap, rfl⟩ := okWide_slice Try.underlying26 hv
  obtain ⟨fuel, hfu⟩ := h
  obtain ⟨a', len', cap', hcs, hs⟩ := slice_of_trod Try.underlying26 hfu
  simp [Value.cells] at hcs
  obtain ⟨rfl, rfl, rfl⟩ := hcs
  obtain ⟨us, hr, hb⟩ := units_rd hs
  exact ⟨a, len, cap, us, rfl, hr, hb⟩
end
section
variable {w : World}
theorem Rd.cellAt {n b off i : Nat} {u : Value} {xs : List Value} (h : Rd w 1 (some ⟨b, off, none⟩) n xs) (hi : i < n) (hu : xs[i]? = some u) : b < w.heap.size ∧ w.cell? ⟨b, off + i, none⟩ = some u := by
  obtain ⟨b', off', u', h1, h2, h3, h4⟩ := h.get hi
  injection h1 with h1
  injection h1 with h1 h5
  subst h1 h5
  rw [hu] at h3
  injection h3 with h3
  subst h3
  exact ⟨h2, h4⟩
theorem own_ne {B e k m B' e' k' m' : Nat} {u v : Value} {xs ys : List Value} (h : w.ownsRow B e k u m xs) (h' : w.ownsRow B' e' k' v m' ys) (hn : e ≠ e') : u.ownBlock = none ∨ u.ownBlock ≠ v.ownBlock := by
  rcases h.2 with ⟨rfl, _⟩ | ⟨g, cap, cur, rfl, _, hg, _⟩
  · exact .inl rfl
  · right
    intro hq
    rcases h'.2 with ⟨rfl, _⟩ | ⟨g', cap', cur', rfl, _, hg', _⟩
    · cases hq
    · have e : g = g' := Option.some.inj hq
      subst e
      have e2 := Option.some.inj (hg.symm.trans hg')
      injection e2 with _ e3 _
      exact hn e3
end
theorem info_bnd {P : Program} {e : TypeId} {z : Value} {size B : Nat} (h : (P.info? e).map (fun i => (i.zero, i.size, decide (i.bytes ≤ B))) = some (some z, size, true)) : ∃ i, P.info? e = some i ∧ i.zero = some z ∧ i.size = size ∧ i.bytes ≤ B := by
  cases hq : P.info? e with
  | none => simp [hq] at h
  | some i =>
    simp [hq] at h
    exact ⟨i, rfl, h.1, h.2.1, h.2.2⟩
theorem js_info : (Try.prog.info? 28).map (fun i => (i.zero, i.size, decide (i.bytes ≤ 100000))) = some (some (.agg zsty.cells), 43, true) := by kernel_rfl
theorem ju_info : (Try.prog.info? 48).map (fun i => (i.zero, i.size, decide (i.bytes ≤ 100000))) = some (some (.agg #[.int .i64 0, .int .i64 0, .int .i64 0]), 3, true) := by kernel_rfl
theorem ji_info : (Try.prog.info? 3).map (fun i => (i.zero, i.size, decide (i.bytes ≤ 100000))) = some (some (.int .i64 0), 1, true) := by kernel_rfl
theorem bytes_ok {k b : Nat} (hk : k ≤ 60) (hb : b ≤ 100000) : (k + 1) * b ≤ 140737488355328 := by
  have := Nat.mul_le_mul (show k + 1 ≤ 61 by omega) hb
  omega
/-- three rows as they grow -/
structure JsSt (w0 w : World) (k : Nat) (A5 A6 A7 : Option Addr) (c5 c6 c7 : Nat) (l : List Int) : Prop where
  o5 : w.ownsRow w0.heap.size 28 43 (.slice A5 k c5) k (recs styC (jsS k))
  o6 : w.ownsRow w0.heap.size 48 3 (.slice A6 k c6) k (recs usC (jsU (l.take k)))
  o7 : w.ownsRow w0.heap.size 3 1 (.slice A7 k c7) k (ints (castL (List.range k)))
  ext : Ext w0 w
theorem jsS_succ (k : Nat) : recs styC (jsS (k + 1)) = recs styC (jsS k) ++ styC (stK 1 0 0) := by
  have : jsS (k + 1) = jsS k ++ [stK 1 0 0] := by simp [jsS, List.replicate_succ']
  rw [this, recs_append, recs_one]
theorem jsU_succ {l : List Int} {k : Nat} {x : Int} (h : l[k]? = some x) : recs usC (jsU (l.take (k + 1))) = recs usC (jsU (l.take k)) ++ usC ⟨x, 0, 0⟩ := by
  have : jsU (l.take (k + 1)) = jsU (l.take k) ++ [⟨x, 0, 0⟩] := by rw [takeS h]; simp [jsU]
  rw [this, recs_append, recs_one]
theorem jsR_succ (k : Nat) : ints (castL (List.range (k + 1))) = ints (castL (List.range k)) ++ [.int .i64 (k : Int)] := by
  rw [List.range_succ]; simp [castL, ints]
theorem stK_one : ∀ v ∈ styC (stK 1 0 0), v.oneCell' = true := by
  intro v hv
  simp only [styC, List.mem_cons, List.not_mem_nil, or_false] at hv
  rcases hv with rfl | rfl | rfl | rfl | rfl | rfl | rfl | rfl | rfl | rfl | rfl | rfl | rfl | rfl | rfl | rfl | rfl | rfl | rfl | rfl | rfl | rfl | rfl | rfl | rfl | rfl | rfl | rfl | rfl | rfl | rfl | rfl | rfl | rfl | rfl | rfl | rfl | rfl | rfl | rfl | rfl | rfl | rfl
  all_goals rfl
/-! ### where they stand -/
def jsV (l : List Int) (j F : Int) (n i : Nat) : Int := sumL l i + moveV j F i n
def JustIs (l : List Int) (j F : Int) (n : Nat) (w : World) (e : Ending) (w' : World) : Prop := ∃ gF gB t, e = .returned (.tuple #[.slice (some ⟨gF, 0, none⟩) n n, .int .i64 t, .slice (some ⟨gB, 0, none⟩) n n]) ∧ gF < w'.heap.size ∧
  (∀ (i : Nat) (x : Int), l[i]? = some x → w'.cell? ⟨gF, i * 5, none⟩ = some (.int .i64 (jsV l j F n i)) ∧ w'.cell? ⟨gF, i * 5 + 2, none⟩ = some (.int .i64 x)) ∧ Ext w w'
theorem just_placeN (l : List Int) (c j : Int) (n : Nat) (F : Int) (hn : l.length = n) (hF : c - sumL l n = F) (hl : 0 < n ∧ n ≤ 60) (hb : ∀ x ∈ l, 0 ≤ x ∧ x ≤ 65535) (hc : 0 ≤ c ∧ c ≤ 4294967295) (hj : 0 ≤ j ∧ j ≤ 3) (Ak Au Aq : Option Addr) (gr ck cu cq : Nat) (w : World)
    (b1 : Rd w 43 Ak n (recs styC (jsS n))) (b2 : Rd w 3 Au n (recs usC (jsU l))) (b4 : Blk w gr 50 #[.slice Aq n cq]) (b5 : Rd w 1 Aq n (ints (castL (List.range n)))) :
    Calls Try.prog 10 #[.agg (stK 2 j 0).cells, .int .i64 c, .slice Ak n ck, .slice Au n cu, .slice none 0 0, .slice (some ⟨gr, 0, none⟩) 1 1] w (JustIs l j F n w) := by
  subst hn hF
  exact just_place l c j hl hb hc hj Ak Au Aq gr ck cu cq w b1 b2 b4 b5
section
variable {l : List Int} {c F : Int} {n : Nat}
theorem jsV_bd (hn : l.length = n) (hF : c - sumL l n = F) (hl : 0 < n ∧ n ≤ 60) (hb : ∀ x ∈ l, 0 ≤ x ∧ x ≤ 65535) (hc : 0 ≤ c ∧ c ≤ 4294967295) (j : Int) (i : Nat) (hi : i < n) : -500000000000 ≤ jsV l j F n i ∧ jsV l j F n i ≤ 500000000000 := by
  subst hn
  have hsb := sumL_bd hb i (by omega)
  have hsn := sumL_bd hb l.length (Nat.le_refl _)
  unfold jsV moveV
  split
  · omega
  · split
    · omega
    · split
      · unfold betV
        split
        · omega
        · obtain ⟨q, hq⟩ : ∃ q : Nat, F = q := ⟨F.toNat, by omega⟩
          have h1 : i * q ≤ 60 * 4294967295 := mul_small (by omega) (by omega)
          rw [hq, show ((i : Int) * (q : Int)) = ((i * q : Nat) : Int) by simp]
          have h3 : 0 ≤ ((i * q : Nat) : Int) / ((l.length : Int) - 1) := Int.ediv_nonneg (by omega) (by omega)
          have h4 : ((i * q : Nat) : Int) / ((l.length : Int) - 1) ≤ ((i * q : Nat) : Int) := Int.ediv_le_self _ (by omega)
          omega
      · omega
theorem js_zero (j F : Int) (n : Nat) : jsV l j F n 0 = moveV j F 0 n := by rw [jsV, sumL_0, Int.zero_add]
theorem js_last {m : Nat} {x : Int} (hx : l[m]? = some x) (j F : Int) (n : Nat) : jsV l j F n m + x = sumL l (m + 1) + moveV j F m n := by rw [jsV, sumL_step hx]; omega
theorem js_gap {p : Nat} {x : Int} (hx : l[p]? = some x) (j F : Int) (n : Nat) : jsV l j F n (p + 1) - jsV l j F n p - x = moveV j F (p + 1) n - moveV j F p n := by rw [jsV, jsV, sumL_step hx]; omega
end
end Go.Proofs.Ytkkkdjkjggofkaa
