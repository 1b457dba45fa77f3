/- Graphs: as values. -/
import Derived.Test.YtnolbmfjgfojhaaGrJ
namespace Go.Proofs.Ytnolbmfjgfojhaa
open Go.RowKit
/-- a value that is such a graph -/
def GAt (w : World) (v : Value) (n : Nat) (f : Nat → Int) (N : Nat → List Int) : Prop := ∃ A A', v = .agg #[.slice A n n, .slice A' n n] ∧ Rd w 1 A n (ints ((List.range n).map f)) ∧ RdR w 0 A' n N
theorem GAt.ext {w w' : World} {v : Value} {n : Nat} {f : Nat → Int} {N : Nat → List Int} (h : GAt w v n f N) (hx : Ext w w') : GAt w' v n f N := by
  obtain ⟨A, A', h1, h2, h3⟩ := h
  exact ⟨A, A', h1, h2.ext hx, h3.ext hx⟩
def GAtOut (w : World) (n : Nat) (f : Nat → Int) (N : Nat → List Int) (e : Ending) (w' : World) : Prop := (∃ v, e = .returned v ∧ GAt w' v n f N) ∧ Ext w w'
theorem GIs.at_ {w w' : World} {n : Nat} {f : Nat → Int} {N : Nat → List Int} {e : Ending} (h : GIs w n f N e w') : GAtOut w n f N e w' := by
  obtain ⟨A, A', h1, h2, h3, h4⟩ := h
  exact ⟨⟨_, h1, A, A', rfl, h2, h3.mono (Nat.zero_le _)⟩, h4⟩
theorem sameg_at (u v : Value) (n : Nat) (f : Nat → Int) (N : Nat → List Int) (w : World) (hu : GAt w u n f N) (hv : GAt w v n f N) (h0 : 0 < n) (hn : n ≤ 900) (hN : ∀ i, i < n → (N i).length ≤ 900) :
    Calls Try.prog 45 #[u, v] w fun e w' => e = .returned (.bool true) ∧ Ext w w' := by
  obtain ⟨A, A', rfl, ha, ra⟩ := hu
  obtain ⟨B, B', rfl, hb, rb⟩ := hv
  obtain ⟨ba, oa, rfl⟩ := ra.addr h0
  obtain ⟨bb, ob, rfl⟩ := rb.addr h0
  exact sameg_any A B n ba oa bb ob 0 0 _ N w ha hb ra rb hn hN
def fU (P : Nat → Int) (n i : Nat) : Int := ((kidsP P n i).length : Nat)
def fD (P : Nat → Int) (i : Nat) : Int := ((rowP P i).length : Nat)
/-- islands' graph and roots that are handed back -/
def IsIs (w : World) (m : Nat) (f : Nat → Int) (N : Nat → List Int) (rs : List Int) (e : Ending) (w' : World) : Prop := ∃ A A' Ar c, e = .returned (.tuple #[.agg #[.slice A m m, .slice A' m m], .slice Ar m c]) ∧ Rd w' 1 A m (ints ((List.range m).map f)) ∧ RdR w' 0 A' m N ∧ Rd w' 1 Ar m (ints rs) ∧ Ext w w'
theorem IsOut.is {w w' : World} {m : Nat} {E : List (Int × Int)} {rs : List Int} {e : Ending} {f : Nat → Int} {N : Nat → List Int} (h : IsOut w m E rs e w') (hf : ∀ i, i < m → f i = wE E i) (hN : ∀ i, i < m → N i = nE E i) : IsIs w m f N rs e w' := by
  obtain ⟨A, A', Ar, c, h1, h2, h3, h4, h5⟩ := h
  refine ⟨A, A', Ar, c, h1, ?_, (h3.mono (Nat.zero_le _)).congr hN, h4, h5⟩
  have : (List.range m).map f = wL E m := List.map_congr_left (fun i hi => hf i (List.mem_range.1 hi))
  rw [this]
  exact h2
theorem ofE_congr {K M : Nat → List Int} {m : Nat} (h : ∀ i, i < m → K i = M i) : ofE K m = ofE M m := by
  unfold ofE
  rw [List.map_congr_left (fun j hj => by rw [h j (List.mem_range.1 hj)])]
theorem dnK_row {ns : List Nd} (h : TOk ns) {i : Nat} (hi : i < ns.length) : dnK ns ns.length i = rowP (parN ns) i := by
  have hp := h.parN hi
  unfold dnK rowP
  by_cases h0 : i = 0
  · subst h0
    rw [if_neg (by omega), if_neg (by rw [hp, h.par0]; omega)]
  · obtain ⟨p, h1, _⟩ := h.par (by omega) hi
    rw [if_pos ⟨by omega, hi⟩, if_pos (by rw [hp, h1]; omega), hp]
section
variable (t : Tr) (ns : List Nd)
theorem up_at (hm : t.nl ≤ 900) (hpos : 0 < t.nl) (w : World) (h : Rd w 44 t.na t.nl (nds ns)) : Calls Try.prog 46 #[.agg t.cs] w (GAtOut w t.nl (fU (parN ns) t.nl) (rowP (parN ns))) :=
  (up_graph t ns hm hpos w h).mono fun _ _ q => (q.is (fun i hi => (wE_of _ hi).symm) (fun i hi => by rw [kidsN_P, nE_of hi (by have := parN_lt ns i; omega)])).at_
theorem refup_at (hm : t.nl ≤ 900) (hpos : 0 < t.nl) (w : World) (h : Rd w 44 t.na t.nl (nds ns)) : Calls Try.prog 47 #[.agg t.cs] w (GAtOut w t.nl (fU (parN ns) t.nl) (rowP (parN ns))) :=
  (refup_graph t ns hm hpos w h).mono fun _ _ q => (q.is (fun i hi => (wE_of _ hi).symm) (fun i hi => by rw [kidsN_P, nE_of hi (by have := parN_lt ns i; omega)])).at_
theorem down_at (hm : t.nl ≤ 900) (hpos : 0 < t.nl) (w : World) (h : Rd w 44 t.na t.nl (nds ns)) : Calls Try.prog 48 #[.agg t.cs] w (GAtOut w t.nl (fD (parN ns)) (kidsP (parN ns) t.nl)) :=
  (down_graph t ns hm hpos w h).mono fun _ _ q => (q.is (fun i hi => by rw [kidsN_P, wE_do hi (by have := parN_lt ns i; omega)]; rfl) (fun i hi => by rw [nE_do _ hi]; rfl)).at_
theorem refdown_at (hT : TOk ns) (hm : t.nl ≤ 900) (w : World) (h : Rd w 44 t.na t.nl (nds ns)) : Calls Try.prog 49 #[.agg t.cs] w (GAtOut w t.nl (fD (parN ns)) (kidsP (parN ns) t.nl)) := by
  have hl := h.nlen
  have he : ofE (dnK ns t.nl) t.nl = ofE (rowP (parN ns)) t.nl := by
    rw [← hl]
    exact ofE_congr (fun i hi => dnK_row hT hi)
  exact (refdown_graph t ns hm (by have := hT.pos; omega) w h).mono fun _ _ q => (q.is (fun i hi => by rw [he, wE_of _ hi]; rfl) (fun i hi => by rw [he, nE_row])).at_
theorem isles_is (hT : TOk ns) (hm : t.nl ≤ 900) (w : World) (h : Rd w 44 t.na t.nl (nds ns)) : Calls Try.prog 43 #[.agg t.cs] w (IsIs w (rootsN ns ns.length).length (fU (isQ ns) (rootsN ns ns.length).length) (rowP (isQ ns)) (rootsN ns ns.length)) :=
  (isles_graph t ns hT hm w h).mono fun _ _ q => q.is (fun i hi => by rw [wE_row]; rfl) (fun i hi => by rw [nE_rowE _ hi])
theorem refisles_is (hT : TOk ns) (hm : t.nl ≤ 900) (w : World) (h : Rd w 44 t.na t.nl (nds ns)) : Calls Try.prog 44 #[.agg t.cs] w (IsIs w (rootsN ns ns.length).length (fU (isQ ns) (rootsN ns ns.length).length) (rowP (isQ ns)) (rootsN ns ns.length)) := by
  have he : ofE (riK ns (rootsN ns ns.length).length) (rootsN ns ns.length).length = ofE (kidsP (isQ ns) (rootsN ns ns.length).length) (rootsN ns ns.length).length := ofE_congr (fun i hi => riK_kids hT hi)
  exact (refisles_graph t ns hT hm w h).mono fun _ _ q => q.is (fun i hi => by rw [he, wE_of _ hi]; rfl) (fun i hi => by rw [he, nE_of hi (by have := isQ_lt hT hi; omega)])
end
end Go.Proofs.Ytnolbmfjgfojhaa
