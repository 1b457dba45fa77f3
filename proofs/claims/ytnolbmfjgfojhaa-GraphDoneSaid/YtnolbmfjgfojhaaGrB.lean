/- Graphs: edges, and what the program's laid comes to (walks). -/
import Derived.Test.YtnolbmfjgfojhaaGrA
namespace Go.Proofs.Ytnolbmfjgfojhaa
open Go.RowKit
/-- how many edges there are of who -/
def wE (E : List (Int × Int)) (i : Nat) : Int := ((E.filter fun e => e.1 == (i : Int)).length : Nat)
/-- who waits for whom -/
def nE (E : List (Int × Int)) (p : Nat) : List Int := (E.filter fun e => e.2 == (p : Int)).map Prod.fst
def wL (E : List (Int × Int)) (n : Nat) : List Int := (List.range n).map (wE E)
theorem wL_len (E : List (Int × Int)) (n : Nat) : (wL E n).length = n := by simp [wL]
theorem wL_get (E : List (Int × Int)) {n i : Nat} (h : i < n) : (wL E n)[i]? = some (wE E i) := by simp [wL, h]
theorem wE_nil (i : Nat) : wE [] i = 0 := rfl
theorem nE_nil (p : Nat) : nE [] p = [] := rfl
theorem wL_nil (n : Nat) : wL [] n = List.replicate n 0 := by
  apply List.ext_getElem?
  intro i
  by_cases h : i < n
  · rw [wL_get _ h]; simp [h, wE_nil]
  · rw [List.getElem?_eq_none (by rw [wL_len]; omega), List.getElem?_eq_none (by simp; omega)]
theorem wE_bd (E : List (Int × Int)) (i : Nat) : 0 ≤ wE E i ∧ wE E i ≤ E.length := by
  unfold wE
  have := List.length_filter_le (fun e : Int × Int => e.1 == (i : Int)) E
  omega
theorem nE_bd (E : List (Int × Int)) (p : Nat) : (nE E p).length ≤ E.length := by
  unfold nE
  rw [List.length_map]
  exact List.length_filter_le _ _
theorem wE_snoc (E : List (Int × Int)) (i k : Nat) (p : Int) : wE (E ++ [((i : Int), p)]) k = if k = i then wE E k + 1 else wE E k := by
  unfold wE
  rw [List.filter_append, List.length_append]
  by_cases h : k = i
  · rw [if_pos h]; subst h; simp
  · rw [if_neg h]
    have : ((i : Int) == (k : Int)) = false := by simp; omega
    simp [this]
theorem nE_snoc (E : List (Int × Int)) (i : Int) (p q : Nat) : nE (E ++ [(i, (p : Int))]) q = if q = p then nE E q ++ [i] else nE E q := by
  unfold nE
  rw [List.filter_append, List.map_append]
  by_cases h : q = p
  · rw [if_pos h]; subst h; simp
  · rw [if_neg h]
    have : ((p : Int) == (q : Int)) = false := by simp; omega
    simp [this]
theorem wL_snoc (E : List (Int × Int)) {n i : Nat} (p : Int) : wL (E ++ [((i : Int), p)]) n = (wL E n).set i (wE E i + 1) := by
  apply List.ext_getElem?
  intro k
  by_cases h : k < n
  · rw [wL_get _ h, wE_snoc, List.getElem?_set]
    by_cases hk : k = i
    · subst hk
      rw [if_pos rfl, if_pos rfl, if_pos (by rw [wL_len]; exact h)]
    · rw [if_neg hk, if_neg (fun e => hk e.symm), wL_get _ h]
  · rw [List.getElem?_eq_none (by rw [wL_len]; omega), List.getElem?_eq_none (by rw [List.length_set, wL_len]; omega)]
/-- each of so many waits for those that are told -/
def ofE (K : Nat → List Int) (m : Nat) : List (Int × Int) := ((List.range m).map fun (j : Nat) => (K j).map fun k => ((j : Int), k)).flatten
/-- those that are told wait for each -/
def doE (K : Nat → List Int) (m : Nat) : List (Int × Int) := ((List.range m).map fun (j : Nat) => (K j).map fun k => (k, (j : Int))).flatten
def ofT (K : Nat → List Int) (m q : Nat) : List (Int × Int) := ofE K m ++ ((K m).take q).map fun k => ((m : Int), k)
def doT (K : Nat → List Int) (m q : Nat) : List (Int × Int) := doE K m ++ ((K m).take q).map fun k => (k, (m : Int))
theorem ofE_succ (K : Nat → List Int) (m : Nat) : ofE K (m + 1) = ofT K m (K m).length := by
  simp [ofE, ofT, List.range_succ]
theorem doE_succ (K : Nat → List Int) (m : Nat) : doE K (m + 1) = doT K m (K m).length := by
  simp [doE, doT, List.range_succ]
theorem ofT_0 (K : Nat → List Int) (m : Nat) : ofT K m 0 = ofE K m := by simp [ofT]
theorem doT_0 (K : Nat → List Int) (m : Nat) : doT K m 0 = doE K m := by simp [doT]
theorem ofT_snoc (K : Nat → List Int) {m q : Nat} {z : Int} (h : (K m)[q]? = some z) : ofT K m (q + 1) = ofT K m q ++ [((m : Int), z)] := by
  obtain ⟨h1, h2⟩ := List.getElem?_eq_some_iff.1 h
  rw [ofT, List.take_succ_eq_append_getElem h1, h2, List.map_append, ← List.append_assoc]; rfl
theorem doT_snoc (K : Nat → List Int) {m q : Nat} {z : Int} (h : (K m)[q]? = some z) : doT K m (q + 1) = doT K m q ++ [(z, (m : Int))] := by
  obtain ⟨h1, h2⟩ := List.getElem?_eq_some_iff.1 h
  rw [doT, List.take_succ_eq_append_getElem h1, h2, List.map_append, ← List.append_assoc]; rfl
theorem ofE_bd {K : Nat → List Int} {n : Nat} (hK : ∀ j, (K j).length ≤ n) (m : Nat) : (ofE K m).length ≤ m * n := by
  induction m with
  | zero => simp [ofE]
  | succ m ih =>
    rw [ofE_succ, ofT, List.length_append, List.length_map, Nat.succ_mul]
    have := hK m
    have := List.length_take_le (K m).length (K m)
    omega
theorem doE_bd {K : Nat → List Int} {n : Nat} (hK : ∀ j, (K j).length ≤ n) (m : Nat) : (doE K m).length ≤ m * n := by
  induction m with
  | zero => simp [doE]
  | succ m ih =>
    rw [doE_succ, doT, List.length_append, List.length_map, Nat.succ_mul]
    have := hK m
    have := List.length_take_le (K m).length (K m)
    omega
theorem ofT_bd {K : Nat → List Int} {n : Nat} (hK : ∀ j, (K j).length ≤ n) (hn : n ≤ 900) {m : Nat} (hm : m ≤ n) (q : Nat) : (ofT K m q).length ≤ 1000000 := by
  have h1 := ofE_bd hK m
  have h2 : m * n ≤ 900 * 900 := Nat.mul_le_mul (by omega) hn
  rw [ofT, List.length_append, List.length_map]
  have := hK m
  have : ((K m).take q).length ≤ (K m).length := List.length_take_le' ..
  omega
theorem doT_bd {K : Nat → List Int} {n : Nat} (hK : ∀ j, (K j).length ≤ n) (hn : n ≤ 900) {m : Nat} (hm : m ≤ n) (q : Nat) : (doT K m q).length ≤ 1000000 := by
  have h1 := doE_bd hK m
  have h2 : m * n ≤ 900 * 900 := Nat.mul_le_mul (by omega) hn
  rw [doT, List.length_append, List.length_map]
  have := hK m
  have : ((K m).take q).length ≤ (K m).length := List.length_take_le' ..
  omega
theorem kids_lt {ns : List Nd} {n i : Nat} {q : Nat} {x : Int} (h : (kidsN ns n i)[q]? = some x) : ∃ z : Nat, x = z ∧ z < n := by
  have hm := List.mem_of_getElem? h
  unfold kidsN at hm
  obtain ⟨y, hy, rfl⟩ := List.mem_map.1 hm
  have := List.mem_range.1 (List.mem_filter.1 hy).1
  exact ⟨y, rfl, this⟩
theorem RdR.rowIn {w : World} {B b off n : Nat} {L : Nat → List Int} (h : RdR w B (some ⟨b, off, none⟩) n L) {i : Nat} (hi : i < n) : ∃ Ai ci, b < w.heap.size ∧ w.cell? ⟨b, off + i, none⟩ = some (.slice Ai (L i).length ci) ∧ Rd w 1 Ai (L i).length (ints (L i)) := by
  obtain ⟨b', off', Ai, ci, e, _, hb, hc, hr, _⟩ := h.at_ i hi
  injection e with e
  injection e with e1 e2
  subst e1 e2
  exact ⟨Ai, ci, hb, hc, hr⟩
theorem Rd.intIn {w : World} {A : Option Addr} {n : Nat} {l : List Int} (h : Rd w 1 A n (ints l)) {i : Nat} {x : Int} (hx : l[i]? = some x) : ∃ b off, A = some ⟨b, off, none⟩ ∧ b < w.heap.size ∧ w.cell? ⟨b, off + i, none⟩ = some (.int .i64 x) := by
  have hi := (List.getElem?_eq_some_iff.1 hx).1
  have hl := h.len
  rw [ints_len, Nat.mul_one] at hl
  obtain ⟨b', off', e, hb, hc⟩ := h.at_ (by omega)
  exact ⟨b', off', e, hb, hc i _ (by rw [ints, List.getElem?_map, hx]; rfl)⟩
section
variable {w0 wk w : World} {B C D gc ga gb n : Nat} {vs : List Value}
/-- an edge is laid -/
theorem edge_any {E : List (Int × Int)} (G : GSt w0 wk w B C D gc ga gb n (wL E n) (nE E) vs) {i p : Nat} (hi : i < n) (hp : p < n) (hE : E.length ≤ 1000000) :
    Calls Try.prog 75 #[.int .i64 (i : Int), .int .i64 (p : Int), .pointer (some ⟨gc, 0, none⟩)] w
      fun e w' => e = .returned (.tuple #[]) ∧ ∃ vs', GSt w0 wk w' B C D gc ga gb n (wL (E ++ [((i : Int), (p : Int))]) n) (nE (E ++ [((i : Int), (p : Int))])) vs' :=
  (put_any G hi hp (wL_get E hi) (by have := wE_bd E i; omega) (by have := nE_bd E p; omega)).mono fun _ _ ⟨h1, vs', h2⟩ => ⟨h1, vs', h2.congr (wL_snoc E _) (fun q _ => by rw [nE_snoc]; by_cases h : q = p <;> simp [h])⟩
end
theorem RdR.past {w w' : World} {B : Nat} {A : Option Addr} {n : Nat} {L : Nat → List Int} {xs : List Nat} (h : RdR w B A n L) (hx : ExtX w w' xs) (hf : ∀ g ∈ xs, g < B) : RdR w' B A n L :=
  ⟨fun i hi => by
    obtain ⟨b, off, Ai, ci, ha, hB, hb, hc, hr, hk⟩ := h.at_ i hi
    refine ⟨b, off, Ai, ci, ha, hB, Nat.lt_of_lt_of_le hb hx.size, ?_, hx.rd hr (fun b' o' e hm => ?_), hk⟩
    · rw [World.cell?_of_block (hx.block b hb (fun hm => by have := hf b hm; omega))]; exact hc
    · have := hf b' hm
      have := hk b' o' e
      omega⟩
theorem GSt.rd {w0 wk w : World} {B C D gc ga gb n : Nat} {W : List Int} {L : Nat → List Int} {vs : List Value} (h : GSt w0 wk w B C D gc ga gb n W L vs) : Rd w 1 (some ⟨ga, 0, none⟩) n (ints W) :=
  ⟨by rw [ints_len, h.wl, Nat.mul_one], fun _ => ⟨ga, 0, rfl, h.wts.lt, fun j u hu => by rw [Nat.zero_add, h.wts.cell, List.getElem?_toArray]; exact hu⟩⟩
theorem results_cellG {P : Program} {fn : Func} {p : Tmp} {ty : TypeId} (h : fn.results = #[.cell p ty]) (tmps : Array Value) (w : World) (g : Nat) (T : TypeId) (cs : Array Value) (d : TypeDesc)
    (hp : tmps.getD p undef = .pointer (some ⟨g, 0, none⟩)) (hg : Blk w g T cs)
    (hu : P.underlying ty = some d) (hd : (match d with | .struct _ | .array _ _ => true | _ => false) = true) (hi : (P.info? ty).map (·.size) = some cs.size) :
    (results fn tmps).run P w = .ok (.agg cs) w := by
  have hp' : tmps[p]?.getD undef = .pointer (some ⟨g, 0, none⟩) := by simpa using hp
  simp [results, h, hp', asAddr, run_loadVar_row w g T ty cs (0, 0) d hg hu hd hi]
/-- a graph of so many tasks that is handed back -/
def GOut (w : World) (n : Nat) (E : List (Int × Int)) (e : Ending) (w' : World) : Prop := ∃ A A', e = .returned (.agg #[.slice A n n, .slice A' n n]) ∧ Rd w' 1 A n (ints (wL E n)) ∧ RdR w' w.heap.size A' n (nE E) ∧ (∀ b off, A = some ⟨b, off, none⟩ → w.heap.size ≤ b) ∧ Ext w w'
set_option maxRecDepth 100000 in
set_option maxHeartbeats 4000000 in
theorem laid_any (fn : Nat) (caps : Array Value) (n : Nat) (hn : n ≤ 1000000) (E : List (Int × Int)) (w : World) (HC : ∀ args w, (callFunc fn args).run Try.prog w = .ok (.enter fn args) w)
    (H : ∀ w0 w1 B gc ga gb, Ext w w0 → GSt w0 w1 w1 B w1.heap.size w1.heap.size gc ga gb n (wL [] n) (fun _ => []) (List.replicate n (.slice none 0 0)) →
      Calls Try.prog fn (#[.func (.func 75) #[] #[.pointer (some ⟨gc, 0, none⟩)]] ++ caps) w1 fun e w' => e = .returned (.tuple #[]) ∧ ∃ wk C D vs', GSt w0 wk w' B C D gc ga gb n (wL E n) (nE E) vs') :
    Calls Try.prog 66 #[.int .i64 (n : Int), .func (.func fn) #[] caps] w (GOut w n E) := by
  have hmk := make_rows n hn
  have hmi := make_ints n hn
  have HH := fun w0 w1 B gc ga gb hx hg => hide (H w0 w1 B gc ga gb hx hg)
  clear H hn
  go_enter Try.func66, Try.ntmps66
  go_upto_region 1 with fail
  have B0 : Blk (w.alloc (.cells #[.slice none 0 0, .slice none 0 0] 55)) w.heap.size 55 #[.slice none 0 0, .slice none 0 0] := Blk.new _ _ _
  have E0 : Ext w (w.alloc (.cells #[.slice none 0 0, .slice none 0 0] 55)) := (Ext.refl _).alloc _
  have hs : (w.alloc (.cells #[.slice none 0 0, .slice none 0 0] 55)).heap.size = w.heap.size + 1 := by simp
  generalize w.alloc (.cells #[.slice none 0 0, .slice none 0 0] 55) = w0 at *
  generalize hg : w.heap.size = g at *
  have HG := hide hg
  have HS := hide hs
  clear hg hs
  go_region
  · have G0 := GSt.start (w0 := w0) (w := (((w0.alloc (.cells (Array.replicate n (.int .i64 0)) 3)).alloc (.cells (Array.replicate n (.slice none 0 0)) 36)).alloc (.cells #[.slice (some ⟨w0.heap.size, 0, none⟩) n n, .slice (some ⟨w0.heap.size + 1, 0, none⟩) n n] 55)).drew) (B := w0.heap.size) (gc := w0.heap.size + 1 + 1) (ga := w0.heap.size) (gb := w0.heap.size + 1) (n := n) ((((Ext.refl _).alloc _).alloc _).alloc _).drew (Nat.le_refl _)
      (by have h : Blk ((((w0.alloc (.cells (Array.replicate n (.int .i64 0)) 3)).alloc (.cells (Array.replicate n (.slice none 0 0)) 36)).alloc (.cells #[.slice (some ⟨w0.heap.size, 0, none⟩) n n, .slice (some ⟨w0.heap.size + 1, 0, none⟩) n n] 55))) _ _ _ := Blk.new ((w0.alloc _).alloc _) _ _; simp only [World.size_alloc] at h; exact h.ext (Ext.refl _).drew)
      (by have h : Blk ((((w0.alloc (.cells (Array.replicate n (.int .i64 0)) 3)).alloc (.cells (Array.replicate n (.slice none 0 0)) 36)).alloc (.cells #[.slice (some ⟨w0.heap.size, 0, none⟩) n n, .slice (some ⟨w0.heap.size + 1, 0, none⟩) n n] 55))) _ _ _ := ((Blk.new w0 _ _).alloc _).alloc _; exact h.ext (Ext.refl _).drew)
      (by have h : Blk ((((w0.alloc (.cells (Array.replicate n (.int .i64 0)) 3)).alloc (.cells (Array.replicate n (.slice none 0 0)) 36)).alloc (.cells #[.slice (some ⟨w0.heap.size, 0, none⟩) n n, .slice (some ⟨w0.heap.size + 1, 0, none⟩) n n] 55))) _ _ _ := (Blk.new (w0.alloc _) _ _).alloc _; simp only [World.size_alloc] at h; exact h.ext (Ext.refl _).drew)
      ⟨by omega, by omega, by omega⟩ ⟨by omega, by omega, by omega⟩
    have hs1 : w0.heap.size = g + 1 := unhide HS
    generalize (((w0.alloc (.cells (Array.replicate n (.int .i64 0)) 3)).alloc (.cells (Array.replicate n (.slice none 0 0)) 36)).alloc (.cells #[.slice (some ⟨w0.heap.size, 0, none⟩) n n, .slice (some ⟨w0.heap.size + 1, 0, none⟩) n n] 55)).drew = w1 at *
    rw [← wL_nil] at G0
    rw [hs1] at G0 ⊢
    clear hs1
    go_wp2_with fail

    refine (unhide (HH _ _ _ _ _ _ E0 G0)).mono ?_
    rintro e w2 ⟨rfl, wk, C, D, vs', G2⟩
    have B2 := B0.ext G2.ext
    have c0 := B2.cell
    have f0 := B2.frozen
    have l0 := B2.lt
    have c1 := G2.blk.cell 0
    have c2 := G2.blk.cell 1
    have l1 := G2.blk.lt
    have hne := G2.base
    have hne2 := G2.rws.base
    clear HH hmk hmi B0
    go_wp2_with fail
    refine bodyPost_ret (results_cellG Try.results66 _ _ g 55 _ _ rfl ((B2.set_ 0 _).set_ 1 _) Try.underlying55 rfl (by kernel_rfl)) rfl ?_
    have hb1 := unhide HG
    have X : ExtX w2 ((w2.setCell ⟨g, 0, none⟩ (.slice (some ⟨g + 1, 0, none⟩) n n)).setCell ⟨g, 1, none⟩ (.slice (some ⟨g + 1 + 1, 0, none⟩) n n)) [g] := ((ExtX.refl w2 [g]).set (by simp) _).set (by simp) _
    refine ⟨some ⟨g + 1, 0, none⟩, some ⟨g + 1 + 1, 0, none⟩, rfl, X.rd (G2.rd) (fun b off e hm => ?_), (G2.rws.rdr.past X (fun q hq => ?_)).mono ?_, fun b off e => ?_, X.ext (E0.trans G2.ext) (fun q hq => ?_)⟩
    · have hm := List.mem_singleton.1 hm
      injection e with e
      injection e with e
      omega
    · rw [List.mem_singleton.1 hq]; omega
    · omega
    · injection e with e
      injection e with e
      omega
    · rw [List.mem_singleton.1 hq]; omega
  · have G0 := GSt.start (w0 := w0) (w := (((w0.alloc (.cells (Array.replicate n (.int .i64 0)) 3)).alloc (.cells #[.slice (some ⟨w0.heap.size, 0, none⟩) n n, .slice (some ⟨w0.heap.size + 1 + 1, 0, none⟩) n n] 55)).alloc (.cells (Array.replicate n (.slice none 0 0)) 36)).drew) (B := w0.heap.size) (gc := w0.heap.size + 1) (ga := w0.heap.size) (gb := w0.heap.size + 1 + 1) (n := n) ((((Ext.refl _).alloc _).alloc _).alloc _).drew (Nat.le_refl _)
      (by have h : Blk ((((w0.alloc (.cells (Array.replicate n (.int .i64 0)) 3)).alloc (.cells #[.slice (some ⟨w0.heap.size, 0, none⟩) n n, .slice (some ⟨w0.heap.size + 1 + 1, 0, none⟩) n n] 55)).alloc (.cells (Array.replicate n (.slice none 0 0)) 36))) _ _ _ := (Blk.new (w0.alloc _) _ _).alloc _; simp only [World.size_alloc] at h; exact h.ext (Ext.refl _).drew)
      (by have h : Blk ((((w0.alloc (.cells (Array.replicate n (.int .i64 0)) 3)).alloc (.cells #[.slice (some ⟨w0.heap.size, 0, none⟩) n n, .slice (some ⟨w0.heap.size + 1 + 1, 0, none⟩) n n] 55)).alloc (.cells (Array.replicate n (.slice none 0 0)) 36))) _ _ _ := ((Blk.new w0 _ _).alloc _).alloc _; exact h.ext (Ext.refl _).drew)
      (by have h : Blk ((((w0.alloc (.cells (Array.replicate n (.int .i64 0)) 3)).alloc (.cells #[.slice (some ⟨w0.heap.size, 0, none⟩) n n, .slice (some ⟨w0.heap.size + 1 + 1, 0, none⟩) n n] 55)).alloc (.cells (Array.replicate n (.slice none 0 0)) 36))) _ _ _ := Blk.new ((w0.alloc _).alloc _) _ _; simp only [World.size_alloc] at h; exact h.ext (Ext.refl _).drew)
      ⟨by omega, by omega, by omega⟩ ⟨by omega, by omega, by omega⟩
    have hs1 : w0.heap.size = g + 1 := unhide HS
    generalize (((w0.alloc (.cells (Array.replicate n (.int .i64 0)) 3)).alloc (.cells #[.slice (some ⟨w0.heap.size, 0, none⟩) n n, .slice (some ⟨w0.heap.size + 1 + 1, 0, none⟩) n n] 55)).alloc (.cells (Array.replicate n (.slice none 0 0)) 36)).drew = w1 at *
    rw [← wL_nil] at G0
    rw [hs1] at G0 ⊢
    clear hs1
    go_wp2_with fail

    refine (unhide (HH _ _ _ _ _ _ E0 G0)).mono ?_
    rintro e w2 ⟨rfl, wk, C, D, vs', G2⟩
    have B2 := B0.ext G2.ext
    have c0 := B2.cell
    have f0 := B2.frozen
    have l0 := B2.lt
    have c1 := G2.blk.cell 0
    have c2 := G2.blk.cell 1
    have l1 := G2.blk.lt
    have hne := G2.base
    have hne2 := G2.rws.base
    clear HH hmk hmi B0
    go_wp2_with fail
    refine bodyPost_ret (results_cellG Try.results66 _ _ g 55 _ _ rfl ((B2.set_ 0 _).set_ 1 _) Try.underlying55 rfl (by kernel_rfl)) rfl ?_
    have hb1 := unhide HG
    have X : ExtX w2 ((w2.setCell ⟨g, 0, none⟩ (.slice (some ⟨g + 1, 0, none⟩) n n)).setCell ⟨g, 1, none⟩ (.slice (some ⟨g + 1 + 1 + 1, 0, none⟩) n n)) [g] := ((ExtX.refl w2 [g]).set (by simp) _).set (by simp) _
    refine ⟨some ⟨g + 1, 0, none⟩, some ⟨g + 1 + 1 + 1, 0, none⟩, rfl, X.rd (G2.rd) (fun b off e hm => ?_), (G2.rws.rdr.past X (fun q hq => ?_)).mono ?_, fun b off e => ?_, X.ext (E0.trans G2.ext) (fun q hq => ?_)⟩
    · have hm := List.mem_singleton.1 hm
      injection e with e
      injection e with e
      omega
    · rw [List.mem_singleton.1 hq]; omega
    · omega
    · injection e with e
      injection e with e
      omega
    · rw [List.mem_singleton.1 hq]; omega
  · have G0 := GSt.start (w0 := w0) (w := (((w0.alloc (.cells (Array.replicate n (.slice none 0 0)) 36)).alloc (.cells (Array.replicate n (.int .i64 0)) 3)).alloc (.cells #[.slice (some ⟨w0.heap.size + 1, 0, none⟩) n n, .slice (some ⟨w0.heap.size, 0, none⟩) n n] 55)).drew) (B := w0.heap.size) (gc := w0.heap.size + 1 + 1) (ga := w0.heap.size + 1) (gb := w0.heap.size) (n := n) ((((Ext.refl _).alloc _).alloc _).alloc _).drew (Nat.le_refl _)
      (by have h : Blk ((((w0.alloc (.cells (Array.replicate n (.slice none 0 0)) 36)).alloc (.cells (Array.replicate n (.int .i64 0)) 3)).alloc (.cells #[.slice (some ⟨w0.heap.size + 1, 0, none⟩) n n, .slice (some ⟨w0.heap.size, 0, none⟩) n n] 55))) _ _ _ := Blk.new ((w0.alloc _).alloc _) _ _; simp only [World.size_alloc] at h; exact h.ext (Ext.refl _).drew)
      (by have h : Blk ((((w0.alloc (.cells (Array.replicate n (.slice none 0 0)) 36)).alloc (.cells (Array.replicate n (.int .i64 0)) 3)).alloc (.cells #[.slice (some ⟨w0.heap.size + 1, 0, none⟩) n n, .slice (some ⟨w0.heap.size, 0, none⟩) n n] 55))) _ _ _ := (Blk.new (w0.alloc _) _ _).alloc _; simp only [World.size_alloc] at h; exact h.ext (Ext.refl _).drew)
      (by have h : Blk ((((w0.alloc (.cells (Array.replicate n (.slice none 0 0)) 36)).alloc (.cells (Array.replicate n (.int .i64 0)) 3)).alloc (.cells #[.slice (some ⟨w0.heap.size + 1, 0, none⟩) n n, .slice (some ⟨w0.heap.size, 0, none⟩) n n] 55))) _ _ _ := ((Blk.new w0 _ _).alloc _).alloc _; exact h.ext (Ext.refl _).drew)
      ⟨by omega, by omega, by omega⟩ ⟨by omega, by omega, by omega⟩
    have hs1 : w0.heap.size = g + 1 := unhide HS
    generalize (((w0.alloc (.cells (Array.replicate n (.slice none 0 0)) 36)).alloc (.cells (Array.replicate n (.int .i64 0)) 3)).alloc (.cells #[.slice (some ⟨w0.heap.size + 1, 0, none⟩) n n, .slice (some ⟨w0.heap.size, 0, none⟩) n n] 55)).drew = w1 at *
    rw [← wL_nil] at G0
    rw [hs1] at G0 ⊢
    clear hs1
    go_wp2_with fail

    refine (unhide (HH _ _ _ _ _ _ E0 G0)).mono ?_
    rintro e w2 ⟨rfl, wk, C, D, vs', G2⟩
    have B2 := B0.ext G2.ext
    have c0 := B2.cell
    have f0 := B2.frozen
    have l0 := B2.lt
    have c1 := G2.blk.cell 0
    have c2 := G2.blk.cell 1
    have l1 := G2.blk.lt
    have hne := G2.base
    have hne2 := G2.rws.base
    clear HH hmk hmi B0
    go_wp2_with fail
    refine bodyPost_ret (results_cellG Try.results66 _ _ g 55 _ _ rfl ((B2.set_ 0 _).set_ 1 _) Try.underlying55 rfl (by kernel_rfl)) rfl ?_
    have hb1 := unhide HG
    have X : ExtX w2 ((w2.setCell ⟨g, 0, none⟩ (.slice (some ⟨g + 1 + 1, 0, none⟩) n n)).setCell ⟨g, 1, none⟩ (.slice (some ⟨g + 1, 0, none⟩) n n)) [g] := ((ExtX.refl w2 [g]).set (by simp) _).set (by simp) _
    refine ⟨some ⟨g + 1 + 1, 0, none⟩, some ⟨g + 1, 0, none⟩, rfl, X.rd (G2.rd) (fun b off e hm => ?_), (G2.rws.rdr.past X (fun q hq => ?_)).mono ?_, fun b off e => ?_, X.ext (E0.trans G2.ext) (fun q hq => ?_)⟩
    · have hm := List.mem_singleton.1 hm
      injection e with e
      injection e with e
      omega
    · rw [List.mem_singleton.1 hq]; omega
    · omega
    · injection e with e
      injection e with e
      omega
    · rw [List.mem_singleton.1 hq]; omega
  · have G0 := GSt.start (w0 := w0) (w := (((w0.alloc (.cells (Array.replicate n (.slice none 0 0)) 36)).alloc (.cells #[.slice (some ⟨w0.heap.size + 1 + 1, 0, none⟩) n n, .slice (some ⟨w0.heap.size, 0, none⟩) n n] 55)).alloc (.cells (Array.replicate n (.int .i64 0)) 3)).drew) (B := w0.heap.size) (gc := w0.heap.size + 1) (ga := w0.heap.size + 1 + 1) (gb := w0.heap.size) (n := n) ((((Ext.refl _).alloc _).alloc _).alloc _).drew (Nat.le_refl _)
      (by have h : Blk ((((w0.alloc (.cells (Array.replicate n (.slice none 0 0)) 36)).alloc (.cells #[.slice (some ⟨w0.heap.size + 1 + 1, 0, none⟩) n n, .slice (some ⟨w0.heap.size, 0, none⟩) n n] 55)).alloc (.cells (Array.replicate n (.int .i64 0)) 3))) _ _ _ := (Blk.new (w0.alloc _) _ _).alloc _; simp only [World.size_alloc] at h; exact h.ext (Ext.refl _).drew)
      (by have h : Blk ((((w0.alloc (.cells (Array.replicate n (.slice none 0 0)) 36)).alloc (.cells #[.slice (some ⟨w0.heap.size + 1 + 1, 0, none⟩) n n, .slice (some ⟨w0.heap.size, 0, none⟩) n n] 55)).alloc (.cells (Array.replicate n (.int .i64 0)) 3))) _ _ _ := Blk.new ((w0.alloc _).alloc _) _ _; simp only [World.size_alloc] at h; exact h.ext (Ext.refl _).drew)
      (by have h : Blk ((((w0.alloc (.cells (Array.replicate n (.slice none 0 0)) 36)).alloc (.cells #[.slice (some ⟨w0.heap.size + 1 + 1, 0, none⟩) n n, .slice (some ⟨w0.heap.size, 0, none⟩) n n] 55)).alloc (.cells (Array.replicate n (.int .i64 0)) 3))) _ _ _ := ((Blk.new w0 _ _).alloc _).alloc _; exact h.ext (Ext.refl _).drew)
      ⟨by omega, by omega, by omega⟩ ⟨by omega, by omega, by omega⟩
    have hs1 : w0.heap.size = g + 1 := unhide HS
    generalize (((w0.alloc (.cells (Array.replicate n (.slice none 0 0)) 36)).alloc (.cells #[.slice (some ⟨w0.heap.size + 1 + 1, 0, none⟩) n n, .slice (some ⟨w0.heap.size, 0, none⟩) n n] 55)).alloc (.cells (Array.replicate n (.int .i64 0)) 3)).drew = w1 at *
    rw [← wL_nil] at G0
    rw [hs1] at G0 ⊢
    clear hs1
    go_wp2_with fail

    refine (unhide (HH _ _ _ _ _ _ E0 G0)).mono ?_
    rintro e w2 ⟨rfl, wk, C, D, vs', G2⟩
    have B2 := B0.ext G2.ext
    have c0 := B2.cell
    have f0 := B2.frozen
    have l0 := B2.lt
    have c1 := G2.blk.cell 0
    have c2 := G2.blk.cell 1
    have l1 := G2.blk.lt
    have hne := G2.base
    have hne2 := G2.rws.base
    clear HH hmk hmi B0
    go_wp2_with fail
    refine bodyPost_ret (results_cellG Try.results66 _ _ g 55 _ _ rfl ((B2.set_ 0 _).set_ 1 _) Try.underlying55 rfl (by kernel_rfl)) rfl ?_
    have hb1 := unhide HG
    have X : ExtX w2 ((w2.setCell ⟨g, 0, none⟩ (.slice (some ⟨g + 1 + 1 + 1, 0, none⟩) n n)).setCell ⟨g, 1, none⟩ (.slice (some ⟨g + 1, 0, none⟩) n n)) [g] := ((ExtX.refl w2 [g]).set (by simp) _).set (by simp) _
    refine ⟨some ⟨g + 1 + 1 + 1, 0, none⟩, some ⟨g + 1, 0, none⟩, rfl, X.rd (G2.rd) (fun b off e hm => ?_), (G2.rws.rdr.past X (fun q hq => ?_)).mono ?_, fun b off e => ?_, X.ext (E0.trans G2.ext) (fun q hq => ?_)⟩
    · have hm := List.mem_singleton.1 hm
      injection e with e
      injection e with e
      omega
    · rw [List.mem_singleton.1 hq]; omega
    · omega
    · injection e with e
      injection e with e
      omega
    · rw [List.mem_singleton.1 hq]; omega
  · have G0 := GSt.start (w0 := w0) (w := (((w0.alloc (.cells #[.slice (some ⟨w0.heap.size + 1, 0, none⟩) n n, .slice (some ⟨w0.heap.size + 1 + 1, 0, none⟩) n n] 55)).alloc (.cells (Array.replicate n (.int .i64 0)) 3)).alloc (.cells (Array.replicate n (.slice none 0 0)) 36)).drew) (B := w0.heap.size) (gc := w0.heap.size) (ga := w0.heap.size + 1) (gb := w0.heap.size + 1 + 1) (n := n) ((((Ext.refl _).alloc _).alloc _).alloc _).drew (Nat.le_refl _)
      (by have h : Blk ((((w0.alloc (.cells #[.slice (some ⟨w0.heap.size + 1, 0, none⟩) n n, .slice (some ⟨w0.heap.size + 1 + 1, 0, none⟩) n n] 55)).alloc (.cells (Array.replicate n (.int .i64 0)) 3)).alloc (.cells (Array.replicate n (.slice none 0 0)) 36))) _ _ _ := ((Blk.new w0 _ _).alloc _).alloc _; exact h.ext (Ext.refl _).drew)
      (by have h : Blk ((((w0.alloc (.cells #[.slice (some ⟨w0.heap.size + 1, 0, none⟩) n n, .slice (some ⟨w0.heap.size + 1 + 1, 0, none⟩) n n] 55)).alloc (.cells (Array.replicate n (.int .i64 0)) 3)).alloc (.cells (Array.replicate n (.slice none 0 0)) 36))) _ _ _ := (Blk.new (w0.alloc _) _ _).alloc _; simp only [World.size_alloc] at h; exact h.ext (Ext.refl _).drew)
      (by have h : Blk ((((w0.alloc (.cells #[.slice (some ⟨w0.heap.size + 1, 0, none⟩) n n, .slice (some ⟨w0.heap.size + 1 + 1, 0, none⟩) n n] 55)).alloc (.cells (Array.replicate n (.int .i64 0)) 3)).alloc (.cells (Array.replicate n (.slice none 0 0)) 36))) _ _ _ := Blk.new ((w0.alloc _).alloc _) _ _; simp only [World.size_alloc] at h; exact h.ext (Ext.refl _).drew)
      ⟨by omega, by omega, by omega⟩ ⟨by omega, by omega, by omega⟩
    have hs1 : w0.heap.size = g + 1 := unhide HS
    generalize (((w0.alloc (.cells #[.slice (some ⟨w0.heap.size + 1, 0, none⟩) n n, .slice (some ⟨w0.heap.size + 1 + 1, 0, none⟩) n n] 55)).alloc (.cells (Array.replicate n (.int .i64 0)) 3)).alloc (.cells (Array.replicate n (.slice none 0 0)) 36)).drew = w1 at *
    rw [← wL_nil] at G0
    rw [hs1] at G0 ⊢
    clear hs1
    go_wp2_with fail

    refine (unhide (HH _ _ _ _ _ _ E0 G0)).mono ?_
    rintro e w2 ⟨rfl, wk, C, D, vs', G2⟩
    have B2 := B0.ext G2.ext
    have c0 := B2.cell
    have f0 := B2.frozen
    have l0 := B2.lt
    have c1 := G2.blk.cell 0
    have c2 := G2.blk.cell 1
    have l1 := G2.blk.lt
    have hne := G2.base
    have hne2 := G2.rws.base
    clear HH hmk hmi B0
    go_wp2_with fail
    refine bodyPost_ret (results_cellG Try.results66 _ _ g 55 _ _ rfl ((B2.set_ 0 _).set_ 1 _) Try.underlying55 rfl (by kernel_rfl)) rfl ?_
    have hb1 := unhide HG
    have X : ExtX w2 ((w2.setCell ⟨g, 0, none⟩ (.slice (some ⟨g + 1 + 1, 0, none⟩) n n)).setCell ⟨g, 1, none⟩ (.slice (some ⟨g + 1 + 1 + 1, 0, none⟩) n n)) [g] := ((ExtX.refl w2 [g]).set (by simp) _).set (by simp) _
    refine ⟨some ⟨g + 1 + 1, 0, none⟩, some ⟨g + 1 + 1 + 1, 0, none⟩, rfl, X.rd (G2.rd) (fun b off e hm => ?_), (G2.rws.rdr.past X (fun q hq => ?_)).mono ?_, fun b off e => ?_, X.ext (E0.trans G2.ext) (fun q hq => ?_)⟩
    · have hm := List.mem_singleton.1 hm
      injection e with e
      injection e with e
      omega
    · rw [List.mem_singleton.1 hq]; omega
    · omega
    · injection e with e
      injection e with e
      omega
    · rw [List.mem_singleton.1 hq]; omega
  · have G0 := GSt.start (w0 := w0) (w := (((w0.alloc (.cells #[.slice (some ⟨w0.heap.size + 1 + 1, 0, none⟩) n n, .slice (some ⟨w0.heap.size + 1, 0, none⟩) n n] 55)).alloc (.cells (Array.replicate n (.slice none 0 0)) 36)).alloc (.cells (Array.replicate n (.int .i64 0)) 3)).drew) (B := w0.heap.size) (gc := w0.heap.size) (ga := w0.heap.size + 1 + 1) (gb := w0.heap.size + 1) (n := n) ((((Ext.refl _).alloc _).alloc _).alloc _).drew (Nat.le_refl _)
      (by have h : Blk ((((w0.alloc (.cells #[.slice (some ⟨w0.heap.size + 1 + 1, 0, none⟩) n n, .slice (some ⟨w0.heap.size + 1, 0, none⟩) n n] 55)).alloc (.cells (Array.replicate n (.slice none 0 0)) 36)).alloc (.cells (Array.replicate n (.int .i64 0)) 3))) _ _ _ := ((Blk.new w0 _ _).alloc _).alloc _; exact h.ext (Ext.refl _).drew)
      (by have h : Blk ((((w0.alloc (.cells #[.slice (some ⟨w0.heap.size + 1 + 1, 0, none⟩) n n, .slice (some ⟨w0.heap.size + 1, 0, none⟩) n n] 55)).alloc (.cells (Array.replicate n (.slice none 0 0)) 36)).alloc (.cells (Array.replicate n (.int .i64 0)) 3))) _ _ _ := Blk.new ((w0.alloc _).alloc _) _ _; simp only [World.size_alloc] at h; exact h.ext (Ext.refl _).drew)
      (by have h : Blk ((((w0.alloc (.cells #[.slice (some ⟨w0.heap.size + 1 + 1, 0, none⟩) n n, .slice (some ⟨w0.heap.size + 1, 0, none⟩) n n] 55)).alloc (.cells (Array.replicate n (.slice none 0 0)) 36)).alloc (.cells (Array.replicate n (.int .i64 0)) 3))) _ _ _ := (Blk.new (w0.alloc _) _ _).alloc _; simp only [World.size_alloc] at h; exact h.ext (Ext.refl _).drew)
      ⟨by omega, by omega, by omega⟩ ⟨by omega, by omega, by omega⟩
    have hs1 : w0.heap.size = g + 1 := unhide HS
    generalize (((w0.alloc (.cells #[.slice (some ⟨w0.heap.size + 1 + 1, 0, none⟩) n n, .slice (some ⟨w0.heap.size + 1, 0, none⟩) n n] 55)).alloc (.cells (Array.replicate n (.slice none 0 0)) 36)).alloc (.cells (Array.replicate n (.int .i64 0)) 3)).drew = w1 at *
    rw [← wL_nil] at G0
    rw [hs1] at G0 ⊢
    clear hs1
    go_wp2_with fail

    refine (unhide (HH _ _ _ _ _ _ E0 G0)).mono ?_
    rintro e w2 ⟨rfl, wk, C, D, vs', G2⟩
    have B2 := B0.ext G2.ext
    have c0 := B2.cell
    have f0 := B2.frozen
    have l0 := B2.lt
    have c1 := G2.blk.cell 0
    have c2 := G2.blk.cell 1
    have l1 := G2.blk.lt
    have hne := G2.base
    have hne2 := G2.rws.base
    clear HH hmk hmi B0
    go_wp2_with fail
    refine bodyPost_ret (results_cellG Try.results66 _ _ g 55 _ _ rfl ((B2.set_ 0 _).set_ 1 _) Try.underlying55 rfl (by kernel_rfl)) rfl ?_
    have hb1 := unhide HG
    have X : ExtX w2 ((w2.setCell ⟨g, 0, none⟩ (.slice (some ⟨g + 1 + 1 + 1, 0, none⟩) n n)).setCell ⟨g, 1, none⟩ (.slice (some ⟨g + 1 + 1, 0, none⟩) n n)) [g] := ((ExtX.refl w2 [g]).set (by simp) _).set (by simp) _
    refine ⟨some ⟨g + 1 + 1 + 1, 0, none⟩, some ⟨g + 1 + 1, 0, none⟩, rfl, X.rd (G2.rd) (fun b off e hm => ?_), (G2.rws.rdr.past X (fun q hq => ?_)).mono ?_, fun b off e => ?_, X.ext (E0.trans G2.ext) (fun q hq => ?_)⟩
    · have hm := List.mem_singleton.1 hm
      injection e with e
      injection e with e
      omega
    · rw [List.mem_singleton.1 hq]; omega
    · omega
    · injection e with e
      injection e with e
      omega
    · rw [List.mem_singleton.1 hq]; omega
end Go.Proofs.Ytnolbmfjgfojhaa
