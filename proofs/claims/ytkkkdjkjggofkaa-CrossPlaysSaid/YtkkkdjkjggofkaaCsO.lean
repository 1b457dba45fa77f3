/- A case that came in, opened. -/
import Derived.Test.YtkkkdjkjggofkaaCrR
namespace Go.Proofs.Ytkkkdjkjggofkaa
open Go.ChangeShapes Go.WideShapes Go.ChangeAt Go.RowKit
/-- a case: a style, a width, and three rows -/
structure Cs where
  (s : Sty) (c : Int) (ka : Option Addr) (kl kc : Nat) (ua : Option Addr) (ul uc : Nat) (ha : Option Addr) (hl hc : Nat)
@[reducible] def Cs.cells (x : Cs) : Array Value := #[.int .u8 x.s.kind, .bool x.s.flow, .int .u8 x.s.float, .int .u8 x.s.clear, .int .u8 x.s.w.k, .int .i64 x.s.w.n, .int .u8 x.s.h.k, .int .i64 x.s.h.n, .int .u8 x.s.minw.k, .int .i64 x.s.minw.n, .int .u8 x.s.maxw.k, .int .i64 x.s.maxw.n, .int .u8 x.s.minh.k, .int .i64 x.s.minh.n, .int .u8 x.s.maxh.k, .int .i64 x.s.maxh.n, .int .u8 x.s.m0.k, .int .i64 x.s.m0.n, .int .u8 x.s.m1.k, .int .i64 x.s.m1.n, .int .u8 x.s.m2.k, .int .i64 x.s.m2.n, .int .u8 x.s.m3.k, .int .i64 x.s.m3.n, .int .i64 x.s.b0, .int .i64 x.s.b1, .int .i64 x.s.b2, .int .i64 x.s.b3, .int .i64 x.s.p0, .int .i64 x.s.p1, .int .i64 x.s.p2, .int .i64 x.s.p3, .int .u8 x.s.align, .int .i64 x.s.line, .bool x.s.wrap, .int .u8 x.s.justify, .int .u8 x.s.items, .int .i64 x.s.order, .int .i64 x.s.grow, .int .i64 x.s.shrink, .int .u8 x.s.basis.k, .int .i64 x.s.basis.n, .slice x.s.ua x.s.ul x.s.uc, .int .i64 x.c, .slice x.ka x.kl x.kc, .slice x.ua x.ul x.uc, .slice x.ha x.hl x.hc]
/-- what came in -/
structure CsIn (w : World) (x : Cs) (ks : List Sty) (us : List Us) (hs : List Int) : Prop where
  rk : Rd w 43 x.ka x.kl (recs styC ks)
  ru : Rd w 3 x.ua x.ul (recs usC us)
  rh : Rd w 1 x.ha x.hl (ints hs)
  sw : x.s.Wf
  kw : ∀ s ∈ ks, s.Wf
  lk : x.kl ≤ maxLen
  lu : x.ul ≤ maxLen
  lh : x.hl ≤ maxLen
theorem flat_case : flat Try.prog 5 33 = some [.int .u8, .bool, .int .u8, .int .u8, .int .u8, .int .i64, .int .u8, .int .i64, .int .u8, .int .i64, .int .u8, .int .i64, .int .u8, .int .i64, .int .u8, .int .i64, .int .u8, .int .i64, .int .u8, .int .i64, .int .u8, .int .i64, .int .u8, .int .i64, .int .i64, .int .i64, .int .i64, .int .i64, .int .i64, .int .i64, .int .i64, .int .i64, .int .u8, .int .i64, .bool, .int .u8, .int .u8, .int .i64, .int .i64, .int .i64, .int .u8, .int .i64, .slice 52, .int .i64, .slice 28, .slice 48, .slice 2] := by kernel_rfl
theorem flat_used : flat Try.prog 3 48 = some [.int .i64, .int .i64, .int .i64] := by kernel_rfl
theorem flat_i64 : flat Try.prog 3 2 = some [.int .i64] := by kernel_rfl
theorem cells_sty : Try.prog.cellsOf 28 = 43 := by kernel_rfl
theorem cells_used : Try.prog.cellsOf 48 = 3 := by kernel_rfl
theorem cells_num : Try.prog.cellsOf 2 = 1 := by kernel_rfl
theorem stys_of : ∀ (xss : List (List Value)), (∀ xs ∈ xss, ∃ s : Sty, xs = s.cells.toList ∧ s.Wf) → ∃ l : List Sty, xss.flatten = recs styC l ∧ ∀ s ∈ l, s.Wf
  | [], _ => ⟨[], rfl, by simp⟩
  | xs :: t, h => by
    obtain ⟨n, h1, h2⟩ := h xs (List.mem_cons_self ..)
    obtain ⟨l, h3, h4⟩ := stys_of t (fun y hy => h y (List.mem_cons_of_mem _ hy))
    refine ⟨n :: l, by rw [List.flatten_cons, h1, h3]; rfl, fun m hm => ?_⟩
    rcases List.mem_cons.1 hm with rfl | hm
    · exact h2
    · exact h4 m hm
theorem useds_of : ∀ (xss : List (List Value)), (∀ xs ∈ xss, ∃ u : Us, xs = usC u) → ∃ l : List Us, xss.flatten = recs usC l
  | [], _ => ⟨[], rfl⟩
  | xs :: t, h => by
    obtain ⟨z, h1⟩ := h xs (List.mem_cons_self ..)
    obtain ⟨l, h2⟩ := useds_of t (fun y hy => h y (List.mem_cons_of_mem _ hy))
    exact ⟨z :: l, by rw [List.flatten_cons, h1, h2]; rfl⟩
theorem nums_of : ∀ (xss : List (List Value)), (∀ xs ∈ xss, ∃ z : Int, xs = [.int .i64 z]) → ∃ l : List Int, xss.flatten = ints l
  | [], _ => ⟨[], rfl⟩
  | xs :: t, h => by
    obtain ⟨z, h1⟩ := h xs (List.mem_cons_self ..)
    obtain ⟨l, h2⟩ := nums_of t (fun y hy => h y (List.mem_cons_of_mem _ hy))
    exact ⟨z :: l, by rw [List.flatten_cons, h1, h2]; rfl⟩
section
variable {H : Type} {enc : TypeId × Value → H} {w : World} {spare : Nat → Bool} {held : Bool}
set_option maxRecDepth 100000 in
set_option maxHeartbeats 4000000 in
theorem open_case {r : Reach} {b0 : Nat} {v : Value} {d : DataW H} {p : List MemPlace} (hv : Value.okWide Try.prog w r b0 33 v) (h : DataW.Trod enc Try.prog w 0 spare held 33 v d p) :
    ∃ (x : Cs) (ks : List Sty) (us : List Us) (hs : List Int), v = .agg x.cells ∧ CsIn w x ks us hs := by
  obtain ⟨cs, rfl, _⟩ := okWide_struct Try.underlying33 hv
  obtain ⟨fuel, hf⟩ := h
  have hl := flat_ok 5 33 _ fuel _ _ flat_case hf
  obtain ⟨v0, t0, e0, k0, h0⟩ := hl.cons
  obtain ⟨v1, t1, e1, k1, h1⟩ := h0.cons
  obtain ⟨v2, t2, e2, k2, h2⟩ := h1.cons
  obtain ⟨v3, t3, e3, k3, h3⟩ := h2.cons
  obtain ⟨v4, t4, e4, k4, h4⟩ := h3.cons
  obtain ⟨v5, t5, e5, k5, h5⟩ := h4.cons
  obtain ⟨v6, t6, e6, k6, h6⟩ := h5.cons
  obtain ⟨v7, t7, e7, k7, h7⟩ := h6.cons
  obtain ⟨v8, t8, e8, k8, h8⟩ := h7.cons
  obtain ⟨v9, t9, e9, k9, h9⟩ := h8.cons
  obtain ⟨v10, t10, e10, k10, h10⟩ := h9.cons
  obtain ⟨v11, t11, e11, k11, h11⟩ := h10.cons
  obtain ⟨v12, t12, e12, k12, h12⟩ := h11.cons
  obtain ⟨v13, t13, e13, k13, h13⟩ := h12.cons
  obtain ⟨v14, t14, e14, k14, h14⟩ := h13.cons
  obtain ⟨v15, t15, e15, k15, h15⟩ := h14.cons
  obtain ⟨v16, t16, e16, k16, h16⟩ := h15.cons
  obtain ⟨v17, t17, e17, k17, h17⟩ := h16.cons
  obtain ⟨v18, t18, e18, k18, h18⟩ := h17.cons
  obtain ⟨v19, t19, e19, k19, h19⟩ := h18.cons
  obtain ⟨v20, t20, e20, k20, h20⟩ := h19.cons
  obtain ⟨v21, t21, e21, k21, h21⟩ := h20.cons
  obtain ⟨v22, t22, e22, k22, h22⟩ := h21.cons
  obtain ⟨v23, t23, e23, k23, h23⟩ := h22.cons
  obtain ⟨v24, t24, e24, k24, h24⟩ := h23.cons
  obtain ⟨v25, t25, e25, k25, h25⟩ := h24.cons
  obtain ⟨v26, t26, e26, k26, h26⟩ := h25.cons
  obtain ⟨v27, t27, e27, k27, h27⟩ := h26.cons
  obtain ⟨v28, t28, e28, k28, h28⟩ := h27.cons
  obtain ⟨v29, t29, e29, k29, h29⟩ := h28.cons
  obtain ⟨v30, t30, e30, k30, h30⟩ := h29.cons
  obtain ⟨v31, t31, e31, k31, h31⟩ := h30.cons
  obtain ⟨v32, t32, e32, k32, h32⟩ := h31.cons
  obtain ⟨v33, t33, e33, k33, h33⟩ := h32.cons
  obtain ⟨v34, t34, e34, k34, h34⟩ := h33.cons
  obtain ⟨v35, t35, e35, k35, h35⟩ := h34.cons
  obtain ⟨v36, t36, e36, k36, h36⟩ := h35.cons
  obtain ⟨v37, t37, e37, k37, h37⟩ := h36.cons
  obtain ⟨v38, t38, e38, k38, h38⟩ := h37.cons
  obtain ⟨v39, t39, e39, k39, h39⟩ := h38.cons
  obtain ⟨v40, t40, e40, k40, h40⟩ := h39.cons
  obtain ⟨v41, t41, e41, k41, h41⟩ := h40.cons
  obtain ⟨v42, t42, e42, k42, h42⟩ := h41.cons
  obtain ⟨v43, t43, e43, k43, h43⟩ := h42.cons
  obtain ⟨v44, t44, e44, k44, h44⟩ := h43.cons
  obtain ⟨v45, t45, e45, k45, h45⟩ := h44.cons
  obtain ⟨v46, t46, e46, k46, h46⟩ := h45.cons
  obtain rfl := h46.nil
  obtain ⟨kind, rfl, w0⟩ := k0
  obtain ⟨flow, rfl⟩ := k1
  obtain ⟨float, rfl, w2⟩ := k2
  obtain ⟨clear, rfl, w3⟩ := k3
  obtain ⟨wk, rfl, w4⟩ := k4
  obtain ⟨wn, rfl, w5⟩ := k5
  obtain ⟨hk, rfl, w6⟩ := k6
  obtain ⟨hn, rfl, w7⟩ := k7
  obtain ⟨minwk, rfl, w8⟩ := k8
  obtain ⟨minwn, rfl, w9⟩ := k9
  obtain ⟨maxwk, rfl, w10⟩ := k10
  obtain ⟨maxwn, rfl, w11⟩ := k11
  obtain ⟨minhk, rfl, w12⟩ := k12
  obtain ⟨minhn, rfl, w13⟩ := k13
  obtain ⟨maxhk, rfl, w14⟩ := k14
  obtain ⟨maxhn, rfl, w15⟩ := k15
  obtain ⟨m0k, rfl, w16⟩ := k16
  obtain ⟨m0n, rfl, w17⟩ := k17
  obtain ⟨m1k, rfl, w18⟩ := k18
  obtain ⟨m1n, rfl, w19⟩ := k19
  obtain ⟨m2k, rfl, w20⟩ := k20
  obtain ⟨m2n, rfl, w21⟩ := k21
  obtain ⟨m3k, rfl, w22⟩ := k22
  obtain ⟨m3n, rfl, w23⟩ := k23
  obtain ⟨b0, rfl, w24⟩ := k24
  obtain ⟨b1, rfl, w25⟩ := k25
  obtain ⟨b2, rfl, w26⟩ := k26
  obtain ⟨b3, rfl, w27⟩ := k27
  obtain ⟨p0, rfl, w28⟩ := k28
  obtain ⟨p1, rfl, w29⟩ := k29
  obtain ⟨p2, rfl, w30⟩ := k30
  obtain ⟨p3, rfl, w31⟩ := k31
  obtain ⟨align, rfl, w32⟩ := k32
  obtain ⟨line, rfl, w33⟩ := k33
  obtain ⟨wrap, rfl⟩ := k34
  obtain ⟨justify, rfl, w35⟩ := k35
  obtain ⟨items, rfl, w36⟩ := k36
  obtain ⟨order, rfl, w37⟩ := k37
  obtain ⟨grow, rfl, w38⟩ := k38
  obtain ⟨shrink, rfl, w39⟩ := k39
  obtain ⟨basisk, rfl, w40⟩ := k40
  obtain ⟨basisn, rfl, w41⟩ := k41
  obtain ⟨ua, ul, uc, rfl, hs⟩ := k42
  obtain ⟨c, rfl, _⟩ := k43
  obtain ⟨ka, kl, kc, rfl, hkk⟩ := k44
  obtain ⟨va, vl, vc, rfl, hu⟩ := k45
  obtain ⟨ha, hl', hc, rfl, hh⟩ := k46
  subst e46
  subst e45
  subst e44
  subst e43
  subst e42
  subst e41
  subst e40
  subst e39
  subst e38
  subst e37
  subst e36
  subst e35
  subst e34
  subst e33
  subst e32
  subst e31
  subst e30
  subst e29
  subst e28
  subst e27
  subst e26
  subst e25
  subst e24
  subst e23
  subst e22
  subst e21
  subst e20
  subst e19
  subst e18
  subst e17
  subst e16
  subst e15
  subst e14
  subst e13
  subst e12
  subst e11
  subst e10
  subst e9
  subst e8
  subst e7
  subst e6
  subst e5
  subst e4
  subst e3
  subst e2
  subst e1
  obtain ⟨xss, _, _, hr, hx⟩ := hkk.rd cells_sty (by omega)
  obtain ⟨ks, hks, hkw⟩ := stys_of xss (fun xs hm => by
    obtain ⟨x, fuel, ht⟩ := hx xs hm
    obtain ⟨s, hs, hw, _⟩ := open_style_cells ht
    exact ⟨s, hs, hw⟩)
  obtain ⟨yss, _, _, hr2, hy⟩ := hu.rd cells_used (by omega)
  obtain ⟨us, hus⟩ := useds_of yss (fun xs hm => by
    obtain ⟨x, fuel, ht⟩ := hy xs hm
    have hl := flat_ok 3 48 _ fuel xs x flat_used ht
    obtain ⟨v0, t0, rfl, k0, h0⟩ := hl.cons
    obtain ⟨v1, t1, rfl, k1, h1⟩ := h0.cons
    obtain ⟨v2, t2, rfl, k2, h2⟩ := h1.cons
    obtain rfl := h2.nil
    obtain ⟨z0, rfl, _⟩ := k0
    obtain ⟨z1, rfl, _⟩ := k1
    obtain ⟨z2, rfl, _⟩ := k2
    exact ⟨⟨z0, z1, z2⟩, rfl⟩)
  obtain ⟨zss, _, _, hr3, hz⟩ := hh.rd cells_num (by omega)
  obtain ⟨ls, hls⟩ := nums_of zss (fun xs hm => by
    obtain ⟨x, fuel, ht⟩ := hz xs hm
    have hl := flat_ok 3 2 _ fuel xs x flat_i64 ht
    obtain ⟨v0, t0, rfl, k0, h0⟩ := hl.cons
    obtain rfl := h0.nil
    obtain ⟨z, rfl, _⟩ := k0
    exact ⟨z, rfl⟩)
  exact ⟨⟨⟨kind, flow, float, clear, ⟨wk, wn⟩, ⟨hk, hn⟩, ⟨minwk, minwn⟩, ⟨maxwk, maxwn⟩, ⟨minhk, minhn⟩, ⟨maxhk, maxhn⟩, ⟨m0k, m0n⟩, ⟨m1k, m1n⟩, ⟨m2k, m2n⟩, ⟨m3k, m3n⟩, b0, b1, b2, b3, p0, p1, p2, p3, align, line, wrap, justify, items, order, grow, shrink, ⟨basisk, basisn⟩, ua, ul, uc⟩, c, ka, kl, kc, va, vl, vc, ha, hl', hc⟩, ks, us, ls, by rw [show cs = _ from Array.toList_inj.1 e0], ⟨hks ▸ hr, hus ▸ hr2, hls ▸ hr3, ⟨w0, w2, w3, ⟨w4, w5⟩, ⟨w6, w7⟩, ⟨w8, w9⟩, ⟨w10, w11⟩, ⟨w12, w13⟩, ⟨w14, w15⟩, ⟨w16, w17⟩, ⟨w18, w19⟩, ⟨w20, w21⟩, ⟨w22, w23⟩, w24, w25, w26, w27, w28, w29, w30, w31, w32, w33, w35, w36, w37, w38, w39, ⟨w40, w41⟩⟩, hkw, Nat.le_trans hkk.1 hkk.2.1, Nat.le_trans hu.1 hu.2.1, Nat.le_trans hh.1 hh.2.1⟩⟩
end
end Go.Proofs.Ytkkkdjkjggofkaa
