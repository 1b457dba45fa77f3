/- A style that came in, opened to its cells. -/
import Derived.Test.YtkkkdjkjggofkaaWid
import Derived.Test.YtkkkdjkjggofkaaFlat
namespace Go.Proofs.Ytkkkdjkjggofkaa
open Go.ChangeShapes Go.WideShapes Go.ChangeAt Go.RowKit

def okI (k : IntKind) (n : Int) : Prop := (Lit.int k n).wf = true
theorem okI_i64 {n : Int} (h : okI .i64 n) : -9223372036854775808 ≤ n ∧ n ≤ 9223372036854775807 := by simpa [okI, Lit.wf, IntKind.min, IntKind.max, IntKind.signed, IntKind.bits] using h
theorem okI_u8 {n : Int} (h : okI .u8 n) : 0 ≤ n ∧ n ≤ 255 := by simpa [okI, Lit.wf, IntKind.min, IntKind.max, IntKind.signed, IntKind.bits] using h
theorem okI_u16 {n : Int} (h : okI .u16 n) : 0 ≤ n ∧ n ≤ 65535 := by simpa [okI, Lit.wf, IntKind.min, IntKind.max, IntKind.signed, IntKind.bits] using h
theorem okI_u32 {n : Int} (h : okI .u32 n) : 0 ≤ n ∧ n ≤ 4294967295 := by simpa [okI, Lit.wf, IntKind.min, IntKind.max, IntKind.signed, IntKind.bits] using h
theorem okI_i32 {n : Int} (h : okI .i32 n) : -2147483648 ≤ n ∧ n ≤ 2147483647 := by simpa [okI, Lit.wf, IntKind.min, IntKind.max, IntKind.signed, IntKind.bits] using h
structure Ln.Wf (l : Ln) : Prop where
  (k : okI .u8 l.k) (n : okI .i64 l.n)
structure Sty.Wf (s : Sty) : Prop where
  (kind : okI .u8 s.kind)
  (float : okI .u8 s.float)
  (clear : okI .u8 s.clear)
  (w : s.w.Wf)
  (h : s.h.Wf)
  (minw : s.minw.Wf)
  (maxw : s.maxw.Wf)
  (minh : s.minh.Wf)
  (maxh : s.maxh.Wf)
  (m0 : s.m0.Wf)
  (m1 : s.m1.Wf)
  (m2 : s.m2.Wf)
  (m3 : s.m3.Wf)
  (b0 : okI .i64 s.b0)
  (b1 : okI .i64 s.b1)
  (b2 : okI .i64 s.b2)
  (b3 : okI .i64 s.b3)
  (p0 : okI .i64 s.p0)
  (p1 : okI .i64 s.p1)
  (p2 : okI .i64 s.p2)
  (p3 : okI .i64 s.p3)
  (align : okI .u8 s.align)
  (line : okI .i64 s.line)
  (justify : okI .u8 s.justify)
  (items : okI .u8 s.items)
  (order : okI .i64 s.order)
  (grow : okI .i64 s.grow)
  (shrink : okI .i64 s.shrink)
  (basis : s.basis.Wf)

theorem flat_style : flat Try.prog 4 28 = some [.int .u8, .bool, .int .u8, .int .u8, .int .u8, .int .i64, .int .u8, .int .i64, .int .u8, .int .i64, .int .u8, .int .i64, .int .u8, .int .i64, .int .u8, .int .i64, .int .u8, .int .i64, .int .u8, .int .i64, .int .u8, .int .i64, .int .u8, .int .i64, .int .i64, .int .i64, .int .i64, .int .i64, .int .i64, .int .i64, .int .i64, .int .i64, .int .u8, .int .i64, .bool, .int .u8, .int .u8, .int .i64, .int .i64, .int .i64, .int .u8, .int .i64, .slice 52] := by kernel_rfl

section
variable {H : Type} {enc : TypeId × Value → H} {w : World} {base : Nat} {spare : Nat → Bool} {held : Bool}
theorem open_style_cells {fuel : Nat} {cs : List Value} {x : DataW H × List MemPlace} (h : DataW.trod enc Try.prog w base spare held fuel 28 cs = some x) :
    ∃ s : Sty, cs = s.cells.toList ∧ s.Wf ∧ SliceOk enc Try.prog w base spare held 52 s.ua s.ul s.uc := by
  have hl := flat_ok 4 28 _ fuel cs x flat_style h
  obtain ⟨v0, t0, rfl, k0, h0⟩ := hl.cons
  obtain ⟨v1, t1, rfl, k1, h1⟩ := h0.cons
  obtain ⟨v2, t2, rfl, k2, h2⟩ := h1.cons
  obtain ⟨v3, t3, rfl, k3, h3⟩ := h2.cons
  obtain ⟨v4, t4, rfl, k4, h4⟩ := h3.cons
  obtain ⟨v5, t5, rfl, k5, h5⟩ := h4.cons
  obtain ⟨v6, t6, rfl, k6, h6⟩ := h5.cons
  obtain ⟨v7, t7, rfl, k7, h7⟩ := h6.cons
  obtain ⟨v8, t8, rfl, k8, h8⟩ := h7.cons
  obtain ⟨v9, t9, rfl, k9, h9⟩ := h8.cons
  obtain ⟨v10, t10, rfl, k10, h10⟩ := h9.cons
  obtain ⟨v11, t11, rfl, k11, h11⟩ := h10.cons
  obtain ⟨v12, t12, rfl, k12, h12⟩ := h11.cons
  obtain ⟨v13, t13, rfl, k13, h13⟩ := h12.cons
  obtain ⟨v14, t14, rfl, k14, h14⟩ := h13.cons
  obtain ⟨v15, t15, rfl, k15, h15⟩ := h14.cons
  obtain ⟨v16, t16, rfl, k16, h16⟩ := h15.cons
  obtain ⟨v17, t17, rfl, k17, h17⟩ := h16.cons
  obtain ⟨v18, t18, rfl, k18, h18⟩ := h17.cons
  obtain ⟨v19, t19, rfl, k19, h19⟩ := h18.cons
  obtain ⟨v20, t20, rfl, k20, h20⟩ := h19.cons
  obtain ⟨v21, t21, rfl, k21, h21⟩ := h20.cons
  obtain ⟨v22, t22, rfl, k22, h22⟩ := h21.cons
  obtain ⟨v23, t23, rfl, k23, h23⟩ := h22.cons
  obtain ⟨v24, t24, rfl, k24, h24⟩ := h23.cons
  obtain ⟨v25, t25, rfl, k25, h25⟩ := h24.cons
  obtain ⟨v26, t26, rfl, k26, h26⟩ := h25.cons
  obtain ⟨v27, t27, rfl, k27, h27⟩ := h26.cons
  obtain ⟨v28, t28, rfl, k28, h28⟩ := h27.cons
  obtain ⟨v29, t29, rfl, k29, h29⟩ := h28.cons
  obtain ⟨v30, t30, rfl, k30, h30⟩ := h29.cons
  obtain ⟨v31, t31, rfl, k31, h31⟩ := h30.cons
  obtain ⟨v32, t32, rfl, k32, h32⟩ := h31.cons
  obtain ⟨v33, t33, rfl, k33, h33⟩ := h32.cons
  obtain ⟨v34, t34, rfl, k34, h34⟩ := h33.cons
  obtain ⟨v35, t35, rfl, k35, h35⟩ := h34.cons
  obtain ⟨v36, t36, rfl, k36, h36⟩ := h35.cons
  obtain ⟨v37, t37, rfl, k37, h37⟩ := h36.cons
  obtain ⟨v38, t38, rfl, k38, h38⟩ := h37.cons
  obtain ⟨v39, t39, rfl, k39, h39⟩ := h38.cons
  obtain ⟨v40, t40, rfl, k40, h40⟩ := h39.cons
  obtain ⟨v41, t41, rfl, k41, h41⟩ := h40.cons
  obtain ⟨v42, t42, rfl, k42, h42⟩ := h41.cons
  obtain rfl := h42.nil
  obtain ⟨kind, rfl, w0⟩ := k0
  obtain ⟨flow, rfl⟩ := k1
  obtain ⟨float, rfl, w2⟩ := k2
  obtain ⟨clear, rfl, w3⟩ := k3
  obtain ⟨wk, rfl, w4⟩ := k4
  obtain ⟨wn, rfl, w5⟩ := k5
  obtain ⟨hk, rfl, w6⟩ := k6
  obtain ⟨hn, rfl, w7⟩ := k7
  obtain ⟨minwk, rfl, w8⟩ := k8
  obtain ⟨minwn, rfl, w9⟩ := k9
  obtain ⟨maxwk, rfl, w10⟩ := k10
  obtain ⟨maxwn, rfl, w11⟩ := k11
  obtain ⟨minhk, rfl, w12⟩ := k12
  obtain ⟨minhn, rfl, w13⟩ := k13
  obtain ⟨maxhk, rfl, w14⟩ := k14
  obtain ⟨maxhn, rfl, w15⟩ := k15
  obtain ⟨m0k, rfl, w16⟩ := k16
  obtain ⟨m0n, rfl, w17⟩ := k17
  obtain ⟨m1k, rfl, w18⟩ := k18
  obtain ⟨m1n, rfl, w19⟩ := k19
  obtain ⟨m2k, rfl, w20⟩ := k20
  obtain ⟨m2n, rfl, w21⟩ := k21
  obtain ⟨m3k, rfl, w22⟩ := k22
  obtain ⟨m3n, rfl, w23⟩ := k23
  obtain ⟨b0, rfl, w24⟩ := k24
  obtain ⟨b1, rfl, w25⟩ := k25
  obtain ⟨b2, rfl, w26⟩ := k26
  obtain ⟨b3, rfl, w27⟩ := k27
  obtain ⟨p0, rfl, w28⟩ := k28
  obtain ⟨p1, rfl, w29⟩ := k29
  obtain ⟨p2, rfl, w30⟩ := k30
  obtain ⟨p3, rfl, w31⟩ := k31
  obtain ⟨align, rfl, w32⟩ := k32
  obtain ⟨line, rfl, w33⟩ := k33
  obtain ⟨wrap, rfl⟩ := k34
  obtain ⟨justify, rfl, w35⟩ := k35
  obtain ⟨items, rfl, w36⟩ := k36
  obtain ⟨order, rfl, w37⟩ := k37
  obtain ⟨grow, rfl, w38⟩ := k38
  obtain ⟨shrink, rfl, w39⟩ := k39
  obtain ⟨basisk, rfl, w40⟩ := k40
  obtain ⟨basisn, rfl, w41⟩ := k41
  obtain ⟨ua, ul, uc, rfl, hs⟩ := k42
  exact ⟨⟨kind, flow, float, clear, ⟨wk, wn⟩, ⟨hk, hn⟩, ⟨minwk, minwn⟩, ⟨maxwk, maxwn⟩, ⟨minhk, minhn⟩, ⟨maxhk, maxhn⟩, ⟨m0k, m0n⟩, ⟨m1k, m1n⟩, ⟨m2k, m2n⟩, ⟨m3k, m3n⟩, b0, b1, b2, b3, p0, p1, p2, p3, align, line, wrap, justify, items, order, grow, shrink, ⟨basisk, basisn⟩, ua, ul, uc⟩, rfl, ⟨w0, w2, w3, ⟨w4, w5⟩, ⟨w6, w7⟩, ⟨w8, w9⟩, ⟨w10, w11⟩, ⟨w12, w13⟩, ⟨w14, w15⟩, ⟨w16, w17⟩, ⟨w18, w19⟩, ⟨w20, w21⟩, ⟨w22, w23⟩, w24, w25, w26, w27, w28, w29, w30, w31, w32, w33, w35, w36, w37, w38, w39, ⟨w40, w41⟩⟩, hs⟩
set_option maxRecDepth 100000 in
theorem open_style {r : Reach} {b0 : Nat} {v : Value} {d : DataW H} {p : List MemPlace} (hv : Value.okWide Try.prog w r b0 28 v) (h : DataW.Trod enc Try.prog w base spare held 28 v d p) :
    ∃ s : Sty, v = .agg s.cells ∧ s.Wf ∧ SliceOk enc Try.prog w base spare held 52 s.ua s.ul s.uc := by
  obtain ⟨cs, rfl, _⟩ := okWide_struct Try.underlying28 hv
  obtain ⟨fuel, hf⟩ := h
  obtain ⟨s, hs, hw, hu⟩ := open_style_cells hf
  refine ⟨s, ?_, hw, hu⟩
  have : cs = s.cells := Array.toList_inj.1 hs
  rw [this]
end
end Go.Proofs.Ytkkkdjkjggofkaa
