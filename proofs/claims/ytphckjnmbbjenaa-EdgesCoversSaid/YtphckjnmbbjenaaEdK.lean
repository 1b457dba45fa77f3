/- Layer 2: the law on rectangles around others (walk). -/
import Derived.Test.YtphckjnmbbjenaaEdK2
import Derived.Test.YtphckjnmbbjenaaEdZ
namespace Go.Proofs.Ytphckjnmbbjenaa
open Go.RowKit

set_option maxRecDepth 100000 in
set_option maxHeartbeats 8000000 in
theorem law_covers (A : Option Addr) (n c : Nat) (l : List Rc) (w : World) (hr : Rd w 4 A n (rcs l)) (hok : ∀ r ∈ l, r.Ok) :
    Calls Try.prog 5 #[.slice A n c] w fun e w' => e = .returned (.bool true) ∧ Ext w w' := by
  obtain ⟨i0, hi0, hz0, hz1, hz2⟩ := info_parts rect_info
  by_cases hb : 100 < n
  · have hb' : (100 : Int) < (n : Int) := by omega
    clear hi0 hz0 hz1 hz2
    go_enter Try.func5, Try.ntmps5
    go_wp2_with fail
    refine (works_any _).mono ?_
    rintro e w1 ⟨rfl, hx⟩
    go_wp2_with fail
    go_ret
    exact ⟨rfl, hx⟩
  · have hb' : (n : Int) ≤ 100 := by omega
    have HI := hide (And.intro hi0 (And.intro hz0 (And.intro hz1 hz2)))
    have ks := fun A' c' W (h : Rd W 4 A' n (rcs l)) => hide (cover_any A' n c' l W h hok (by omega))
    have kr := fun W (h : Rd W 4 A n (rcs l)) => hide (refCover_any A n c l W h hok (by omega))
    generalize coverR l = s at *
    generalize coverB l = p at *
    obtain ⟨sx, sy, sw, sh⟩ := s
    clear hi0 hz0 hz1 hz2 hb hok
    go_enter Try.func5, Try.ntmps5
    go_wp2_with (first
      | (at_builtin
         refine wpList_append_rd rfl (.tmp 12) (.tmp 13) _ rfl w.heap.size 33 i0 _ 4 32 Try.underlying38 (unhide HI).1 (unhide HI).2.1 (unhide HI).2.2.1 (unhide HI).2.2.2 (by kernel_rfl) (by omega) _ 0 [] rfl (World.ownsRow_made w _ 0 (Nat.le_refl _) (by simp [maxLen]) rfl) A n c (rcs l) rfl (hr.alloc _) (one_rcs l) (by simp only [maxLen]; omega) (by omega) (by simp) ?_
         intro A1 c1 v1 own1 g1 at1
         simp only [Nat.zero_add, List.nil_append] at own1 at1
         have X1 : Ext w v1 := Ext.own ((Ext.refl w).alloc _) (World.ownsRow_made (e := 33) (size := 4) w #[] 0 (Nat.le_refl _) (by simp [maxLen]) rfl) g1))
    have R1 : Rd v1 4 A1 n (rcs l) := Rd.of_own own1
    clear own1 g1 at1
    replace hr := hr.ext X1
    refine (unhide (ks _ _ _ R1)).mono ?_
    rintro e w2 ⟨rfl, hx⟩
    replace hr := hr.ext hx
    have E2 := X1.trans hx
    clear hx X1 R1 ks
    go_upto_region 4 with fail
    have Bs : Blk (w2.alloc (.cells #[.int .i64 sx, .int .i64 sy, .int .i64 sw, .int .i64 sh] 33)) w2.heap.size 33 #[.int .i64 sx, .int .i64 sy, .int .i64 sw, .int .i64 sh] := Blk.new _ _ _
    have hx : Ext w2 (w2.alloc (.cells #[.int .i64 sx, .int .i64 sy, .int .i64 sw, .int .i64 sh] 33)) := (Ext.refl _).alloc _
    generalize hg : w2.heap.size = gs at *
    clear hg
    generalize w2.alloc (.cells #[.int .i64 sx, .int .i64 sy, .int .i64 sw, .int .i64 sh] 33) = w3 at *
    replace hr := hr.ext hx
    have E3 := E2.trans hx
    clear hx E2
    go_wp2_with fail
    refine (unhide (kr _ hr)).mono ?_
    rintro e w4 ⟨rfl, hx⟩
    replace Bs := Bs.ext hx
    have E4 := E3.trans hx
    clear hx E3 kr hr HI
    go_upto_region 5 with fail
    have Bt : Blk (w4.alloc (.cells #[.int .i64 sx, .int .i64 sy, .int .i64 sw, .int .i64 sh] 33)) w4.heap.size 33 #[.int .i64 sx, .int .i64 sy, .int .i64 sw, .int .i64 sh] := Blk.new _ _ _
    have hx : Ext w4 (w4.alloc (.cells #[.int .i64 sx, .int .i64 sy, .int .i64 sw, .int .i64 sh] 33)) := (Ext.refl _).alloc _
    generalize hg : w4.heap.size = gt at *
    clear hg
    generalize w4.alloc (.cells #[.int .i64 sx, .int .i64 sy, .int .i64 sw, .int .i64 sh] 33) = w5 at *
    replace Bs := Bs.ext hx
    have E5 := E4.trans hx
    clear hx E4
    have ds := Bs.cell
    have dt := Bt.cell
    have zs := Bs.lt
    have zt := Bt.lt
    have heq : ∀ W, (Op.equalIn 10000 33 (.agg #[.int .i64 sx, .int .i64 sy, .int .i64 sw, .int .i64 sh]) (.agg #[.int .i64 sx, .int .i64 sy, .int .i64 sw, .int .i64 sh])).run Try.prog W = .ok true W := fun W => by
      rw [eq_rect ⟨sx, sy, sw, sh⟩ ⟨sx, sy, sw, sh⟩]; simp
    have e1 : (p == p) = true := by simp
    go_wp2_with fail
    refine (works_any _).mono ?_
    rintro e w9 ⟨rfl, hx⟩
    go_wp2_with fail
    go_ret
    exact ⟨rfl, E5.trans hx⟩
end Go.Proofs.Ytphckjnmbbjenaa
