import Derived.Test.YtamldoocjjdidaaGreatMWidN
import Derived.Shelf.Bits.Mul64
namespace Go.Proofs.YtamldoocjjdidaaGreat
open Go.Shelf Go.RowKit Go.Lib
set_option maxRecDepth 100000
set_option maxHeartbeats 64000000
def highV (s:Sty) (a:Int):Int:=
 let h0:=if s.h.k=1 then s.h.n else a
 let h1:=if s.maxh.k=1 then min h0 s.maxh.n else h0
 let h2:=if s.minh.k=1 then max h1 s.minh.n else h1
 max h2 0
section
variable {s:Sty} {a:Int}
theorem high_1 (h1:s.h.k=1) (h2:s.maxh.k=1) (h3:s.minh.k=1):highV s a=max (max (min s.h.n s.maxh.n) s.minh.n) 0:=by simp[highV,h1,h2,h3]
theorem high_2 (h1:s.h.k=1) (h2:s.maxh.k=1) (h3:¬s.minh.k=1):highV s a=max (min s.h.n s.maxh.n) 0:=by simp[highV,h1,h2,h3]
theorem high_3 (h1:s.h.k=1) (h2:¬s.maxh.k=1) (h3:s.minh.k=1):highV s a=max (max s.h.n s.minh.n) 0:=by simp[highV,h1,h2,h3]
theorem high_4 (h1:s.h.k=1) (h2:¬s.maxh.k=1) (h3:¬s.minh.k=1):highV s a=max s.h.n 0:=by simp[highV,h1,h2,h3]
theorem high_5 (h1:¬s.h.k=1) (h2:s.maxh.k=1) (h3:s.minh.k=1):highV s a=max (max (min a s.maxh.n) s.minh.n) 0:=by simp[highV,h1,h2,h3]
theorem high_6 (h1:¬s.h.k=1) (h2:s.maxh.k=1) (h3:¬s.minh.k=1):highV s a=max (min a s.maxh.n) 0:=by simp[highV,h1,h2,h3]
theorem high_7 (h1:¬s.h.k=1) (h2:¬s.maxh.k=1) (h3:s.minh.k=1):highV s a=max (max a s.minh.n) 0:=by simp[highV,h1,h2,h3]
theorem high_8 (h1:¬s.h.k=1) (h2:¬s.maxh.k=1) (h3:¬s.minh.k=1):highV s a=max a 0:=by simp[highV,h1,h2,h3]
end
theorem ref_high (s:Sty) (a:Int) (w:World):Calls Tryz.prog 90 #[.agg s.cells,.int .i64 a] w fun e w'=>e=.returned (.int .i64 (highV s a))∧Ext w w':=by
 by_cases h1:s.h.k=1<;>by_cases h2:s.maxh.k=1<;>by_cases h3:s.minh.k=1
 all_goals
  go_enter Tryz.func90,Tryz.ntmps90
  go_wp2
 all_goals go_ret
 all_goals refine⟨ret1 ?_,(Ext.refl _).alloc _⟩
 all_goals first
  |(rw[high_1 h1 h2 h3];omega)
  |(rw[high_2 h1 h2 h3];omega)
  |(rw[high_3 h1 h2 h3];omega)
  |(rw[high_4 h1 h2 h3];omega)
  |(rw[high_5 h1 h2 h3];omega)
  |(rw[high_6 h1 h2 h3];omega)
  |(rw[high_7 h1 h2 h3];omega)
  |(rw[high_8 h1 h2 h3];omega)
end Go.Proofs.YtamldoocjjdidaaGreat
