import Derived.Test.YtamldoocjjdidaaGreatMSp2
import Derived.Laws.StructEq
namespace Go.Proofs.YtamldoocjjdidaaGreat
open Go.RowKit
set_option maxRecDepth 100000
set_option maxHeartbeats 64000000
theorem eq_i4 (d:Nat) (x y p q:Int) (w:World):(Op.equalIn (d+2) 62 (.agg #[.int .i64 x,.int .i64 y,.int .i64 p,.int .i64 q]) (.agg #[.int .i64 0,.int .i64 0,.int .i64 0,.int .i64 0])).run Tryz.prog w=.ok (x==0&&y==0&&p==0&&q==0) w:=by
 have hu:=Tryz.underlying2;have ha:=Tryz.underlying62;rw[Op.equalIn];simp only[Sem.run_bind,run_underlying ha,Result.andThen_ok];simp only[Std.Legacy.Range.forIn_eq_forIn_range',Std.Legacy.Range.size,Nat.sub_zero,Nat.add_sub_cancel,Nat.div_one,List.range'_succ,List.range'_zero,List.forIn_cons,List.forIn_nil];go_simp;by_cases h1:x=0<;>by_cases h2:y=0<;>by_cases h3:p=0<;>by_cases h4:q=0<;>simp[h1,h2,h3,h4]
theorem eq_u5 (d:Nat) (x y p q r:Int) (w:World):(Op.equalIn (d+2) 212 (.agg #[.int .u8 x,.int .u8 y,.int .u8 p,.int .u8 q,.int .u8 r]) (.agg #[.int .u8 0,.int .u8 0,.int .u8 0,.int .u8 0,.int .u8 0])).run Tryz.prog w=.ok (x==0&&y==0&&p==0&&q==0&&r==0) w:=by
 have hu:=Tryz.underlying5;have ha:=Tryz.underlying212;rw[Op.equalIn];simp only[Sem.run_bind,run_underlying ha,Result.andThen_ok];simp only[Std.Legacy.Range.forIn_eq_forIn_range',Std.Legacy.Range.size,Nat.sub_zero,Nat.add_sub_cancel,Nat.div_one,List.range'_succ,List.range'_zero,List.forIn_cons,List.forIn_nil];go_simp;by_cases h1:x=0<;>by_cases h2:y=0<;>by_cases h3:p=0<;>by_cases h4:q=0<;>by_cases h5:r=0<;>simp[h1,h2,h3,h4,h5]
def zlnB (l:Ln):Bool:=l.k==0&&l.n==0
theorem eq_l4 (d:Nat) (l0 l1 l2 l3:Ln) (w:World):(Op.equalIn (d+3) 61 (.agg #[.int .u8 l0.k,.int .i64 l0.n,.int .u8 l1.k,.int .i64 l1.n,.int .u8 l2.k,.int .i64 l2.n,.int .u8 l3.k,.int .i64 l3.n]) (.agg #[.int .u8 0,.int .i64 0,.int .u8 0,.int .i64 0,.int .u8 0,.int .i64 0,.int .u8 0,.int .i64 0])).run Tryz.prog w=.ok (zlnB l0&&zlnB l1&&zlnB l2&&zlnB l3) w:=by
 have ha:=Tryz.underlying61;have hu:=Tryz.underlying2;have hu8:=Tryz.underlying5;have hS:Tryz.prog.underlying 60=some (.struct (Tryz.prog.fieldsOf 60)):=by kernel_rfl
 have hp:Tryz.prog.stoodInHeld 60=false:=by kernel_rfl
 have hE:∀(a b:Array Value) (w:World),(Op.equalIn (d+2) 60 (.agg a) (.agg b)).run Tryz.prog w=(Op.eqFields (d+1) a b (Tryz.prog.fieldsOf 60).toList).run Tryz.prog w:=fun a b w=>run_equalIn_agg w (d+1) _ a b hS hp
 have hF:=Tryz.underlying60;rw[Op.equalIn];simp only[Sem.run_bind,run_underlying ha,Result.andThen_ok];simp only[Std.Legacy.Range.forIn_eq_forIn_range',Std.Legacy.Range.size,Nat.sub_zero,Nat.add_sub_cancel,Nat.div_one,List.range'_succ,List.range'_zero,List.forIn_cons,List.forIn_nil];simp only[Program.fieldsOf,hF] at hE;go_simp;by_cases hl0k:l0.k=0
 rotate_left
 ·simp[zlnB,hl0k]
 by_cases hl0n:l0.n=0
 rotate_left
 ·simp[zlnB,hl0k,hl0n]
 by_cases hl1k:l1.k=0
 rotate_left
 ·simp[zlnB,hl0k,hl0n,hl1k]
 by_cases hl1n:l1.n=0
 rotate_left
 ·simp[zlnB,hl0k,hl0n,hl1k,hl1n]
 by_cases hl2k:l2.k=0
 rotate_left
 ·simp[zlnB,hl0k,hl0n,hl1k,hl1n,hl2k]
 by_cases hl2n:l2.n=0
 rotate_left
 ·simp[zlnB,hl0k,hl0n,hl1k,hl1n,hl2k,hl2n]
 by_cases hl3k:l3.k=0
 rotate_left
 ·simp[zlnB,hl0k,hl0n,hl1k,hl1n,hl2k,hl2n,hl3k]
 by_cases hl3n:l3.n=0
 rotate_left
 ·simp[zlnB,hl0k,hl0n,hl1k,hl1n,hl2k,hl2n,hl3k,hl3n]
 simp[zlnB,hl0k,hl0n,hl1k,hl1n,hl2k,hl2n,hl3k,hl3n]
theorem eq_l7 (d:Nat) (l0 l1 l2 l3 l4 l5 l6:Ln) (w:World):(Op.equalIn (d+3) 213 (.agg #[.int .u8 l0.k,.int .i64 l0.n,.int .u8 l1.k,.int .i64 l1.n,.int .u8 l2.k,.int .i64 l2.n,.int .u8 l3.k,.int .i64 l3.n,.int .u8 l4.k,.int .i64 l4.n,.int .u8 l5.k,.int .i64 l5.n,.int .u8 l6.k,.int .i64 l6.n]) (.agg #[.int .u8 0,.int .i64 0,.int .u8 0,.int .i64 0,.int .u8 0,.int .i64 0,.int .u8 0,.int .i64 0,.int .u8 0,.int .i64 0,.int .u8 0,.int .i64 0,.int .u8 0,.int .i64 0])).run Tryz.prog w=.ok (zlnB l0&&zlnB l1&&zlnB l2&&zlnB l3&&zlnB l4&&zlnB l5&&zlnB l6) w:=by
 have ha:=Tryz.underlying213;have hu:=Tryz.underlying2;have hu8:=Tryz.underlying5;have hS:Tryz.prog.underlying 60=some (.struct (Tryz.prog.fieldsOf 60)):=by kernel_rfl
 have hp:Tryz.prog.stoodInHeld 60=false:=by kernel_rfl
 have hE:∀(a b:Array Value) (w:World),(Op.equalIn (d+2) 60 (.agg a) (.agg b)).run Tryz.prog w=(Op.eqFields (d+1) a b (Tryz.prog.fieldsOf 60).toList).run Tryz.prog w:=fun a b w=>run_equalIn_agg w (d+1) _ a b hS hp
 have hF:=Tryz.underlying60;rw[Op.equalIn];simp only[Sem.run_bind,run_underlying ha,Result.andThen_ok];simp only[Std.Legacy.Range.forIn_eq_forIn_range',Std.Legacy.Range.size,Nat.sub_zero,Nat.add_sub_cancel,Nat.div_one,List.range'_succ,List.range'_zero,List.forIn_cons,List.forIn_nil];simp only[Program.fieldsOf,hF] at hE;go_simp;by_cases hl0k:l0.k=0
 rotate_left
 ·simp[zlnB,hl0k]
 by_cases hl0n:l0.n=0
 rotate_left
 ·simp[zlnB,hl0k,hl0n]
 by_cases hl1k:l1.k=0
 rotate_left
 ·simp[zlnB,hl0k,hl0n,hl1k]
 by_cases hl1n:l1.n=0
 rotate_left
 ·simp[zlnB,hl0k,hl0n,hl1k,hl1n]
 by_cases hl2k:l2.k=0
 rotate_left
 ·simp[zlnB,hl0k,hl0n,hl1k,hl1n,hl2k]
 by_cases hl2n:l2.n=0
 rotate_left
 ·simp[zlnB,hl0k,hl0n,hl1k,hl1n,hl2k,hl2n]
 by_cases hl3k:l3.k=0
 rotate_left
 ·simp[zlnB,hl0k,hl0n,hl1k,hl1n,hl2k,hl2n,hl3k]
 by_cases hl3n:l3.n=0
 rotate_left
 ·simp[zlnB,hl0k,hl0n,hl1k,hl1n,hl2k,hl2n,hl3k,hl3n]
 by_cases hl4k:l4.k=0
 rotate_left
 ·simp[zlnB,hl0k,hl0n,hl1k,hl1n,hl2k,hl2n,hl3k,hl3n,hl4k]
 by_cases hl4n:l4.n=0
 rotate_left
 ·simp[zlnB,hl0k,hl0n,hl1k,hl1n,hl2k,hl2n,hl3k,hl3n,hl4k,hl4n]
 by_cases hl5k:l5.k=0
 rotate_left
 ·simp[zlnB,hl0k,hl0n,hl1k,hl1n,hl2k,hl2n,hl3k,hl3n,hl4k,hl4n,hl5k]
 by_cases hl5n:l5.n=0
 rotate_left
 ·simp[zlnB,hl0k,hl0n,hl1k,hl1n,hl2k,hl2n,hl3k,hl3n,hl4k,hl4n,hl5k,hl5n]
 by_cases hl6k:l6.k=0
 rotate_left
 ·simp[zlnB,hl0k,hl0n,hl1k,hl1n,hl2k,hl2n,hl3k,hl3n,hl4k,hl4n,hl5k,hl5n,hl6k]
 by_cases hl6n:l6.n=0
 rotate_left
 ·simp[zlnB,hl0k,hl0n,hl1k,hl1n,hl2k,hl2n,hl3k,hl3n,hl4k,hl4n,hl5k,hl5n,hl6k,hl6n]
 simp[zlnB,hl0k,hl0n,hl1k,hl1n,hl2k,hl2n,hl3k,hl3n,hl4k,hl4n,hl5k,hl5n,hl6k,hl6n]
@[reducible] def plainC (s:Sty):Array Value:=#[.bool s.flow,.bool s.wrap,.int .u8 s.float,.int .u8 s.clear,.int .u8 s.align,.int .u8 s.justify,.int .u8 s.items,.int .i64 s.line,.int .i64 s.order,.int .i64 s.grow,.int .i64 s.shrink,.int .u8 s.w.k,.int .i64 s.w.n,.int .u8 s.h.k,.int .i64 s.h.n,.int .u8 s.minw.k,.int .i64 s.minw.n,.int .u8 s.maxw.k,.int .i64 s.maxw.n,.int .u8 s.minh.k,.int .i64 s.minh.n,.int .u8 s.maxh.k,.int .i64 s.maxh.n,.int .u8 s.basis.k,.int .i64 s.basis.n,.int .u8 s.m0.k,.int .i64 s.m0.n,.int .u8 s.m1.k,.int .i64 s.m1.n,.int .u8 s.m2.k,.int .i64 s.m2.n,.int .u8 s.m3.k,.int .i64 s.m3.n,.int .i64 s.b0,.int .i64 s.b1,.int .i64 s.b2,.int .i64 s.b3,.int .i64 s.p0,.int .i64 s.p1,.int .i64 s.p2,.int .i64 s.p3]
@[reducible] def plain0:Array Value:=#[.bool false,.bool false,.int .u8 0,.int .u8 0,.int .u8 0,.int .u8 0,.int .u8 0,.int .i64 0,.int .i64 0,.int .i64 0,.int .i64 0,.int .u8 0,.int .i64 0,.int .u8 0,.int .i64 0,.int .u8 0,.int .i64 0,.int .u8 0,.int .i64 0,.int .u8 0,.int .i64 0,.int .u8 0,.int .i64 0,.int .u8 0,.int .i64 0,.int .u8 0,.int .i64 0,.int .u8 0,.int .i64 0,.int .u8 0,.int .i64 0,.int .u8 0,.int .i64 0,.int .i64 0,.int .i64 0,.int .i64 0,.int .i64 0,.int .i64 0,.int .i64 0,.int .i64 0,.int .i64 0]
def bareV (s:Sty):Bool:=!s.flow&&(!s.wrap&&((s.float==0&&s.clear==0&&s.align==0&&s.justify==0&&s.items==0)&&((s.line==0&&s.order==0&&s.grow==0&&s.shrink==0)&&((zlnB s.w&&zlnB s.h&&zlnB s.minw&&zlnB s.maxw&&zlnB s.minh&&zlnB s.maxh&&zlnB s.basis)&&((zlnB s.m0&&zlnB s.m1&&zlnB s.m2&&zlnB s.m3)&&((s.b0==0&&s.b1==0&&s.b2==0&&s.b3==0)&&(s.p0==0&&s.p1==0&&s.p2==0&&s.p3==0)))))))
theorem info_plain (s:Sty):(Tryz.prog.info? 215).map (·.size)=some (plainC s).size:=by kernel_rfl
theorem zero_plain:(Tryz.prog.info? 215).bind (·.zero)=some (.agg plain0):=by kernel_rfl
theorem eq_plain (s:Sty) (w:World):(Op.equalIn 10000 215 (.agg (plainC s)) (.agg plain0)).run Tryz.prog w=.ok (bareV s) w:=by
 have hb:=Tryz.underlying4;have hS:Tryz.prog.underlying 215=some (.struct (Tryz.prog.fieldsOf 215)):=by kernel_rfl
 have hp:Tryz.prog.stoodInHeld 215=false:=by kernel_rfl
 unfold bareV;have hr1:=fun w=>eq_u5 9997 s.float s.clear s.align s.justify s.items w
 have hr2:=fun w=>eq_i4 9997 s.line s.order s.grow s.shrink w
 have hr3:=fun w=>eq_l7 9996 s.w s.h s.minw s.maxw s.minh s.maxh s.basis w
 have hr4:=fun w=>eq_l4 9996 s.m0 s.m1 s.m2 s.m3 w
 have hr5:=fun w=>eq_i4 9997 s.b0 s.b1 s.b2 s.b3 w
 have hr6:=fun w=>eq_i4 9997 s.p0 s.p1 s.p2 s.p3 w
 generalize (s.float==0&&s.clear==0&&s.align==0&&s.justify==0&&s.items==0)=r1 at *;generalize (s.line==0&&s.order==0&&s.grow==0&&s.shrink==0)=r2 at *;generalize (zlnB s.w&&zlnB s.h&&zlnB s.minw&&zlnB s.maxw&&zlnB s.minh&&zlnB s.maxh&&zlnB s.basis)=r3 at *;generalize (zlnB s.m0&&zlnB s.m1&&zlnB s.m2&&zlnB s.m3)=r4 at *;generalize (s.b0==0&&s.b1==0&&s.b2==0&&s.b3==0)=r5 at *;generalize (s.p0==0&&s.p1==0&&s.p2==0&&s.p3==0)=r6 at *;rw[show (10000:Nat)=9999+1 from rfl,run_equalIn_agg w 9999 215 _ _ hS hp];simp only[Program.fieldsOf,Tryz.underlying215];go_simp;cases hf:s.flow<;>cases hw:s.wrap<;>cases r1<;>cases r2<;>cases r3<;>cases r4<;>cases r5<;>cases r6<;>first|simp|simp[hf,hw]
theorem bare_any (s:Sty) (g:Nat) (w:World) (B:Blk w g 65 s.cells):Calls Tryz.prog 93 #[.pointer (some ⟨g,0,none⟩)] w fun e w'=>e=.returned (.bool (bareV s))∧Ext w w':=by
 have c0:=B.cell;have l0:=B.lt;have he:=fun w=>eq_plain s w
 generalize bareV s=R at *;go_enter Tryz.func93,Tryz.ntmps93;go_upto_region 1 with fail;refine wp_region_ord [(1,0),(1,1),(1,2),(0,3),(1,4),(1,5),(1,6),(0,7),(1,8),(1,9),(1,10),(0,11),(1,12),(1,13),(1,14),(0,15),(1,16),(1,17),(1,18),(0,19),(1,20),(1,21),(1,22),(0,23),(1,24),(1,25),(1,26),(0,27),(1,28),(1,29),(1,30),(1,31),(0,32),(1,33),(1,34),(1,35),(0,36),(1,37),(1,38),(1,39),(0,40),(1,41),(1,42),(1,43),(0,44),(1,45),(1,46),(1,47),(1,48),(0,49),(1,50),(1,51),(1,52),(0,53),(1,54),(1,55),(1,56),(0,57),(1,58),(1,59),(1,60),(0,61),(1,62),(1,63),(1,64),(0,65),(1,66),(1,67),(1,68),(0,69),(1,70),(1,71),(1,72),(0,73),(1,74),(1,75),(1,76),(1,77),(0,78),(1,79),(1,80),(1,81),(0,82),(1,83),(1,84),(1,85),(0,86),(1,87),(2,88),(3,89)] 89 (fun w'=>Ext w w') (by kernel_rfl) (by kernel_rfl) rfl (by kernel_rfl) ((Ext.refl _).drew) ?_;simp only[AD]
 iterate 88 ((first|refine ordQA ?_|refine ordQB ?_);simp only[AC])
 have HX:=AB (Ext.refl w).drew;generalize w.drew=w0 at *;refine ord_keep ?_;refine wpList_alloc_var rfl 215 rfl plain0 zero_plain ?_;intro w1 B1 E1 z1;simp only[AC];refine⟨rfl,(AA HX).trans E1,?_⟩;refine ord_last ?_;refine wpList_store_blk rfl 215 _ _ rfl w0.heap.size rfl (plainC s) rfl 215 plain0 B1 (info_plain s) rfl (by kernel_rfl) ?_;intro w2 BP hg z2;simp only[AC];replace HX:=AB (Ext.grown ((AA HX).trans E1) hg (fun g e=>by injection e with e;have:=(AA HX).size;omega));refine⟨rfl,ord_nil ?_⟩;generalize w0.heap.size=gq at *;clear hg z2 z1 B1 E1 c0 l0;go_upto_region 2 with fail;go_step;refine wpList_load_blk rfl 215 _ rfl gq rfl 215 (plainC s) _ BP Tryz.underlying215 rfl (info_plain s) ?_;simp only[AC];go_wp2_with fail;go_ret;exact⟨rfl,AA HX⟩
end Go.Proofs.YtamldoocjjdidaaGreat
