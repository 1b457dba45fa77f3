import Derived.Test.YtamldoocjjdidaaGreatMWidF
namespace Go.Proofs.YtamldoocjjdidaaGreat
open Go.RowKit
set_option maxRecDepth 100000
set_option maxHeartbeats 64000000
theorem ref_flow (s:Sty) (c:Int) (hs:mayB s=true) (hc:c≤1099511627776) (w:World):Calls Tryz.prog 107 #[.agg s.cells,.int .i64 c] w fun e w'=>e=.returned (.tuple #[usedV (cutV (flowW s (max c 0))) (cutV (flowL s (max c 0))) (cutV (flowR s (max c 0))),.bool (cutB (flowW s (max c 0))||cutB (flowL s (max c 0))||cutB (flowR s (max c 0)))])∧Ext w w':=by
 obtain⟨⟨e0,e1,e2,e3,et⟩,ew,emi,ema⟩:=may_facts hs;obtain⟨C,hC⟩:∃C:Int,(if c<0 then (0:Int) else c)=C:=⟨_,rfl⟩
 have hCm:Hid (max c 0=C):=by unfold Hid;rw[←hC];split<;>omega
 have hC0:0≤C:=by rw[←hC];split<;>omega
 have hC1:C≤1099511627776:=by rw[←hC];split<;>omega
 have q1:=lenMay_part (by decide) e1;have q3:=lenMay_part (by decide) e3;have qw:=lenMay_part (by decide) ew;have qi:=lenMay_part (by decide) emi;have qa:=lenMay_part (by decide) ema;obtain⟨r1,r1'⟩:=res_bd (c:=C) (by decide) (by decide) e1 hC1;obtain⟨r3,r3'⟩:=res_bd (c:=C) (by decide) (by decide) e3 hC1;obtain⟨rw1,rw1'⟩:=res_bd (c:=C) (by decide) (by decide) ew hC1;have ri:=res_bd (c:=C) (by decide) (by decide) emi hC1;have ra:=res_bd (c:=C) (by decide) (by decide) ema hC1;obtain⟨hf1,hf2⟩:0≤s.b3+s.b1+s.p3+s.p1∧s.b3+s.b1+s.p3+s.p1≤4398046511104:=by
  have:=et.b3;have:=et.b1;have:=et.p3;have:=et.p1;omega
 have c3:=fun w=>ref_resolve s.m3 C q3 hC1 w
 have c1:=fun w=>ref_resolve s.m1 C q1 hC1 w
 have cw:=fun w=>ref_resolve s.w C qw hC1 w
 have cf:=fun w=>ref_frame s et w
 have cc:=fun x w=>ref_clamp s C x qa qi hC1 w
 have hcl:=fun x hx=>clamp_bd (s:=s) (c:=C) (x:=x) ra ri hx
 have B00:Blk ((w.alloc (.cells s.cells 65)).alloc (.cells #[.int .i64 0,.int .i64 0,.int .i64 0] 120)) w.heap.size 65 s.cells:=(Blk.new _ _ _).alloc _;rw[hCm.out];rw[flowL_eq];unfold flowR;rw[flowL_eq];have hx0:flow0 s C≤50000000000000:=by unfold flow0;split<;>omega
 obtain⟨k1,k2⟩:=hcl _ hx0;have e0W:flowW s C=clampV s C (flow0 s C):=rfl;have e00:flow0 s C=if resB s.w then resV s.w C else max (C-(s.b3+s.b1+s.p3+s.p1)-resV s.m3 C-resV s.m1 C) 0:=rfl
 have cc:=fun w=>cc (flow0 s C) w
 rw[←e0W] at cc k1 k2;clear e0W hcl ri ra e0 e1 e2 e3 ew emi ema hs q1 q3 qw qi qa;generalize flowW s C=K at *;generalize flow0 s C=X at *;generalize resV s.m3 C=M at *;generalize resV s.m1 C=N at *;generalize resV s.w C=V at *;generalize hF:s.b3+s.b1+s.p3+s.p1=F at *;clear hF hCm;obtain⟨D2,hD2⟩:∃D:Int,(if (C-F-K) / 2<0 then (0:Int) else (C-F-K) / 2)=D:=⟨_,rfl⟩
 obtain⟨D3,hD3⟩:∃D:Int,(if C-F-K-N<0 then (0:Int) else C-F-K-N)=D:=⟨_,rfl⟩
 have h2:0≤D2∧D2≤99999999999999∧Hid (D2=max (C-F-K) 0 / 2):=⟨by rw[←hD2];split<;>omega,by rw[←hD2];split<;>omega,by unfold Hid;rw[←hD2];split<;>omega⟩
 have h3:0≤D3∧D3≤99999999999999∧Hid (D3=max (C-F-K-N) 0):=⟨by rw[←hD3];split<;>omega,by rw[←hD3];split<;>omega,by unfold Hid;rw[←hD3];split<;>omega⟩
 obtain⟨h2a,h2b,h2c⟩:=h2;obtain⟨h3a,h3b,h3c⟩:=h3;cases hbw:resB s.w
 ·rw[hbw] at e00;simp only[Bool.false_eq_true,if_false] at e00;have hX:(if C-F-M-N<0 then (0:Int) else C-F-M-N)=X:=by rw[e00];split<;>omega
  have hX0:0≤X:=by omega
  clear e00;by_cases hk:K=X
  ·subst hk;go_enter Tryz.func107,Tryz.ntmps107;go_wp2_with (first
   |(refine wpList_load_blk rfl 65 _ rfl w.heap.size rfl 65 s.cells _ (by assumption) Tryz.underlying65 rfl (info_style s) ?_)
   |(go_at_call 91;((first|(with_reducible refine (c3 _).mono ?_)|(with_reducible refine (c1 _).mono ?_)|(with_reducible refine (cw _).mono ?_));rintro e w' ⟨rfl,hb⟩;have B0:Blk w' w.heap.size 65 s.cells:=Blk.ext (by first|assumption|exact (Blk.new _ _ _).alloc _|exact Blk.new _ _ _) hb;have C0:=B0.cell;have B1:Blk w' (w.heap.size+1) 120 #[.int .i64 0,.int .i64 0,.int .i64 0]:=Blk.ext (by first|assumption|exact Blk.new1 _ _ _ _) hb;have C1:=B1.cell;have F1:=B1.frozen))
   |(go_at_call 89;((with_reducible refine (cf _).mono ?_);rintro e w' ⟨rfl,hb⟩;have B0:Blk w' w.heap.size 65 s.cells:=Blk.ext (by first|assumption|exact (Blk.new _ _ _).alloc _|exact Blk.new _ _ _) hb;have C0:=B0.cell;have B1:Blk w' (w.heap.size+1) 120 #[.int .i64 0,.int .i64 0,.int .i64 0]:=Blk.ext (by first|assumption|exact Blk.new1 _ _ _ _) hb;have C1:=B1.cell;have F1:=B1.frozen))
   |(go_at_call 145;((with_reducible refine (cc _).mono ?_);rintro e w' ⟨rfl,hb⟩;have B0:Blk w' w.heap.size 65 s.cells:=Blk.ext (by first|assumption|exact (Blk.new _ _ _).alloc _|exact Blk.new _ _ _) hb;have C0:=B0.cell;have B1:Blk w' (w.heap.size+1) 120 #[.int .i64 0,.int .i64 0,.int .i64 0]:=Blk.ext (by first|assumption|exact Blk.new1 _ _ _ _) hb;have C1:=B1.cell;have F1:=B1.frozen))
   |(go_at_call 121;((with_reducible refine (floor_any _ _ (by omega) (by omega) (by omega) (by omega) _).mono ?_);rintro e w' ⟨rfl,rfl⟩))
   |(go_at_call 146;((with_reducible refine (cutAll_any _ _ _ _).mono ?_);rintro e w' ⟨rfl,hb⟩;have B0:Blk w' w.heap.size 65 s.cells:=Blk.ext (by first|assumption|exact (Blk.new _ _ _).alloc _|exact Blk.new _ _ _) hb;have C0:=B0.cell;have B1:Blk w' (w.heap.size+1) 120 #[.int .i64 0,.int .i64 0,.int .i64 0]:=Blk.ext (by first|assumption|exact Blk.new1 _ _ _ _) hb;have C1:=B1.cell;have F1:=B1.frozen)))
   all_goals refine bodyPost_ret (results_cell_tmp rfl _ _ (w.heap.size+1) 120 _ _ rfl (((B1.set_ 0 _).set_ 1 _).set_ 2 _) Tryz.underlying120 rfl (by kernel_rfl)) rfl ⟨?_,?_⟩
   all_goals first
    |((repeat (first|exact Ext.refl _|(with_reducible refine Ext.trans ?_ (by assumption))|(with_reducible refine Ext.alloc ?_ _)|(with_reducible refine Ext.drew ?_)|(with_reducible refine Ext.drewN ?_ _)|(with_reducible refine Ext.set ?_ (by simp) _)));done)
    |(rw[leftN_0 rfl rfl];rfl)
  ·have hk':(K != X)=true:=by simpa using hk
   have hk2:(K==X)=false:=by simpa using hk
   go_enter Tryz.func107,Tryz.ntmps107;go_wp2_with (first
   |(refine wpList_load_blk rfl 65 _ rfl w.heap.size rfl 65 s.cells _ (by assumption) Tryz.underlying65 rfl (info_style s) ?_)
   |(go_at_call 91;((first|(with_reducible refine (c3 _).mono ?_)|(with_reducible refine (c1 _).mono ?_)|(with_reducible refine (cw _).mono ?_));rintro e w' ⟨rfl,hb⟩;have B0:Blk w' w.heap.size 65 s.cells:=Blk.ext (by first|assumption|exact (Blk.new _ _ _).alloc _|exact Blk.new _ _ _) hb;have C0:=B0.cell;have B1:Blk w' (w.heap.size+1) 120 #[.int .i64 0,.int .i64 0,.int .i64 0]:=Blk.ext (by first|assumption|exact Blk.new1 _ _ _ _) hb;have C1:=B1.cell;have F1:=B1.frozen))
   |(go_at_call 89;((with_reducible refine (cf _).mono ?_);rintro e w' ⟨rfl,hb⟩;have B0:Blk w' w.heap.size 65 s.cells:=Blk.ext (by first|assumption|exact (Blk.new _ _ _).alloc _|exact Blk.new _ _ _) hb;have C0:=B0.cell;have B1:Blk w' (w.heap.size+1) 120 #[.int .i64 0,.int .i64 0,.int .i64 0]:=Blk.ext (by first|assumption|exact Blk.new1 _ _ _ _) hb;have C1:=B1.cell;have F1:=B1.frozen))
   |(go_at_call 145;((with_reducible refine (cc _).mono ?_);rintro e w' ⟨rfl,hb⟩;have B0:Blk w' w.heap.size 65 s.cells:=Blk.ext (by first|assumption|exact (Blk.new _ _ _).alloc _|exact Blk.new _ _ _) hb;have C0:=B0.cell;have B1:Blk w' (w.heap.size+1) 120 #[.int .i64 0,.int .i64 0,.int .i64 0]:=Blk.ext (by first|assumption|exact Blk.new1 _ _ _ _) hb;have C1:=B1.cell;have F1:=B1.frozen))
   |(go_at_call 121;((with_reducible refine (floor_any _ _ (by omega) (by omega) (by omega) (by omega) _).mono ?_);rintro e w' ⟨rfl,rfl⟩))
   |(go_at_call 146;((with_reducible refine (cutAll_any _ _ _ _).mono ?_);rintro e w' ⟨rfl,hb⟩;have B0:Blk w' w.heap.size 65 s.cells:=Blk.ext (by first|assumption|exact (Blk.new _ _ _).alloc _|exact Blk.new _ _ _) hb;have C0:=B0.cell;have B1:Blk w' (w.heap.size+1) 120 #[.int .i64 0,.int .i64 0,.int .i64 0]:=Blk.ext (by first|assumption|exact Blk.new1 _ _ _ _) hb;have C1:=B1.cell;have F1:=B1.frozen)))
   all_goals refine bodyPost_ret (results_cell_tmp rfl _ _ (w.heap.size+1) 120 _ _ rfl (((B1.set_ 0 _).set_ 1 _).set_ 2 _) Tryz.underlying120 rfl (by kernel_rfl)) rfl ⟨?_,?_⟩
   all_goals first
   |((repeat (first|exact Ext.refl _|(with_reducible refine Ext.trans ?_ (by assumption))|(with_reducible refine Ext.alloc ?_ _)|(with_reducible refine Ext.drew ?_)|(with_reducible refine Ext.drewN ?_ _)|(with_reducible refine Ext.set ?_ (by simp) _)));done)
   |(rw[leftN_m (by assumption)];rfl)
   |(rw[leftN_2 (.inr hk) (by assumption) (by assumption),←h2c.out];rfl)
   |(rw[leftN_3 (.inr hk) (by assumption) (by assumption),←h3c.out];rfl)
 ·rw[hbw] at e00;simp only[if_true] at e00;subst e00;go_enter Tryz.func107,Tryz.ntmps107;go_wp2_with (first
   |(refine wpList_load_blk rfl 65 _ rfl w.heap.size rfl 65 s.cells _ (by assumption) Tryz.underlying65 rfl (info_style s) ?_)
   |(go_at_call 91;((first|(with_reducible refine (c3 _).mono ?_)|(with_reducible refine (c1 _).mono ?_)|(with_reducible refine (cw _).mono ?_));rintro e w' ⟨rfl,hb⟩;have B0:Blk w' w.heap.size 65 s.cells:=Blk.ext (by first|assumption|exact (Blk.new _ _ _).alloc _|exact Blk.new _ _ _) hb;have C0:=B0.cell;have B1:Blk w' (w.heap.size+1) 120 #[.int .i64 0,.int .i64 0,.int .i64 0]:=Blk.ext (by first|assumption|exact Blk.new1 _ _ _ _) hb;have C1:=B1.cell;have F1:=B1.frozen))
   |(go_at_call 89;((with_reducible refine (cf _).mono ?_);rintro e w' ⟨rfl,hb⟩;have B0:Blk w' w.heap.size 65 s.cells:=Blk.ext (by first|assumption|exact (Blk.new _ _ _).alloc _|exact Blk.new _ _ _) hb;have C0:=B0.cell;have B1:Blk w' (w.heap.size+1) 120 #[.int .i64 0,.int .i64 0,.int .i64 0]:=Blk.ext (by first|assumption|exact Blk.new1 _ _ _ _) hb;have C1:=B1.cell;have F1:=B1.frozen))
   |(go_at_call 145;((with_reducible refine (cc _).mono ?_);rintro e w' ⟨rfl,hb⟩;have B0:Blk w' w.heap.size 65 s.cells:=Blk.ext (by first|assumption|exact (Blk.new _ _ _).alloc _|exact Blk.new _ _ _) hb;have C0:=B0.cell;have B1:Blk w' (w.heap.size+1) 120 #[.int .i64 0,.int .i64 0,.int .i64 0]:=Blk.ext (by first|assumption|exact Blk.new1 _ _ _ _) hb;have C1:=B1.cell;have F1:=B1.frozen))
   |(go_at_call 121;((with_reducible refine (floor_any _ _ (by omega) (by omega) (by omega) (by omega) _).mono ?_);rintro e w' ⟨rfl,rfl⟩))
   |(go_at_call 146;((with_reducible refine (cutAll_any _ _ _ _).mono ?_);rintro e w' ⟨rfl,hb⟩;have B0:Blk w' w.heap.size 65 s.cells:=Blk.ext (by first|assumption|exact (Blk.new _ _ _).alloc _|exact Blk.new _ _ _) hb;have C0:=B0.cell;have B1:Blk w' (w.heap.size+1) 120 #[.int .i64 0,.int .i64 0,.int .i64 0]:=Blk.ext (by first|assumption|exact Blk.new1 _ _ _ _) hb;have C1:=B1.cell;have F1:=B1.frozen)))
  all_goals refine bodyPost_ret (results_cell_tmp rfl _ _ (w.heap.size+1) 120 _ _ rfl (((B1.set_ 0 _).set_ 1 _).set_ 2 _) Tryz.underlying120 rfl (by kernel_rfl)) rfl ⟨?_,?_⟩
  all_goals first
   |((repeat (first|exact Ext.refl _|(with_reducible refine Ext.trans ?_ (by assumption))|(with_reducible refine Ext.alloc ?_ _)|(with_reducible refine Ext.drew ?_)|(with_reducible refine Ext.drewN ?_ _)|(with_reducible refine Ext.set ?_ (by simp) _)));done)
   |(rw[leftN_m (by assumption)];rfl)
   |(rw[leftN_2 (.inl rfl) (by assumption) (by assumption),←h2c.out];rfl)
   |(rw[leftN_3 (.inl rfl) (by assumption) (by assumption),←h3c.out];rfl)
end Go.Proofs.YtamldoocjjdidaaGreat
