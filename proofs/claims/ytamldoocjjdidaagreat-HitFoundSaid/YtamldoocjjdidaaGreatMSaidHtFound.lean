import Derived.Test.YtamldoocjjdidaaGreatMHvS
namespace Go.Proofs.YtamldoocjjdidaaGreat
open Go.ChangeShapes Go.WideShapes Go.ChangeAt Go.RowKit
set_option maxRecDepth 100000
set_option maxHeartbeats 64000000
theorem hitFound_spec {H:Type} (ds:List (DataW H)) (h:ds.length=Tryz.f5.params.toList.length):(Rows.hitFoundSpec.fn H ds).results=[.lit (.bool true)]∧(Rows.hitFoundSpec.fn H ds).args=ds∧(Rows.hitFoundSpec.fn H ds).vars=[]:=by
 match ds,h with
 |[d1,d2],_=>exact⟨rfl,rfl,rfl⟩
theorem hitFound_lifted (os:Os) (started:os.Started) (H:Type) (enc:TypeId×Value→H) :
  ReturnsInHanded {} Tryz.checked os 5 .any (Rows.hitFoundSpec.pre6 enc Tryz.prog Tryz.f5 Rows.hitFoundRow.domain false) (Rows.hitFoundSpec.post enc Tryz.prog Tryz.f5 false true false false):=by
 refine returnsInHanded_of_change (C:=Tryz.checked) own started (by kernel_rfl) Tryz.func5
  (ChangeSpec.witness6 (enc:=enc) (C:=Tryz.checked) false ⟨#[],#[.agg #[.slice none 0 0,.slice none 0 0,.int .i64 0],.slice none 0 0],[]⟩ 8 (by kernel_rfl) (by kernel_rfl) (by kernel_rfl) (by kernel_rfl)) ?_
 intro W base args ds gs before hval0 hW hcnd _;have hval:∀(j:Nat) t v,Tryz.f5.params[j]?=some t→args[j]?=some v→Value.okWide Tryz.prog W .any base t v:=hval0;have hW':=hW;refine law_post (P:=Tryz.prog) (fn:=Tryz.f5) (s:=Rows.hitFoundSpec) (tb:=4) laidOut (by kernel_rfl) rfl Tryz.underlying4 rfl hitFound_spec hW' ?_;obtain⟨p,q,hA0,hV,rfl,hfz,hnd⟩:=hW;have hA:DataW.TrodAll enc Tryz.prog W 0 (fun _=>true) true Tryz.f5.params.toList args.toList ds p:=hA0;rw[Tryz.params5] at hA hval;obtain⟨v0,vs0,d0,ds0,p0,q0,hargs,rfl,rfl,h0,r0⟩:=trodAll_cons hA;obtain⟨v1,vs1,d1,ds1,p1,q1,rfl,rfl,rfl,h1,r1⟩:=trodAll_cons r0;obtain⟨rfl,rfl,rfl⟩:=trodAll_nil r1;obtain rfl:args=#[v0,v1]:=by cases args;simp_all
 clear hW' hA0 hval0 hV hfz hnd hcnd hargs;obtain⟨a0,ns0,av0,un0,rfl,ti0,mn0,ma0,uk0⟩:=open_tree29 (hval 0 25 v0 rfl rfl) h0;obtain⟨A1,n1,c1,ps1,rfl,rd1,pk1,mx1⟩:=open_points (hval 1 31 v1 rfl rfl) h1;clear hval;exact law_hitFound a0 ns0 av0 un0 A1 n1 c1 ps1 W ti0 mn0 ma0 uk0 rd1 pk1 mx1
theorem hitFound_holds:Rows.HitFoundSaid:=
 OpenClaim.holds_of_wide 5 Tryz.f5 rfl rfl rfl rfl rfl rfl rfl ⟨rfl,rfl,rfl,rfl,rfl⟩ rfl rfl rfl rfl rfl (by kernel_rfl) Tryz.func5 (by kernel_rfl)
  (of_decide_eq_true (by kernel_rfl)) (by unfold Func.isWrapper;first|(rw[if_pos (by decide +kernel)];kernel_rfl)|(rw[if_neg (by decide +kernel)];exact⟨rfl,rfl⟩))
  (fun os started H enc _=>hitFound_lifted os started H enc)
end Go.Proofs.YtamldoocjjdidaaGreat
