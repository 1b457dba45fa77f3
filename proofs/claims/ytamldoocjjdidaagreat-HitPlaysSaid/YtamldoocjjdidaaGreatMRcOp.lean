import Derived.Test.YtamldoocjjdidaaGreatMEdC
import Derived.SizedLaws
namespace Go.Proofs.YtamldoocjjdidaaGreat
open Go.ChangeShapes Go.WideShapes Go.ChangeAt Go.RowKit
set_option maxRecDepth 100000
set_option maxHeartbeats 64000000
theorem flat_rect:flat Tryz.prog 3 33=some [.int .i64,.int .i64,.int .i64,.int .i64]:=by kernel_rfl
section
variable {H:Type} {enc:TypeId×Value→H} {w:World} {base:Nat} {spare:Nat→Bool} {held:Bool}
theorem leaves4 {cs:List Value} (h:LeavesOk enc Tryz.prog w base spare held [.int .i64,.int .i64,.int .i64,.int .i64] cs):∃r:Rc,cs=r.cs.toList∧r.Ok:=by
 obtain⟨v0,t0,rfl,k0,h0⟩:=h.cons;obtain⟨v1,t1,rfl,k1,h1⟩:=h0.cons;obtain⟨v2,t2,rfl,k2,h2⟩:=h1.cons;obtain⟨v3,t3,rfl,k3,h3⟩:=h2.cons;obtain rfl:=h3.nil;obtain⟨x,rfl,w0⟩:=k0;obtain⟨y,rfl,w1⟩:=k1;obtain⟨p,rfl,w2⟩:=k2;obtain⟨q,rfl,w3⟩:=k3;have b0:=bd_i64 w0;have b1:=bd_i64 w1;have b2:=bd_i64 w2;have b3:=bd_i64 w3;exact⟨⟨x,y,p,q⟩,rfl,b0.1,b0.2,b1.1,b1.2,b2.1,b2.2,b3.1,b3.2⟩
theorem open_rect {r:Reach} {b0:Nat} {v:Value} {d:DataW H} {p:List MemPlace} (hv:Value.okWide Tryz.prog w r b0 33 v) (h:DataW.Trod enc Tryz.prog w base spare held 33 v d p) :
  ∃r:Rc,v=.agg r.cs∧r.Ok:=by
 obtain⟨cs,rfl,_⟩:=okWide_struct Tryz.underlying33 hv;obtain⟨fuel,hf⟩:=h;obtain⟨r,hs,hw⟩:=leaves4 (flat_ok 3 33 _ fuel _ _ flat_rect hf);have:cs=r.cs:=Array.toList_inj.1 hs;exact⟨r,by rw[this],hw⟩
end
end Go.Proofs.YtamldoocjjdidaaGreat
