import Derived.Test.YtamldoocjjdidaaGreatMLinG
import Derived.Test.YtamldoocjjdidaaGreatMBigPp
namespace Go.Proofs.YtamldoocjjdidaaGreat
set_option maxRecDepth 100000
set_option maxHeartbeats 64000000
section
variable {P:Program}
theorem stepI_plain {ops:Array Oper} {J:World→Prop} {S:Nat→Value→World→Prop} {dep:Nat→List (Nat×Nat)} {olds surv:Nat→List Nat} {a0:Act} {I0:World→Prop} {ends:List Nat} {i:Nat} {o:Oper} (hg:o.guard=none)
  (h:∀(F:Nat→Value) (a:Act) (w:World),J w→SatD S F a w (dep i)→OldD a0 a (olds i)→I0 w →
   ∀K:Act→World→Prop,(∀v w',J w'→S i v w'→(∀j∈surv i,∀u,S j u w→S j u w')→(i∉ends→I0 w')→K (a.put o.dst v) w')→o.wp P a w K noQ):StepI P ops J S dep olds surv a0 I0 ends i o:=
 fun F a w hJ hS hO hI K hK=>⟨fun _=>h F a w hJ hS hO hI K hK,fun hw=>by simp[Region.wanted,hg] at hw⟩
theorem stepT_plain {ops:Array Oper} {J:World→Prop} {S:Nat→Value→World→Prop} {dep:Nat→List (Nat×Nat)} {olds surv:Nat→List Nat} {a0:Act} {I0:World→Prop} {ends:List Nat} {T:(Nat→Value)→World→Prop} {e:Nat} {i:Nat} {o:Oper} (hg:o.guard=none)
  (h:∀(F:Nat→Value) (a:Act) (w:World),J w→SatD S F a w (dep i)→OldD a0 a (olds i)→I0 w →
   ∀K:Act→World→Prop,(∀v w',J w'→S i v w'→(∀j∈surv i,∀u,S j u w→S j u w')→(i∉ends→I0 w')→(i=e→T (fun k=>if k=i then v else F k) w')→K (a.put o.dst v) w')→o.wp P a w K noQ):StepT P ops J S dep olds surv a0 I0 ends T e i o:=
 fun F a w hJ hS hO hI K hK=>⟨fun _=>h F a w hJ hS hO hI K hK,fun hw=>by simp[Region.wanted,hg] at hw⟩
end
end Go.Proofs.YtamldoocjjdidaaGreat
namespace Go.Proofs.YtamldoocjjdidaaGreat
open Go.RowKit
set_option maxRecDepth 100000
set_option maxHeartbeats 64000000
theorem one_bools (l:List Bool):∀u∈bools l,u.oneCell'=true:=by
 intro u hu;obtain⟨z,_,rfl⟩:=List.mem_map.1 hu;rfl
end Go.Proofs.YtamldoocjjdidaaGreat
