import Derived.Test.YtamldoocjjdidaaGreatMBigC
namespace Go.Proofs.YtamldoocjjdidaaGreat
set_option maxRecDepth 100000
set_option maxHeartbeats 64000000
section
variable {P:Program}
theorem wanted_undef {ops:Array Oper} {o:Oper} {a:Act} (g:Nat) (want:Bool) (d:Nat) (hg:o.guard=some (g,want)) (hd:(ops[g]?).bind (·.dst)=some d) (ht:a.tmps[d]?=some undef):Region.wanted o (yielded ops a.tmps)=false:=by
 unfold Region.wanted yielded;rw[hg];simp only[hd,Option.bind_some,ht];cases want<;>rfl
end
end Go.Proofs.YtamldoocjjdidaaGreat
