import Derived.Test.YtamldoocjjdidaaGreatMWidN
namespace Go.Proofs.YtamldoocjjdidaaGreat
set_option maxRecDepth 100000
set_option maxHeartbeats 64000000
theorem val_replicate (i:Nat):val (List.replicate i false)=0:=by
 induction i with
 |zero=>rfl
 |succ n ih=>rw[List.replicate_succ,val,ih];rfl
theorem mul_step1 {a b o o':List Bool} {i:Nat} (h:val o=val (a.take i)*val b) (hi:a.getD i false=true) (ho:val o'=val o+val (List.replicate i false++b)):val o'=val (a.take (i+1))*val b:=by
 rw[ho,h,val_take_succ,val_append,val_replicate,List.length_replicate,atN,hi,Nat.add_mul];simp
theorem mul_step0 {a b o:List Bool} {i:Nat} (h:val o=val (a.take i)*val b) (hi:a.getD i false=false):val o=val (a.take (i+1))*val b:=by
 rw[h,val_take_succ,atN,hi];simp
end Go.Proofs.YtamldoocjjdidaaGreat
