import Derived.Test.YtamldoocjjdidaaGreatMWidN
namespace Go.Proofs.YtamldoocjjdidaaGreat
open Go.RowKit
set_option maxRecDepth 100000
set_option maxHeartbeats 64000000
theorem lenMay_part {l:Ln} {lo lop:Int} (hl:-100000≤lop) (h:lenMayB l lo lop=true):partOk l:=by
 intro hk;simp only[lenMayB,hk] at h;simp at h;omega
theorem res_bd {l:Ln} {lo lop c:Int} (hlo:-1099511627776≤lo) (hl:-100000≤lop) (h:lenMayB l lo lop=true) (hc:c≤1099511627776):-20000000000000≤resV l c∧resV l c≤20000000000000:=by
 have hp:=lenMay_part hl h;unfold resV
 split
 ·rename_i k1
  simp only[lenMayB,k1] at h;simp at h;omega
 ·split
  ·rename_i k2
   obtain⟨n1,n2⟩:=hp k2;obtain⟨m1,m2⟩:=mul_bound (max c 0) l.n (by omega) (by omega) n1 n2;omega
  ·omega
theorem clamp_bd {s:Sty} {c x:Int} (h1:-20000000000000≤resV s.maxw c∧resV s.maxw c≤20000000000000) (h2:-20000000000000≤resV s.minw c∧resV s.minw c≤20000000000000) (hx:x≤50000000000000):0≤clampV s c x∧clampV s c x≤50000000000000:=by
 simp only[clampV]
 split<;>split<;>omega
def flow0 (s:Sty) (c:Int):Int:=if resB s.w then resV s.w c else max (c-(s.b3+s.b1+s.p3+s.p1)-resV s.m3 c-resV s.m1 c) 0
def flowW (s:Sty) (c:Int):Int:=clampV s c (flow0 s c)
def flowL (s:Sty) (c:Int):Int:=
 if resB s.w=true∨flowW s c≠flow0 s c then
  (if resB s.m3=false∧resB s.m1=false then max (c-(s.b3+s.b1+s.p3+s.p1)-flowW s c) 0 / 2
   else if resB s.m3=false then max (c-(s.b3+s.b1+s.p3+s.p1)-flowW s c-resV s.m1 c) 0 else resV s.m3 c)
 else resV s.m3 c
def flowR (s:Sty) (c:Int):Int:=c-(s.b3+s.b1+s.p3+s.p1)-flowW s c-flowL s c
def leftN (bw bm bn:Bool) (c f m n x0 k:Int):Int:=
 if bw=true∨k≠x0 then (if bm=false∧bn=false then max (c-f-k) 0 / 2 else if bm=false then max (c-f-k-n) 0 else m) else m
section
variable {bw bm bn:Bool} {c f m n x0 k:Int}
theorem leftN_m (h:bm=true):leftN bw bm bn c f m n x0 k=m:=by simp[leftN,h]
theorem leftN_0 (h:bw=false) (h':k=x0):leftN bw bm bn c f m n x0 k=m:=by simp[leftN,h,h']
theorem leftN_2 (h0:bw=true∨k≠x0) (h:¬bm=true) (h':(!bn)=true):leftN bw bm bn c f m n x0 k=max (c-f-k) 0 / 2:=by simp at h h';simp[leftN,h0,h,h']
theorem leftN_3 (h0:bw=true∨k≠x0) (h:¬bm=true) (h':(!bn)=false):leftN bw bm bn c f m n x0 k=max (c-f-k-n) 0:=by simp at h h';simp[leftN,h0,h,h']
end
theorem flowL_eq (s:Sty) (c:Int):flowL s c=leftN (resB s.w) (resB s.m3) (resB s.m1) c (s.b3+s.b1+s.p3+s.p1) (resV s.m3 c) (resV s.m1 c) (flow0 s c) (flowW s c):=rfl
end Go.Proofs.YtamldoocjjdidaaGreat
