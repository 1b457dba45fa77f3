import Derived.Test.YtamldoocjjdidaaGreatMEdK1
import Derived.Test.YtamldoocjjdidaaGreatMEdC
namespace Go.Proofs.YtamldoocjjdidaaGreat
set_option maxRecDepth 100000
set_option maxHeartbeats 64000000
def someL (l:List Rc):List Rc:=l.filter Rc.some
def refCovR (l:List Rc):Rc:=match someL l with
 |[]=>⟨0,0,0,0⟩
 |r :: t=>⟨cutV (minL r.x ((r :: t).map (·.x))),cutV (minL r.y ((r :: t).map (·.y))),cutV (covM (minL r.x ((r :: t).map (·.x))) (((r :: t).map (·.x)).zip ((r :: t).map (·.w)))),cutV (covM (minL r.y ((r :: t).map (·.y))) (((r :: t).map (·.y)).zip ((r :: t).map (·.h))))⟩
def refCovB (l:List Rc):Bool:=match someL l with
 |[]=>false
 | r :: t=>(cutB (minL r.x ((r :: t).map (·.x)))||cutB (covM (minL r.x ((r :: t).map (·.x))) (((r :: t).map (·.x)).zip ((r :: t).map (·.w)))))||(cutB (minL r.y ((r :: t).map (·.y)))||cutB (covM (minL r.y ((r :: t).map (·.y))) (((r :: t).map (·.y)).zip ((r :: t).map (·.h)))))
def stepA' (s:Bool×Int×Int) (r:Rc):Bool×Int×Int:=(true,if s.1 then min s.2.1 r.x else r.x,if s.1 then min s.2.2 r.y else r.y)
def stepB' (x y:Int) (s:Int×Int×Bool×Bool) (r:Rc):Int×Int×Bool×Bool:=(max s.1 (cutV (r.x+r.w-x)),max s.2.1 (cutV (r.y+r.h-y)),s.2.2.1||cutB (r.x+r.w-x),s.2.2.2||cutB (r.y+r.h-y))
theorem covA_some (l:List Rc):covA l=(someL l).foldl stepA' (false,0,0):=by
 unfold covA someL;rw[List.foldl_filter];rfl
theorem covB_some (x y:Int) (l:List Rc):covB x y l=(someL l).foldl (stepB' x y) (0,0,false,false):=by
 unfold covB someL;rw[List.foldl_filter];rfl
theorem min_if (a b:Int):(if b<a then b else a)=min a b:=by split<;>omega
theorem covA_min (t:List Rc):∀x y:Int,t.foldl stepA' (true,x,y)=(true,minL x (t.map (·.x)),minL y (t.map (·.y))):=by
 induction t with
 |nil=>intro x y;rfl
 |cons r t ih=>
  intro x y;rw[List.foldl_cons];have e:stepA' (true,x,y) r=(true,min x r.x,min y r.y):=rfl;rw[e,ih];simp only[minL,List.map_cons,List.foldl_cons,min_if]
theorem minL_self (x:Int) (l:List Int):minL x (x :: l)=minL x l:=by simp[minL]
theorem minL_le (l:List Int):∀x:Int,minL x l≤x∧∀z∈l,minL x l≤z:=by
 induction l with
 |nil=>intro x;simp[minL]
 |cons a t ih=>
  intro x;have e:minL x (a :: t)=minL (if a<x then a else x) t:=rfl;rw[e];obtain⟨h1,h2⟩:=ih (if a<x then a else x);have h3:(if a<x then a else x)≤x∧(if a<x then a else x)≤a:=by split<;>omega
  refine⟨by omega,fun z hz=>?_⟩
  rcases List.mem_cons.1 hz with rfl|hz
  ·omega
  ·exact h2 z hz
theorem cut_max {s m:Int} (hs:0≤s) (hm:0≤m):max (cutV s) (cutV m)=cutV (if s<m then m else s)∧(cutB s||cutB m)=cutB (if s<m then m else s):=by
 constructor
 ·unfold cutV
  repeat' split
  all_goals omega
 ·rw[Bool.eq_iff_iff];by_cases h:s<m
  ·rw[if_pos h];simp[cutB];omega
  ·rw[if_neg h];simp[cutB];omega
theorem covB_max (x y:Int) (t:List Rc):∀s u:Int,0≤s→0≤u→(∀r∈t,0≤r.x+r.w-x∧0≤r.y+r.h-y) →
  t.foldl (stepB' x y) (cutV s,cutV u,cutB s,cutB u)=(cutV (((t.map (·.x)).zip (t.map (·.w))).foldl (stepM x) s),cutV (((t.map (·.y)).zip (t.map (·.h))).foldl (stepM y) u),cutB (((t.map (·.x)).zip (t.map (·.w))).foldl (stepM x) s),cutB (((t.map (·.y)).zip (t.map (·.h))).foldl (stepM y) u)):=by
 induction t with
 |nil=>intro s u _ _ _;rfl
 |cons r t ih=>
  intro s u hs hu hr;obtain⟨h1,h2⟩:=hr r (List.mem_cons_self ..);have e:stepB' x y (cutV s,cutV u,cutB s,cutB u) r=(cutV (stepM x s (r.x,r.w)),cutV (stepM y u (r.y,r.h)),cutB (stepM x s (r.x,r.w)),cutB (stepM y u (r.y,r.h))):=by
   unfold stepB' stepM;simp only[(cut_max hs h1).1,(cut_max hs h1).2,(cut_max hu h2).1,(cut_max hu h2).2]
  rw[List.foldl_cons,e,ih]
  ·rfl
  ·unfold stepM;split<;>(simp only at *;omega)
  ·unfold stepM;split<;>(simp only at *;omega)
  ·exact fun q hq=>hr q (List.mem_cons_of_mem _ hq)
theorem refCov_eq (l:List Rc):refCovR l=coverR l∧refCovB l=coverB l:=by
 unfold refCovR refCovB coverR coverB;rw[covA_some];simp only[covB_some];have hsome:∀r∈someL l,0<r.w∧0<r.h:=fun r hr=>by
  have:=(List.mem_filter.1 hr).2
  simpa[Rc.some] using this
 generalize someL l=ms at *;cases ms with
 |nil=>exact⟨rfl,rfl⟩
 |cons r t=>
  have e:(r :: t).foldl stepA' (false,0,0)=(true,minL r.x (t.map (·.x)),minL r.y (t.map (·.y))):=by
   rw[List.foldl_cons];exact covA_min t r.x r.y
  have hx:minL r.x ((r :: t).map (·.x))=minL r.x (t.map (·.x)):=minL_self _ _;have hy:minL r.y ((r :: t).map (·.y))=minL r.y (t.map (·.y)):=minL_self _ _;have h:∀q∈r :: t,0≤q.x+q.w-minL r.x (t.map (·.x))∧0≤q.y+q.h-minL r.y (t.map (·.y)):=fun q hq=>by
   have h1:=(minL_le ((r :: t).map (·.x)) r.x).2 q.x (List.mem_map_of_mem hq);have h2:=(minL_le ((r :: t).map (·.y)) r.y).2 q.y (List.mem_map_of_mem hq);rw[hx] at h1;rw[hy] at h2;have:=hsome q hq;omega
  have e2:=covB_max _ _ (r :: t) 0 0 (by omega) (by omega) h;have c0:(cutV 0,cutV 0,cutB 0,cutB 0)=((0:Int),(0:Int),false,false):=rfl;rw[c0] at e2;simp only[e,e2,hx,hy,if_true,Bool.true_and];refine⟨rfl,?_⟩;unfold covM;generalize cutB (minL r.x (t.map (·.x)))=p1;generalize cutB (minL r.y (t.map (·.y)))=p2;generalize cutB (List.foldl _ 0 (((r :: t).map (·.x)).zip ((r :: t).map (·.w))))=p3;generalize cutB (List.foldl _ 0 (((r :: t).map (·.y)).zip ((r :: t).map (·.h))))=p4;cases p1<;>cases p2<;>cases p3<;>cases p4<;>rfl
end Go.Proofs.YtamldoocjjdidaaGreat
