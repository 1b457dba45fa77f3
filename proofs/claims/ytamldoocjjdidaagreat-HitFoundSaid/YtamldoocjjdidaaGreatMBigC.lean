import Derived.Test.YtamldoocjjdidaaGreatMSt2
import Derived.Maps.AppendAt
import Derived.OwnWalk
import Derived.LoopTactic
namespace Go.Proofs.YtamldoocjjdidaaGreat
open Go.RowKit
set_option maxRecDepth 100000
set_option maxHeartbeats 64000000
section
variable {P:Program} {w:World}
theorem run_append_rd (base t ty e:Nat) (i:TypeInfo) (z:Value) (size bytes:Nat) (ht:P.underlying t=some (.slice e)) (hi:P.info? e=some i) (hz:i.zero=some z)
  (hsize:i.size=size) (hby:i.bytes=bytes) (hzs:z.cells.size=size) (hsz:0<size)
  (v:Value) (n:Nat) (xs:List Value) (hown:w.ownsRow base e size v n xs) (A:Option Addr) (m c:Nat) (news:List Value) (hr:Rd w size A m news) (h1:∀u∈news,u.oneCell'=true)
  (h63:n+m≤maxLen) (hbytes:(n+m)*bytes≤140737488355328) (hbase:base≤w.heap.size) :
  ∃A' cap w',(Builtin.append_ #[t,t] ty #[v,.slice A m c]).run P w=.ok (.slice A' (n+m) cap) w'∧w'.ownsRow base e size (.slice A' (n+m) cap) (n+m) (xs++news)∧w.grownBy w' v.ownBlock ∧
   (Value.ownBlock (.slice A' (n+m) cap)=v.ownBlock∨Value.ownBlock (.slice A' (n+m) cap)=some w.heap.size):=by
 have shape:∀(v':Value) (w':World) (ys:List Value),w'.ownsRow base e size v' (n+m) ys→∃A' cap,v'=.slice A' (n+m) cap:=by
  intro v' w' ys h
  rcases h.2 with ⟨rfl,h0⟩|⟨g,cap,cur,rfl,_⟩
  ·exact⟨none,0,by rw[h0]⟩
  ·exact⟨_,_,rfl⟩
 have main:∃v' w',(Builtin.append_ #[t,t] ty #[v,.slice A m c]).run P w=.ok v' w'∧w'.ownsRow base e size v' (n+m) (xs++news)∧w.grownBy w' v.ownBlock∧(v'.ownBlock=v.ownBlock∨v'.ownBlock=some w.heap.size):=by
  rcases A with _|ad
  ·have hm:m=0:=by
    rcases Nat.eq_zero_or_pos m with h0|h0
    ·exact h0
    ·obtain⟨b,off,h,_⟩:=hr.at_ h0;cases h
   subst hm;have hn:news=[]:=List.eq_nil_of_length_eq_zero (by simpa using hr.len);subst hn;refine⟨v,w,?_,by simpa using hown,World.grownBy.refl w _,.inl rfl⟩
   rcases hown.2 with ⟨rfl,rfl⟩|⟨g,cap,cur,rfl,_,_,hnc,_⟩
   ·simp[Builtin.append_,run_underlying ht,sizeOf,typeInfo,hi,Builtin.lenOf,Builtin.firstCells]
   ·simp[Builtin.append_,run_underlying ht,sizeOf,typeInfo,hi,Builtin.lenOf,Builtin.firstCells,hnc,storeCells]
  ·have hcells:∀j u,news[j]?=some u→w.cell? (ad.add j)=some u:=by
    intro j u hu
    rcases Nat.eq_zero_or_pos m with h0|h0
    ·subst h0;have hn:news=[]:=List.eq_nil_of_length_eq_zero (by simpa using hr.len);subst hn;simp at hu
    ·obtain⟨b,off,h,_,hc⟩:=hr.at_ h0;injection h with h;subst h;have:=hc j u hu;by_cases hj:j=0
     ·subst hj;simpa[Addr.add] using this
     ·simpa[Addr.add,hj] using this
   obtain⟨v',w',hrun,h2,h3,_,h5⟩:=run_append_own_at (P:=P) w base t ty e i z size bytes ht hi hz hsize hby hzs hsz v n xs hown ad m c news hr.len hcells h1 h63 hbytes hbase;exact⟨v',w',hrun,h2,h3,h5⟩
 obtain⟨v',w',h1,h2,h3,h4⟩:=main;obtain⟨A',cap,rfl⟩:=shape v' w' _ h2;exact⟨A',cap,w',h1,h2,h3,h4⟩
theorem wpList_append_rd {ops:Array Oper} {rest:List Oper} {o:Oper} {a:Act} {Q:Exit→Act→World→Prop} (hgd:o.guard=none) (s x:Operand) (t:TypeId)
  (ho:o.op=.call { callee:=.builtin .append,args:=#[s,x],argTypes:=#[t,t] })
  (base e:Nat) (i:TypeInfo) (z:Value) (size bytes:Nat) (ht:P.underlying t=some (.slice e)) (hi:P.info? e=some i) (hz:i.zero=some z)
  (hsize:i.size=size) (hby:i.bytes=bytes) (hzs:z.cells.size=size) (hsz:0<size)
  (v:Value) (n:Nat) (xs:List Value) (hs:a.eval s=v) (hown:w.ownsRow base e size v n xs) (A:Option Addr) (m c:Nat) (news:List Value) (hx:a.eval x=.slice A m c) (hr:Rd w size A m news) (h1:∀u∈news,u.oneCell'=true)
  (h63:n+m≤maxLen) (hbytes:(n+m)*bytes≤140737488355328) (hbase:base≤w.heap.size)
  (h:∀A' cap w',w'.ownsRow base e size (.slice A' (n+m) cap) (n+m) (xs++news)→w.grownBy w' v.ownBlock→(Value.ownBlock (.slice A' (n+m) cap)=v.ownBlock∨Value.ownBlock (.slice A' (n+m) cap)=some w.heap.size) →
   wpList P ops Q rest (a.put o.dst (.slice A' (n+m) cap)) w'):wpList P ops Q (o :: rest) a w:=by
 refine wpList_plain hgd fun K hK=>?_
 obtain⟨A',cap,w',hrun,h2,h3,h4⟩:=run_append_rd (P:=P) base t o.type e i z size bytes ht hi hz hsize hby hzs hsz v n xs hown A m c news hr h1 h63 hbytes hbase;unfold Oper.wp execOp;simp only[ho,resolve,invoke,builtin,Sem.run_bind,Sem.run_pure,Result.andThen_ok,List.map_toArray,List.map_cons,List.map_nil,hs,hx,hrun];exact hK _ _ (h A' cap w' h2 h3 h4)
end
theorem Rd.one {w:World} (o:Value) (t:TypeId):Rd (w.alloc (.cells #[o] t)) 1 (some ⟨w.heap.size,0,none⟩) 1 [o]:=
 ⟨rfl,fun _=>⟨w.heap.size,0,rfl,by simp,fun j u hu=>by rw[(Blk.new w t #[o]).cell];simpa using hu⟩⟩
theorem Ext.own {a w w':World} {e size n:Nat} {v:Value} {xs:List Value} (h:Ext a w) (hown:w.ownsRow a.heap.size e size v n xs) (hg:w.grownBy w' v.ownBlock):Ext a w':=
 h.grown hg (fun g e=>(hown.lt g e).1)
section
variable {P:Program} {w:World}
theorem Blk.own {w:World} {g n:Nat} {t:TypeId} {cs:Array Value} {base:Nat} (h:Blk w g t cs) (hb:base≤g) (hn:cs.size=n) (hm:n≤maxLen):w.ownsRow base t 1 (.slice (some ⟨g,0,none⟩) n n) n cs.toList:=
 ⟨by simp[hn],.inr ⟨g,n,cs,rfl,hb,h,Nat.le_refl _,hm,by omega,by subst hn;rw[Nat.mul_one];exact List.take_of_length_le (by simp)⟩⟩
theorem Blk.rd {w:World} {g n:Nat} {t:TypeId} {cs:Array Value} (h:Blk w g t cs) (hn:cs.size=n):Rd w 1 (some ⟨g,0,none⟩) n cs.toList:=
 ⟨by simp[hn],fun _=>⟨g,0,rfl,h.lt,fun j u hu=>by rw[h.cell];simpa using hu⟩⟩
theorem Blk.keep {w w':World} {g:Nat} {t:TypeId} {cs:Array Value} {row:Option Nat} (h:Blk w g t cs) (hb:w.grownBy w' row) (hg:row≠some g):Blk w' g t cs:=
 (hb.block g h.lt (fun e=>hg e.symm)).trans h
structure ExtX (w w':World) (xs:List Nat):Prop where
 os:w'.os=w.os
 tape:w'.tape=w.tape
 output:w'.output=w.output
 size:w.heap.size≤w'.heap.size
 block:∀i,i<w.heap.size→i∉xs→w'.heap[i]?=w.heap[i]?
section
variable {w w' w'':World} {xs:List Nat}
theorem ExtX.refl (w:World) (xs:List Nat):ExtX w w xs:=⟨rfl,rfl,rfl,Nat.le_refl _,fun _ _ _=>rfl⟩
theorem ExtX.start (w:World) (xs:List Nat):ExtX w w.drew xs:=⟨rfl,rfl,rfl,Nat.le_refl _,fun _ _ _=>rfl⟩
theorem ExtX.trans (h:ExtX w w' xs) (k:Ext w' w''):ExtX w w'' xs:=
 ⟨k.os.trans h.os,k.tape.trans h.tape,k.output.trans h.output,Nat.le_trans h.size k.size,fun i hi hx=>(k.block i (Nat.lt_of_lt_of_le hi h.size)).trans (h.block i hi hx)⟩
theorem ExtX.grown {row:Option Nat} (h:ExtX w w' xs) (hg:w'.grownBy w'' row) (hr:∀g,row=some g→w.heap.size≤g):ExtX w w'' xs:=
 ⟨hg.os.trans h.os,hg.tape.trans h.tape,hg.output.trans h.output,Nat.le_trans h.size hg.size,
  fun i hi hx=>(hg.block i (Nat.lt_of_lt_of_le hi h.size) (fun e=>by have:=hr _ e.symm;omega)).trans (h.block i hi hx)⟩
theorem ExtX.set (h:ExtX w w' xs) {p:Addr} (hp:p.block∈xs) (v:Value):ExtX w (w'.setCell p v) xs:=
 ⟨h.os,h.tape,h.output,by simpa[World.setCell] using h.size,fun i hi hx=>(Below.heap_setCell w' p v i (fun e=>hx (by rw[e];exact hp))).trans (h.block i hi hx)⟩
theorem ExtX.blk {g:Nat} {t:TypeId} {cs:Array Value} (h:ExtX w w' xs) (hb:Blk w g t cs) (hx:g∉xs):Blk w' g t cs:=(h.block g hb.lt hx).trans hb
theorem ExtX.rd {k n:Nat} {A:Option Addr} {ys:List Value} (h:ExtX w w' xs) (hr:Rd w k A n ys) (hx:∀b off,A=some ⟨b,off,none⟩→b∉xs):Rd w' k A n ys:=
 ⟨hr.len,fun hn=>by
  obtain⟨b,off,rfl,hb,hc⟩:=hr.at_ hn;refine⟨b,off,rfl,Nat.lt_of_lt_of_le hb h.size,fun j u hu=>?_⟩;rw[World.cell?_of_block (h.block b hb (hx b off rfl))];exact hc j u hu⟩
theorem ExtX.ext {w0:World} (h:ExtX w w' xs) (k:Ext w0 w) (hx:∀g∈xs,w0.heap.size≤g):Ext w0 w':=
 ⟨h.os.trans k.os,h.tape.trans k.tape,h.output.trans k.output,Nat.le_trans k.size h.size,
  fun i hi=>(h.block i (Nat.lt_of_lt_of_le hi k.size) (fun hm=>by have:=hx i hm;omega)).trans (k.block i hi)⟩
end
theorem wp_append_rd {o:Oper} {a:Act} {K:Act→World→Prop} {Q:Exit→Act→World→Prop} (s x:Operand) (t:TypeId)
  (ho:o.op=.call { callee:=.builtin .append,args:=#[s,x],argTypes:=#[t,t] })
  (base e:Nat) (i:TypeInfo) (z:Value) (size bytes:Nat) (ht:P.underlying t=some (.slice e)) (hi:P.info? e=some i) (hz:i.zero=some z)
  (hsize:i.size=size) (hby:i.bytes=bytes) (hzs:z.cells.size=size) (hsz:0<size)
  (v:Value) (n:Nat) (xs:List Value) (hs:a.eval s=v) (hown:w.ownsRow base e size v n xs) (A:Option Addr) (m c:Nat) (news:List Value) (hx:a.eval x=.slice A m c) (hr:Rd w size A m news) (h1:∀u∈news,u.oneCell'=true)
  (h63:n+m≤maxLen) (hbytes:(n+m)*bytes≤140737488355328) (hbase:base≤w.heap.size)
  (h:∀A' cap w',w'.ownsRow base e size (.slice A' (n+m) cap) (n+m) (xs++news)→w.grownBy w' v.ownBlock→(Value.ownBlock (.slice A' (n+m) cap)=v.ownBlock∨Value.ownBlock (.slice A' (n+m) cap)=some w.heap.size) →
   K (a.put o.dst (.slice A' (n+m) cap)) w'):o.wp P a w K Q:=by
 obtain⟨A',cap,w',hrun,h2,h3,h4⟩:=run_append_rd (P:=P) base t o.type e i z size bytes ht hi hz hsize hby hzs hsz v n xs hown A m c news hr h1 h63 hbytes hbase;unfold Oper.wp execOp;simp only[ho,resolve,invoke,builtin,Sem.run_bind,Sem.run_pure,Result.andThen_ok,List.map_toArray,List.map_cons,List.map_nil,hs,hx,hrun];exact h A' cap w' h2 h3 h4
theorem eval_tmp {a:Act} {t:Nat} {v:Value} (h:a.tmps[t]?=some v):a.eval (.tmp t)=v:=by simp[Act.eval,h]
end
def bools (l:List Bool):List Value:=l.map Value.bool
theorem bools_append (a b:List Bool):bools (a++b)=bools a++bools b:=by simp[bools]
theorem bools_get {l:List Bool} {i:Nat} {u:Value} (h:(bools l)[i]?=some u):∃b,l[i]?=some b∧u=.bool b:=by
 unfold bools at h;rw[List.getElem?_map] at h;cases hq:l[i]? with
 |none=>simp[hq] at h
 |some b=>exact⟨b,rfl,by simpa[hq] using h.symm⟩
theorem at_any (A:Option Addr) (n c i:Nat) (l:List Bool) (w:World) (hr:Rd w 1 A n (bools l)) (_hn:n≤1000000) (_hi:i≤1000000) :
  Calls Tryz.prog 99 #[.slice A n c,.int .i64 i] w fun e w'=>e=.returned (.int .i64 (atN l i))∧w=w':=by
 have hl:l.length=n:=by have:=hr.len;simpa[bools] using this
 by_cases h:i<n
 ·obtain⟨b,off,u,rfl,hb,hu,hc⟩:=hr.get h;obtain⟨d,hd,rfl⟩:=bools_get hu;have e:(atN l i:Int)=if d=true then 1 else 0:=by
   have:atN l i=d.toNat:=by simp[atN,hd]
   rw[this];cases d<;>simp
  rw[e];have HI:=AB (And.intro hl hd);clear hl hd hu e;cases d
  all_goals
   go_enter Tryz.func99,Tryz.ntmps99
   go_wp2
   go_ret;exact⟨rfl,rfl⟩
 ·have e:(atN l i:Int)=0:=by
   have:l[i]?=none:=List.getElem?_eq_none (by omega);simp[atN,this]
  rw[e];have HI:=AB hl;clear hl e;go_enter Tryz.func99,Tryz.ntmps99
  go_wp2
  go_ret;exact⟨rfl,rfl⟩
theorem less_any (A B:Option Addr) (n c m d:Nat) (a b:List Bool) (w:World) (ha:Rd w 1 A n (bools a)) (hb:Rd w 1 B m (bools b)) (hn:n≤100000) (hm:m≤100000) :
  Calls Tryz.prog 96 #[.slice A n c,.slice B m d] w fun e w'=>e=.returned (.bool (decide (val a<val b)))∧w=w':=by
 have la:a.length=n:=by have:=ha.len;simpa[bools] using this
 have lb:b.length=m:=by have:=hb.len;simpa[bools] using this
 obtain⟨M,hM⟩:∃M,max n m=M:=⟨_,rfl⟩
 have EM:(if (n:Int)<(m:Int) then (m:Int) else (n:Int))=(M:Int):=by split<;>omega
 have EM2:(if n<m then (m:Int) else (n:Int))=(M:Int):=by split<;>omega
 have hM1:M≤100000:=by omega
 have HM:=AB (And.intro hM (And.intro la lb));obtain⟨L,hL⟩:∃L,decide (val a<val b)=L:=⟨_,rfl⟩
 rw[hL];have HL:=AB hL;clear hL hM la lb;go_enter Tryz.func96,Tryz.ntmps96
 go_wp2
 go_loop [5] (fun i=>∃j,j≤M∧((j=0∧i=.int .i64 (-1))∨∃q:Nat,j=q+1∧i=.int .i64 q)∧val (a.drop j)=val (b.drop j)) (fun i=>(intOf i+1).toNat)
 case atStart=>
  obtain⟨h1,h2,h3⟩:=AA HM;refine⟨M,Nat.le_refl _,?_,by rw[List.drop_eq_nil_of_le (by omega),List.drop_eq_nil_of_le (by omega)]⟩;cases M with
  |zero=>exact .inl ⟨rfl,rfl⟩
  |succ q=>exact .inr ⟨q,rfl,by go_num⟩
 case round=>
  obtain⟨j,hj,hi,hv⟩:=hrel;have HV:=AB hv;clear hv
  rcases hi with ⟨rfl,rfl⟩|⟨q,rfl,rfl⟩
  ·go_wp2
   go_ret;have h1:=AA HL;have h2:=AA HV;rw[List.drop_zero,List.drop_zero] at h2;refine⟨?_,rfl⟩;rw[←h1,h2];simp
  ·have c1:=fun w' (h:Rd w' 1 A n (bools a))=>at_any A n c q a w' h (by omega) (by omega)
   have c2:=fun w' (h:Rd w' 1 B m (bools b))=>at_any B m d q b w' h (by omega) (by omega)
   have b1:=atN_le a q;have b2:=atN_le b q;have hlt:atN a q<atN b q→L=true:=fun h=>by rw[←AA HL];simp;exact less_at (AA HV) h
   have hgt:atN b q<atN a q→L=false:=fun h=>by
    rw[←AA HL];have:=less_at (AA HV).symm h;simp;omega
   have heq:atN a q=atN b q→val (a.drop q)=val (b.drop q):=fun h=>less_same (AA HV) h
   have C1:=fun w' h=>AB (c1 w' h)
   have C2:=fun w' h=>AB (c2 w' h)
   clear c1 c2;generalize atN a q=X at *;generalize atN b q=Y at *;by_cases hxy:X=Y
   ·have HQ:=AB (heq hxy);subst hxy;clear heq hlt hgt;go_wp2_with fail;refine (AA (C1 _ ha)).mono ?_;rintro e w' ⟨rfl,rfl⟩;go_wp2_with fail;refine (AA (C2 _ hb)).mono ?_;rintro e w' ⟨rfl,rfl⟩;go_wp2_with fail
    go_round
    case rel=>
     refine⟨q,by omega,?_,AA HQ⟩;cases q with
     |zero=>exact .inl ⟨rfl,rfl⟩
     |succ p=>exact .inr ⟨p,rfl,by go_num⟩
    case measure=>simp[intOf]
   ·have hL2:L=decide ((X:Int)<(Y:Int)):=by
     by_cases h:X<Y
     ·rw[hlt h];symm;simp;omega
     ·rw[hgt (by omega)];symm;simp;omega
    subst hL2;have e1:((X:Int)==(Y:Int))=false:=by simp;omega
    have e2:((X:Int) != (Y:Int))=true:=by simp;omega
    clear heq hlt hgt;go_wp2_with fail;refine (AA (C1 _ ha)).mono ?_;rintro e w' ⟨rfl,rfl⟩;go_wp2_with fail;refine (AA (C2 _ hb)).mono ?_;rintro e w' ⟨rfl,rfl⟩;go_wp2_with fail;refine (AA (C1 _ ha)).mono ?_;rintro e w' ⟨rfl,rfl⟩;go_wp2_with fail;refine (AA (C2 _ hb)).mono ?_;rintro e w' ⟨rfl,rfl⟩;go_wp2_with fail;go_ret;exact⟨by simp,rfl⟩
theorem bigb_info:(Tryz.prog.info? 4).map (fun i=>(i.zero,i.size,i.bytes))=some (some (.bool false),1,1):=by kernel_rfl
def Fresh (w:World) (A:Option Addr):Prop:=∀b off,A=some ⟨b,off,none⟩→w.heap.size≤b
theorem Fresh.own {w w':World} {e size n c:Nat} {A:Option Addr} {xs:List Value} (h:w'.ownsRow w.heap.size e size (.slice A n c) n xs):Fresh w A:=fun b off e=>(h.lt b (by rw[e];rfl)).1
theorem Fresh.mono {w w':World} {A:Option Addr} (h:Fresh w' A) (hx:Ext w w'):Fresh w A:=fun b off e=>Nat.le_trans hx.size (h b off e)
def BitsOut (w:World) (P:List Bool→Prop) (e:Ending) (w':World):Prop:=
 ∃A c l,e=.returned (.slice A l.length c)∧Rd w' 1 A l.length (bools l)∧l.length≤c∧c≤maxLen∧P l∧Ext w w'∧Fresh w A
theorem own_cap {w:World} {base e size n c:Nat} {A:Option Addr} {xs:List Value} (h:w.ownsRow base e size (.slice A n c) n xs):n≤c∧c≤maxLen:=by
 rcases h.2 with ⟨hv,h0⟩|⟨g,cap,cur,hv,_,_,h1,h2,_⟩
 ·injection hv with _ _ h3;subst h3;exact⟨by omega,by simp[maxLen]⟩
 ·injection hv with _ _ h3;subst h3;exact⟨h1,h2⟩
structure PlusRel (w:World) (a b:List Bool) (i more:Nat) (v:Value) (wr:World):Prop where
 (ext:Ext w wr) (o:∃A c o,v=.slice A i c∧PlusI a b o i more∧wr.ownsRow w.heap.size 4 1 (.slice A i c) i (bools o))
theorem plus_any (A B:Option Addr) (n c m d:Nat) (a b:List Bool) (w:World) (ha:Rd w 1 A n (bools a)) (hb:Rd w 1 B m (bools b)) (hn:n≤100000) (hm:m≤100000) :
  Calls Tryz.prog 95 #[.slice A n c,.slice B m d] w (BitsOut w fun o=>val o=val a+val b∧o.length=max a.length b.length+1):=by
 obtain⟨i0,hi0,hz0,hz1,hz2⟩:=info_parts bigb_info;have la:a.length=n:=by have:=ha.len;simpa[bools] using this
 have lb:b.length=m:=by have:=hb.len;simpa[bools] using this
 obtain⟨M,hM⟩:∃M,max n m=M:=⟨_,rfl⟩
 have EM:(if (n:Int)<(m:Int) then (m:Int) else (n:Int))=(M:Int):=by split<;>omega
 have EM2:(if n<m then (m:Int) else (n:Int))=(M:Int):=by split<;>omega
 have hM1:M≤100000:=by omega
 have HI:=AB (And.intro hi0 (And.intro hz0 (And.intro hz1 hz2)));have HM:=AB (And.intro hM (And.intro la lb));clear hM la lb hi0 hz0 hz1 hz2;go_enter Tryz.func95,Tryz.ntmps95
 go_wp2
 go_loopw [5,6,7] (fun v mo i wr=>∃j more:Nat,j≤M+1∧i=.int .i64 j∧mo=.int .i64 more∧PlusRel w a b j more v wr) (fun _ _ i _=>M+1-(intOf i).toNat)
 case atStart=>exact⟨0,0,by omega,rfl,rfl,Ext.refl _,none,0,[],rfl,plus_start a b,World.ownsRow_nil _ _ _ _⟩
 case round=>
  obtain⟨j,more,hj,rfl,rfl,hE,A3,c3,o,rfl,hP,hO⟩:=hrel;by_cases hlt:j≤M
  ·have hltI:(j:Int)≤(M:Int):=by omega
   have c1:=fun w' (h:Ext w w')=>AB (at_any A n c j a w' (ha.ext h) (by omega) (by omega))
   have c2:=fun w' (h:Ext w w')=>AB (at_any B m d j b w' (hb.ext h) (by omega) (by omega))
   have b1:=atN_le a j;have b2:=atN_le b j;have b3:=hP.2.1;have HS:=AB (plus_step hP);clear hP;generalize atN a j=X at *;generalize atN b j=Y at *;obtain⟨S,hS⟩:∃S,X+Y+more=S:=⟨_,rfl⟩
   rw[hS] at HS;have ES:(X:Int)+(Y:Int)+(more:Int)=(S:Int):=by omega
   have hS3:S≤3:=by omega
   obtain⟨D,hD⟩:∃D,(S % 2==1)=D:=⟨_,rfl⟩
   obtain⟨T,hT⟩:∃T,S / 2=T:=⟨_,rfl⟩
   rw[hD,hT] at HS;have ED:((S:Int) % 2==1)=D:=by rw[←hD];rw[Bool.eq_iff_iff];simp;omega
   have ET:(S:Int) / 2=(T:Int):=by omega
   clear hD hT hS;go_wp2_with fail;refine (AA (c1 _ hE)).mono ?_;rintro e w' ⟨rfl,rfl⟩;go_wp2_with fail;refine (AA (c2 _ hE)).mono ?_;rintro e w' ⟨rfl,rfl⟩;go_wp2_with (first
    |(at_builtin
      refine wpList_append_rd rfl (.tmp 27) (.tmp 31) _ rfl w.heap.size 4 i0 _ 1 1 Tryz.underlying106 (AA HI).1 (AA HI).2.1 (AA HI).2.2.1 (AA HI).2.2.2 rfl (by omega) _ j (bools o) rfl (hO.alloc _) _ 1 1 [.bool D] rfl (Rd.one _ _) (by simp[Value.oneCell']) (by simp only[maxLen];omega) (by omega) (by have:=hE.size;simp;omega) ?_;intro A4 c4 w4 own4 g4 at4))
   go_roundw
   case rel=>
    refine⟨j+1,T,by omega,by go_num,rfl,(hE.alloc _).grown g4 (fun g e=>(hO.lt g e).1),A4,c4,o++[D],rfl,AA HS,?_⟩;rw[bools_append];exact own4
   case measure=>simp[intOf];omega
  ·have hjI:(M:Int)<(j:Int):=by omega
   have hj2:j=M+1:=by omega
   have HJ:=AB hj2;have HP:=AB hP;clear hP hj2;go_wp2_with fail;go_ret;obtain⟨h1,h2,h3⟩:=AA HM;obtain⟨e1,e2⟩:=plus_end (AA HP) (by rw[AA HJ,←h1,h2,h3]);have hl:o.length=j:=(AA HP).1;obtain⟨k1,k2⟩:=own_cap hO;subst hl;exact⟨A3,c3,o,rfl,Rd.of_own hO,k1,k2,⟨e1,e2⟩,hE,Fresh.own hO⟩
structure MinusRel (w:World) (a b:List Bool) (i less:Nat) (v:Value) (wr:World):Prop where
 (ext:Ext w wr) (o:∃A c o,v=.slice A i c∧MinusI a b o i less∧wr.ownsRow w.heap.size 4 1 (.slice A i c) i (bools o))
theorem minus_any (A B:Option Addr) (n c m d:Nat) (a b:List Bool) (w:World) (ha:Rd w 1 A n (bools a)) (hb:Rd w 1 B m (bools b)) (hn:n≤100000) (hm:m≤100000) (hle:val b≤val a) :
  Calls Tryz.prog 97 #[.slice A n c,.slice B m d] w (BitsOut w fun o=>val o=val a-val b∧o.length=a.length):=by
 obtain⟨i0,hi0,hz0,hz1,hz2⟩:=info_parts bigb_info;have la:a.length=n:=by have:=ha.len;simpa[bools] using this
 have HI:=AB (And.intro hi0 (And.intro hz0 (And.intro hz1 hz2)));have HM:=AB (And.intro la hle);clear la hi0 hz0 hz1 hz2 hle;go_enter Tryz.func97,Tryz.ntmps97
 go_wp2
 go_loopw [5,6,7] (fun v mo i wr=>∃j less:Nat,j≤n∧i=.int .i64 j∧mo=.int .i64 less∧MinusRel w a b j less v wr) (fun _ _ i _=>n-(intOf i).toNat)
 case atStart=>exact⟨0,0,by omega,rfl,rfl,Ext.refl _,none,0,[],rfl,minus_start a b,World.ownsRow_nil _ _ _ _⟩
 case round=>
  obtain⟨j,less,hj,rfl,rfl,hE,A3,c3,o,rfl,hP,hO⟩:=hrel;by_cases hlt:j<n
  ·have c1:=fun w' (h:Ext w w')=>AB (at_any A n c j a w' (ha.ext h) (by omega) (by omega))
   have c2:=fun w' (h:Ext w w')=>AB (at_any B m d j b w' (hb.ext h) (by omega) (by omega))
   have b1:=atN_le a j;have b2:=atN_le b j;have b3:=hP.2.1;have HS0:=AB fun s hs h0=>minus_step0 hP s hs h0
   have HS1:=AB fun s hs h0=>minus_step1 hP s hs h0
   clear hP;generalize atN a j=X at *;generalize atN b j=Y at *;obtain⟨S,ES⟩:∃S:Int,(X:Int)-(Y:Int)-(less:Int)=S:=⟨_,rfl⟩
   have HES:=AB ES.symm;have hS3:-2≤S:=by omega
   have hS4:S≤1:=by omega
   by_cases hneg:S<0
   ·obtain⟨D,hD⟩:∃D,(S+2==1)=D:=⟨_,rfl⟩
    have HS:=AB (AA HS1 S (AA HES) hneg);have HD:=AB hD;clear HS0 HS1;go_wp2_with fail;refine (AA (c1 _ hE)).mono ?_;rintro e w' ⟨rfl,rfl⟩;go_wp2_with fail;refine (AA (c2 _ hE)).mono ?_;rintro e w' ⟨rfl,rfl⟩;go_wp2_with (first
     |(at_builtin
       refine wpList_append_rd rfl (.tmp 28) (.tmp 31) _ rfl w.heap.size 4 i0 _ 1 1 Tryz.underlying106 (AA HI).1 (AA HI).2.1 (AA HI).2.2.1 (AA HI).2.2.2 rfl (by omega) _ j (bools o) rfl (hO.alloc _) _ 1 1 [.bool D] rfl (Rd.one _ _) (by simp[Value.oneCell']) (by simp only[maxLen];omega) (by omega) (by have:=hE.size;simp;omega) ?_;intro A4 c4 w4 own4 g4 at4))
    go_roundw
    case rel=>
     refine⟨j+1,1,by omega,by go_num,rfl,(hE.alloc _).grown g4 (fun g e=>(hO.lt g e).1),A4,c4,o++[D],rfl,?_,?_⟩
     ·rw[←AA HD];exact AA HS
     ·rw[bools_append];exact own4
    case measure=>simp[intOf];omega
   ·obtain⟨D,hD⟩:∃D,(S==1)=D:=⟨_,rfl⟩
    have HS:=AB (AA HS0 S (AA HES) (by omega));have HD:=AB hD;clear HS0 HS1;go_wp2_with fail;refine (AA (c1 _ hE)).mono ?_;rintro e w' ⟨rfl,rfl⟩;go_wp2_with fail;refine (AA (c2 _ hE)).mono ?_;rintro e w' ⟨rfl,rfl⟩;go_wp2_with (first
     |(at_builtin
       refine wpList_append_rd rfl (.tmp 28) (.tmp 31) _ rfl w.heap.size 4 i0 _ 1 1 Tryz.underlying106 (AA HI).1 (AA HI).2.1 (AA HI).2.2.1 (AA HI).2.2.2 rfl (by omega) _ j (bools o) rfl (hO.alloc _) _ 1 1 [.bool D] rfl (Rd.one _ _) (by simp[Value.oneCell']) (by simp only[maxLen];omega) (by omega) (by have:=hE.size;simp;omega) ?_;intro A4 c4 w4 own4 g4 at4))
    go_roundw
    case rel=>
     refine⟨j+1,0,by omega,by go_num,rfl,(hE.alloc _).grown g4 (fun g e=>(hO.lt g e).1),A4,c4,o++[D],rfl,?_,?_⟩
     ·rw[←AA HD];exact AA HS
     ·rw[bools_append];exact own4
    case measure=>simp[intOf];omega
  ·have hj2:j=n:=by omega
   have HJ:=AB hj2;have HP:=AB hP;clear hP hj2;go_wp2_with fail;go_ret;obtain⟨h1,h2⟩:=AA HM;obtain⟨e1,e2⟩:=minus_end (AA HP) (by rw[AA HJ,h1]) h2;have hl:o.length=j:=(AA HP).1;obtain⟨k1,k2⟩:=own_cap hO;subst hl;exact⟨A3,c3,o,rfl,Rd.of_own hO,k1,k2,⟨e1,e2⟩,hE,Fresh.own hO⟩
@[reducible] def bigV (m:Bool) (A:Option Addr) (n c:Nat):Value:=.agg #[.bool m,.slice A n c]
def BigOut (w:World) (P:Bool→List Bool→Prop) (e:Ending) (w':World):Prop:=
 ∃m A c l,e=.returned (bigV m A l.length c)∧Rd w' 1 A l.length (bools l)∧l.length≤c∧c≤maxLen∧P m l∧Ext w w'
def ShortOut (w:World) (A:Option Addr) (P:Bool→List Bool→Prop) (e:Ending) (w':World):Prop:=
 ∃m c l,e=.returned (bigV m A l.length c)∧Rd w' 1 A l.length (bools l)∧l.length≤c∧c≤maxLen∧P m l∧Ext w w'
theorem Rd.take {w:World} {A:Option Addr} {n k:Nat} {l:List Bool} (h:Rd w 1 A n (bools l)) (hk:k≤n):Rd w 1 A k (bools (l.take k)):=by
 have hl:l.length=n:=by have:=h.len;simpa[bools] using this
 refine⟨by simp[bools];omega,fun h0=>?_⟩;obtain⟨b,off,rfl,hb,hc⟩:=h.at_ (by omega);refine⟨b,off,rfl,hb,fun j u hu=>hc j u ?_⟩;unfold bools at *;rw[List.getElem?_map] at hu ⊢;have hj:j<k:=by
  rcases Nat.lt_or_ge j k with h|h
  ·exact h
  ·rw[List.getElem?_eq_none (by rw[List.length_take];omega)] at hu;cases hu
 rwa [List.getElem?_take_of_lt hj] at hu
def shortOk (l:List Bool):Prop:=l.length=0∨2 ^ (l.length-1)≤val l
def ShortP (m:Bool) (l:List Bool) (m':Bool) (l':List Bool):Prop:=val l'=val l∧m'=(m&&decide (0<val l))∧shortOk l'∧l'.length≤l.length
theorem short_end {m m':Bool} {A:Option Addr} {k n c:Nat} {l:List Bool} {w W':World} (hr:Rd w 1 A n (bools l)) (hl:l.length=n) (hk:k≤n) (hv:val (l.take k)=val l) (hs:k=0∨2 ^ (k-1)≤val l)
  (hm:m'=(m&&decide (0<val l))) (hc1:n≤c) (hc2:c≤maxLen) (hE:Ext w W') :
  ShortOut w A (ShortP m l) (.returned (bigV m' A k c)) W':=by
 have e:(l.take k).length=k:=by rw[List.length_take];omega
 refine⟨m',c,l.take k,by rw[e],by rw[e];exact (hr.take hk).ext hE,by omega,hc2,⟨hv,hm,?_,by omega⟩,hE⟩;unfold shortOk;rw[e,hv];exact hs
theorem short_any (m:Bool) (A:Option Addr) (n c:Nat) (l:List Bool) (w:World) (hr:Rd w 1 A n (bools l)) (_hn:n≤100000) (hc1:n≤c) (hc2:c≤maxLen) :
  Calls Tryz.prog 94 #[bigV m A n c] w (ShortOut w A (ShortP m l)):=by
 have HC:=AB hc2;unfold maxLen at hc2;have hl:l.length=n:=by have:=hr.len;simpa[bools] using this
 have HL:=AB hl;clear hl;go_enter Tryz.func94,Tryz.ntmps94
 go_wp2
 go_loop [3] (fun v=>∃j:Nat,j≤n∧v=.int .i64 j∧val (l.take j)=val l) (fun v=>(intOf v).toNat)
 case atStart=>exact⟨n,Nat.le_refl _,rfl,by rw[List.take_of_length_le (by rw[AA HL];omega)]⟩
 case round=>
  obtain⟨j,hj,rfl,hv⟩:=hrel;have HV:=AB hv;clear hv;cases j with
  |zero=>
   have h0:val l=0:=by rw[←AA HV];rfl
   have H0:=AB h0;clear h0;cases m
   all_goals
    go_wp2
    go_returns
    exact short_end hr (AA HL) (by omega) (AA HV) (.inl rfl) (by have:=AA H0;first|(simp;done)|(simp;omega)) hc1 (AA HC) (((Ext.refl _).alloc _).alloc _)
  |succ k=>
   obtain⟨b,off,u,rfl,hb,hu,hcell⟩:=hr.get (i:=k) (by omega);obtain⟨d,hd,rfl⟩:=bools_get hu;have HD:=AB hd;clear hd hu;cases d
   ·go_wp2
    go_round
    case rel=>exact⟨k,by omega,by go_num,short_step (AA HV) (by rw[List.getD_eq_getElem?_getD,AA HD];rfl)⟩
    case measure=>simp[intOf]
   ·have hp:=short_pos (n:=k) (by rw[List.getD_eq_getElem?_getD,AA HD];rfl) (AA HV);have hp2:0<val l:=Nat.lt_of_lt_of_le (Nat.two_pow_pos k) hp;have HP:=AB (And.intro hp hp2);clear hp hp2;cases m
    all_goals
     go_wp2
     go_returns
     exact short_end hr (AA HL) (by omega) (AA HV) (.inr (AA HP).1) (by have:=(AA HP).2;first|(simp;done)|(simp;omega)) hc1 (AA HC) (((Ext.refl _).alloc _).alloc _)
end Go.Proofs.YtamldoocjjdidaaGreat
