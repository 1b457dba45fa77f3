import Derived.Test.YtamldoocjjdidaaGreatMWidN
import Derived.Orders
import Derived.OrdersHeld
import Derived.Deep.Cut
import Derived.Deep.CutRange
import Derived.IntWalk
namespace Go.Proofs.YtamldoocjjdidaaGreat
set_option maxRecDepth 100000
set_option maxHeartbeats 64000000
section
variable {P:Program} {ops:Array Oper} {Q:Exit→Act→World→Prop}
abbrev Ls (l:Array Bool) (j:Nat):Prop:=l.getD j false=true
def bef (m:List Nat) (k j:Nat):Bool:=(m.getD j 0).testBit k
def masksB (ops:Array Oper) (m:List Nat):Bool:=(List.range ops.size).all fun j=>match ops[j]? with
 |none=>true
 | some o=>(List.range ops.size).all fun k=>!bef m k j||o.after.any fun e=>Region.binds .any e&&decide (e.on<j)&&(e.on==k||bef m k e.on)
def Closed (ops:Array Oper) (l:Array Bool):Prop:=∀(i:Nat) (o:Oper),ops[i]?=some o→Ls l i→∀e∈o.after,Region.binds .any e=true→Ls l e.on
theorem bef_listed {l:Array Bool} {m:List Nat} (hm:masksB ops m=true) (hc:Closed ops l):∀n j k,j<n→j<ops.size→k<ops.size→bef m k j=true→(∀o,ops[j]?=some o→∀e∈o.after,Region.binds .any e=true→Ls l e.on)→Ls l k:=by
 intro n
 induction n with
 |zero=>intro j k h;omega
 |succ n ih=>
  intro j k hjn hjs hks h hj;have ho:ops[j]?=some ops[j]:=by simp[hjs]
  unfold masksB at hm;rw[List.all_eq_true] at hm;have h1:=hm j (List.mem_range.2 hjs);rw[ho] at h1;simp only[List.all_eq_true] at h1;have h2:=h1 k (List.mem_range.2 hks);rw[h] at h2;simp only[Bool.not_true,Bool.false_or] at h2;obtain⟨e,he,hb⟩:=Array.any_eq_true'.1 h2;simp only[Bool.and_eq_true,Bool.or_eq_true,beq_iff_eq,decide_eq_true_eq] at hb;obtain⟨⟨hb1,hlt⟩,hb2|hb2⟩:=hb
  ·exact hb2▸hj _ ho e he hb1
  ·exact ih e.on k (by omega) (by omega) hks hb2 (fun o' ho'=>hc e.on o' ho' (hj _ ho e he hb1))
structure LinF (ops:Array Oper) (l:Array Bool) (F:Nat→Value) (a0 a:Act):Prop where
 defers:a.defers=a0.defers
 size:a.tmps.size=a0.tmps.size
 put:∀j o d,ops[j]?=some o→o.dst=some d→Ls l j→d<a0.tmps.size→a.tmps[d]?=some (F j)
 old:∀t:Nat,(∀j o,ops[j]?=some o→Ls l j→o.dst≠some t)→a.tmps[t]?=a0.tmps[t]?
def distinctB (ops:Array Oper):Bool:=(List.range ops.size).all fun i=>(List.range ops.size).all fun j=>i==j||match (ops[i]?).bind (·.dst),(ops[j]?).bind (·.dst) with | some d,some e=>d != e | _,_=>true
theorem distinct_spec (h:distinctB ops=true) {i j d:Nat} {oi oj:Oper} (hi:ops[i]?=some oi) (hj:ops[j]?=some oj) (di:oi.dst=some d) (dj:oj.dst=some d):i=j:=by
 unfold distinctB at h;rw[List.all_eq_true] at h;have h1:=h i (List.mem_range.2 (Array.getElem?_eq_some_iff.1 hi).1);rw[List.all_eq_true] at h1;have h2:=h1 j (List.mem_range.2 (Array.getElem?_eq_some_iff.1 hj).1)
 simpa[hi,hj,di,dj] using h2
theorem Ls.set {l:Array Bool} {i j:Nat}:Ls (l.setIfInBounds i true) j↔Ls l j∨(j=i∧i<l.size):=by
 unfold Ls;by_cases h:i=j
 ·subst h;by_cases hlt:i<l.size
  ·simp[hlt]
  ·simp[hlt]
 ·simp[Array.getElem?_setIfInBounds_ne h,Ne.symm h]
theorem LinF.step {l:Array Bool} {F:Nat→Value} {a0 a:Act} {i:Nat} {o:Oper} (hd:distinctB ops=true) (h:LinF ops l F a0 a) (hi:ops[i]?=some o) (hlt:i<l.size) (v:Value) :
  LinF ops (l.setIfInBounds i true) (fun k=>if k=i then v else F k) a0 (a.put o.dst v):=by
 have hF:∀k,k≠i→(if k=i then v else F k)=F k:=fun k hk=>if_neg hk
 cases hdst:o.dst with
 |none=>
  refine⟨h.defers,h.size,fun j oj d hj dj hl hs=>?_,fun t ht=>h.old t fun j oj hj hl=>ht j oj hj (Ls.set.2 (.inl hl))⟩;have hne:j≠i:=fun e=>by subst e;rw[hi] at hj;cases hj;rw[hdst] at dj;cases dj
  show _=some (if j=i then v else F j)
  rw[hF j hne];exact h.put j oj d hj dj ((Ls.set.1 hl).resolve_right fun e=>hne e.1) hs
 |some d0=>
  refine⟨h.defers,by simpa[Act.put] using h.size,fun j oj d hj dj hl hs=>?_,fun t ht=>?_⟩
  ·by_cases hji:j=i
   ·subst hji;rw[hi] at hj;cases hj;rw[hdst] at dj;cases dj;simp only[Act.put,if_true];rw[Array.getElem?_setIfInBounds_self_of_lt (by rw[h.size];exact hs)]
   ·have hne:d0≠d:=fun e=>hji (distinct_spec hd hj hi dj (by rw[hdst,e]))
    show _=some (if j=i then v else F j)
    rw[hF j hji];simp only[Act.put];rw[Array.getElem?_setIfInBounds_ne hne];exact h.put j oj d hj dj ((Ls.set.1 hl).resolve_right fun e=>hji e.1) hs
  ·have hne:d0≠t:=fun e=>ht i o hi (Ls.set.2 (.inr ⟨rfl,hlt⟩)) (by rw[hdst,e])
   simp only[Act.put];rw[Array.getElem?_setIfInBounds_ne hne];exact h.old t fun j oj hj hl=>ht j oj hj (Ls.set.2 (.inl hl))
def SatD (S:Nat→Value→World→Prop) (F:Nat→Value) (a:Act) (w:World):List (Nat×Nat)→Prop
 |[]=>True
 |(j,d) :: r=>S j (F j) w∧a.tmps[d]?=some (F j)∧SatD S F a w r
def OldD (a0 a:Act):List Nat→Prop
 |[]=>True
 |t :: r=>a.tmps[t]?=a0.tmps[t]?∧OldD a0 a r
def Sat (S:Nat→Value→World→Prop) (F:Nat→Value) (w:World):List Nat→Prop
 |[]=>True
 |j :: r=>S j (F j) w∧Sat S F w r
def noQ:Exit→Act→World→Prop:=fun _ _ _=>False
theorem wp_noQ {o:Oper} {a:Act} {w:World} {K:Act→World→Prop} (h:o.wp P a w K noQ):o.wp P a w K Q:=by
 unfold Oper.wp at *;generalize (execOp a.eval o).run P w=r at *;cases r with
 |ok n w'=>
  cases n<;>simp only[Oper.upon] at h ⊢ <;>
   first
    |exact h
    |(exact Calls.mono h (fun e w'' he=>by
      cases e
      ·exact he
      ·exact False.elim he
      ·obtain⟨_,_,hf⟩:=he;exact False.elim hf))
 |halt x w'=>cases x<;>simp only[Oper.upon] at h ⊢<;>exact False.elim h
def StepL (P:Program) (ops:Array Oper) (J:World→Prop) (S:Nat→Value→World→Prop) (dep:Nat→List (Nat×Nat)) (olds:Nat→List Nat) (surv:Nat→List Nat) (a0:Act) (i:Nat) (o:Oper):Prop:=
 ∀(F:Nat→Value) (a:Act) (w:World),J w→SatD S F a w (dep i)→OldD a0 a (olds i) →
  ∀K:Act→World→Prop,(∀v w',J w'→S i v w'→(∀j∈surv i,∀u,S j u w→S j u w')→K (a.put o.dst v) w') →
   (Region.wanted o (yielded ops a.tmps)=true→o.wp P a w K noQ)∧(Region.wanted o (yielded ops a.tmps)=false→K (a.put o.dst undef) w)
def StepI (P:Program) (ops:Array Oper) (J:World→Prop) (S:Nat→Value→World→Prop) (dep:Nat→List (Nat×Nat)) (olds:Nat→List Nat) (surv:Nat→List Nat) (a0:Act) (I0:World→Prop) (ends:List Nat) (i:Nat) (o:Oper):Prop:=
 ∀(F:Nat→Value) (a:Act) (w:World),J w→SatD S F a w (dep i)→OldD a0 a (olds i)→I0 w →
  ∀K:Act→World→Prop,(∀v w',J w'→S i v w'→(∀j∈surv i,∀u,S j u w→S j u w')→(i∉ends→I0 w')→K (a.put o.dst v) w') →
   (Region.wanted o (yielded ops a.tmps)=true→o.wp P a w K noQ)∧(Region.wanted o (yielded ops a.tmps)=false→K (a.put o.dst undef) w)
def StepT (P:Program) (ops:Array Oper) (J:World→Prop) (S:Nat→Value→World→Prop) (dep:Nat→List (Nat×Nat)) (olds:Nat→List Nat) (surv:Nat→List Nat) (a0:Act) (I0:World→Prop) (ends:List Nat) (T:(Nat→Value)→World→Prop) (e:Nat) (i:Nat) (o:Oper):Prop:=
 ∀(F:Nat→Value) (a:Act) (w:World),J w→SatD S F a w (dep i)→OldD a0 a (olds i)→I0 w →
  ∀K:Act→World→Prop,(∀v w',J w'→S i v w'→(∀j∈surv i,∀u,S j u w→S j u w')→(i∉ends→I0 w')→(i=e→T (fun k=>if k=i then v else F k) w')→K (a.put o.dst v) w') →
   (Region.wanted o (yielded ops a.tmps)=true→o.wp P a w K noQ)∧(Region.wanted o (yielded ops a.tmps)=false→K (a.put o.dst undef) w)
def StepU (P:Program) (ops:Array Oper) (J:World→Prop) (S:Nat→Value→World→Prop) (dep:Nat→List (Nat×Nat)) (olds:Nat→List Nat) (surv:Nat→List Nat) (a0:Act) (I0:World→Prop) (ends late:List Nat) (T:(Nat→Value)→World→Prop) (e:Nat) (i:Nat) (o:Oper):Prop:=
 ∀(F:Nat→Value) (a:Act) (w:World),J w→SatD S F a w (dep i)→OldD a0 a (olds i)→(i∉late→I0 w) →
  ∀K:Act→World→Prop,(∀v w',J w'→S i v w'→(∀j∈surv i,∀u,S j u w→S j u w')→(i∉ends→I0 w')→(i=e→T (fun k=>if k=i then v else F k) w')→K (a.put o.dst v) w') →
   (Region.wanted o (yielded ops a.tmps)=true→o.wp P a w K noQ)∧(Region.wanted o (yielded ops a.tmps)=false→K (a.put o.dst undef) w)
def lastB (ops:Array Oper) (m:List Nat) (e:Nat):Bool:=(List.range ops.size).all fun i=>i==e||bef m i e
def endsB (ops:Array Oper) (m:List Nat) (ends:List Nat) (late:List Nat:=[]):Bool:=(List.range ops.size).all fun i=>late.contains i||ends.all fun k=>k==i||bef m i k
def AllL (R:Nat→Oper→Prop):Nat→List Oper→Prop
 |_,[]=>True
 |k,o :: r=>R k o∧AllL R (k+1) r
theorem AllL.get {R:Nat→Oper→Prop}:∀{l:List Oper} {k i:Nat} {o:Oper},AllL R k l→l[i]?=some o→R (k+i) o
 |[],_,_,_,_,h=>by simp at h
 |x :: r,k,0,o,ha,h=>by simp at h;subst h;exact ha.1
 |x :: r,k,i+1,o,ha,h=>by
  have:=AllL.get ha.2 (by simpa using h)
  rwa [Nat.add_assoc,Nat.add_comm 1 i] at this
def planB (ops:Array Oper) (dep:Nat→List (Nat×Nat)) (olds:Nat→List Nat) (surv:Nat→List Nat) (fin:List Nat) (m:List Nat) (size:Nat):Bool:=
 let n:=ops.size
 distinctB ops&&masksB ops m &&
 ((List.range n).all fun i=>match ops[i]? with
  |none=>true
  | some o=>o.after.all (fun e=>!Region.binds .any e||decide (e.on<i))&&(match o.dst with | some d=>decide (d<size) | none=>true) &&
    ((dep i).all fun p=>decide (p.1<n)&&decide ((ops[p.1]?).bind (·.dst)=some p.2)&&bef m p.1 i&&decide (p.2<size)) &&
    ((olds i).all fun t=>(List.range n).all fun j=>decide ((ops[j]?).bind (·.dst)≠some t)||bef m i j||j==i) &&
    ((dep i).all fun p=>(List.range n).all fun k=>k==p.1||k==i||bef m k p.1||bef m i k||(surv k).contains p.1)) &&
 (fin.all fun j=>decide (j<n)&&(List.range n).all fun k=>k==j||bef m k j||(surv k).contains j)
def putL (F:Nat→Value):Nat→List Oper→Act→Act
 |_,[],a=>a
 |k,o :: r,a=>putL F (k+1) r (a.put o.dst (F k))
theorem putL_facts (F:Nat→Value):∀(l:List Oper) (k:Nat) (a:Act),(putL F k l a).defers=a.defers∧(putL F k l a).tmps.size=a.tmps.size ∧
   (∀t:Nat,(∀o∈l,o.dst≠some t)→(putL F k l a).tmps[t]?=a.tmps[t]?) ∧
   (∀(i:Nat) (o:Oper) (d:Nat),l[i]?=some o→o.dst=some d→d<a.tmps.size→(∀(j:Nat) (oj:Oper),l[j]?=some oj→oj.dst=some d→j=i)→(putL F k l a).tmps[d]?=some (F (k+i)))
 |[],k,a=>⟨rfl,rfl,fun _ _=>rfl,fun i o d h=>by simp at h⟩
 |o :: r,k,a=>by
  obtain⟨h1,h2,h3,h4⟩:=putL_facts F r (k+1) (a.put o.dst (F k));have p1:(a.put o.dst (F k)).defers=a.defers:=by cases h:o.dst<;>rfl
  have p2:(a.put o.dst (F k)).tmps.size=a.tmps.size:=by cases h:o.dst<;>simp[Act.put]
  refine⟨h1.trans p1,h2.trans p2,fun t ht=>?_,fun i oi d hi hd hs hu=>?_⟩
  ·show (putL F (k+1) r (a.put o.dst (F k))).tmps[t]?=_
   rw[h3 t fun o' ho'=>ht o' (List.mem_cons_of_mem _ ho')];cases h:o.dst with
   |none=>rfl
   |some d=>simp only[Act.put];rw[Array.getElem?_setIfInBounds_ne (fun e=>ht o (List.mem_cons_self ..) (by rw[h,e]))]
  ·show (putL F (k+1) r (a.put o.dst (F k))).tmps[d]?=_
   cases i with
   |zero=>
    simp at hi;subst hi;rw[h3 d fun o' ho' hd'=>?_]
    ·simp only[hd,Act.put,Nat.add_zero];rw[Array.getElem?_setIfInBounds_self_of_lt hs]
    ·obtain⟨j,hj⟩:=List.getElem?_of_mem ho';have:=hu (j+1) o' (by simpa using hj) hd';omega
   |succ i=>
    rw[h4 i oi d (by simpa using hi) hd (by rw[p2];exact hs) fun j oj hj hdj=>by have:=hu (j+1) oj (by simpa using hj) hdj;omega]
    congr 2
    omega
theorem Act.same {a b:Act} (h1:a.defers=b.defers) (h2:∀t:Nat,a.tmps[t]?=b.tmps[t]?):a=b:=by
 obtain⟨x,y⟩:=a;obtain⟨x',y'⟩:=b;simp only at h1 h2;subst h1;have:x=x':=Array.ext_getElem? h2;rw[this]
theorem LinF.all {l:Array Bool} {F:Nat→Value} {a0 a:Act} (hd:distinctB ops=true) (h:LinF ops l F a0 a) (hs:∀(i:Nat) (o:Oper) (d:Nat),ops[i]?=some o→o.dst=some d→d<a0.tmps.size)
  (hl:∀j,j<ops.size→Ls l j):a=putL F 0 ops.toList a0:=by
 obtain⟨p1,p2,p3,p4⟩:=putL_facts F ops.toList 0 a0;refine Act.same (h.defers.trans p1.symm) fun t=>?_
 by_cases ht:∃(j:Nat) (o:Oper),ops[j]?=some o∧o.dst=some t
 ·obtain⟨j,o,hj,hdj⟩:=ht;have hlt:=(Array.getElem?_eq_some_iff.1 hj).1;rw[h.put j o t hj hdj (hl j hlt) (hs j o t hj hdj),p4 j o t (by simpa using hj) hdj (hs j o t hj hdj) fun k ok hk hdk=>distinct_spec hd (by simpa using hk) hj hdk hdj];simp
 ·rw[h.old t fun j o hj _ hdj=>ht ⟨j,o,hj,hdj⟩,p3 t fun o ho hdo=>?_];obtain⟨j,hj⟩:=List.getElem?_of_mem ho;exact ht ⟨j,o,by simpa using hj,hdo⟩
structure LinI (ops:Array Oper) (m:List Nat) (J:World→Prop) (S:Nat→Value→World→Prop) (surv:Nat→List Nat) (I0:World→Prop) (ends:List Nat) (T:(Nat→Value)→World→Prop) (e:Nat) (l:Array Bool) (F:Nat→Value) (a0 a:Act) (w:World):Prop where
 sz:l.size=ops.size
 closed:Closed ops l
 j:J w
 fr:LinF ops l F a0 a
 i0:(∀k∈ends,¬Ls l k)→I0 w
 t:Ls l e→T F w
 sat:∀j,j<ops.size→Ls l j→(∀k,Ls l k→k≠j→bef m k j=false→j∈surv k)→S j (F j) w
theorem count_le {l:Array Bool} {i:Nat} (h:l.getD i true=false):(l.setIfInBounds i true).toList.count false+1=l.toList.count false:=by
 have hlt:i<l.size:=by
  rcases Nat.lt_or_ge i l.size with h'|h'
  ·exact h'
  ·simp[Array.getElem?_eq_none h'] at h
 obtain⟨l⟩:=l;have hi:l[i]?=some false:=by
  have h':l[i]?.getD true=false:=by simpa using h
  cases hq:l[i]? with
  |none=>rw[hq] at h';cases h'
  |some b=>rw[hq] at h';simp at h';rw[h']
 clear h hlt;simp only[List.setIfInBounds_toArray]
 induction l generalizing i with
 |nil=>simp at hi
 |cons x r ih=>
  cases i with
  |zero=>simp at hi;subst hi;simp
  |succ i=>
   have:=ih (i:=i) (by simpa using hi);simp only[List.set_cons_succ,List.count_cons];omega
theorem lin_go {J:World→Prop} {S:Nat→Value→World→Prop} {dep:Nat→List (Nat×Nat)} {olds surv:Nat→List Nat} {fin m:List Nat} {I0:World→Prop} {ends late:List Nat} {T:(Nat→Value)→World→Prop} {e0:Nat} {a0:Act} (hp:planB ops dep olds surv fin m a0.tmps.size=true) (he:endsB ops m ends late=true) (hla:lastB ops m e0=true∨ops.size≤e0)
  (hstep:AllL (StepU P ops J S dep olds surv a0 I0 ends late T e0) 0 ops.toList)
  (hfin:∀F w,J w→Sat S F w fin→(e0<ops.size→T F w)→Q .normal (putL F 0 ops.toList a0) w) :
  ∀fuel (l:Array Bool) (F:Nat→Value) (a:Act) (w:World),l.toList.count false≤fuel→LinI ops m J S surv I0 ends T e0 l F a0 a w→wpAny P .any ops Q fuel l a w:=by
 unfold planB at hp;simp only[Bool.and_eq_true] at hp;obtain⟨⟨⟨hdist,hmask⟩,hall⟩,hfinB⟩:=hp;rw[List.all_eq_true] at hall hfinB;have hop:∀(i:Nat) (o:Oper),ops[i]?=some o→(∀e∈o.after,Region.binds .any e=true→e.on<i)∧(∀d,o.dst=some d→d<a0.tmps.size) ∧
   (∀p∈dep i,p.1<ops.size∧(ops[p.1]?).bind (·.dst)=some p.2∧bef m p.1 i=true∧p.2<a0.tmps.size) ∧
   (∀t∈olds i,∀j,j<ops.size→(ops[j]?).bind (·.dst)≠some t∨bef m i j=true∨j=i) ∧
   (∀p∈dep i,∀k,k<ops.size→k=p.1∨k=i∨bef m k p.1=true∨bef m i k=true∨p.1∈surv k):=by
  intro i o hi;have h:=hall i (List.mem_range.2 (Array.getElem?_eq_some_iff.1 hi).1);simp only[hi,Bool.and_eq_true,List.all_eq_true] at h;obtain⟨⟨⟨⟨h1,h2⟩,h3⟩,h4⟩,h5⟩:=h;refine⟨fun e he hb=>?_,fun d hd=>by rw[hd] at h2;simpa using h2,fun p hp=>?_,fun t ht j hj=>?_,fun p hp k hk=>?_⟩
  ·have:=Array.all_eq_true_iff_forall_mem.1 h1 e he
   simpa[hb] using this
  ·have:=h3 p hp;simp only[decide_eq_true_eq] at this;exact⟨this.1.1.1,this.1.1.2,this.1.2,this.2⟩
  ·have:=h4 t ht j (List.mem_range.2 hj);simp only[Bool.or_eq_true,decide_eq_true_eq,beq_iff_eq,or_assoc] at this;exact this
  ·have:=h5 p hp k (List.mem_range.2 hk);simp only[Bool.or_eq_true,beq_iff_eq,List.contains_iff_mem] at this
   rcases this with (((h|h)|h)|h)|h
   ·exact .inl h
   ·exact .inr (.inl h)
   ·exact .inr (.inr (.inl h))
   ·exact .inr (.inr (.inr (.inl h)))
   ·exact .inr (.inr (.inr (.inr h)))
 have hend:∀(l:Array Bool) (F:Nat→Value) (a:Act) (w:World),LinI ops m J S surv I0 ends T e0 l F a0 a w→Region.ready .any ops l=[]→Q .normal a w:=by
  intro l F a w hI hr;have hl:∀n j,j≤n→j<ops.size→Ls l j:=by
   intro n
   induction n with
   |zero=>
    intro j hj hjs;have hj0:j=0:=by omega
    subst hj0;by_cases h:Ls l 0
    ·exact h
    ·exfalso
     have:(0:Nat)∈Region.ready .any ops l:=mem_ready.2 ⟨by
      unfold Ls at h;have hlt:0<l.size:=by rw[hI.sz];exact hjs
      simp[hlt] at h ⊢;exact h,ops[0],by simp[hjs],fun e he hb=>by have:=(hop 0 ops[0] (by simp[hjs])).1 e he hb;omega⟩
     rw[hr] at this;cases this
   |succ n ih=>
    intro j hj hjs;by_cases h:Ls l j
    ·exact h
    ·exfalso
     have:j∈Region.ready .any ops l:=mem_ready.2 ⟨by
      unfold Ls at h;have hlt:j<l.size:=by rw[hI.sz];exact hjs
      simp[hlt] at h ⊢;exact h,ops[j],by simp[hjs],fun e he hb=>by
       have hlt:=(hop j ops[j] (by simp[hjs])).1 e he hb;exact ih e.on (by omega) (by omega)⟩
     rw[hr] at this;cases this
  have hall2:∀j,j<ops.size→Ls l j:=fun j hj=>hl j j (Nat.le_refl _) hj
  rw[hI.fr.all hdist (fun i o d hi hd=>(hop i o hi).2.1 d hd) hall2];refine hfin F w hI.j ?_ (fun h=>hI.t (hall2 e0 h));have:∀js:List Nat,(∀j∈js,j∈fin)→Sat S F w js:=by
   intro js
   induction js with
   |nil=>intro _;trivial
   |cons j r ih=>
    intro h;have hj:=hfinB j (h j (List.mem_cons_self ..));simp only[Bool.and_eq_true,decide_eq_true_eq,List.all_eq_true] at hj;refine⟨hI.sat j hj.1 (hall2 j hj.1) fun k hk hne hb=>?_,ih fun x hx=>h x (List.mem_cons_of_mem _ hx)⟩;have hks:k<ops.size:=by
     rw[←hI.sz]
     rcases Nat.lt_or_ge k l.size with h'|h'
     ·exact h'
     ·unfold Ls at hk;simp[Array.getElem?_eq_none h'] at hk
    have:=hj.2 k (List.mem_range.2 hks);simp only[Bool.or_eq_true,beq_iff_eq,List.contains_iff_mem,hb,hne,false_or,Bool.false_eq_true] at this;exact this
  exact this fin fun _ h=>h
 intro fuel
 induction fuel with
 |zero=>
  intro l F a w hc hI;have hr:Region.ready .any ops l=[]:=by
   refine List.eq_nil_iff_forall_not_mem.2 fun i hi=>?_
   have:=count_le (mem_ready.1 hi).1;omega
  exact⟨hr,hend l F a w hI hr⟩
 |succ fuel ih=>
  intro l F a w hc hI;refine⟨hend l F a w hI,fun i hi=>?_⟩;obtain⟨hun,o,ho,hdeps⟩:=mem_ready.1 hi;have hcnt:=count_le hun;have his:i<ops.size:=(Array.getElem?_eq_some_iff.1 ho).1;have hil:i<l.size:=by rw[hI.sz];exact his
  have hnl:¬Ls l i:=fun h=>by unfold Ls at h;simp[hil] at h hun;rw[hun] at h;cases h
  obtain⟨g1,g2,g3,g4,g5⟩:=hop i o ho;have hbl:∀k j,k<ops.size→j<ops.size→bef m k j=true→Ls l j→Ls l k:=fun k j hk hj hb hl=>bef_listed hmask hI.closed _ j k (Nat.lt_succ_self _) hj hk hb fun o' ho'=>hI.closed j o' ho' hl
  have hst:=AllL.get hstep (i:=i) (o:=o) (by simpa using ho);rw[Nat.zero_add] at hst;have hsat:∀ps:List (Nat×Nat),(∀p∈ps,p∈dep i)→SatD S F a w ps:=by
   intro ps
   induction ps with
   |nil=>intro _;trivial
   |cons p r ihp=>
    intro h;have hp:=h p (List.mem_cons_self ..);obtain⟨e0,e1,e2,e3⟩:=g3 p hp;have hpl:Ls l p.1:=bef_listed hmask hI.closed _ i p.1 (Nat.lt_succ_self _) his e0 e2 (fun o' ho'=>by rw[ho] at ho';cases ho';exact hdeps);obtain⟨op,hop1,hop2⟩:∃op,ops[p.1]?=some op∧op.dst=some p.2:=by
     cases hq:ops[p.1]? with
     |none=>rw[hq] at e1;cases e1
     |some op=>rw[hq] at e1;exact⟨op,rfl,by simpa using e1⟩
    refine⟨hI.sat p.1 (Array.getElem?_eq_some_iff.1 hop1).1 hpl fun k hk hne hb=>?_,hI.fr.put p.1 op p.2 hop1 hop2 hpl e3,ihp fun x hx=>h x (List.mem_cons_of_mem _ hx)⟩;have hks:k<ops.size:=by
     rw[←hI.sz]
     rcases Nat.lt_or_ge k l.size with h'|h'
     ·exact h'
     ·unfold Ls at hk;simp[Array.getElem?_eq_none h'] at hk
    rcases g5 p hp k hks with h1|h1|h1|h1|h1
    ·exact absurd h1 hne
    ·exact absurd (h1▸hk) hnl
    ·rw[hb] at h1;cases h1
    ·exact absurd (hbl _ _ his hks h1 hk) hnl
    ·exact h1
  have hold:∀ts:List Nat,(∀t∈ts,t∈olds i)→OldD a0 a ts:=by
   intro ts
   induction ts with
   |nil=>intro _;trivial
   |cons t r iht=>
    intro h;refine⟨hI.fr.old t fun j oj hj hlj hd=>?_,iht fun x hx=>h x (List.mem_cons_of_mem _ hx)⟩;have hjs:=(Array.getElem?_eq_some_iff.1 hj).1
    rcases g4 t (h t (List.mem_cons_self ..)) j hjs with h1|h1|h1
    ·exact h1 (by rw[hj];simpa using hd)
    ·exact hnl (hbl _ _ his hjs h1 hlj)
    ·exact hnl (h1▸hlj)
  have hend0:i∉late→∀k∈ends,¬Ls l k:=by
   intro hlate k hk hkl;unfold endsB at he;have h0:=List.all_eq_true.1 he i (List.mem_range.2 his);simp only[Bool.or_eq_true,List.contains_iff_mem] at h0;have h1:=List.all_eq_true.1 (h0.resolve_left hlate) k hk;simp only[Bool.or_eq_true,beq_iff_eq] at h1
   rcases h1 with h1|h1
   ·exact hnl (h1▸hkl)
   ·have hks:k<ops.size:=by
     rw[←hI.sz]
     rcases Nat.lt_or_ge k l.size with h'|h'
     ·exact h'
     ·unfold Ls at hkl;simp[Array.getElem?_eq_none h'] at hkl
    exact hnl (hbl _ _ his hks h1 hkl)
  have hnext:∀v w',J w'→S i v w'→(∀j∈surv i,∀u,S j u w→S j u w')→(i∉ends→I0 w')→(i=e0→T (fun k=>if k=i then v else F k) w')→wpAny P .any ops Q fuel (l.setIfInBounds i true) (a.put o.dst v) w':=by
   intro v w' hJ hS hsv hi0 hti;refine ih (l.setIfInBounds i true) (fun k=>if k=i then v else F k) (a.put o.dst v) w' (by omega) ⟨by simpa using hI.sz,?_,hJ,hI.fr.step hdist ho hil v,?_,?_,?_⟩
   ·intro k ok hk hkl e he hb
    rcases Ls.set.1 hkl with h|⟨h,_⟩
    ·exact Ls.set.2 (.inl (hI.closed k ok hk h e he hb))
    ·subst h;rw[ho] at hk;cases hk;exact Ls.set.2 (.inl (hdeps e he hb))
   ·intro hnew;exact hi0 (fun hm=>hnew i hm (Ls.set.2 (.inr ⟨rfl,hil⟩)))
   ·intro hle
    rcases Ls.set.1 hle with h|⟨h,_⟩
    ·have hes:e0<ops.size:=by
      rw[←hI.sz]
      rcases Nat.lt_or_ge e0 l.size with h'|h'
      ·exact h'
      ·unfold Ls at h;simp[Array.getElem?_eq_none h'] at h
     rcases hla with hla|hla
     ·unfold lastB at hla;have h1:=List.all_eq_true.1 hla i (List.mem_range.2 his);simp only[Bool.or_eq_true,beq_iff_eq] at h1
      rcases h1 with h1|h1
      ·exact hti h1
      ·exact absurd (hbl _ _ his hes h1 h) hnl
     ·omega
    ·exact hti h.symm
   ·intro k hks hkl hk;by_cases hki:k=i
    ·subst hki;rw[if_pos rfl];exact hS
    ·rw[if_neg hki];have hkl':=(Ls.set.1 hkl).resolve_right fun e=>hki e.1
     have h1:=hI.sat k hks hkl' fun m hm hne hb=>hk m (Ls.set.2 (.inl hm)) hne hb
     by_cases hb:bef m i k=true
     ·exact absurd (hbl _ _ his hks hb hkl') hnl
     ·exact hsv k (hk i (Ls.set.2 (.inr ⟨rfl,hil⟩)) (Ne.symm hki) (by simpa using hb)) _ h1
  obtain⟨s1,s2⟩:=hst F a w hI.j (hsat _ fun _ h=>h) (hold _ fun _ h=>h) (fun hlate=>hI.i0 (hend0 hlate)) (wpAny P .any ops Q fuel (l.setIfInBounds i true)) hnext;unfold wpOp;simp only[ho]
  split
  ·rename_i hw;exact .inl (wp_noQ (s1 hw))
  ·rename_i hw;exact s2 (by simpa using hw)
theorem ls_none (n i:Nat):¬Ls (Array.replicate n false) i:=by
 unfold Ls;intro h;by_cases hi:i<n
 ·simp[hi] at h
 ·simp[hi] at h
theorem stepI_of {ops:Array Oper} {J:World→Prop} {S:Nat→Value→World→Prop} {dep:Nat→List (Nat×Nat)} {olds surv:Nat→List Nat} {a0:Act}:∀{l:List Oper} {k:Nat},
  AllL (StepL P ops J S dep olds surv a0) k l→AllL (StepI P ops J S dep olds surv a0 (fun _=>True) []) k l
 |[],_,_=>trivial
 |_ :: _,_,h=>⟨fun F a w hJ hS hO _ K hK=>h.1 F a w hJ hS hO K (fun v w' h1 h2 h3=>hK v w' h1 h2 h3 (fun _=>trivial)),stepI_of h.2⟩
theorem stepT_of {ops:Array Oper} {J:World→Prop} {S:Nat→Value→World→Prop} {dep:Nat→List (Nat×Nat)} {olds surv:Nat→List Nat} {a0:Act} {I0:World→Prop} {ends:List Nat} {e:Nat}:∀{l:List Oper} {k:Nat},
  AllL (StepI P ops J S dep olds surv a0 I0 ends) k l→AllL (StepT P ops J S dep olds surv a0 I0 ends (fun _ _=>True) e) k l
 |[],_,_=>trivial
 |_ :: _,_,h=>⟨fun F a w hJ hS hO hI K hK=>h.1 F a w hJ hS hO hI K (fun v w' h1 h2 h3 h4=>hK v w' h1 h2 h3 h4 (fun _=>trivial)),stepT_of h.2⟩
theorem stepU_of {ops:Array Oper} {J:World→Prop} {S:Nat→Value→World→Prop} {dep:Nat→List (Nat×Nat)} {olds surv:Nat→List Nat} {a0:Act} {I0:World→Prop} {ends:List Nat} {T:(Nat→Value)→World→Prop} {e:Nat}:∀{l:List Oper} {k:Nat},
  AllL (StepT P ops J S dep olds surv a0 I0 ends T e) k l→AllL (StepU P ops J S dep olds surv a0 I0 ends [] T e) k l
 |[],_,_=>trivial
 |_ :: _,_,h=>⟨fun F a w hJ hS hO hI K hK=>h.1 F a w hJ hS hO (hI (by simp)) K hK,stepU_of h.2⟩
theorem wp_region_linU {id:Nat} {os:List Oper} (hm:P.follows .mixedOrders=true) (J:World→Prop) (S:Nat→Value→World→Prop) (dep:Nat→List (Nat×Nat)) (olds surv:Nat→List Nat) (fin:List Nat) (m:List Nat) (I0:World→Prop) (ends late:List Nat) (T:(Nat→Value)→World→Prop) (e:Nat) {a0:Act} {w0:World} (size:Nat)
  (hsz:a0.tmps.size=size) (hp:planB os.toArray dep olds surv fin m size=true) (he:endsB os.toArray m ends late=true) (hla:lastB os.toArray m e=true∨os.toArray.size≤e) (hJ:J w0.drew) (hI:I0 w0.drew) (hstep:AllL (StepU P os.toArray J S dep olds surv a0 I0 ends late T e) 0 os)
  (hfin:∀F w,J w→Sat S F w fin→(e<os.toArray.size→T F w)→Q .normal (putL F 0 os a0) w):(Code.region id os.toArray true).wp P Q a0 w0:=by
 refine wp_region_any hm ?_;subst hsz;refine lin_go (J:=J) (S:=S) hp he hla (by simpa using hstep) (by simpa using hfin) _ _ (fun _=>undef) a0 w0.drew (by simp) ⟨by simp,?_,hJ,⟨rfl,rfl,?_,fun _ _=>rfl⟩,fun _=>hI,fun h=>absurd h (ls_none _ _),?_⟩
 ·intro i o _ h;exact absurd h (ls_none _ _)
 ·intro j o d _ _ h;exact absurd h (ls_none _ _)
 ·intro j _ h;exact absurd h (ls_none _ _)
theorem wp_region_linT {id:Nat} {os:List Oper} (hm:P.follows .mixedOrders=true) (J:World→Prop) (S:Nat→Value→World→Prop) (dep:Nat→List (Nat×Nat)) (olds surv:Nat→List Nat) (fin:List Nat) (m:List Nat) (I0:World→Prop) (ends:List Nat) (T:(Nat→Value)→World→Prop) (e:Nat) {a0:Act} {w0:World} (size:Nat)
  (hsz:a0.tmps.size=size) (hp:planB os.toArray dep olds surv fin m size=true) (he:endsB os.toArray m ends=true) (hla:lastB os.toArray m e=true∨os.toArray.size≤e) (hJ:J w0.drew) (hI:I0 w0.drew) (hstep:AllL (StepT P os.toArray J S dep olds surv a0 I0 ends T e) 0 os)
  (hfin:∀F w,J w→Sat S F w fin→(e<os.toArray.size→T F w)→Q .normal (putL F 0 os a0) w):(Code.region id os.toArray true).wp P Q a0 w0:=
 wp_region_linU hm J S dep olds surv fin m I0 ends [] T e size hsz hp he hla hJ hI (stepU_of hstep) hfin
theorem wp_region_linI {id:Nat} {os:List Oper} (hm:P.follows .mixedOrders=true) (J:World→Prop) (S:Nat→Value→World→Prop) (dep:Nat→List (Nat×Nat)) (olds surv:Nat→List Nat) (fin:List Nat) (m:List Nat) (I0:World→Prop) (ends:List Nat) {a0:Act} {w0:World} (size:Nat)
  (hsz:a0.tmps.size=size) (hp:planB os.toArray dep olds surv fin m size=true) (he:endsB os.toArray m ends=true) (hJ:J w0.drew) (hI:I0 w0.drew) (hstep:AllL (StepI P os.toArray J S dep olds surv a0 I0 ends) 0 os)
  (hfin:∀F w,J w→Sat S F w fin→Q .normal (putL F 0 os a0) w):(Code.region id os.toArray true).wp P Q a0 w0:=
 wp_region_linT hm J S dep olds surv fin m I0 ends (fun _ _=>True) os.toArray.size size hsz hp he (.inr (Nat.le_refl _)) hJ hI (stepT_of hstep) (fun F w h1 h2 _=>hfin F w h1 h2)
theorem wp_region_lin {id:Nat} {os:List Oper} (hm:P.follows .mixedOrders=true) (J:World→Prop) (S:Nat→Value→World→Prop) (dep:Nat→List (Nat×Nat)) (olds surv:Nat→List Nat) (fin:List Nat) (m:List Nat) {a0:Act} {w0:World} (size:Nat)
  (hsz:a0.tmps.size=size) (hp:planB os.toArray dep olds surv fin m size=true) (hJ:J w0.drew) (hstep:AllL (StepL P os.toArray J S dep olds surv a0) 0 os)
  (hfin:∀F w,J w→Sat S F w fin→Q .normal (putL F 0 os a0) w):(Code.region id os.toArray true).wp P Q a0 w0:=
 wp_region_linI hm J S dep olds surv fin m (fun _=>True) [] size hsz hp (by unfold endsB;simp) hJ trivial (stepI_of hstep) hfin
theorem stepL_plain {ops:Array Oper} {J:World→Prop} {S:Nat→Value→World→Prop} {dep:Nat→List (Nat×Nat)} {olds surv:Nat→List Nat} {a0:Act} {i:Nat} {o:Oper} (hg:o.guard=none)
  (h:∀(F:Nat→Value) (a:Act) (w:World),J w→SatD S F a w (dep i)→OldD a0 a (olds i) →
   ∀K:Act→World→Prop,(∀v w',J w'→S i v w'→(∀j∈surv i,∀u,S j u w→S j u w')→K (a.put o.dst v) w')→o.wp P a w K noQ):StepL P ops J S dep olds surv a0 i o:=
 fun F a w hJ hS hO K hK=>⟨fun _=>h F a w hJ hS hO K hK,fun hw=>by simp[Region.wanted,hg] at hw⟩
end
section
variable {P:Program} {ops:Array Oper} {Q:Exit→Act→World→Prop} {F:Act→World→Prop} {S:World→Prop}
def needsB (ops:Array Oper):Nat→Nat→Nat→Bool
 |0,_,_=>false
 |f+1,e,i=>match ops[e]? with
  |none=>false
  | some oe=>oe.after.any fun x=>Region.binds .any x&&(x.on==i||needsB ops f x.on i)
theorem needs_spec {l:Array Bool} (hc:Closed ops l):∀f e i,needsB ops f e i=true→Ls l e→Ls l i:=by
 intro f
 induction f with
 |zero=>intro e i h;cases h
 |succ f ih=>
  intro e i h he;unfold needsB at h
  split at h
  ·cases h
  ·rename_i oe ho
   obtain⟨x,hx,hb⟩:=Array.any_eq_true'.1 h;simp only[Bool.and_eq_true,Bool.or_eq_true,beq_iff_eq] at hb;have h1:=hc e oe ho he x hx hb.1
   rcases hb.2 with h2|h2
   ·rw[←h2];exact h1
   ·exact ih _ _ h2 h1
theorem closed_set {l:Array Bool} {j:Nat} (hc:Closed ops l) (hj:j∈Region.ready .any ops l):Closed ops (l.setIfInBounds j true):=by
 obtain⟨_,oj,hoj,hall⟩:=mem_ready.1 hj;intro i o ho hl e he hb;by_cases hij:j=i
 ·subst hij;have:oj=o:=Option.some.inj (hoj.symm.trans ho);subst this;exact getD_set_true (hall e he hb)
 ·have hl2:l.getD i false=true:=by
   have h1:(l.setIfInBounds j true).getD i false=true:=hl
   rwa [getD_set_ne false hij] at h1
  exact getD_set_true (hc i o ho hl2 e he hb)
theorem wpOp_noQ {i:Nat} {K:Act→World→Prop} {a:Act} {w:World} (h:wpOp P ops noQ i K a w):wpOp P ops Q i K a w:=by
 unfold wpOp at *
 split
 ·rename_i ho;simpa[ho] using h
 ·rename_i o ho
  simp only[ho] at h
  split
  ·rename_i hw
   simp only[hw,if_true] at h
   rcases h with h|⟨_,_,_,hf⟩
   ·exact .inl (wp_noQ h)
   ·exact False.elim hf
  ·rename_i hw;simp only[hw] at h;exact h
def wpAnyE (P:Program) (ops:Array Oper) (F:Act→World→Prop) (S:World→Prop) (e:Nat):Nat→Array Bool→Act→World→Prop
 |0,l,a,w=>Region.ready .any ops l=[]∧F a w
 |f+1,l,a,w=>(Region.ready .any ops l=[]→F a w) ∧
  ∀i∈Region.ready .any ops l,wpOp P ops noQ i (fun a' w'=>((l.setIfInBounds i true).getD e false=false→S w')∧wpAnyE P ops F S e f (l.setIfInBounds i true) a' w') a w
theorem wpAny_of_E {e:Nat}:∀(f:Nat) (l:Array Bool) (a:Act) (w:World),wpAnyE P ops (Q .normal) S e f l a w→wpAny P .any ops Q f l a w
 |0,_,_,_,h=>h
 |f+1,_,_,_,h=>⟨h.1,fun i hi=>wpOp_mono (fun a' w' h'=>wpAny_of_E f _ a' w' h'.2) (wpOp_noQ (h.2 i hi))⟩
theorem wpAnyE_first {c:Bool} {i e:Nat} {oi:Oper} {v:Value} (hi:ops[i]?=some oi) (hsel:∀(j:Nat) (o:Oper) cs b,ops[j]?=some o→o.op≠.select cs b) (hne:i≠e)
  (hbe:c=true→∀l,Closed ops l→l.size=ops.size→l.getD i true=false→l.getD e false=false) :
  ∀(f:Nat) (l:Array Bool) (a:Act) (w:World),Closed ops l→l.size=ops.size →
   (∀j oj,ops[j]?=some oj→j≠i→l.getD j true=false→(∀e∈oj.after,Region.binds .any e=true→e.on≠i)→oi.apart ops oj=true) →
   i∈Region.ready .any ops l→YieldsIf P ops (fun w=>c=true→S w) oi v a→(l.getD e false=false→S w) →
   wpAnyE P ops F S e f (l.setIfInBounds i true) (a.put oi.dst v) w→wpAnyE P ops F S e (f+1) l a w:=by
 intro f
 induction f with
 |zero=>
  intro l a w hc hz _ hr hy hS H;refine⟨fun h=>(by rw[h] at hr;cases hr),fun j hj=>?_⟩;by_cases hji:j=i
  ·subst hji;exact hy.wpOp hi (fun hh=>hS (hbe hh l hc hz (mem_ready.1 hr).1)) ⟨fun hh=>hS (by rw[getD_set_ne false hne] at hh;exact hh),H⟩
  ·have:=ready_mono hj hji;rw[H.1] at this;cases this
 |succ f ih=>
  intro l a w hc hz hfree hr hy hS H;refine⟨fun h=>(by rw[h] at hr;cases hr),fun j hj=>?_⟩;by_cases hji:j=i
  ·subst hji;exact hy.wpOp hi (fun hh=>hS (hbe hh l hc hz (mem_ready.1 hr).1)) ⟨fun hh=>hS (by rw[getD_set_ne false hne] at hh;exact hh),H⟩
  ·have h1:=H.2 j (ready_mono hj hji);obtain⟨hjun,oj,hoj,hall⟩:=mem_ready.1 hj;have hnot:∀e∈oj.after,Region.binds .any e=true→e.on≠i:=fun e he hb heq=>by
    have h1:=hall e he hb;have h0:=(mem_ready.1 hr).1;rw[heq] at h1
    rcases Nat.lt_or_ge i l.size with h'|h'
    ·simp[h'] at h0 h1;rw[h0] at h1;cases h1
    ·simp[Array.getElem?_eq_none h'] at h1
   have h2:=wpOp_putIf hoj (hfree j oj hoj hji hjun hnot) (fun cs b=>hsel i oi cs b hi) (fun cs b=>hsel j oj cs b hoj) (fun _ _ _ h=>h) hy h1;have hfree':∀k ok,ops[k]?=some ok→k≠i→(l.setIfInBounds j true).getD k true=false →
     (∀e∈ok.after,Region.binds .any e=true→e.on≠i)→oi.apart ops ok=true:=fun k ok hk hki hun hno=>by
    refine hfree k ok hk hki ?_ hno;by_cases hjk:j=k
    ·subst hjk;exact hjun
    ·rw[getD_set_ne true hjk] at hun;exact hun
   refine wpOp_mono (fun a' w' h3=>?_) h2;have hS':(l.setIfInBounds j true).getD e false=false→S w':=fun hh=>h3.2.1 (by
    rw[Array.setIfInBounds_comm _ _ (Ne.symm hji),getD_set_ne false hne];exact hh)
   refine⟨hS',ih (l.setIfInBounds j true) a' w' (closed_set hc hj) (by simpa using hz) hfree' (ready_mono hr (Ne.symm hji)) h3.1 hS' ?_⟩;rw[Array.setIfInBounds_comm _ _ hji];exact h3.2.2
def wpOrd (P:Program) (ops:Array Oper) (F:Act→World→Prop) (S:World→Prop):List (Nat×Nat)→Act→World→Prop
 |[],a,w=>F a w
 |(c,i) :: r,a,w=>∃o,ops[i]?=some o ∧
  (if c=0 then ∃v,YieldsIf P ops (fun w=>true=true→S w) o v a∧wpOrd P ops F S r (a.put o.dst v) w
   else if c=1 then ∃v,YieldsIf P ops (fun w=>false=true→S w) o v a∧wpOrd P ops F S r (a.put o.dst v) w
   else if c=2 then wpOp P ops noQ i (fun a' w'=>S w'∧wpOrd P ops F S r a' w') a w
   else wpOp P ops noQ i (fun a' w'=>wpOrd P ops F S r a' w') a w)
def ordB (ops:Array Oper) (e:Nat):List (Nat×Nat)→Array Bool→Bool
 |[],l=>(Region.ready .any ops l).isEmpty
 |(c,i) :: r,l=>
  (if c=0 then (Region.ready .any ops l).contains i&&Region.free .any ops l i&&!(i==e)&&(decide (ops.size≤e)||needsB ops ops.size e i)
   else if c=1 then (Region.ready .any ops l).contains i&&Region.free .any ops l i&&!(i==e)
   else if c=2 then decide (Region.ready .any ops l=[i])&&!(i==e)
   else decide (Region.ready .any ops l=[i])&&(i==e||l.getD e false))&&ordB ops e r (l.setIfInBounds i true)
theorem ord_sound {e:Nat} (hsel:Region.noSelect ops=true):∀(r:List (Nat×Nat)) (l:Array Bool) (a:Act) (w:World),ordB ops e r l=true→Closed ops l→l.size=ops.size→(l.getD e false=false→S w) →
  wpOrd P ops F S r a w→wpAnyE P ops F S e r.length l a w
 |[],l,a,w,hB,_,_,_,h=>⟨by simpa[ordB] using hB,h⟩
 |(c,i) :: r,l,a,w,hB,hc,hz,hS,⟨o,ho,h⟩=>by
  rw[ordB,Bool.and_eq_true] at hB;obtain⟨hB,hR⟩:=hB;by_cases h0:c=0
  ·rw[if_pos h0] at hB h;simp only[Bool.and_eq_true,Bool.or_eq_true,decide_eq_true_eq,Bool.not_eq_true',beq_eq_false_iff_ne,ne_eq] at hB;obtain⟨⟨⟨h1,h2⟩,h3⟩,h4⟩:=hB;obtain⟨v,hy,h⟩:=h;have hr:i∈Region.ready .any ops l:=by simpa using h1
   refine wpAnyE_first (c:=true) ho (Region.noSelect_spec hsel) h3 (fun _ l' hc' hz' hu=>?_) r.length l a w hc hz (Region.free_spec ho h2) hr hy hS (ord_sound hsel r _ _ _ hR (closed_set hc hr) (by simpa using hz) (fun hh=>hS (by rw[getD_set_ne false h3] at hh;exact hh)) h)
   rcases h4 with h4|h4
   ·simp[Array.getElem?_eq_none (show l'.size≤e by omega)]
   ·cases he:l'.getD e false with
    |false=>rfl
    |true=>
     have h5:l'.getD i false=true:=needs_spec hc' _ _ _ h4 he
     rcases Nat.lt_or_ge i l'.size with h'|h'
     ·simp[h'] at hu h5;rw[hu] at h5;cases h5
     ·simp[Array.getElem?_eq_none h'] at h5
  ·rw[if_neg h0] at hB h;by_cases h10:c=1
   ·rw[if_pos h10] at hB h;simp only[Bool.and_eq_true,Bool.not_eq_true',beq_eq_false_iff_ne,ne_eq] at hB;obtain⟨⟨h1,h2⟩,h3⟩:=hB;obtain⟨v,hy,h⟩:=h;have hr:i∈Region.ready .any ops l:=by simpa using h1
    exact wpAnyE_first (c:=false) ho (Region.noSelect_spec hsel) h3 (fun hh=>by cases hh) r.length l a w hc hz (Region.free_spec ho h2) hr hy hS (ord_sound hsel r _ _ _ hR (closed_set hc hr) (by simpa using hz) (fun hh=>hS (by rw[getD_set_ne false h3] at hh;exact hh)) h)
   ·rw[if_neg h10] at hB h;have hr1:Region.ready .any ops l=[i]:=by
     by_cases h2:c=2
     ·rw[if_pos h2] at hB;simp only[Bool.and_eq_true,decide_eq_true_eq] at hB;exact hB.1
     ·rw[if_neg h2] at hB;simp only[Bool.and_eq_true,decide_eq_true_eq] at hB;exact hB.1
    have hri:i∈Region.ready .any ops l:=by rw[hr1];exact List.mem_singleton.2 rfl
    refine⟨fun hh=>(by rw[hr1] at hh;cases hh),fun j hj=>?_⟩;rw[hr1] at hj;obtain rfl:=List.mem_singleton.1 hj;by_cases h2:c=2
    ·rw[if_pos h2] at h;exact wpOp_mono (fun a' w' hk=>⟨fun _=>hk.1,ord_sound hsel r _ _ _ hR (closed_set hc hri) (by simpa using hz) (fun _=>hk.1) hk.2⟩) h
    ·rw[if_neg h2] at h hB;simp only[Bool.and_eq_true,Bool.or_eq_true,beq_iff_eq] at hB;have hlt:j<l.size:=by rw[hz];exact (Array.getElem?_eq_some_iff.1 ho).1
     have hon:(l.setIfInBounds j true).getD e false=false→False:=by
      rcases hB.2 with hje|hje
      ·rw[←hje];simp[hlt]
      ·rw[getD_set_true hje];simp
     exact wpOp_mono (fun a' w' hk=>⟨fun hh=>(hon hh).elim,ord_sound hsel r _ _ _ hR (closed_set hc hri) (by simpa using hz) (fun hh=>(hon hh).elim) hk⟩) h
theorem wp_onlyN {o:Oper} {a:Act} {w:World} {K:Act→World→Prop} {G:Act→World→Prop} (h:o.wp P a w K (fun e a w=>e=.normal∧G a w)):o.wp P a w K noQ:=by
 unfold Oper.wp at *;generalize (execOp a.eval o).run P w=r at *;cases r with
 |ok n w'=>
  cases n<;>simp only[Oper.upon] at h ⊢ <;>
   first
    |exact h
    |(exact Calls.mono h (fun e w'' he=>by
      cases e
      ·exact he
      ·exact absurd he.1 (by simp)
      ·obtain⟨_,_,hf,_⟩:=he;exact absurd hf (by simp)))
 |halt x w'=>cases x<;>simp only[Oper.upon] at h ⊢<;>first|exact False.elim h|exact absurd h.1 (by simp)
theorem op_of_list {i:Nat} {a:Act} {w:World} {o:Oper} {G:Act→World→Prop} (ho:ops[i]?=some o) (h:wpList P ops (fun e a w=>e=.normal∧G a w) [o] a w):wpOp P ops noQ i G a w:=by
 have h1:wpOp P ops (fun e a w=>e=.normal∧G a w) i (wpList P ops (fun e a w=>e=.normal∧G a w) []) a w:=by
  unfold wpOp;simp only[ho];exact h
 unfold wpOp at h1 ⊢;simp only[ho] at h1 ⊢
 split
 ·rename_i hw
  simp only[hw,if_true] at h1
  rcases h1 with h1|⟨_,_,_,hf,_⟩
  ·exact .inl (Oper.wp_mono (fun _ _ hh=>hh.2) (wp_onlyN h1))
  ·exact absurd hf (by simp)
 ·rename_i hw
  simp only[hw] at h1;exact h1.2
def wpOrdL (P:Program) (ops:Array Oper) (F:Act→World→Prop) (S:World→Prop):List (Nat×Nat×Option Oper)→Act→World→Prop
 |[],a,w=>F a w
 |(_,_,none) :: _,_,_=>False
 |(c,_,some o) :: r,a,w=>
  if c=0 then ∃v,YieldsIf P ops (fun w=>true=true→S w) o v a∧wpOrdL P ops F S r (a.put o.dst v) w
  else if c=1 then ∃v,YieldsIf P ops (fun w=>false=true→S w) o v a∧wpOrdL P ops F S r (a.put o.dst v) w
  else if c=2 then wpList P ops (fun e a' w'=>e=.normal∧S w'∧wpOrdL P ops F S r a' w') [o] a w
  else wpList P ops (fun e a' w'=>e=.normal∧wpOrdL P ops F S r a' w') [o] a w
theorem ord_of_L:∀(ord:List (Nat×Nat)) (a:Act) (w:World),wpOrdL P ops F S (ord.map fun x=>(x.1,x.2,ops[x.2]?)) a w→wpOrd P ops F S ord a w
 |[],a,w,h=>h
 |(c,i) :: r,a,w,h=>by
  rw[List.map_cons] at h;cases ho:ops[i]? with
  |none=>simp only[ho] at h;exact False.elim h
  |some o=>
   simp only[ho] at h;unfold wpOrdL at h;refine⟨o,ho,?_⟩;by_cases h0:c=0
   ·rw[if_pos h0] at h ⊢;obtain⟨v,hy,h⟩:=h;exact⟨v,hy,ord_of_L r _ _ h⟩
   ·rw[if_neg h0] at h ⊢;by_cases h1:c=1
    ·rw[if_pos h1] at h ⊢;obtain⟨v,hy,h⟩:=h;exact⟨v,hy,ord_of_L r _ _ h⟩
    ·rw[if_neg h1] at h ⊢;by_cases h2:c=2
     ·rw[if_pos h2] at h ⊢;exact wpOp_mono (fun a' w' hk=>⟨hk.1,ord_of_L r _ _ hk.2⟩) (op_of_list ho h)
     ·rw[if_neg h2] at h ⊢;exact wpOp_mono (fun a' w' hk=>ord_of_L r _ _ hk) (op_of_list ho h)
theorem wp_region_ord {id:Nat} {os:List Oper} {a:Act} {w:World} (ord:List (Nat×Nat)) (e:Nat) (S:World→Prop) (hm:P.follows .mixedOrders=true) (hs:Region.noSelect os.toArray=true) (hlen:ord.length=os.length)
  (hB:ordB os.toArray e ord (Array.replicate os.length false)=true) (hS:S w.drew) (h:wpOrdL P os.toArray (Q .normal) S (ord.map fun x=>(x.1,x.2,os.toArray[x.2]?)) a w.drew):(Code.region id os.toArray true).wp P Q a w:=by
 refine wp_region_any hm ?_;have h1:=ord_sound (P:=P) hs ord (Array.replicate os.length false) a w.drew hB (fun i o _ hl=>absurd hl (ls_none _ _)) (by simp) (fun _=>hS) (ord_of_L ord a w.drew h);rw[hlen] at h1;have h2:=wpAny_of_E _ _ _ _ h1
 simpa using h2
section
variable {i:Nat} {r:List (Nat×Nat×Option Oper)} {a:Act} {w:World} {o:Oper} {v:Value}
theorem ord_nil (h:F a w):wpOrdL P ops F S [] a w:=h
theorem ord_hold (hw:Region.wanted o (yielded ops a.tmps)=true) (hr:∀w',S w'→(execOp a.eval o).run P w'=.ok (.value v) w') (h:wpOrdL P ops F S r (a.put o.dst v) w):wpOrdL P ops F S ((0,i,some o) :: r) a w:=by
 unfold wpOrdL;rw[if_pos rfl];exact⟨v,.inl ⟨hw,fun w' hh=>hr w' (hh rfl)⟩,h⟩
theorem ord_pure (hw:Region.wanted o (yielded ops a.tmps)=true) (hr:∀w',(execOp a.eval o).run P w'=.ok (.value v) w') (h:wpOrdL P ops F S r (a.put o.dst v) w):wpOrdL P ops F S ((1,i,some o) :: r) a w:=by
 unfold wpOrdL;rw[if_neg (by decide),if_pos rfl];exact⟨v,.inl ⟨hw,fun w' _=>hr w'⟩,h⟩
theorem ord_skip (hw:Region.wanted o (yielded ops a.tmps)=false) (h:wpOrdL P ops F S r (a.put o.dst undef) w):wpOrdL P ops F S ((1,i,some o) :: r) a w:=by
 unfold wpOrdL;rw[if_neg (by decide),if_pos rfl];exact⟨undef,.inr ⟨hw,rfl⟩,h⟩
theorem ord_skip0 (hw:Region.wanted o (yielded ops a.tmps)=false) (h:wpOrdL P ops F S r (a.put o.dst undef) w):wpOrdL P ops F S ((0,i,some o) :: r) a w:=by
 unfold wpOrdL;rw[if_pos rfl];exact⟨undef,.inr ⟨hw,rfl⟩,h⟩
theorem ord_last (h:wpList P ops (fun e a' w'=>e=.normal∧wpOrdL P ops F S r a' w') [o] a w):wpOrdL P ops F S ((3,i,some o) :: r) a w:=by
 unfold wpOrdL;rw[if_neg (by decide),if_neg (by decide),if_neg (by decide)];exact h
theorem ord_keep (h:wpList P ops (fun e a' w'=>e=.normal∧S w'∧wpOrdL P ops F S r a' w') [o] a w):wpOrdL P ops F S ((2,i,some o) :: r) a w:=by
 unfold wpOrdL;rw[if_neg (by decide),if_neg (by decide),if_pos rfl];exact h
end
end
section
variable {P:Program} {ops:Array Oper} {F:Act→World→Prop} {S:World→Prop} {W:World} {i:Nat} {r:List (Nat×Nat×Option Oper)} {a:Act} {w:World} {o:Oper} {v:Value}
theorem ordQA (h:wpOrdL P ops F S r (a.put o.dst v) w) (hw:Region.wanted o (yielded ops a.tmps)=true:=by rfl) (hr:∀w',(execOp a.eval o).run P w'=.ok (.value v) w':=by intro w';go_simp;rfl):wpOrdL P ops F S ((1,i,some o) :: r) a w:=ord_pure hw hr h
theorem ordQC (h:wpOrdL P ops F S r (a.put o.dst v) w) (hw:Region.wanted o (yielded ops a.tmps)=true:=by first|(go_simp;done)|fail) (hr:∀w',(execOp a.eval o).run P w'=.ok (.value v) w':=by intro w';go_simp;rfl):wpOrdL P ops F S ((1,i,some o) :: r) a w:=ord_pure hw hr h
theorem ordQB (h:wpOrdL P ops F (fun w'=>Ext W w') r (a.put o.dst v) w) (hw:Region.wanted o (yielded ops a.tmps)=true:=by rfl) (hr:∀w',Ext W w'→(execOp a.eval o).run P w'=.ok (.value v) w':=by intro w' hI;have hc:=hI.cells.1;go_simp;rfl):wpOrdL P ops F (fun w'=>Ext W w') ((0,i,some o) :: r) a w:=ord_hold hw hr h
theorem ordQD (h:wpOrdL P ops F (fun w'=>Ext W w') r (a.put o.dst v) w) (hw:Region.wanted o (yielded ops a.tmps)=true:=by first|(go_simp;done)|fail) (hr:∀w',Ext W w'→(execOp a.eval o).run P w'=.ok (.value v) w':=by intro w' hI;have hc:=hI.cells.1;go_simp;rfl):wpOrdL P ops F (fun w'=>Ext W w') ((0,i,some o) :: r) a w:=ord_hold hw hr h
theorem ordQE (h:wpOrdL P ops F S r (a.put o.dst undef) w) (hw:Region.wanted o (yielded ops a.tmps)=false:=by first|(go_simp;done)|fail):wpOrdL P ops F S ((1,i,some o) :: r) a w:=ord_skip hw h
theorem ordQF (h:wpOrdL P ops F S r (a.put o.dst undef) w) (hw:Region.wanted o (yielded ops a.tmps)=false:=by first|(go_simp;done)|fail):wpOrdL P ops F S ((0,i,some o) :: r) a w:=ord_skip0 hw h
end
end Go.Proofs.YtamldoocjjdidaaGreat
namespace Go.Proofs.YtamldoocjjdidaaGreat
open Go.RowKit
set_option maxRecDepth 100000
set_option maxHeartbeats 64000000
theorem nat4' {k:Nat} (h:k<4):k=0∨k=1∨k=2∨k=3:=by omega
def mgL (s:Sty):Nat→Ln|0=>s.m0|1=>s.m1|2=>s.m2|_=>s.m3
def bdN (s:Sty):Nat→Int|0=>s.b0|1=>s.b1|2=>s.b2|_=>s.b3
def pdN (s:Sty):Nat→Int|0=>s.p0|1=>s.p1|2=>s.p2|_=>s.p3
def wdL (s:Sty):Nat→Ln|0=>s.w|1=>s.minw|2=>s.maxw|_=>s.basis
def hgL (s:Sty):Nat→Ln|0=>s.h|1=>s.minh|_=>s.maxh
theorem st_m (s:Sty) {k:Nat} (h:k<4):s.cells[16+k*2]?=some (.int .u8 (mgL s k).k)∧s.cells[16+k*2+1]?=some (.int .i64 (mgL s k).n)∧s.cells[24+k]?=some (.int .i64 (bdN s k))∧s.cells[28+k]?=some (.int .i64 (pdN s k)):=by
 rcases nat4' h with rfl|rfl|rfl|rfl<;>exact⟨rfl,rfl,rfl,rfl⟩
@[reducible] def wdC (s:Sty):Array Value:=#[.int .u8 s.w.k,.int .i64 s.w.n,.int .u8 s.minw.k,.int .i64 s.minw.n,.int .u8 s.maxw.k,.int .i64 s.maxw.n,.int .u8 s.basis.k,.int .i64 s.basis.n]
@[reducible] def hgC (s:Sty):Array Value:=#[.int .u8 s.h.k,.int .i64 s.h.n,.int .u8 s.minh.k,.int .i64 s.minh.n,.int .u8 s.maxh.k,.int .i64 s.maxh.n]
theorem st_w (s:Sty) {k:Nat} (h:k<4):(wdC s)[k*2]?=some (.int .u8 (wdL s k).k)∧(wdC s)[k*2+1]?=some (.int .i64 (wdL s k).n):=by
 rcases nat4' h with rfl|rfl|rfl|rfl<;>exact⟨rfl,rfl⟩
theorem st_h (s:Sty) {k:Nat} (h:k<3):(hgC s)[k*2]?=some (.int .u8 (hgL s k).k)∧(hgC s)[k*2+1]?=some (.int .i64 (hgL s k).n):=by
 have:k=0∨k=1∨k=2:=by omega
 rcases this with rfl|rfl|rfl<;>exact⟨rfl,rfl⟩
def mgOk (s:Sty) (k:Nat):Bool:=mayV (mgL s k) true&&decide (0≤bdN s k∧bdN s k≤1099511627776)&&decide (0≤pdN s k∧pdN s k≤1099511627776)
def mgV (s:Sty) (k:Nat):Bool:=if k<4 then mgOk s k&&mgV s (k+1) else true
termination_by 4-k
def wdV (s:Sty) (k:Nat):Bool:=if k<4 then mayV (wdL s k) false&&wdV s (k+1) else true
termination_by 4-k
def hgOk (s:Sty) (k:Nat):Bool:=mayV (hgL s k) false&&!((hgL s k).k==2)
def hgV (s:Sty) (k:Nat):Bool:=if k<3 then hgOk s k&&hgV s (k+1) else true
termination_by 3-k
def flagsV (s:Sty):Bool:=((((((((decide (s.float≤2)&&decide (s.clear≤3))&&((decide (s.align≤2)&&decide (s.justify≤3))&&decide (s.items≤3)))&&(((decide (0≤s.grow)&&decide (s.grow≤60))&&decide (0≤s.shrink))&&decide (s.shrink≤60)))&&decide (0≤s.line))&&decide (s.line≤1099511627776))&&decide ((-1048576)≤s.order))&&decide (s.order≤1048576))&&(((s.ul:Nat):Int)==0))
def boxV (s:Sty):Bool:=mgV s 0&&wdV s 0&&hgV s 0&&flagsV s
theorem rbox_any (s:Sty) (w:World):Calls Tryz.prog 100 #[.agg s.cells] w fun e w'=>e=.returned (.bool (boxV s))∧Ext w w':=by
 go_enter Tryz.func100,Tryz.ntmps100;go_wp2_with fail;have B0:Blk (w.alloc (.cells s.cells 65)) w.heap.size 65 s.cells:=Blk.new _ _ _;have E0:Ext w (w.alloc (.cells s.cells 65)):=(Ext.refl _).alloc _;generalize w.alloc (.cells s.cells 65)=w0 at *;generalize hg:w.heap.size=g at *;have HG:=AB hg;clear hg;go_loopw [3] (fun i wr=>∃k:Nat,i=.int .i64 k∧k≤4∧Hid (mgV s k=mgV s 0)∧Ext w wr∧Blk wr g 65 s.cells) (fun i _=>4-(intOf i).toNat)
 case atStart=>exact⟨0,rfl,by omega,AB rfl,E0,B0⟩
 case round=>
  clear E0 B0 w0;obtain⟨k,rfl,q1,HQ,E1,B1⟩:=hrel;have l1:=B1.lt;by_cases hk:k<4
  ·obtain⟨m1,m2,m3,m4⟩:=st_m s hk;have c1:=(B1.cell _).trans m1;have c2:=(B1.cell _).trans m2;have c3:=(B1.cell _).trans m3;have c4:=(B1.cell _).trans m4;have HOK:=AB (show mgOk s k=(mayV (mgL s k) true&&decide (0≤bdN s k∧bdN s k≤1099511627776)&&decide (0≤pdN s k∧pdN s k≤1099511627776)) from rfl);have HN:=AB (fun h:mgOk s k=false=>(show false=boxV s by rw[boxV,←AA HQ,mgV,if_pos hk,h];rfl));have HY:=AB (fun h:mgOk s k=true=>(show mgV s (k+1)=mgV s 0 by rw[←AA HQ,mgV.eq_def s k,if_pos hk,h,Bool.true_and]));have cm:=fun w=>AB (rmay_any (mgL s k) true w)
   generalize mgL s k=L at *;generalize bdN s k=bd at *;generalize pdN s k=pd at *;obtain⟨Lk,Lnn⟩:=L;simp only at c1 c2;have hkI:(0:Int)≤(k:Int)∧(k:Int)<4:=by omega
   generalize mayV ⟨Lk,Lnn⟩ true=mv at *;obtain⟨y1,h1⟩:∃y,decide (bd<0)=y:=⟨_,rfl⟩
   obtain⟨y2,h2⟩:∃y,decide (1099511627776<bd)=y:=⟨_,rfl⟩
   obtain⟨y3,h3⟩:∃y,decide (pd<0)=y:=⟨_,rfl⟩
   obtain⟨y4,h4⟩:∃y,decide (1099511627776<pd)=y:=⟨_,rfl⟩
   have HV:Hid (mgOk s k=(mv&&(!y1&&(!y2&&(!y3&&!y4))))):=AB (by rw[AA HOK,←h1,←h2,←h3,←h4,Bool.and_assoc];congr 1;rw[Bool.eq_iff_iff];simp;omega);clear m1 m2 m3 m4 HQ HOK;cases mv
   rotate_left;cases y1
   cases y2
   cases y3
   cases y4
   rotate_left
   iterate 5
    ·go_wp2_with fail;refine (AA (cm _)).mono ?_;rintro e w2 ⟨rfl,hx⟩;obtain⟨hcc,hff⟩:=hx.cells;have hz:=hx.size;go_wp2_with fail;go_ret;exact⟨ret1b (AA HN (AA HV)),E1.trans hx⟩
   go_wp2_with fail;refine (AA (cm _)).mono ?_;rintro e w2 ⟨rfl,hx⟩;obtain⟨hcc,hff⟩:=hx.cells;have hz:=hx.size;go_wp2_with fail;go_roundw
   case rel=>exact⟨k+1,by go_num,by omega,AB (AA HY (AA HV)),E1.trans hx,B1.ext hx⟩
   case measure=>simp[intOf];omega
  ·have HM:Hid (mgV s 0=true):=AB (by rw[←AA HQ,mgV,if_neg hk]);have hkI:¬((k:Int)<4):=by omega
   clear HQ q1;have c1:=B1.cell;go_upto_region 8 with fail;have B2:=(B1.alloc (.cells (wdC s) 60)).alloc (.cells (hgC s) 60);have BW:Blk ((wr.alloc (.cells (wdC s) 60)).alloc (.cells (hgC s) 60)) wr.heap.size 60 (wdC s):=(Blk.new _ _ _).alloc _;have BH:Blk ((wr.alloc (.cells (wdC s) 60)).alloc (.cells (hgC s) 60)) (wr.heap.size+1) 60 (hgC s):=Blk.new1 _ _ _ _;have E2:=(E1.alloc (.cells (wdC s) 60)).alloc (.cells (hgC s) 60);generalize (wr.alloc (.cells (wdC s) 60)).alloc (.cells (hgC s) 60)=w5 at *;generalize hgw:wr.heap.size=gw at *;clear hgw c1 l1 B1 E1 wr;go_wp2_with fail;clear hk hkI;go_loopw [6] (fun i wr=>∃k:Nat,i=.int .i64 k∧k≤4∧Hid (wdV s k=wdV s 0)∧Ext w wr∧Blk wr g 65 s.cells∧Blk wr gw 60 (wdC s)∧Blk wr (gw+1) 60 (hgC s)) (fun i _=>4-(intOf i).toNat)
   case atStart=>exact⟨0,rfl,by omega,AB rfl,E2,B2,BW,BH⟩
   case round=>
    clear E2 B2 BW BH w5;obtain⟨k,rfl,q1,HQ,E2,B2,BW,BH⟩:=hrel;have l1:=BW.lt;by_cases hk:k<4
    ·obtain⟨m1,m2⟩:=st_w s hk;have c1:=(BW.cell _).trans m1;have c2:=(BW.cell _).trans m2;have HN:=AB (fun h:mayV (wdL s k) false=false=>(show false=boxV s by rw[boxV,←AA HQ,wdV,if_pos hk,h,Bool.false_and,Bool.and_false];rfl));have HY:=AB (fun h:mayV (wdL s k) false=true=>(show wdV s (k+1)=wdV s 0 by rw[←AA HQ,wdV.eq_def s k,if_pos hk,h,Bool.true_and]));have cm:=fun w=>AB (rmay_any (wdL s k) false w)
     generalize wdL s k=L at *;obtain⟨Lk,Lnn⟩:=L;simp only at c1 c2;have hkI:(0:Int)≤(k:Int)∧(k:Int)<4:=by omega
     generalize mayV ⟨Lk,Lnn⟩ false=mv at *;clear m1 m2 HQ;cases mv
     ·skip
      go_wp2_with fail;refine (AA (cm _)).mono ?_;rintro e w2 ⟨rfl,hx⟩;obtain⟨hcc,hff⟩:=hx.cells;have hz:=hx.size;go_wp2_with fail;go_ret;exact⟨ret1b (AA HN (by first|rfl|trivial)),E2.trans hx⟩
     ·skip
      go_wp2_with fail;refine (AA (cm _)).mono ?_;rintro e w2 ⟨rfl,hx⟩;obtain⟨hcc,hff⟩:=hx.cells;have hz:=hx.size;go_wp2_with fail;go_roundw
      case rel=>exact⟨k+1,by go_num,by omega,AB (AA HY (by first|rfl|trivial)),E2.trans hx,B2.ext hx,BW.ext hx,BH.ext hx⟩
      case measure=>simp[intOf];omega
    ·have HW:Hid (wdV s 0=true):=AB (by rw[←AA HQ,wdV,if_neg hk]);have hkI:¬((k:Int)<4):=by omega
     clear HQ q1 l1;go_wp2_with fail;clear hk hkI;go_loopw [7] (fun i wr=>∃k:Nat,i=.int .i64 k∧k≤3∧Hid (hgV s k=hgV s 0)∧Ext w wr∧Blk wr g 65 s.cells∧Blk wr (gw+1) 60 (hgC s)) (fun i _=>3-(intOf i).toNat)
     case atStart=>exact⟨0,rfl,by omega,AB rfl,E2,B2,BH⟩
     case round=>
      clear E2 B2 BW BH;obtain⟨k,rfl,q1,HQ,E2,B2,BH⟩:=hrel;have l1:=BH.lt;by_cases hk:k<3
      ·obtain⟨m1,m2⟩:=st_h s hk;have c1:=(BH.cell _).trans m1;have c2:=(BH.cell _).trans m2;have HOK:=AB (show hgOk s k=(mayV (hgL s k) false&&!((hgL s k).k==2)) from rfl);have HN:=AB (fun h:hgOk s k=false=>(show false=boxV s by rw[boxV,←AA HQ,hgV,if_pos hk,h,Bool.false_and,Bool.and_false];rfl));have HY:=AB (fun h:hgOk s k=true=>(show hgV s (k+1)=hgV s 0 by rw[←AA HQ,hgV.eq_def s k,if_pos hk,h,Bool.true_and]));have cm:=fun w=>AB (rmay_any (hgL s k) false w)
       generalize hgL s k=L at *;obtain⟨Lk,Lnn⟩:=L;simp only at c1 c2 HOK;have hkI:(0:Int)≤(k:Int)∧(k:Int)<3:=by omega
       generalize mayV ⟨Lk,Lnn⟩ false=mv at *;clear m1 m2 HQ;cases mv
       ·skip
        go_wp2_with fail;refine (AA (cm _)).mono ?_;rintro e w2 ⟨rfl,hx⟩;obtain⟨hcc,hff⟩:=hx.cells;have hz:=hx.size;go_wp2_with fail;go_ret;exact⟨ret1b (AA HN (by rw[AA HOK];rfl)),E2.trans hx⟩
       cases hk2:(Lk==2)
       rotate_left
       ·skip
        go_wp2_with fail;refine (AA (cm _)).mono ?_;rintro e w2 ⟨rfl,hx⟩;obtain⟨hcc,hff⟩:=hx.cells;have hz:=hx.size;go_wp2_with fail;go_ret;exact⟨ret1b (AA HN (by rw[AA HOK,hk2];rfl)),E2.trans hx⟩
       ·skip
        go_wp2_with fail;refine (AA (cm _)).mono ?_;rintro e w2 ⟨rfl,hx⟩;obtain⟨hcc,hff⟩:=hx.cells;have hz:=hx.size;go_wp2_with fail;go_roundw
        case rel=>exact⟨k+1,by go_num,by omega,AB (AA HY (by rw[AA HOK,hk2];rfl)),E2.trans hx,B2.ext hx,BH.ext hx⟩
        case measure=>simp[intOf];omega
      ·have HH:Hid (hgV s 0=true):=AB (by rw[←AA HQ,hgV,if_neg hk]);have hkI:¬((k:Int)<3):=by omega
       clear HQ q1 l1 BH;go_upto_region 18 with fail;clear hk hkI;have Bs:=B2;have E3:=E2;clear B2 E2;have cc:=Bs.cell;have ll:=Bs.lt;obtain⟨a1,h1⟩:∃y,decide (s.float≤2)=y:=⟨_,rfl⟩
       obtain⟨a2,h2⟩:∃y,decide (s.clear≤3)=y:=⟨_,rfl⟩
       obtain⟨a3,h3⟩:∃y,decide (s.align≤2)=y:=⟨_,rfl⟩
       obtain⟨a4,h4⟩:∃y,decide (s.justify≤3)=y:=⟨_,rfl⟩
       obtain⟨a5,h5⟩:∃y,decide (s.items≤3)=y:=⟨_,rfl⟩
       obtain⟨a6,h6⟩:∃y,decide (0≤s.grow)=y:=⟨_,rfl⟩
       obtain⟨a7,h7⟩:∃y,decide (s.grow≤60)=y:=⟨_,rfl⟩
       obtain⟨a8,h8⟩:∃y,decide (0≤s.shrink)=y:=⟨_,rfl⟩
       obtain⟨a9,h9⟩:∃y,decide (s.shrink≤60)=y:=⟨_,rfl⟩
       obtain⟨b1,i1⟩:∃y,decide (0≤s.line)=y:=⟨_,rfl⟩
       obtain⟨b2,i2⟩:∃y,decide (s.line≤1099511627776)=y:=⟨_,rfl⟩
       obtain⟨b3,i3⟩:∃y,decide ((-1048576)≤s.order)=y:=⟨_,rfl⟩
       obtain⟨b4,i4⟩:∃y,decide (s.order≤1048576)=y:=⟨_,rfl⟩
       obtain⟨b5,i5⟩:∃y,(((s.ul:Nat):Int)==0)=y:=⟨_,rfl⟩
       have HR:Hid (boxV s=((((((((a1&&a2)&&((a3&&a4)&&a5))&&(((a6&&a7)&&a8)&&a9))&&b1)&&b2)&&b3)&&b4)&&b5)):=AB (by rw[boxV,AA HM,AA HW,AA HH,flagsV,h1,h2,h3,h4,h5,h6,h7,h8,h9,i1,i2,i3,i4,i5];rfl);clear HM HW HH;go_cut [8] from 11 to 168 (fun v wx=>v=.bool (a1&&a2)∧wx=wr)
       case first=>
        cases a1
        rotate_left;cases a2
        all_goals
         go_wp2_with fail;go_meet
         case rel=>exact⟨rfl,rfl⟩
       case rest=>
        obtain⟨rfl,rfl⟩:=hcut;clear h1 h2;generalize (a1&&a2)=r1 at *;go_upto_region 19 with fail;go_cut [9] from 11 to 168 (fun v wx=>v=.bool ((a3&&a4)&&a5)∧wx=wc)
        case first=>
         cases a3
         rotate_left;cases a4
         rotate_left;cases a5
         all_goals
          go_wp2_with fail;go_meet
          case rel=>exact⟨rfl,rfl⟩
        case rest=>
         obtain⟨rfl,rfl⟩:=hcut;clear h3 h4 h5;generalize ((a3&&a4)&&a5)=r2 at *;go_upto_region 20 with fail;go_cut [10] from 11 to 168 (fun v wx=>v=.bool (((a6&&a7)&&a8)&&a9)∧wx=wc)
         case first=>
          cases a6
          rotate_left;cases a7
          rotate_left;cases a8
          rotate_left;cases a9
          all_goals
           go_wp2_with fail;go_meet
           case rel=>exact⟨rfl,rfl⟩
         case rest=>
          obtain⟨rfl,rfl⟩:=hcut;clear h6 h7 h8 h9;generalize (((a6&&a7)&&a8)&&a9)=r3 at *;cases r1
          rotate_left;cases r2
          rotate_left;cases r3
          rotate_left;cases b1
          rotate_left;cases b2
          rotate_left;cases b3
          rotate_left;cases b4
          rotate_left;cases b5
          all_goals
           go_wp2_with fail;go_ret;exact⟨ret1b (AA HR).symm,E3⟩
end Go.Proofs.YtamldoocjjdidaaGreat
