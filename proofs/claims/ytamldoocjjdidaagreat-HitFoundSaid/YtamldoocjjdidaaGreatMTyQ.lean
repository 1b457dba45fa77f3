import Derived.Test.YtamldoocjjdidaaGreatMTyD
import Derived.Test.YtamldoocjjdidaaGreatMSp6
namespace Go.Proofs.YtamldoocjjdidaaGreat
open Go.RowKit
set_option maxRecDepth 100000
set_option maxHeartbeats 64000000
def chainN (ns:List Nd) (j:Nat):List Int:=if 0≤parN ns j then chainN ns (parN ns j).toNat++[(j:Int)] else [(j:Int)]
termination_by j
decreasing_by have:=parN_lt ns j;omega
def chainK (ns:List Nd) (k:Nat):List Int:=if k=0 then [] else chainN ns (k-1)
theorem chainN_up {ns:List Nd} {j p:Nat} (h:parN ns j=p):chainN ns j=chainN ns p++[(j:Int)]:=by
 rw[chainN,h,if_pos (by omega),Int.toNat_natCast]
theorem chainN_top {ns:List Nd} {j:Nat} (h:¬0≤parN ns j):chainN ns j=[(j:Int)]:=by
 rw[chainN,if_neg h]
theorem chainN_len (ns:List Nd) (j:Nat):(chainN ns j).length=dep ns j:=by
 induction j using Nat.strongRecOn with
 |_ j ih=>
  by_cases h0:0≤parN ns j
  ·obtain⟨p,hp⟩:∃p:Nat,parN ns j=p:=⟨(parN ns j).toNat,by omega⟩
   have hlt:=parN_lt ns j;rw[chainN_up hp,List.length_append,ih p (by omega),dep_eq ns j,hp,depI,if_pos (by omega)];rfl
  ·rw[chainN_top h0,dep_eq,depI,if_neg h0];rfl
theorem chainN_mem (ns:List Nd) (j:Nat) (x:Int):x∈chainN ns j↔∃o:Nat,x=o∧sub ns o j=true:=by
 induction j using Nat.strongRecOn with
 |_ j ih=>
  by_cases h0:0≤parN ns j
  ·obtain⟨p,hp⟩:∃p:Nat,parN ns j=p:=⟨(parN ns j).toNat,by omega⟩
   have hlt:=parN_lt ns j;rw[chainN_up hp,List.mem_append,ih p (by omega),List.mem_singleton]
   constructor
   ·rintro (⟨o,h1,h2⟩|h)
    ·exact⟨o,h1,by rw[sub,bel_par hp,h2,Bool.or_true]⟩
    ·exact⟨j,h,sub_self ns j⟩
   ·rintro⟨o,h1,h2⟩;rw[sub,bel_par hp,Bool.or_eq_true] at h2
    rcases h2 with h2|h2
    ·have e:j=o:=by simpa using h2
     exact .inr (by omega)
    ·exact .inl ⟨o,h1,h2⟩
  ·rw[chainN_top h0,List.mem_singleton]
   constructor
   ·rintro rfl;exact⟨j,rfl,sub_self ns j⟩
   ·rintro⟨o,h1,h2⟩;rw[sub,bel_no h0,Bool.or_false] at h2;have e:j=o:=by simpa using h2
    omega
theorem chainN_cut (ns:List Nd) (j:Nat):∀(q o:Nat),(chainN ns j)[q]?=some (o:Int)→(chainN ns j).take (q+1)=chainN ns o:=by
 induction j using Nat.strongRecOn with
 |_ j ih=>
  intro q o hq;by_cases h0:0≤parN ns j
  ·obtain⟨p,hp⟩:∃p:Nat,parN ns j=p:=⟨(parN ns j).toNat,by omega⟩
   have hlt:=parN_lt ns j;rw[chainN_up hp] at hq ⊢;by_cases hql:q<(chainN ns p).length
   ·rw[List.getElem?_append_left hql] at hq;rw[List.take_append_of_le_length (by omega)];exact ih p (by omega) q o hq
   ·rw[List.getElem?_append_right (by omega)] at hq;have hq0:q=(chainN ns p).length:=by
     have:=(List.getElem?_eq_some_iff.1 hq).1;simp at this;omega
    subst hq0;rw[Nat.sub_self] at hq;have e:o=j:=by simp at hq;omega
    subst e;rw[List.take_of_length_le (by simp),chainN_up hp]
  ·rw[chainN_top h0] at hq ⊢;have hq0:q=0:=by
    have:=(List.getElem?_eq_some_iff.1 hq).1;simp at this;omega
   subst hq0;have e:o=j:=by simp at hq;omega
   subst e;rw[chainN_top h0];rfl
section
variable {ns:List Nd} {k:Nat}
theorem tok_pre (hk:k≤ns.length) (hl:ns.length≤1000000) (h0:0<k) (hb:∀j,j<k→nodeV ns j=0):TOk (ns.take k):=by
 have hlen:(ns.take k).length=k:=by simp;omega
 exact⟨by omega,by omega,fun i hi=>by rw[(agr_take ns k).nodeV (by omega)];exact hb i (by omega)⟩
theorem agr_sub {ms:List Nd} {m:Nat} (h:Agr ns ms m) (o:Nat) {i:Nat} (hi:i<m):sub ns o i=sub ms o i:=by
 rw[sub,sub,h.bel _ hi]
theorem first_is (hk:k<ns.length) (hl:ns.length≤1000000) (hb:∀j,j<k→nodeV ns j=0) {p:Nat} (hs:sub ns p (k-1)=true):firstN ns p k (p+1)=if p+1<k then ((p+1:Nat):Int) else -1:=by
 by_cases h1:p+1<k
 ·rw[if_pos h1,firstN,if_pos h1,if_pos];have hT:=tok_pre (by omega) hl (by omega:0<k) hb;have ha:=agr_take ns k;have hlen:(ns.take k).length=k:=by simp;omega
  have h2:=ok_stretch hT (i:=p) (j:=k-1) (by omega);rw[agr_sub ha p (by omega),hs] at h2;have h2:p≤k-1∧k-1<endN (ns.take k) p:=of_decide_eq_true h2.symm;have h3:=ok_stretch hT (i:=p) (j:=p+1) (by omega);rw[decide_eq_true (by omega),agr_sub ha p (by omega)] at h3;by_cases h0:0≤parN ns (p+1)
  ·obtain⟨q,hq⟩:∃q:Nat,parN ns (p+1)=q:=⟨(parN ns (p+1)).toNat,by omega⟩
   have hne:¬p+1=p:=by omega
   rw[sub,bel_par hq,decide_eq_false hne,Bool.false_or] at h3;have:=sub_le h3;have:=parN_lt ns (p+1);omega
  ·have hne:¬p+1=p:=by omega
   rw[sub,bel_no h0,decide_eq_false hne] at h3;cases h3
 ·rw[if_neg h1,firstN,if_neg h1]
def foundB (ns:List Nd) (k:Nat):Prop:=(k=0∧nP ns k=-1)∨(0<k∧nP ns k∈chainK ns k)
theorem found_par (h:foundB ns k):k=0∨∃p:Nat,nP ns k=p∧p<k∧sub ns p (k-1)=true:=by
 rcases h with ⟨h,_⟩|⟨h0,h⟩
 ·exact .inl h
 ·rw[chainK,if_neg (by omega),chainN_mem] at h;obtain⟨o,h1,h2⟩:=h;exact .inr ⟨o,h1,by have:=sub_le h2;omega,h2⟩
theorem found_no (hk:k<ns.length) (h:¬foundB ns k):nodeV ns k=6:=by
 rw[nodeV_of (AE hk),nodeE,if_pos];rw[←nP_of hk];by_cases k0:k=0
 ·left
  exact⟨k0,fun e=>h (.inl ⟨k0,e⟩)⟩
 ·right
  refine⟨by omega,?_⟩;have hno:∀o:Nat,nP ns k=o→sub ns o (k-1)=false:=fun o ho=>by
   cases hs:sub ns o (k-1)
   ·rfl
   ·exact absurd (.inr ⟨by omega,by rw[chainK,if_neg k0,chainN_mem];exact⟨o,ho,hs⟩⟩) h
  by_cases hr:nP ns k<0∨(k:Int)≤nP ns k
  ·refine⟨by omega,?_⟩
   rcases hr with hr|hr
   ·exact .inl hr
   ·exact .inr (.inl hr)
  ·obtain⟨o,ho⟩:∃o:Nat,nP ns k=o:=⟨(nP ns k).toNat,by omega⟩
   have hs:=hno o ho;rw[sub,Bool.or_eq_false_iff] at hs;have h1:¬k-1=o:=by simpa using hs.1
   refine⟨by omega,.inr (.inr ?_)⟩;rw[ho];exact hs.2
theorem found_yes (hk:k<ns.length) (hl:ns.length≤1000000) (hb:∀j,j<k→nodeV ns j=0) (h:foundB ns k) :
  nodeV ns k=if 65536<ns[k].s.ul then 7 else if 512<dep ns k then 8 else if rightV ns[k].s=false then 6 else if stB ns k=true then 0 else 6:=by
 have hg:=AE hk;have hp:=nP_of hk;rw[nodeV_of hg,nodeE,if_neg,stB_of hg]
 ·split
  ·rfl
  ·split
   ·rfl
   ·split
    ·rfl
    ·by_cases k0:k=0
     ·rw[if_pos k0,if_pos k0];by_cases h1:ns[k].s.kind=1
      ·cases h2:looseV ns[k].s<;>simp[h1]
      ·simp[h1]
     ·rw[if_neg k0,if_neg k0]
      rcases found_par h with h0|⟨p,h1,h2,h3⟩
      ·exact absurd h0 k0
      ·rw[←hp,h1,Int.toNat_natCast];have hkp:nK ns p=1∨nK ns p=2∨nK ns p=3:=by
        have hT:=tok_pre (by omega) hl (by omega:0<k) hb;have hlen:(ns.take k).length=k:=by simp;omega
        have:=hT.kind (i:=p) (by omega)
        rwa [(agr_take ns k).nK h2] at this
       rw[first_is hk hl hb h3]
       rcases hkp with e|e|e
       ·simp only[e];by_cases h4:p+1<k
        ·simp only[h4,if_true,Int.toNat_natCast];cases ha:(nK ns (p+1)==3)<;>cases hc:(ns[k].s.kind==3)<;>simp
         ·omega
         ·omega
        ·have e2:p+1=k:=by omega
         simp only[e2,nK_of hk];simp
       ·simp only[e];by_cases h4:ns[k].s.kind=3
        ·simp[h4]
        ·cases h5:looseV ns[k].s<;>simp[h4]
       ·simp[e]
 ·rw[←hp]
  rcases found_par h with h0|⟨p,h1,h2,h3⟩
  ·rcases h with ⟨_,h⟩|⟨h,_⟩
   ·omega
   ·omega
  ·rw[sub,Bool.or_eq_true] at h3;rintro (⟨h4,_⟩|⟨_,h5,h6⟩)
   ·omega
   ·rcases h3 with h3|h3
    ·have:k-1=p:=by simpa using h3
     omega
    ·rw[h1] at h6
     rcases h6 with h6|h6|h6
     ·omega
     ·omega
     ·rw[h3] at h6;cases h6
theorem found_chain (h:foundB ns k):∃l,chainN ns k=l++[(k:Int)]∧dep ns k=l.length+1∧((k=0∧l=[])∨∃p:Nat,nP ns k=p∧p<k∧l=chainN ns p):=by
 rcases found_par h with h0|⟨p,h1,h2,h3⟩
 ·have hp:¬0≤parN ns k:=by have:=parN_lt ns k;omega
  exact⟨[],by rw[chainN_top hp];rfl,by rw[dep_eq,depI,if_neg hp];rfl,.inl ⟨h0,rfl⟩⟩
 ·have hp:parN ns k=p:=by rw[parN,h1,par,if_pos (by omega)]
  exact⟨chainN ns p,chainN_up hp,by rw[chainN_len,dep_eq ns k,hp,depI,if_pos (by omega)];rfl,.inr ⟨p,h1,h2,rfl⟩⟩
theorem chainK_succ (ns:List Nd) (k:Nat):chainK ns (k+1)=chainN ns k:=by rw[chainK,if_neg (by omega),Nat.add_sub_cancel]
end
end Go.Proofs.YtamldoocjjdidaaGreat
