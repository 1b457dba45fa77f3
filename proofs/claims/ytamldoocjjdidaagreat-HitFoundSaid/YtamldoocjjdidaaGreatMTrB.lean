import Derived.Test.YtamldoocjjdidaaGreatMWidN
import Derived.Deep.MidRow
namespace Go.Proofs.YtamldoocjjdidaaGreat
open Go.ChangeShapes Go.WideShapes Go.ChangeAt Go.RowKit
set_option maxRecDepth 100000
set_option maxHeartbeats 64000000
structure Nd where
 p:Int
 s:Sty
@[reducible] def Nd.cells (n:Nd):List Value:=.int .i64 n.p :: n.s.cells.toList
def nds (l:List Nd):List Value:=(l.map Nd.cells).flatten
structure Tr where
 (na:Option Addr) (nl nc:Nat) (aa:Option Addr) (al ac:Nat) (view:Int)
@[reducible] def Tr.cs (t:Tr):Array Value:=#[.slice t.na t.nl t.nc,.slice t.aa t.al t.ac,.int .i64 t.view]
theorem info_tree (t:Tr):(Tryz.prog.info? 25).map (·.size)=some t.cs.size:=by kernel_rfl
theorem Nd.len (n:Nd):n.cells.length=44:=rfl
theorem nds_len (l:List Nd):(nds l).length=l.length*44:=by
 have:=flatten_len 44 (l.map Nd.cells) (by intro xs h;obtain⟨n,_,rfl⟩:=List.mem_map.1 h;rfl)
 simpa[nds] using this
theorem nds_get {l:List Nd} {i j:Nat} {n:Nd} (h:l[i]?=some n) (hj:j<44):(nds l)[i*44+j]?=n.cells[j]?:=
 flatten_get 44 (l.map Nd.cells) (by intro xs h;obtain⟨n,_,rfl⟩:=List.mem_map.1 h;rfl) i j n.cells (by simp[h]) hj
theorem Rd.node {w:World} {A:Option Addr} {n:Nat} {l:List Nd} (h:Rd w 44 A n (nds l)) {i:Nat} {nd:Nd} (hi:l[i]?=some nd) :
  ∃b off,A=some ⟨b,off,none⟩∧b<w.heap.size∧∀j u,nd.cells[j]?=some u→w.cell? ⟨b,off+i*44+j,none⟩=some u:=by
 have hl:=(List.getElem?_eq_some_iff.1 hi).1;have hn:n=l.length:=by have:=h.len;rw[nds_len] at this;omega
 obtain⟨b,off,rfl,hb,hc⟩:=h.at_ (by omega);refine⟨b,off,rfl,hb,fun j u hu=>?_⟩;have hj:j<44:=by have:=(List.getElem?_eq_some_iff.1 hu).1;rwa [Nd.len] at this
 rw[Nat.add_assoc];exact hc _ _ ((nds_get hi hj).trans hu)
theorem Rd.nlen {w:World} {A:Option Addr} {n:Nat} {l:List Nd} (h:Rd w 44 A n (nds l)):l.length=n:=by
 have:=h.len;rw[nds_len] at this;omega
def par (p:Int) (i:Nat):Int:=if 0≤p∧p<i then p else -1
end Go.Proofs.YtamldoocjjdidaaGreat
namespace Go.Proofs.YtamldoocjjdidaaGreat
open Go.RowKit
set_option maxRecDepth 100000
set_option maxHeartbeats 64000000
def nP (ns:List Nd) (i:Nat):Int:=match ns[i]? with|some n=>n.p|none=>0
def parN (ns:List Nd) (i:Nat):Int:=par (nP ns i) i
theorem parN_lt (ns:List Nd) (i:Nat):-1≤parN ns i∧parN ns i<i:=by
 unfold parN par;split<;>omega
theorem parN_of {ns:List Nd} {i:Nat} {n:Nd} (h:ns[i]?=some n):parN ns i=par n.p i:=by simp[parN,nP,h]
def dep (ns:List Nd) (i:Nat):Nat:=if 0≤parN ns i then dep ns (parN ns i).toNat+1 else 1
termination_by i
decreasing_by have:=parN_lt ns i;omega
theorem dep_le (ns:List Nd) (i:Nat):1≤dep ns i∧dep ns i≤i+1:=by
 induction i using Nat.strongRecOn with
 |_ i ih=>
  rw[dep]
  split
  ·have:=parN_lt ns i;have:=ih (parN ns i).toNat (by omega);omega
  ·omega
def depI (ns:List Nd) (p:Int):Nat:=if 0≤p then dep ns p.toNat else 0
theorem dep_eq (ns:List Nd) (i:Nat):dep ns i=depI ns (parN ns i)+1:=by
 rw[dep,depI];split<;>rfl
def bel (ns:List Nd) (o:Int) (i:Nat):Bool:=if 0≤parN ns i then (parN ns i==o)||bel ns o (parN ns i).toNat else false
termination_by i
decreasing_by have:=parN_lt ns i;omega
def belI (ns:List Nd) (o p:Int):Bool:=if 0≤p then (p==o)||bel ns o p.toNat else false
theorem bel_eq (ns:List Nd) (o:Int) (i:Nat):bel ns o i=belI ns o (parN ns i):=by
 rw[bel,belI]
def firstN (ns:List Nd) (p:Int) (i:Nat) (k:Nat):Int:=if k<i then (if parN ns k=p then (k:Int) else firstN ns p i (k+1)) else -1
termination_by i-k
section
variable (t:Tr) (ns:List Nd)
theorem parent_any (i:Nat) (hi:i<ns.length) (w:World) (h:Rd w 44 t.na t.nl (nds ns)) (hm:t.nl≤maxLen) :
  Calls Tryz.prog 74 #[.agg t.cs,.int .i64 i] w fun e w'=>e=.returned (.int .i64 (parN ns i))∧Ext w w':=by
 have hl:=h.nlen;have hi:=AE hi;rw[parN_of hi];have hlt:=(List.getElem?_eq_some_iff.1 hi).1;obtain⟨b,off,ha,hb,hc⟩:=h.node hi;have hc:=hc 0 _ rfl;generalize ns[i]=nd at *;obtain⟨p,s⟩:=nd;obtain⟨na,nl,nc,aa,al,ac,view⟩:=t;simp only at ha hm hl h hc;subst ha;unfold maxLen at hm;have hin:(0:Int)≤(i:Int)∧(i:Int)<(nl:Int):=by omega
 simp only[Nat.add_zero] at hc;clear hi h hl;go_enter Tryz.func74,Tryz.ntmps74
 go_wp2
 all_goals go_ret
 all_goals exact⟨ret1 (by unfold par;first|rw[if_pos (by omega)]|rw[if_neg (by omega)]),(Ext.refl _).alloc _⟩
theorem up_any (i:Nat) (hi:i<ns.length) (w:World) (h:Rd w 44 t.na t.nl (nds ns)) (hm:t.nl≤maxLen) :
  Calls Tryz.prog 41 #[.agg t.cs,.int .i64 i] w fun e w'=>e=.returned (.int .i64 (parN ns i))∧Ext w w':=by
 have hl:=h.nlen;have hi:=AE hi;rw[parN_of hi];have hlt:=(List.getElem?_eq_some_iff.1 hi).1;obtain⟨b,off,ha,hb,hc⟩:=h.node hi;have hc:=hc 0 _ rfl;generalize ns[i]=nd at *;obtain⟨p,s⟩:=nd;obtain⟨na,nl,nc,aa,al,ac,view⟩:=t;simp only at ha hm hl h hc;subst ha;unfold maxLen at hm;have hin:(0:Int)≤(i:Int)∧(i:Int)<(nl:Int):=by omega
 simp only[Nat.add_zero] at hc;clear hi h hl;go_enter Tryz.func41,Tryz.ntmps41
 go_wp2
 all_goals go_ret
 all_goals exact⟨ret1 (by unfold par;first|rw[if_pos (by omega)]|rw[if_neg (by omega)]),(Ext.refl _).alloc _⟩
theorem depth_any (i:Nat) (hi:i<ns.length) (w:World) (h:Rd w 44 t.na t.nl (nds ns)) (hm:t.nl≤maxLen) :
  Calls Tryz.prog 71 #[.agg t.cs,.int .i64 i] w fun e w'=>e=.returned (.int .i64 (dep ns i))∧Ext w w':=by
 have hl:=h.nlen;have hd:=dep_le ns i;have HE:=AB (dep_eq ns i);have hp:=parN_lt ns i;unfold maxLen at hm;go_enter Tryz.func71,Tryz.ntmps71;go_wp2_with fail;refine (parent_any t ns i hi _ (h.alloc _) hm).mono ?_;rintro e w1 ⟨rfl,hx⟩;have B1:Blk w1 w.heap.size 25 t.cs:=(Blk.new _ _ _).ext hx;have E1:Ext w w1:=((Ext.refl _).alloc _).trans hx;clear hx;go_wp2_with fail;go_loopw [5,6] (fun n p wr=>∃(q:Int) (m:Nat),n=.int .i64 m∧p=.int .i64 q∧-1≤q∧q<ns.length∧m+depI ns q=dep ns i∧Ext w wr∧Blk wr w.heap.size 25 t.cs) (fun _ p _=>(intOf p+1).toNat)
 case atStart=>exact⟨_,1,rfl,rfl,by omega,by omega,by have:=AA HE;omega,E1,B1⟩
 case round=>
  clear E1 B1 HE;obtain⟨q,m,rfl,rfl,q1,q2,hq,E1,B1⟩:=hrel;have c1:=B1.cell;have l1:=B1.lt;by_cases h0:0≤q
  ·obtain⟨k,rfl⟩:∃k:Nat,q=k:=⟨q.toNat,by omega⟩
   have hde:=dep_eq ns k;have hdl:=dep_le ns k;have hpl:=parN_lt ns k;have hdi:depI ns (k:Int)=dep ns k:=by unfold depI;rw[if_pos h0];rfl
   rw[hdi] at hq;have HQ:=AB hq;have HD:=AB hde;have hm1:(m:Int)+1≤ns.length:=by omega
   clear hq hde hdi;go_wp2_with fail;refine (parent_any t ns k (by omega) _ (h.ext E1) (by unfold maxLen;omega)).mono ?_;rintro e w2 ⟨rfl,hx⟩;go_wp2_with fail;go_roundw
   case rel=>exact⟨_,m+1,by go_num,rfl,by omega,by omega,by have:=AA HQ;have:=AA HD;omega,E1.trans hx,B1.ext hx⟩
   case measure=>simp[intOf];omega
  ·have hdi:depI ns q=0:=by unfold depI;rw[if_neg h0]
   rw[hdi] at hq;go_wp2_with fail;go_ret;exact⟨ret1 (by omega),E1⟩
end
theorem bel_not {ns:List Nd} {o:Int} {k:Nat} (h:((k:Int)==o)=false):belI ns o k=bel ns o k:=by
 rw[belI,if_pos (by omega),h];rfl
def nK (ns:List Nd) (i:Nat):Int:=match ns[i]? with|some n=>n.s.kind|none=>0
def rootN (ns:List Nd) (i:Nat):Bool:=match ns[i]? with
 |none=>false
 | some n=>if n.s.kind=3 then false else (decide (i=0)||decide (n.s.kind=2)||n.s.flow||decide (n.s.float≠0)||(decide (0≤parN ns i)&&decide (nK ns (parN ns i).toNat=2)))
def rootI (ns:List Nd) (i:Int):Bool:=if 0≤i then rootN ns i.toNat else false
section
variable (t:Tr) (ns:List Nd)
theorem below_any (i:Nat) (hi:i<ns.length) (o:Int) (w:World) (h:Rd w 44 t.na t.nl (nds ns)) (hm:t.nl≤maxLen) :
  Calls Tryz.prog 70 #[.agg t.cs,.int .i64 i,.int .i64 o] w fun e w'=>e=.returned (.bool (bel ns o i))∧Ext w w':=by
 have hl:=h.nlen;have hp:=parN_lt ns i;have HE:=AB (bel_eq ns o i);go_enter Tryz.func70,Tryz.ntmps70;go_wp2_with fail;refine (parent_any t ns i hi _ (h.alloc _) hm).mono ?_;rintro e w1 ⟨rfl,hx⟩;have B1:Blk w1 w.heap.size 25 t.cs:=(Blk.new _ _ _).ext hx;have E1:Ext w w1:=((Ext.refl _).alloc _).trans hx;clear hx;go_wp2_with fail;go_loopw [7] (fun p wr=>∃(q:Int),p=.int .i64 q∧-1≤q∧q<ns.length∧Hid (belI ns o q=bel ns o i)∧Ext w wr∧Blk wr w.heap.size 25 t.cs) (fun p _=>(intOf p+1).toNat)
 case atStart=>exact⟨_,rfl,by omega,by omega,AB (AA HE).symm,E1,B1⟩
 case round=>
  clear E1 B1 HE;obtain⟨q,rfl,q1,q2,HQ,E1,B1⟩:=hrel;have c1:=B1.cell;have l1:=B1.lt;by_cases h0:0≤q
  ·obtain⟨k,rfl⟩:∃k:Nat,q=k:=⟨q.toNat,by omega⟩
   have hpl:=parN_lt ns k;cases hko:((k:Int)==o)
   ·have HD:=AB ((bel_eq ns o k).symm.trans ((bel_not hko).symm.trans (AA HQ)));go_wp2_with fail;refine (parent_any t ns k (by omega) _ (h.ext E1) hm).mono ?_;rintro e w2 ⟨rfl,hx⟩;go_wp2_with fail;go_roundw
    case rel=>exact⟨_,rfl,by omega,by omega,HD,E1.trans hx,B1.ext hx⟩
    case measure=>simp[intOf];omega
   ·go_wp2_with fail;go_ret;exact⟨ret1b (by rw[←AA HQ,belI,if_pos h0,hko];rfl),E1⟩
  ·go_wp2_with fail;go_ret;exact⟨ret1b (by rw[←AA HQ,belI,if_neg (by omega)]),E1⟩
theorem first_any (p i:Nat) (hi:i≤ns.length) (w:World) (h:Rd w 44 t.na t.nl (nds ns)) (hm:t.nl≤maxLen) (hp:p<ns.length) :
  Calls Tryz.prog 73 #[.agg t.cs,.int .i64 p,.int .i64 i] w fun e w'=>e=.returned (.int .i64 (firstN ns p i (p+1)))∧Ext w w':=by
 have hl:=h.nlen;have hm':=hm;unfold maxLen at hm';go_enter Tryz.func73,Tryz.ntmps73;go_wp2_with fail;go_loopw [7] (fun v wr=>∃k:Nat,v=.int .i64 k∧k≤ns.length∧Hid (firstN ns p i k=firstN ns p i (p+1))∧Ext w wr∧Blk wr w.heap.size 25 t.cs) (fun v _=>i-(intOf v).toNat)
 case atStart=>exact⟨p+1,by go_num,by omega,AB rfl,(Ext.refl _).alloc _,Blk.new _ _ _⟩
 case round=>
  obtain⟨k,rfl,q1,HQ,E1,B1⟩:=hrel;have c1:=B1.cell;have l1:=B1.lt;by_cases hk:k<i
  ·cases hpk:(parN ns k==(p:Int))
   ·have HD:Hid (firstN ns p i (k+1)=firstN ns p i (p+1)):=AB (by rw[←AA HQ,firstN.eq_def ns p i k,if_pos hk,if_neg (by simpa using hpk)]);go_wp2_with fail;refine (parent_any t ns k (by omega) _ (h.ext E1) hm).mono ?_;rintro e w2 ⟨rfl,hx⟩;go_wp2_with fail;go_roundw
    case rel=>exact⟨k+1,by go_num,by omega,HD,E1.trans hx,B1.ext hx⟩
    case measure=>simp[intOf];omega
   ·have HD:Hid ((k:Int)=firstN ns p i (p+1)):=AB (by rw[←AA HQ,firstN.eq_def ns p i k,if_pos hk,if_pos (by simpa using hpk)]);go_wp2_with fail;refine (parent_any t ns k (by omega) _ (h.ext E1) hm).mono ?_;rintro e w2 ⟨rfl,hx⟩;go_wp2_with fail;go_ret;exact⟨ret1 (AA HD),E1.trans hx⟩
  ·have HD:Hid ((-1:Int)=firstN ns p i (p+1)):=AB (by rw[←AA HQ,firstN.eq_def ns p i k,if_neg hk]);go_wp2_with fail;go_ret;exact⟨ret1 (AA HD),E1⟩
end
end Go.Proofs.YtamldoocjjdidaaGreat
