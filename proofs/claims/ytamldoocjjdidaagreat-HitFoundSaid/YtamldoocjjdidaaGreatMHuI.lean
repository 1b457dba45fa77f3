import Derived.Test.YtamldoocjjdidaaGreatMHuH
namespace Go.Proofs.YtamldoocjjdidaaGreat
open Go.RowKit
set_option maxRecDepth 100000
set_option maxHeartbeats 64000000
def frB (its:List Im) (k:Nat):Nat:=match its[k]? with|some x=>if x.hd=true then 0 else 1|none=>0
def nh (its:List Im) (l:List Nat):Nat:=(l.map (frB its)).sum
theorem frB_some {its:List Im} {k:Nat} {x:Im} (h:its[k]?=some x):frB its k=if x.hd=true then 0 else 1:=by unfold frB;rw[h]
theorem frB_le (its:List Im) (k:Nat):frB its k≤1:=by
 unfold frB
 split
 ·split<;>omega
 ·omega
theorem nh_cons (its:List Im) (a:Nat) (l:List Nat):nh its (a :: l)=frB its a+nh its l:=by simp[nh]
theorem nh_take {its:List Im} {ks:List Nat} {i k:Nat} {x:Im} (hk:ks[i]?=some k) (hx:its[k]?=some x):nh its (ks.take (i+1))=nh its (ks.take i)+(if x.hd=true then 0 else 1):=by
 unfold nh;rw[List.take_add_one,hk,List.map_append,List.sum_append];simp[frB_some hx]
theorem nh_le (its:List Im):∀l:List Nat,nh its l≤l.length
 |[]=>by simp[nh]
 |a :: l=>by
  rw[nh_cons,List.length_cons];have:=nh_le its l;have:=frB_le its a;omega
theorem nh_set {its:List Im} {k:Nat} {y:Im}:∀{l:List Nat},k∉l→nh (its.set k y) l=nh its l
 |[],_=>rfl
 |a :: l,h=>by
  rw[nh_cons,nh_cons,nh_set (fun hm=>h (List.mem_cons_of_mem _ hm))];have h1:(its.set k y)[a]?=its[a]?:=List.getElem?_set_ne (fun e=>h (by rw[e];exact List.mem_cons_self));unfold frB;rw[h1]
theorem nh_pos {its:List Im}:∀{ks:List Nat},0<nh its ks→∃(j k:Nat) (x:Im),ks[j]?=some k∧its[k]?=some x∧x.hd=false
 |[],h=>by simp[nh] at h
 |a :: l,h=>by
  rw[nh_cons] at h;by_cases h1:0<nh its l
  ·obtain⟨j,k,x,h2,h3⟩:=nh_pos h1;exact⟨j+1,k,x,by simpa using h2,h3⟩
  ·cases hx:its[a]? with
   |none=>
    have h2:frB its a=0:=by unfold frB;rw[hx]
    omega
   |some x=>
    rw[frB_some hx] at h;refine⟨0,a,x,rfl,hx,?_⟩;cases hd:x.hd with
    |false=>rfl
    |true=>rw[hd] at h;simp at h;omega
theorem frB_mono {its its2:List Im} {a:Nat} (h:∀x,its[a]?=some x→x.hd=true→∃y,its2[a]?=some y∧y.hd=true) (hs:∃x,its[a]?=some x):frB its2 a≤frB its a:=by
 obtain⟨x,hx⟩:=hs;rw[frB_some hx];cases hd:x.hd with
 |false=>exact frB_le _ _
 |true=>
  obtain⟨y,hy,hyd⟩:=h x hx hd;rw[frB_some hy,hyd];simp
theorem nh_mono {its its2:List Im}:∀{l:List Nat},(∀k∈l,∀x,its[k]?=some x→x.hd=true→∃y,its2[k]?=some y∧y.hd=true)→(∀k∈l,∃x,its[k]?=some x)→nh its2 l≤nh its l
 |[],_,_=>Nat.le_refl _
 |a :: l,h,hs=>by
  have ih:=nh_mono (l:=l) (fun k hk=>h k (List.mem_cons_of_mem _ hk)) (fun k hk=>hs k (List.mem_cons_of_mem _ hk));have h1:=frB_mono (h a List.mem_cons_self) (hs a List.mem_cons_self);rw[nh_cons,nh_cons];omega
theorem nh_lt {its its2:List Im}:∀{l:List Nat},(∀k∈l,∀x,its[k]?=some x→x.hd=true→∃y,its2[k]?=some y∧y.hd=true)→(∀k∈l,∃x,its[k]?=some x)→(∃k∈l,∃x y,its[k]?=some x∧its2[k]?=some y∧x.hd=false∧y.hd=true)→nh its2 l<nh its l
 |[],_,_,⟨k,hk,_⟩=>by cases hk
 |a :: l,h,hs,⟨k,hk,x,y,hx,hy,hxd,hyd⟩=>by
  have h':∀k∈l,∀x,its[k]?=some x→x.hd=true→∃y,its2[k]?=some y∧y.hd=true:=fun k hk=>h k (List.mem_cons_of_mem _ hk)
  have hs':∀k∈l,∃x,its[k]?=some x:=fun k hk=>hs k (List.mem_cons_of_mem _ hk)
  have ih0:=nh_mono h' hs';have h1:=frB_mono (h a List.mem_cons_self) (hs a List.mem_cons_self);rw[nh_cons,nh_cons]
  rcases List.mem_cons.1 hk with e|hk
  ·subst e;rw[frB_some hx,frB_some hy,hxd,hyd];simp;omega
  ·have ih:=nh_lt h' hs' ⟨k,hk,x,y,hx,hy,hxd,hyd⟩;omega
theorem Later.held {its its2:List Im} {ks:List Nat} (h:Later its its2 ks):∀k∈ks,∀x,its[k]?=some x→x.hd=true→∃y,its2[k]?=some y∧y.hd=true:=fun k _ x hx hd=>by
 obtain⟨y,hy,hs⟩:=h.2.1 k x hx;exact⟨y,hy,by rw[hs.2 hd];exact hd⟩
def ImB (x:Im):Prop:=ImOk x∧(0≤x.w∧x.w≤10000000000000000)
structure MnI (its:List Im) (rs:List (List Nat)) (r:Nat):Prop where
 ok:∀x∈its,ImB x
 new:∀(q k:Nat) (x:Im),r≤q→k∈rs.getD q []→its[k]?=some x→x.hd=false∧x.w=0
structure MnR (gr:Bool) (its0 its:List Im) (ks:List Nat) (i:Nat):Prop where
 len:its.length=its0.length
 ok:∀x∈its,ImB x
 done:∀j k:Nat,j<i→ks[j]?=some k→∃y,its[k]?=some y∧ItB gr y
 todo:∀j k:Nat,i≤j→ks[j]?=some k→its[k]?=its0[k]?
 out:∀k:Nat,k∉ks→its[k]?=its0[k]?
theorem set_mem {its:List Im} {k:Nat} {y:Im} {P:Im→Prop} (h:∀x∈its,P x) (hy:P y):∀x∈its.set k y,P x:=fun x hx=>by
 rcases List.mem_or_eq_of_mem_set hx with h1|h1
 ·exact h x h1
 ·exact h1▸hy
theorem nodup_ne {ks:List Nat} (h:ks.Nodup) {i j k:Nat} (hi:ks[i]?=some k) (hj:ks[j]?=some k):i=j:=by
 obtain⟨a,rfl⟩:=List.getElem?_eq_some_iff.1 hi;obtain⟨b,hb⟩:=List.getElem?_eq_some_iff.1 hj;exact (List.getElem_inj h).1 hb.symm
theorem MnR.one {gr:Bool} {its0 its:List Im} {ks:List Nat} {i k:Nat} {y:Im} (h:MnR gr its0 its ks i) (hn:ks.Nodup) (hk:ks[i]?=some k) (hl:k<its.length) (hy:ItB gr y) (hb:ImB y):MnR gr its0 (its.set k y) ks (i+1):=by
 have hself:(its.set k y)[k]?=some y:=List.getElem?_set_self hl;refine⟨by rw[List.length_set];exact h.len,set_mem h.ok hb,fun j k' hj hk'=>?_,fun j k' hj hk'=>?_,fun k' hk'=>?_⟩
 ·by_cases hkk:k=k'
  ·subst hkk;exact⟨y,hself,hy⟩
  ·rcases Nat.lt_or_ge j i with h1|h1
   ·rw[List.getElem?_set_ne hkk];exact h.done j k' h1 hk'
   ·obtain rfl:j=i:=by omega
    rw[hk] at hk';exact absurd (Option.some.inj hk') hkk
 ·rw[List.getElem?_set_ne (fun e=>by subst e;have:=nodup_ne hn hk hk';omega)];exact h.todo j k' (by omega) hk'
 ·rw[List.getElem?_set_ne (fun e=>hk' (by rw[←e];exact List.mem_of_getElem? hk))];exact h.out k' hk'
theorem MnR.rowB {gr:Bool} {its0 its:List Im} {ks:List Nat} (h:MnR gr its0 its ks ks.length):RowB gr its ks:=fun k hk=>by
 obtain⟨j,hj,rfl⟩:=List.getElem_of_mem hk;exact h.done j _ hj (AE hj)
theorem take_not {ks:List Nat} (hn:ks.Nodup) {i k:Nat} (hk:ks[i]?=some k):k∉ks.take i:=fun hm=>by
 obtain⟨j,hj,he⟩:=List.getElem_of_mem hm;rw[List.length_take] at hj;have h1:ks[j]?=some k:=by
  rw[List.getElem_take] at he;rw[AE (by omega),he]
 have:=nodup_ne hn hk h1;omega
theorem flat_in {rs:List (List Nat)} {r k:Nat} (h:k∈rs.getD r []):k∈rs.flatten:=by
 rcases getD_in2 rs r [] with h2|h2
 ·exact List.mem_flatten.2 ⟨_,h2,h⟩
 ·rw[h2] at h;cases h
theorem flat_facts:∀{rs:List (List Nat)},rs.flatten.Nodup→(∀r,(rs.getD r []).Nodup)∧(∀r q k:Nat,r<q→k∈rs.getD r []→k∉rs.getD q [])
 |[],_=>⟨fun r=>by simp,fun r q k _ h=>by simp at h⟩
 |a :: rs,h=>by
  rw[List.flatten_cons,List.nodup_append] at h;obtain⟨h1,h2,h3⟩:=h;obtain⟨i1,i2⟩:=flat_facts h2;refine⟨fun r=>?_,fun r q k hrq hk hq=>?_⟩
  ·cases r with
   |zero=>exact h1
   |succ r=>exact i1 r
  ·cases q with
   |zero=>omega
   |succ q=>
    cases r with
    |zero=>exact h3 k hk k (flat_in hq) rfl
    |succ r=>exact i2 r q k (by omega) hk hq
theorem flat_len {rs:List (List Nat)} {n:Nat} (h:rs.flatten.Perm (List.range n)) (r:Nat):(rs.getD r []).length≤n:=by
 have h1:rs.flatten.length=n:=by rw[h.length_eq,List.length_range]
 rw[←h1]
 rcases getD_in2 rs r [] with h2|h2
 ·exact (List.sublist_flatten_of_mem h2).length_le
 ·rw[h2];simp
theorem MnI.next {its0 its its2:List Im} {rs:List (List Nat)} {r n:Nat} {gr:Bool} (h:MnI its0 rs r) (hp:rs.flatten.Perm (List.range n)) (h1:MnR gr its0 its (rs.getD r []) (rs.getD r []).length) (h2:Later its its2 (rs.getD r [])) (h3:RowB gr its2 (rs.getD r [])):MnI its2 rs (r+1):=by
 refine⟨fun y hy=>?_,fun q k x hq hk hx=>?_⟩
 ·obtain⟨k,hk,rfl⟩:=List.getElem_of_mem hy;have hkl:k<its.length:=by rw[←h2.1];exact hk
  obtain⟨y',hy',hs⟩:=h2.2.1 k _ (AE hkl);rw[AE hk] at hy';obtain rfl:=Option.some.inj hy';obtain⟨hok,hw⟩:=h1.ok _ (List.getElem_mem hkl);obtain⟨⟨a1,a2,a3,a4,a5,a6,a7⟩,_⟩:=hs;refine⟨⟨a1▸hok.kid,a4▸hok.sd,a5▸hok.b,a6▸hok.g⟩,?_⟩;by_cases hm:k∈rs.getD r []
  ·obtain⟨x,hx,hb⟩:=h3 k hm;rw[AE hk] at hx;obtain rfl:=Option.some.inj hx;exact hb.2.2.2.2.2.1
  ·have:=h2.2.2 k hm;rw[AE hk,AE hkl] at this;rw[Option.some.inj this];exact hw
 ·have hnm:k∉rs.getD r []:=fun hm=>(flat_facts (hp.nodup_iff.2 List.nodup_range)).2 r q k (by omega) hm hk
  rw[h2.2.2 k hnm,h1.out k hnm] at hx;exact h.new q k x (by omega) hk hx
structure MnS (w2 w:World) (B:Nat) (Ai:Option Addr) (n ci:Nat) (its:List Im):Prop where
 ext:ExtX w2 w (Value.ownBlock (.slice Ai n ci)).toList
 it:w.ownsRow B 201 51 (.slice Ai n ci) n (recs imC its)
theorem MnS.len {w2 w:World} {B n ci:Nat} {Ai:Option Addr} {its:List Im} (h:MnS w2 w B Ai n ci its):its.length=n:=(Rd.of_own h.it).recN imC_len (by omega)
theorem shrink_b {s b:Int} (hs:0≤s∧s≤60) (hb:0≤b∧b≤12000000000000):0≤s*b∧s*b≤720000000000000:=by
 refine⟨Int.mul_nonneg hs.1 hb.1,?_⟩;have h1:s*b≤60*b:=Int.mul_le_mul_of_nonneg_right hs.2 hb.1;omega
theorem built_u3 (a b c:Int):Tryz.prog.built 120 [(0,.int .i64 a),(1,.int .i64 b),(2,.int .i64 c)]=some (usC ⟨a,b,c⟩).toArray:=by kernel_rfl
theorem ntake (ks:List Nat):ks.take ks.length=ks:=List.take_of_length_le (Nat.le_refl _)
theorem ipts_take {g i k:Nat} {ks:List Nat} (hk:ks[i]?=some k):ipts g (ks.take i)++[.pointer (some ⟨g,k*51,none⟩)]=ipts g (ks.take (i+1)):=by
 rw[List.take_add_one,hk];simp[ipts,ptC]
def MainsIs (w:World) (n:Nat) (e:Ending) (w':World):Prop:=∃(A:Option Addr) (c:Nat) (B:Option Addr) (d:Nat) (us:List Us) (bl:List Bool),e=.returned (.tuple #[.slice A n c,.slice B n d])∧w'.ownsRow w.heap.size 120 3 (.slice A n c) n (recs usC us)∧(∀u∈us,UsOk u)∧w'.ownsRow w.heap.size 4 1 (.slice B n d) n (boolL bl)∧Ext w w'
theorem mains19_any (s:Sty) (A Ag:Option Addr) (n cap m cg:Nat) (cc:Int) (kl:List Sty) (cs:List Ct) (w:World) (rk:Rd w 43 A n (recs styC kl)) (rg:Rd w 4 Ag m (recs ctC cs)) (hn:n≤300) (hm:m≤1000000) (hks:∀s∈kl,KidOk s) (hcs:CtsOk cs) (hc:0≤cc∧cc≤1099511627776) :
  Calls Tryz.prog 108 #[.agg s.cells,.int .i64 cc,.slice A n cap,.slice Ag m cg] w (MainsIs w n):=by
 have cI:=fun w rk rg=>AB (items19_any A Ag n cap m cg cc kl cs w rk rg hn hm hks hcs hc)
 have cR:=fun w rk rg=>AB (rows_any s cc A Ag n cap m cg kl cs w rk rg hn hm hks hcs hc)
 have HC:=AB hc;clear hks hcs;go_enter Tryz.func108,Tryz.ntmps108;go_upto_region 1 with fail;have BS:Blk (w.alloc (.cells s.cells 65)) w.heap.size 65 s.cells:=Blk.new _ _ _;have E0:=AB ((Ext.refl w).alloc (.cells s.cells 65));generalize w.alloc (.cells s.cells 65)=w0 at *;generalize w.heap.size=gS at *;go_wp2_with fail
 with_reducible refine (AA (cI _ (rk.ext (AA E0)) (rg.ext (AA E0)))).mono ?_
 rintro e w1 ⟨Ai,ci,its0,rfl,OI,hok,hx⟩;replace BS:=BS.ext hx;have E1:=AB ((AA E0).trans hx);have HE01:=AB hx;clear hx cI;go_upto_region 2 with fail;go_step;refine wpList_load_blk rfl 65 (.tmp 4) rfl gS rfl 65 s.cells _ BS Tryz.underlying65 rfl (info_style _) ?_;simp only[AC];go_wp2_with fail
 with_reducible refine (AA (cR _ (rk.ext (AA E1)) (rg.ext (AA E1)))).mono ?_
 rintro e w2 ⟨Ar,nr,cr,rs,rfl,RR,hrl,hnr,hperm,hx⟩;have HOK:=AB hok;have HPerm:=AB hperm;have HE12:=AB hx;have hIl:=AB (show its0.length=n from (Rd.of_own OI).recN imC_len (by omega));have E2:=AB ((AA E1).trans hx);have OI2:=own_ext OI hx;have hgI:=AB (fun q e=>OI.lt q e);have G:MnS w2 w2 w0.heap.size Ai n ci its0:=⟨ExtX.refl _ _,OI2⟩
 have HM:=AB (show MnI its0 rs 0 from ⟨fun x hx=>⟨(hok x hx).1,by rw[(hok x hx).2.2];omega⟩,fun q k x _ _ hx=>(hok x (List.mem_of_getElem? hx)).2⟩);have HRR:=AB RR;have HIt:=AB item_row;have HIp:=AB ptr_row;have HIu:=AB us_row;have HIb:=AB bool_row;clear hx cR rk rg BS OI OI2 hok hperm RR;go_wp2_with fail;go_loopw [12] (fun v12 wq=>∃(r:Nat) (its:List Im),v12=.int .i64 r∧r≤nr∧MnS w2 wq w0.heap.size Ai n ci its∧Hid (MnI its rs r)) (fun v12 _=>nr-(intOf v12).toNat)
 case atStart=>exact⟨0,its0,rfl,by omega,G,HM⟩
 case round=>
  clear G HM;obtain⟨r,its,rfl,hr,G,HM⟩:=hrel;by_cases hrn:r<nr
  ·as_aux_lemma=>
   have hrnI:(0:Int)≤(r:Int)∧(r:Int)<(nr:Int):=by omega
   have hn0:0<n:=by omega
   obtain⟨g,hAi,lg0⟩:=own_addr G.it hn0;subst hAi;have hgl:=(AA hgI) g rfl;have HGL:=AB hgl;have rr:=(AA HRR).far G.ext (fun q hq=>by simp[Value.ownBlock] at hq;omega);obtain⟨ks,hks⟩:∃l,rs.getD r []=l:=⟨_,rfl⟩
   obtain⟨br,ofr,Aq,cq,hAr,-,lbr,cr0,rq,-⟩:=rr.at_ r hrn;simp only[hks,castL_len] at cr0 rq;have hkf:=flat_facts ((AA HPerm).nodup_iff.2 List.nodup_range);have HND:=AB (show ks.Nodup from hks▸hkf.1 r);have HKN:=AB (show ∀k∈ks,k<n from fun k hk=>List.mem_range.1 ((AA HPerm).mem_iff.1 (flat_in (hks▸hk))));have hkl:ks.length≤n:=hks▸flat_len (AA HPerm) r;have HKS:=AB hks;subst hAr;have HCR:=AB cr0;have HRQ:=AB rq;have HLB:=AB lbr;have HWR:=AB G.ext.size;clear hgl rr hks cr0 rq lbr lg0 hkf;have HG:=AB G;generalize hwq:wr=wp at *;clear hwq;go_wp2_with fail;go_loopw [13,14,15] (fun v13 v14 v15 wq=>∃(i:Nat) (Ap:Option Addr) (cp:Nat) (sm:Int),v15=.int .i64 i∧v14=.int .i64 sm∧v13=.slice Ap i cp∧i≤ks.length∧Hid (-(i*30000000000000)≤sm∧sm≤i*80000000000000)∧Hid (Ext wp wq)∧wq.ownsRow wp.heap.size 220 1 (.slice Ap i cp) i (ipts g (ks.take i))) (fun _ _ v15 _=>ks.length-(intOf v15).toNat)
   case atStart=>exact⟨0,none,0,0,rfl,rfl,rfl,by omega,AB (by omega),AB (Ext.refl _),own_nil _ _ _ _⟩
   case round=>
    obtain⟨i,Ap,cp,sm,rfl,rfl,rfl,hi,HS,E,OP⟩:=hrel;have c0:=((AA E).cells.1 br _ (AA HLB)).trans (AA HCR);have lb:=Nat.lt_of_lt_of_le (AA HLB) (AA E).size;by_cases hil:i<ks.length
    ·as_aux_lemma=>
     have hilI:(0:Int)≤(i:Int)∧(i:Int)<(ks.length:Int):=by omega
     obtain⟨k,hk⟩:∃k,ks[i]?=some k:=⟨_,AE hil⟩
     have hkn:=(AA HKN) k (List.mem_of_getElem? hk);have hknI:(0:Int)≤(k:Int)∧(k:Int)<(n:Int):=by omega
     obtain⟨bq,oq,hAq,lq,hcq⟩:=((AA HRQ).ext (AA E)).intIn (castL_get hk);subst hAq;obtain⟨x,hx⟩:∃x,its[k]?=some x:=⟨_,AE (by have:=(AA HG).len;omega)⟩
     obtain⟨lg,hcl⟩:=ItsIn.at_ (own_ext (AA HG).it (AA E)) hx;have i45:=hcl 45 _ (rfl:_=some (Value.int .i64 x.sd));have i47:=hcl 47 _ (rfl:_=some (Value.int .i64 x.g));have hxb:=((AA HM).ok x (List.mem_of_getElem? hx)).1;have hsd:=hxb.sd;have hgg:=hxb.g;have hsm:-10000000000000000≤sm∧sm≤30000000000000000:=by have:=AA HS;omega
     have HX:=AB hx;have HKi:=AB hk;clear hx hxb hcl hk;go_upto_region 12 with fail;clear c0 lb lq hcq
     iterate 7 go_step
     refine Go.Great.wpList_buildSliceTo rfl 219 220 1 _ rfl _ rfl _ rfl Tryz.underlying219 ([.pointer (some ⟨g,k*51,none⟩)]).toArray (by kernel_rfl) ?_;simp only[AC];have hx:Ext wr (wr.alloc (.cells ([.pointer (some ⟨g,k*51,none⟩)]).toArray 220)):=(Ext.refl _).alloc _;have R5:Rd (wr.alloc (.cells ([.pointer (some ⟨g,k*51,none⟩)]).toArray 220)) 1 (some ⟨wr.heap.size,0,none⟩) 1 ([.pointer (some ⟨g,k*51,none⟩)]):=(Blk.new wr 220 ([.pointer (some ⟨g,k*51,none⟩)]).toArray).rdk (n:=1) (k:=1) rfl;have O8:=own_ext OP hx;have E8:=(AA E).trans hx;clear hx OP;generalize wr.alloc (.cells ([.pointer (some ⟨g,k*51,none⟩)]).toArray 220)=w6 at *;generalize wr.heap.size=gqw6 at *;refine wpList_push (W:=wp) rfl (.tmp 64) (.tmp 66) 219 rfl wp.heap.size 220 1 Tryz.underlying219 HIp (by omega) _ i (ipts g (ks.take i)) rfl O8 _ 1 1 [.pointer (some ⟨g,k*51,none⟩)] rfl R5 (by simp[Value.oneCell']) (by omega) E8 (Nat.le_refl _) E8.size ?_;intro A5 c5 w7 O5 E5 g5 at5;rw[ipts_take (AA HKi)] at O5;have HE5:=AB E5;clear g5 at5 O8 E8 R5 E5 i45 i47 lg;obtain⟨lg,hcl⟩:=ItsIn.at_ (own_ext (AA HG).it (AA HE5)) (AA HX);have i45:=hcl 45 _ (rfl:_=some (Value.int .i64 x.sd));have i47:=hcl 47 _ (rfl:_=some (Value.int .i64 x.g));clear hcl;simp only[AC];go_upto_region 13 with fail
     go_quiet (fail)
     clear i45 i47 lg;go_wp2_with fail;go_roundw
     case rel=>exact⟨i+1,A5,c5,_,by go_num,rfl,rfl,by omega,AB (by have:=AA HS;omega),AB ((AA HE5).trans ((Ext.refl w7).drewN _)),own_ext O5 ((Ext.refl w7).drewN _)⟩
     case measure=>simp[intOf];omega
    ·as_aux_lemma=>
     have hilI:¬(i:Int)<(ks.length:Int):=by omega
     obtain rfl:i=ks.length:=by omega
     rw[ntake] at OP;have hW0:=AA HWR;have hW1:=AA HE12;have R:RnS wr wr w0.heap.size g n ci its Ap ks.length cp ks:=⟨ExtX.refl _ _,own_ext (AA HG).it (AA E),own_mono OP (by have:=hW1.size;have:=(AA HE01).size;omega),by have:=AA HGL;have:=(AA E).size;have:=hW1.size;omega,fun q hq=>(OP.lt q hq).2⟩
     have HEp:=E;have hgr0:0≤0:=by omega
     go_upto_region 14 with fail;clear hgr0;have hsm:-10000000000000000≤sm∧sm≤30000000000000000:=by have:=AA HS;omega
     clear HS E c0 lb OP hW0 hW1;generalize hwl:wr=wl at *;clear hwl;obtain⟨gr,hgr⟩:∃b,decide (sm<cc)=b:=⟨_,rfl⟩
     go_upto_region 15 with fail;clear hgr hsm;have HM0:=AB (show MnR gr its its ks 0 from ⟨rfl,(AA HM).ok,fun j k hj=>absurd hj (by omega),fun j k _ _=>rfl,fun k _=>rfl⟩);go_wp2_with fail;go_loopw [18,19] (fun v18 v19 wq=>∃(i:Nat) (it2:List Im),v19=.int .i64 i∧v18=.int .i64 ((nh it2 (ks.take i):Nat):Int)∧i≤ks.length∧RnS wl wq w0.heap.size g n ci it2 Ap ks.length cp ks∧Hid (MnR gr its it2 ks i)) (fun _ v19 _=>ks.length-(intOf v19).toNat)
     case atStart=>exact⟨0,its,rfl,rfl,by omega,R,HM0⟩
     case round=>
      clear R HM0;obtain⟨i,it2,rfl,rfl,hi,R,HM2⟩:=hrel;have hlf:=nh_le it2 (ks.take i);rw[List.length_take] at hlf;by_cases hil:i<ks.length
      ·as_aux_lemma=>
       have hilI:(0:Int)≤(i:Int)∧(i:Int)<(ks.length:Int):=by omega
       obtain⟨k,hk⟩:∃k,ks[i]?=some k:=⟨_,AE hil⟩
       have hkn:=(AA HKN) k (List.mem_of_getElem? hk);obtain⟨x,hx⟩:∃x,its[k]?=some x:=⟨_,AE (by have:=(AA HG).len;omega)⟩
       have hx2:it2[k]?=some x:=((AA HM2).todo i k (Nat.le_refl _) hk).trans hx;obtain⟨hd0,hw0⟩:=(AA HM).new r k x (Nat.le_refl _) (by rw[AA HKS];exact List.mem_of_getElem? hk) hx;have hxb:=((AA HM).ok x (List.mem_of_getElem? hx)).1;obtain⟨b,hAp,lb,c0⟩:=R.ptr hk;subst hAp;obtain⟨lg,hcl⟩:=R.it.at_ hx2;have i39:=hcl 39 _ (rfl:_=some (Value.int .i64 x.s.shrink));have i46:=hcl 46 _ (rfl:_=some (Value.int .i64 x.b));have i48:=hcl 48 _ (rfl:_=some (Value.int .i64 x.fa));have f48:=own_thaw R.it (k*51+48);have hsb:=shrink_b hxb.kid.shrink hxb.b;obtain⟨fa1,hfa1⟩:∃z,x.s.shrink*x.b=z:=⟨_,rfl⟩
       rw[hfa1] at hsb;have hfw:IntKind.i64.wrap (x.s.shrink*x.b)=fa1:=by rw[hfa1,IntWalk.i64_in _ (by omega)]
       have HFA:=AB hsb;have HX2:=AB hx2;have HKi:=AB hk;have HXB:=AB hxb;have HD0:=AB hd0;have HW0:=AB hw0;have HLG:=AB lg;clear hcl hx hx2 hd0 hw0 hxb hk hfa1 hsb;generalize hlfq:nh it2 (ks.take i)=lf at *;have HLF:=AB hlfq;clear hlfq;go_upto_region 20 with fail;clear c0 lb;refine wp_region_ord [(1,0),(1,1),(1,2),(1,3),(1,4),(0,5),(1,6),(1,7),(1,8),(0,9),(1,10),(1,11),(1,12),(3,13)] 13 (fun w'=>Ext wr w') (by kernel_rfl) (by kernel_rfl) rfl (by kernel_rfl) ((Ext.refl _).drew) ?_;simp only[AD]
       iterate 13 ((first|refine ordQA ?_|refine ordQB ?_);simp only[AC])
       refine ord_last ?_;go_wp2_with fail;refine ord_nil ?_;have R2:=(R.put (y:={ x with fa:=fa1 }) (v:=.int .i64 fa1) (AA HX2) (show 48<51 by decide) rfl).step (Ext.refl _).drew;clear R i39 i46 i48 f48 lg hfw HLG;generalize (World.setCell wr ⟨g,k*51+48,none⟩ (.int .i64 fa1)).drew=w5 at *;go_upto_if 105 with (fail);go_cut [] from 82 to 159 (fun wx=>∃fa:Int,Hid (0≤fa∧fa≤720000000000000)∧RnS wl wx w0.heap.size g n ci (it2.set k { x with fa:=fa }) (some ⟨b,0,none⟩) ks.length cp ks)
       case first=>
        as_aux_lemma=>
        cases gr
        ·go_wp2_with fail;go_meet
         case rel=>exact⟨fa1,HFA,R2⟩
        ·have hx3:(it2.set k { x with fa:=fa1 })[k]?=some { x with fa:=fa1 }:=List.getElem?_set_self (List.getElem?_eq_some_iff.1 (AA HX2)).1;obtain⟨lg,hcl⟩:=R2.it.at_ hx3;have i38:=hcl 38 _ (rfl:_=some (Value.int .i64 x.s.grow));have i48:=hcl 48 _ (rfl:_=some (Value.int .i64 fa1));have f48:=own_thaw R2.it (k*51+48);have R3:=R2.put (y:={ x with fa:=x.s.grow }) (v:=.int .i64 x.s.grow) hx3 (show 48<51 by decide) rfl;rw[List.set_set] at R3;have HR3:=AB R3;clear hcl hx3 R2 R3;go_wp2_with fail;go_meet
         case rel=>exact⟨x.s.grow,AB (by have:=(AA HXB).kid.grow;omega),AA HR3⟩
       case rest=>
        as_aux_lemma=>
        clear R2 HFA;obtain⟨fa,hfa,R⟩:=hcut;have HX3:=AB (show (it2.set k { x with fa:=fa })[k]?=some { x with fa:=fa } from List.getElem?_set_self (List.getElem?_eq_some_iff.1 (AA HX2)).1);go_upto_region 23 with fail;go_cut [147] from 82 to 159 (fun v147 wx=>(∃bb:Bool,v147=.bool bb∧Hid (bb=false→fa≠0))∧RnS wl wx w0.heap.size g n ci (it2.set k { x with fa:=fa }) (some ⟨b,0,none⟩) ks.length cp ks)
        case first=>
         as_aux_lemma=>
         obtain⟨lg,hcl⟩:=R.it.at_ (AA HX3);have i46:=hcl 46 _ (rfl:_=some (Value.int .i64 x.b));have i47:=hcl 47 _ (rfl:_=some (Value.int .i64 x.g));have i48:=hcl 48 _ (rfl:_=some (Value.int .i64 fa));clear hcl;by_cases h1:fa=0
         ·have h1b:(fa==0)=true:=by simpa using h1
          cases gr
          all_goals
           go_quiet (fail)
           go_wp2_with fail;go_meet
           case rel=>exact⟨⟨_,rfl,AB (fun h=>by first|cases h|exact absurd h (by decide))⟩,R.step ((Ext.refl _).drewN _)⟩
         ·have h1b:(fa==0)=false:=by simpa using h1
          cases gr
          ·by_cases h3:x.b<x.g
           all_goals
            go_quiet (fail)
            go_wp2_with fail;go_meet
            case rel=>exact⟨⟨_,rfl,AB (fun _=>h1)⟩,R.step ((Ext.refl _).drewN _)⟩
          ·by_cases h3:x.g<x.b
           all_goals
            go_quiet (fail)
            go_wp2_with fail;go_meet
            case rel=>exact⟨⟨_,rfl,AB (fun _=>h1)⟩,R.step ((Ext.refl _).drewN _)⟩
        case rest=>
         as_aux_lemma=>
         clear R;obtain⟨⟨bb,rfl,hbb⟩,R⟩:=hcut;cases bb
         ·have H3:=AB ((AA HM2).one (y:={ x with fa:=fa }) (AA HND) (AA HKi) (List.getElem?_eq_some_iff.1 (AA HX2)).1
           (show ItB gr { x with fa:=fa } from ⟨(AA HXB).kid,(AA HXB).sd,(AA HXB).b,AA hfa,fun _=>by have:=(AA hbb) rfl;have:=(AA hfa).1;show 0<fa;omega,by show 0≤x.w∧x.w≤_;rw[AA HW0];omega,fun _=>by show x.w≤_;rw[AA HW0];omega⟩)
           (show ImB { x with fa:=fa } from ⟨⟨(AA HXB).kid,(AA HXB).sd,(AA HXB).b,(AA HXB).g⟩,by show 0≤x.w∧x.w≤_;rw[AA HW0];omega⟩))
          have hnh:nh (it2.set k { x with fa:=fa }) (ks.take (i+1))=lf+1:=by
           rw[nh_take (AA HKi) (AA HX3),nh_set (take_not (AA HND) (AA HKi)),AA HLF]
           show lf+(if x.hd=true then 0 else 1)=lf+1
           rw[AA HD0];rfl
          have HNH:=AB hnh;clear hnh;go_wp2_with fail;go_roundw
          case rel=>exact⟨i+1,_,by go_num,by rw[AA HNH];go_num,by omega,R,H3⟩
          case measure=>simp[intOf];omega
         ·obtain⟨lg,hcl⟩:=R.it.at_ (AA HX3);have i47:=hcl 47 _ (rfl:_=some (Value.int .i64 x.g));have i49:=hcl 49 _ (rfl:_=some (Value.bool x.hd));have i50:=hcl 50 _ (rfl:_=some (Value.int .i64 x.w));have f49:=own_thaw R.it (k*51+49);have f50:=own_thaw R.it (k*51+50);have R2:=(R.put (y:={ x with fa:=fa,hd:=true }) (v:=.bool true) (AA HX3) (show 49<51 by decide) rfl).put (y:={ x with fa:=fa,hd:=true,w:=x.g }) (v:=.int .i64 x.g) (List.getElem?_set_self (List.getElem?_eq_some_iff.1 (AA HX3)).1) (show 50<51 by decide) rfl;rw[List.set_set,List.set_set] at R2;have HR2:=AB R2;have H3:=AB ((AA HM2).one (y:={ x with fa:=fa,hd:=true,w:=x.g }) (AA HND) (AA HKi) (List.getElem?_eq_some_iff.1 (AA HX2)).1
           (show ItB gr { x with fa:=fa,hd:=true,w:=x.g } from ⟨(AA HXB).kid,(AA HXB).sd,(AA HXB).b,AA hfa,fun h=>by (cases h),by have:=(AA HXB).g;show 0≤x.g∧x.g≤_;omega,fun _=>by have:=(AA HXB).g;show x.g≤_;omega⟩)
           (show ImB { x with fa:=fa,hd:=true,w:=x.g } from ⟨⟨(AA HXB).kid,(AA HXB).sd,(AA HXB).b,(AA HXB).g⟩,by have:=(AA HXB).g;show 0≤x.g∧x.g≤_;omega⟩))
          have hnh:nh (it2.set k { x with fa:=fa,hd:=true,w:=x.g }) (ks.take (i+1))=lf:=by
           rw[nh_take (AA HKi) (List.getElem?_set_self (List.getElem?_eq_some_iff.1 (AA HX2)).1),nh_set (take_not (AA HND) (AA HKi)),AA HLF];rfl
          have HNH:=AB hnh;clear hnh hcl R R2;go_wp2_with fail;go_roundw
          case rel=>exact⟨i+1,_,by go_num,by rw[AA HNH],by omega,AA HR2,H3⟩
          case measure=>simp[intOf];omega
      ·as_aux_lemma=>
       have hilI:¬(i:Int)<(ks.length:Int):=by omega
       obtain rfl:i=ks.length:=by omega
       rw[ntake] at hlf ⊢;have HB3:=AB (AA HM2).rowB;have HM3:=HM2;clear hlf;go_wp2_with fail;go_loopw [18] (fun v18 wq=>∃it4:List Im,v18=.int .i64 ((nh it4 ks:Nat):Int)∧RnS wl wq w0.heap.size g n ci it4 Ap ks.length cp ks∧Hid (Later it2 it4 ks)∧Hid (RowB gr it4 ks)) (fun v18 _=>(intOf v18).toNat)
       case atStart=>exact⟨it2,rfl,R,AB (Later.refl _ _),HB3⟩
       case round=>
        clear R HB3;obtain⟨it4,rfl,R,HL4,HB4⟩:=hrel;have hlf:=nh_le it4 ks;by_cases hz:0<nh it4 ks
        ·as_aux_lemma=>
         have cRd:=AB (round19_any gr w0.heap.size g n ci Ap ks.length cp cc R.new (AA HB4) (by omega) (AA HC) (nh_pos hz));generalize hlfq:nh it4 ks=lf at *;have HLF:=AB hlfq;clear hlfq;have hzI:(0:Int)<(lf:Int)∧(lf:Int)≤300:=by omega
         go_wp2_with fail
         with_reducible refine (AA cRd).mono ?_
         rintro e w5 ⟨rfl,it5,R5,L5,B5,hp⟩;have hsome:∀k∈ks,∃x,it4[k]?=some x:=fun k hk=>by
          obtain⟨x,hx,_⟩:=(AA HB4) k hk;exact⟨x,hx⟩
         have HLT:=AB (show nh it5 ks<lf by rw[←AA HLF];exact nh_lt L5.held hsome hp);have R6:=R.then R5
         have HB5:=AB B5;have HL5:=AB ((AA HL4).trans L5);clear R R5 L5 B5 hp hsome cRd HL4 HB4;go_wp2_with fail;go_loopw [18,21] (fun v18 v21 wq=>∃j:Nat,v21=.int .i64 j∧v18=.int .i64 ((nh it5 (ks.take j):Nat):Int)∧j≤ks.length∧wq=w5) (fun _ v21 _=>ks.length-(intOf v21).toNat)
         case atStart=>exact⟨0,rfl,rfl,by omega,rfl⟩
         case round=>
          obtain⟨j,rfl,rfl,hj,hwr⟩:=hrel;subst hwr;have hlj:=nh_le it5 (ks.take j);rw[List.length_take] at hlj;by_cases hjl:j<ks.length
          ·as_aux_lemma=>
           have hjI:(0:Int)≤(j:Int)∧(j:Int)<(ks.length:Int):=by omega
           obtain⟨k,hk⟩:∃k,ks[j]?=some k:=⟨_,AE hjl⟩
           obtain⟨y,hy,-⟩:=(AA HB5) k (List.mem_of_getElem? hk);obtain⟨b,hAp,lb,c0⟩:=R6.ptr hk;subst hAp;obtain⟨lg,hcl⟩:=R6.it.at_ hy;have i49:=hcl 49 _ (rfl:_=some (Value.bool y.hd));have hnx:=nh_take hk hy;obtain⟨hv,hhv⟩:∃v,y.hd=v:=⟨_,rfl⟩
           rw[hhv] at i49 hnx;generalize hlq:nh it5 (ks.take j)=lj at *;have HNX:=AB hnx;clear hcl hk hy hhv hlq hnx;cases hv
           ·go_wp2_with fail;go_roundw
            case rel=>exact⟨j+1,by go_num,by have:=AA HNX;simp at this;rw[this];go_num,by omega,by first|trivial|rfl⟩
            case measure=>simp[intOf];omega
           ·go_wp2_with fail;go_roundw
            case rel=>exact⟨j+1,by go_num,by have:=AA HNX;simp at this;rw[this],by omega,by first|trivial|rfl⟩
            case measure=>simp[intOf];omega
          ·as_aux_lemma=>
           have hjI:¬(j:Int)<(ks.length:Int):=by omega
           obtain rfl:j=ks.length:=by omega
           rw[ntake] at hlj ⊢;go_wp2_with fail;go_roundw
           case rel=>exact⟨it5,rfl,R6,HL5,HB5⟩
           case measure=>have:=AA HLT;simp[intOf];omega
        ·as_aux_lemma=>
         have hz0:nh it4 ks=0:=by omega
         rw[hz0];have HMN:=AB (show MnI it4 rs (r+1) from (AA HM).next (AA HPerm) (gr:=gr) (by rw[AA HKS];exact AA HM3) (by rw[AA HKS];exact AA HL4) (by rw[AA HKS];exact AA HB4));have GN:MnS w2 wr w0.heap.size (some ⟨g,0,none⟩) n ci it4:=⟨((AA HG).ext.trans (AA HEp)).transX R.ext (fun y hy=>hy),R.it⟩
         clear hz0 hlf;go_wp2_with fail;go_roundw
         case rel=>exact⟨r+1,it4,by go_num,by omega,GN,HMN⟩
         case measure=>simp[intOf];omega
  ·as_aux_lemma=>
   have hrnI:¬(r:Int)<(nr:Int):=by omega
   have EF:=AB (ExtX.base (AA E2) G.ext (fun q hq=>by
    have h1:Value.ownBlock (.slice Ai n ci)=some q:=by simpa using hq
    have h2:=(AA hgI) q h1;have:=(AA E0).size;omega))
   have RI:=Rd.of_own G.it;have hil:=AB G.len;have HMk:=AB (AA HM).ok;clear G HM HRR HPerm hgI;generalize hwq:wr=wf at *;clear hwq;go_wp2_with fail;go_loopw [22,23,24] (fun v22 v23 v24 wq=>∃(i:Nat) (A2 B2:Option Addr) (c2 d2:Nat) (us:List Us) (bl:List Bool),v24=.int .i64 i∧v22=.slice A2 i c2∧v23=.slice B2 i d2∧i≤n∧Hid (∀u∈us,UsOk u)∧Hid (Ext wf wq)∧wq.ownsRow wf.heap.size 120 3 (.slice A2 i c2) i (recs usC us)∧wq.ownsRow wf.heap.size 4 1 (.slice B2 i d2) i (boolL bl)) (fun _ _ v24 _=>n-(intOf v24).toNat)
   case atStart=>exact⟨0,none,none,0,0,[],[],rfl,rfl,rfl,by omega,AB (by simp),AB (Ext.refl _),own_nil _ _ _ _,own_nil _ _ _ _⟩
   case round=>
    obtain⟨i,A2,B2,c2,d2,us,bl,rfl,rfl,rfl,hi,HU,E,OU,OB⟩:=hrel;by_cases hin:i<n
    ·as_aux_lemma=>
     have hinI:(0:Int)≤(i:Int)∧(i:Int)<(n:Int):=by omega
     obtain⟨x,hx⟩:∃x,its[i]?=some x:=⟨_,AE (by have:=AA hil;omega)⟩
     obtain⟨bi,oi,hAi,lbi,hmi⟩:=(RI.ext (AA E)).rec_ imC_len hx (by omega);subst hAi;have i50:=hmi 50 _ (rfl:_=some (Value.int .i64 x.w));have i43:=hmi 43 _ (rfl:_=some (Value.int .i64 x.l));have i44:=hmi 44 _ (rfl:_=some (Value.int .i64 x.r));have hxw:=((AA HMk) x (List.mem_of_getElem? hx)).2;have HUo:=AB (UsOk.cut (x:=x.w) (l:=x.l) (r:=x.r) hxw.1);have cC:=fun z w=>AB (ref_cut z w)
     have c1:=fun w=>cC x.w w
     have c2':=fun w=>cC x.l w
     have c3:=fun w=>cC x.r w
     obtain⟨z1,hz1⟩:∃z,cutV x.w=z:=⟨_,rfl⟩
     obtain⟨z2,hz2⟩:∃z,cutV x.l=z:=⟨_,rfl⟩
     obtain⟨z3,hz3⟩:∃z,cutV x.r=z:=⟨_,rfl⟩
     obtain⟨b1,hb1⟩:∃z,cutB x.w=z:=⟨_,rfl⟩
     obtain⟨b2,hb2⟩:∃z,cutB x.l=z:=⟨_,rfl⟩
     obtain⟨b3,hb3⟩:∃z,cutB x.r=z:=⟨_,rfl⟩
     rw[hz1,hz2,hz3] at HUo;simp only[hz1,hb1] at c1;simp only[hz2,hb2] at c2';simp only[hz3,hb3] at c3;clear hmi hx hxw cC hz1 hz2 hz3 hb1 hb2 hb3;go_wp2_with fail
     with_reducible refine (AA (c1 _)).mono ?_
     rintro e v1 ⟨rfl,hv⟩;subst hv;go_wp2_with fail
     with_reducible refine (AA (c2' _)).mono ?_
     rintro e v1 ⟨rfl,hv⟩;subst hv;go_wp2_with fail
     with_reducible refine (AA (c3 _)).mono ?_
     rintro e v1 ⟨rfl,hv⟩;subst hv;clear c1 c2' c3 i50 i43 i44 lbi;go_upto_region 43 with fail
     iterate 13 go_step
     refine wpList_buildTo rfl 120 _ rfl _ rfl (usC ⟨z1,z2,z3⟩).toArray (by simp only[List.map_toArray,List.map_cons,List.map_nil];exact built_u3 _ _ _) ?_;simp only[AC];refine Go.Great.wpList_buildSliceTo rfl 27 120 1 _ rfl _ rfl _ rfl Tryz.underlying27 (usC ⟨z1,z2,z3⟩).toArray (by simp only[List.map_toArray,List.map_cons,List.map_nil];exact built_us _) ?_;simp only[AC];have hx:Ext wr (wr.alloc (.cells (usC ⟨z1,z2,z3⟩).toArray 120)):=(Ext.refl _).alloc _;have R5:Rd (wr.alloc (.cells (usC ⟨z1,z2,z3⟩).toArray 120)) 3 (some ⟨wr.heap.size,0,none⟩) 1 (usC ⟨z1,z2,z3⟩):=(Blk.new wr 120 (usC ⟨z1,z2,z3⟩).toArray).rdk (n:=1) (k:=3) rfl;have O8:=own_ext OU hx;have B8:=own_ext OB hx;have E8:=(AA E).trans hx;clear hx OU OB E;generalize wr.alloc (.cells (usC ⟨z1,z2,z3⟩).toArray 120)=w6 at *;generalize wr.heap.size=gqw6 at *;refine wpList_push (W:=wf) rfl (.tmp 215) (.tmp 220) 27 rfl wf.heap.size 120 3 Tryz.underlying27 HIu (by omega) _ i (recs usC us) rfl O8 _ 1 1 (usC ⟨z1,z2,z3⟩) rfl R5 (usC_one _) (by omega) E8 (Nat.le_refl _) E8.size ?_;intro A5 c5 w7 O5 E5 g5 at5;have O5':w7.ownsRow wf.heap.size 120 3 (.slice A5 (i+1) c5) (i+1) (recs usC (us++[⟨z1,z2,z3⟩])):=by rw[recs_append,recs_one];exact O5
     have B5:=B8.kept g5 (own_ne B8 O8 (by decide));have HE5:=AB E5;have HU2:=AB (show ∀u∈us++[(⟨z1,z2,z3⟩:Us)],UsOk u from fun u hu=>by
      rcases List.mem_append.1 hu with hu|hu
      ·exact (AA HU) u hu
      ·rw[List.mem_singleton.1 hu];exact AA HUo)
     clear O5 E5 g5 at5 O8 B8 E8 R5 HU HUo;simp only[AC];go_upto_region 44 with fail;cases b1
     ·cases b2
      ·iterate 10 go_step
       go_guarded
       iterate 8 go_step
       go_guarded
       iterate 5 go_step
       refine Go.Great.wpList_buildSliceTo rfl 106 4 1 _ rfl _ rfl _ rfl Tryz.underlying106 ([Value.bool b3]).toArray (by kernel_rfl) ?_;simp only[AC];have hx:Ext w7 (w7.alloc (.cells ([Value.bool b3]).toArray 4)):=(Ext.refl _).alloc _;have R5:Rd (w7.alloc (.cells ([Value.bool b3]).toArray 4)) 1 (some ⟨w7.heap.size,0,none⟩) 1 ([Value.bool b3]):=(Blk.new w7 4 ([Value.bool b3]).toArray).rdk (n:=1) (k:=1) rfl;have O8:=own_ext O5' hx;have B8:=own_ext B5 hx;have E8:=(AA HE5).trans hx;clear hx O5' B5 HE5;generalize w7.alloc (.cells ([Value.bool b3]).toArray 4)=w8 at *;generalize w7.heap.size=gqw8 at *;refine wpList_push (W:=wf) rfl (.tmp 222) (.tmp 230) 106 rfl wf.heap.size 4 1 Tryz.underlying106 HIb (by omega) _ i (boolL bl) rfl B8 _ 1 1 [Value.bool b3] rfl R5 (by simp[Value.oneCell']) (by omega) E8 (Nat.le_refl _) E8.size ?_;intro A6 c6 w9 O6 E6 g6 at6;have B9:w9.ownsRow wf.heap.size 4 1 (.slice A6 (i+1) c6) (i+1) (boolL (bl++[b3])):=by rw[show boolL (bl++[b3])=boolL bl++[Value.bool b3] by simp[boolL]];exact O6
       have U9:=O8.kept g6 (own_ne O8 B8 (by decide));have HE6:=AB E6;clear O6 E6 g6 at6 O8 B8 E8 R5;simp only[AC];go_wp2_with fail;go_roundw
       case rel=>exact⟨i+1,A5,A6,c5,c6,_,_,by go_num,rfl,rfl,by omega,HU2,HE6,U9,B9⟩
       case measure=>simp[intOf];omega
      ·iterate 10 go_step
       go_guarded
       iterate 8 go_step
       first
        |go_skip
        |go_guarded
       iterate 3 go_step
       refine Go.Great.wpList_buildSliceTo rfl 106 4 1 _ rfl _ rfl _ rfl Tryz.underlying106 ([Value.bool true]).toArray (by kernel_rfl) ?_;simp only[AC];have hx:Ext w7 (w7.alloc (.cells ([Value.bool true]).toArray 4)):=(Ext.refl _).alloc _;have R5:Rd (w7.alloc (.cells ([Value.bool true]).toArray 4)) 1 (some ⟨w7.heap.size,0,none⟩) 1 ([Value.bool true]):=(Blk.new w7 4 ([Value.bool true]).toArray).rdk (n:=1) (k:=1) rfl;have O8:=own_ext O5' hx;have B8:=own_ext B5 hx;have E8:=(AA HE5).trans hx;clear hx O5' B5 HE5;generalize w7.alloc (.cells ([Value.bool true]).toArray 4)=w8 at *;generalize w7.heap.size=gqw8 at *;refine wpList_push (W:=wf) rfl (.tmp 222) (.tmp 230) 106 rfl wf.heap.size 4 1 Tryz.underlying106 HIb (by omega) _ i (boolL bl) rfl B8 _ 1 1 [Value.bool true] rfl R5 (by simp[Value.oneCell']) (by omega) E8 (Nat.le_refl _) E8.size ?_;intro A6 c6 w9 O6 E6 g6 at6;have B9:w9.ownsRow wf.heap.size 4 1 (.slice A6 (i+1) c6) (i+1) (boolL (bl++[true])):=by rw[show boolL (bl++[true])=boolL bl++[Value.bool true] by simp[boolL]];exact O6
       have U9:=O8.kept g6 (own_ne O8 B8 (by decide));have HE6:=AB E6;clear O6 E6 g6 at6 O8 B8 E8 R5;simp only[AC];go_wp2_with fail;go_roundw
       case rel=>exact⟨i+1,A5,A6,c5,c6,_,_,by go_num,rfl,rfl,by omega,HU2,HE6,U9,B9⟩
       case measure=>simp[intOf];omega
     ·iterate 10 go_step
      first
       |go_skip
       |go_guarded
      iterate 6 go_step
      first
       |go_skip
       |go_guarded
      iterate 3 go_step
      refine Go.Great.wpList_buildSliceTo rfl 106 4 1 _ rfl _ rfl _ rfl Tryz.underlying106 ([Value.bool true]).toArray (by kernel_rfl) ?_;simp only[AC];have hx:Ext w7 (w7.alloc (.cells ([Value.bool true]).toArray 4)):=(Ext.refl _).alloc _;have R5:Rd (w7.alloc (.cells ([Value.bool true]).toArray 4)) 1 (some ⟨w7.heap.size,0,none⟩) 1 ([Value.bool true]):=(Blk.new w7 4 ([Value.bool true]).toArray).rdk (n:=1) (k:=1) rfl;have O8:=own_ext O5' hx;have B8:=own_ext B5 hx;have E8:=(AA HE5).trans hx;clear hx O5' B5 HE5;generalize w7.alloc (.cells ([Value.bool true]).toArray 4)=w8 at *;generalize w7.heap.size=gqw8 at *;refine wpList_push (W:=wf) rfl (.tmp 222) (.tmp 230) 106 rfl wf.heap.size 4 1 Tryz.underlying106 HIb (by omega) _ i (boolL bl) rfl B8 _ 1 1 [Value.bool true] rfl R5 (by simp[Value.oneCell']) (by omega) E8 (Nat.le_refl _) E8.size ?_;intro A6 c6 w9 O6 E6 g6 at6;have B9:w9.ownsRow wf.heap.size 4 1 (.slice A6 (i+1) c6) (i+1) (boolL (bl++[true])):=by rw[show boolL (bl++[true])=boolL bl++[Value.bool true] by simp[boolL]];exact O6
      have U9:=O8.kept g6 (own_ne O8 B8 (by decide));have HE6:=AB E6;clear O6 E6 g6 at6 O8 B8 E8 R5;simp only[AC];go_wp2_with fail;go_roundw
      case rel=>exact⟨i+1,A5,A6,c5,c6,_,_,by go_num,rfl,rfl,by omega,HU2,HE6,U9,B9⟩
      case measure=>simp[intOf];omega
    ·as_aux_lemma=>
     have hinI:¬(i:Int)<(n:Int):=by omega
     obtain rfl:i=n:=by omega
     go_wp2_with fail;go_ret2;exact⟨A2,c2,B2,d2,us,bl,rfl,own_mono OU (AA EF).size,AA HU,own_mono OB (AA EF).size,(AA EF).trans (AA E)⟩
end Go.Proofs.YtamldoocjjdidaaGreat
