import Derived.Test.YtamldoocjjdidaaGreatMHvH
namespace Go.Proofs.YtamldoocjjdidaaGreat
open Go.ChangeShapes Go.WideShapes Go.ChangeAt Go.RowKit
set_option maxRecDepth 100000
set_option maxHeartbeats 64000000
theorem recs_of {α:Type} {f:α→List Value} {P:α→Prop}:∀(xss:List (List Value)),(∀xs∈xss,∃x:α,xs=f x∧P x)→∃l:List α,xss.flatten=recs f l∧∀x∈l,P x
 |[],_=>⟨[],rfl,fun x hx=>by cases hx⟩
 |xs :: t,h=>by
  obtain⟨x,h1,h2⟩:=h xs (List.mem_cons_self ..);obtain⟨l,h3,h4⟩:=recs_of t (fun y hy=>h y (List.mem_cons_of_mem _ hy));refine⟨x :: l,by rw[List.flatten_cons,h1,h3];rfl,fun y hy=>?_⟩
  rcases List.mem_cons.1 hy with rfl|hy
  ·exact h2
  ·exact h4 y hy
theorem flat_point:flat Tryz.prog 5 45=some [.int .i64,.int .i64,.bool,.int .u8]:=by kernel_rfl
theorem cells_point:Tryz.prog.cellsOf 45=4:=by kernel_rfl
structure Pt where
 (x y:Int) (near:Bool) (node:Int)
def pntC (p:Pt):List Value:=[.int .i64 p.x,.int .i64 p.y,.bool p.near,.int .u8 p.node]
theorem pntC_len (p:Pt):(pntC p).length=4:=rfl
structure Pt.Ok (p:Pt):Prop where
 (x1:-9223372036854775808≤p.x) (x2:p.x≤9223372036854775807) (y1:-9223372036854775808≤p.y) (y2:p.y≤9223372036854775807) (n1:0≤p.node) (n2:p.node≤255)
section
variable {H:Type} {enc:TypeId×Value→H} {w:World} {spare:Nat→Bool} {held:Bool}
theorem open_points {r:Reach} {b0:Nat} {v:Value} {d:DataW H} {p:List MemPlace} (hv:Value.okWide Tryz.prog w r b0 31 v) (h:DataW.Trod enc Tryz.prog w 0 spare held 31 v d p) :
  ∃(A:Option Addr) (n c:Nat) (ps:List Pt),v=.slice A n c∧Rd w 4 A n (recs pntC ps)∧(∀p∈ps,p.Ok)∧n≤maxLen:=by
 obtain⟨a,len,cap,rfl⟩:=okWide_slice Tryz.underlying31 hv;obtain⟨fuel,hfu⟩:=h;obtain⟨a',len',cap',hcs,hs⟩:=slice_of_trod Tryz.underlying31 hfu;simp[Value.cells] at hcs;obtain⟨rfl,rfl,rfl⟩:=hcs;obtain⟨xss,_,_,hr,hx⟩:=hs.rd cells_point (by omega);obtain⟨ps,hu,hp⟩:=recs_of (f:=pntC) (P:=Pt.Ok) xss (fun xs hm=>by
  obtain⟨x,fuel,ht⟩:=hx xs hm;have hl:=flat_ok 5 45 _ fuel xs x flat_point ht;obtain⟨v0,t0,rfl,k0,h0⟩:=hl.cons;obtain⟨v1,t1,rfl,k1,h1⟩:=h0.cons;obtain⟨v2,t2,rfl,k2,h2⟩:=h1.cons;obtain⟨v3,t3,rfl,k3,h3⟩:=h2.cons;obtain rfl:=h3.nil;obtain⟨z0,rfl,q0⟩:=k0;obtain⟨z1,rfl,q1⟩:=k1;obtain⟨z2,rfl⟩:=k2;obtain⟨z3,rfl,q3⟩:=k3;have:=bd_i64 q0;have:=bd_i64 q1;have:=bd_u8 q3;exact⟨⟨z0,z1,z2,z3⟩,rfl,by constructor<;>simp only<;>omega⟩)
 exact⟨a,len,cap,ps,rfl,hu▸hr,hp,Nat.le_trans hs.1 hs.2.1⟩
def UnOk (w:World) (n:Nd) (us:List Int):Prop:=Rd w 1 n.s.ua n.s.ul (u16s us)∧(∀u∈us,0≤u∧u≤65535)∧n.s.ul≤n.s.uc∧n.s.uc≤maxLen
theorem open_tree29 {r:Reach} {b0:Nat} {v:Value} {d:DataW H} {p:List MemPlace} (hv:Value.okWide Tryz.prog w r b0 25 v) (h:DataW.Trod enc Tryz.prog w 0 spare held 25 v d p) :
  ∃(t:Tr) (ns:List Nd) (av:List Int) (un:Nat→List Int),v=.agg t.cs∧TrIn w t ns av∧t.nl≤maxLen∧t.al≤maxLen∧(∀(i:Nat) (n:Nd),ns[i]?=some n→UnOk w n (un i)):=by
 obtain⟨cs,rfl,_⟩:=okWide_struct Tryz.underlying25 hv;obtain⟨fuel,hf⟩:=h;have hl:=flat_ok 3 25 _ fuel _ _ flat_tree hf;obtain⟨v0,t0,e0,k0,h0⟩:=hl.cons;obtain⟨v1,t1,e1,k1,h1⟩:=h0.cons;obtain⟨v2,t2,e2,k2,h2⟩:=h1.cons;obtain rfl:=h2.nil;obtain⟨na,nl,nc,rfl,hn⟩:=k0;obtain⟨aa,al,ac,rfl,ha⟩:=k1;obtain⟨view,rfl,hview⟩:=k2;subst e2;subst e1;have hcs:cs=#[.slice na nl nc,.slice aa al ac,.int .i64 view]:=Array.toList_inj.1 e0;obtain⟨xss,_,_,hr,hx⟩:=hn.rd cells_node (by omega);obtain⟨ns,hns,hun⟩:=recs_of (f:=Nd.cells) (P:=fun n=>∃us,UnOk w n us) xss (fun xs hm=>by
  obtain⟨x,fuel,ht⟩:=hx xs hm;have hl:=flat_ok 5 67 _ fuel xs x flat_node ht;obtain⟨v0,t0,rfl,k0,h0⟩:=hl.cons;obtain⟨s,rfl,_,hu⟩:=leaves_style h0;obtain⟨us,hr,hb⟩:=units_rd hu;obtain⟨p,rfl,_⟩:=k0;exact⟨⟨p,s⟩,rfl,us,hr,hb,hu.1,hu.2.1⟩)
 obtain⟨yss,_,_,hr2,hy⟩:=ha.rd cells_int (by omega);obtain⟨av,hav⟩:=ints_of yss (fun xs hm=>by
  obtain⟨x,fuel,ht⟩:=hy xs hm;have hl:=flat_ok 3 2 _ fuel xs x flat_int ht;obtain⟨v0,t0,rfl,k0,h0⟩:=hl.cons;obtain rfl:=h0.nil;obtain⟨z,rfl,_⟩:=k0;exact⟨z,rfl⟩)
 have hch:∀i:Nat,∃us:List Int,∀n:Nd,ns[i]?=some n→UnOk w n us:=fun i=>by
  cases hi:ns[i]? with
  |none=>exact⟨[],fun n h=>by cases h⟩
  |some m=>
   obtain⟨us,hus⟩:=hun m (List.mem_of_getElem? hi);exact⟨us,fun n h=>by injection h with h;rw[←h];exact hus⟩
 exact⟨⟨na,nl,nc,aa,al,ac,view⟩,ns,av,fun i=>Classical.choose (hch i),by rw[hcs],⟨by rw[show nds ns=recs Nd.cells ns from rfl,←hns];exact hr,hav▸hr2⟩,Nat.le_trans hn.1 hn.2.1,Nat.le_trans ha.1 ha.2.1,fun i n h=>Classical.choose_spec (hch i) n h⟩
end
end Go.Proofs.YtamldoocjjdidaaGreat
namespace Go.Proofs.YtamldoocjjdidaaGreat
open Go.RowKit
set_option maxRecDepth 100000
set_option maxHeartbeats 64000000
def unSum (ns:List Nd) (k:Nat):Nat:=((ns.take k).map fun n=>min n.s.ul 5000).sum
theorem unSum_succ {ns:List Nd} {k:Nat} {n:Nd} (h:ns[k]?=some n):unSum ns (k+1)=unSum ns k+min n.s.ul 5000:=by
 unfold unSum;rw[List.take_add_one,h,List.map_append,List.sum_append];simp
structure FewP (t:Tr) (ns:List Nd):Prop where
 nl:t.nl≤300
 al:t.al≤600
 un:unSum ns ns.length≤4000
section
variable (t:Tr) (ns:List Nd) (av:List Int)
def FewIs (w:World) (e:Ending) (w':World):Prop:=∃q:Bool,e=.returned (.bool q)∧Ext w w'∧(q=true→FewP t ns)
theorem few_any (w:World) (h:TrIn w t ns av) (hm:t.nl≤maxLen) (ha:t.al≤maxLen) (hu:∀(i:Nat) (n:Nd),ns[i]?=some n→n.s.ul≤maxLen) :
  Calls Tryz.prog 19 #[.agg t.cs] w (FewIs t ns w):=by
 have hl:=h.nodes.nlen;unfold maxLen at hm ha hu;by_cases h1:300<t.nl
 ·have h1I:(300:Int)<(t.nl:Int):=by omega
  have Q:=AB (fun w' (hx:Ext w w')=>(show FewIs t ns w (.returned (.bool false)) w' from ⟨false,rfl,hx,fun e=>by cases e⟩));obtain⟨na,nl,nc,aa,al,ac,view⟩:=t;simp only at h1I;clear h hl hm ha hu h1;go_enter Tryz.func19,Tryz.ntmps19;go_wp2_with fail;go_ret;exact AA Q _ ((Ext.refl _).alloc _)
 by_cases h2:600<t.al
 ·have h2I:(600:Int)<(t.al:Int):=by omega
  have h1I:¬(300:Int)<(t.nl:Int):=by omega
  have Q:=AB (fun w' (hx:Ext w w')=>(show FewIs t ns w (.returned (.bool false)) w' from ⟨false,rfl,hx,fun e=>by cases e⟩));obtain⟨na,nl,nc,aa,al,ac,view⟩:=t;simp only at h1I h2I;clear h hl hm ha hu h1 h2;go_enter Tryz.func19,Tryz.ntmps19;go_wp2_with fail;go_ret;exact AA Q _ ((Ext.refl _).alloc _)
 have h1I:¬(300:Int)<(t.nl:Int):=by omega
 have h2I:¬(600:Int)<(t.al:Int):=by omega
 have Q:=AB (fun w' q (hx:Ext w w') (hq:q=true→unSum ns ns.length≤4000)=>(show FewIs t ns w (.returned (.bool q)) w' from ⟨q,rfl,hx,fun e=>⟨by omega,by omega,hq e⟩⟩));have HH:=AB h;have HU:=AB hu;have HL:=AB hl;have hn3:t.nl≤300:=by omega
 clear h hl hm ha hu h1 h2;go_enter Tryz.func19,Tryz.ntmps19;go_upto_region 1 with fail;generalize hw1:World.alloc w _=w1;obtain⟨gT,hgT⟩:∃g,w.heap.size=g:=⟨_,rfl⟩
 have BT:Blk w1 gT 25 t.cs:=by rw[←hw1,←hgT];exact Blk.new _ _ _
 have E1:=AB (show Ext w w1 by rw[←hw1];exact (Ext.refl _).alloc _);rw[hgT];clear hgT hw1;have c0:=(BT.cell 0).trans (rfl:_=some (Value.slice t.na t.nl t.nc));have c1:=(BT.cell 1).trans (rfl:_=some (Value.slice t.aa t.al t.ac));have lT:=BT.lt;clear BT;go_upto_region 3 with fail;clear c1 h1I h2I;go_wp2_with fail;go_loopw [3,4] (fun v3 v4 wq=>∃i m:Nat,v4=.int .i64 i∧v3=.int .i64 m∧i≤t.nl∧m≤9000∧Hid (m=unSum ns i)∧wq=w1) (fun _ v4 _=>t.nl-(intOf v4).toNat)
 case atStart=>exact⟨0,0,rfl,rfl,by omega,by omega,AB rfl,rfl⟩
 case round=>
  obtain⟨i,m,rfl,rfl,hi,hmb,HM,hwr⟩:=hrel;subst hwr;by_cases hin:i<t.nl
  ·have hinI:(0:Int)≤(i:Int)∧(i:Int)<(t.nl:Int):=by omega
   by_cases hm4:m≤4000
   ·
    have hm4I:(m:Int)≤4000:=by omega
    obtain⟨nd,hnd⟩:∃nd,ns[i]?=some nd:=⟨_,AE (by have:=AA HL;omega)⟩
    obtain⟨bn,on,hna,lbn,hcn⟩:=(((AA HH).ext (AA E1)).nodes).node hnd;have hul:=(AA HU) i nd hnd;have cu:=hcn 43 _ (show nd.cells[43]?=some (Value.slice nd.s.ua nd.s.ul nd.s.uc) from rfl);rw[hna] at c0;have HS:=AB (show m+min nd.s.ul 5000=unSum ns (i+1) by rw[unSum_succ hnd,AA HM]);obtain⟨M,hM⟩:∃M,min nd.s.ul 5000=M:=⟨_,rfl⟩
    rw[hM] at HS;have hMI:(if (5000:Int)<(nd.s.ul:Int) then (5000:Int) else (nd.s.ul:Int))=(M:Int):=by rw[←hM];split<;>omega
    have hMb:M≤5000:=by omega
    generalize nd.s.ul=ul at *;clear hcn hM hnd hna HM;go_wp2_with fail;go_roundw
    case rel=>exact⟨i+1,m+M,by go_num,by go_num,by omega,by omega,HS,by first|trivial|rfl⟩
    case measure=>simp[intOf]<;>omega
   ·
    have hm4I:¬(m:Int)≤4000:=by omega
    go_wp2_with fail;go_ret;exact AA Q _ false (AA E1) (fun e=>by cases e)
  ·
   have hinI:¬(i:Int)<(t.nl:Int):=by omega
   have HS:=AB (show m=unSum ns ns.length by rw[AA HM,AA HL,show i=t.nl by omega]);obtain⟨q,hq⟩:∃q,decide ((m:Int)≤4000)=q:=⟨_,rfl⟩
   have HQ:=AB (show q=true→unSum ns ns.length≤4000 from fun e=>by rw[e] at hq;have:=of_decide_eq_true hq;have:=AA HS;omega);go_wp2_with fail;go_ret;exact AA Q _ q (AA E1) (AA HQ)
structure SmP (t:Tr) (ns:List Nd) (n:Nat):Prop where
 few:FewP t ns
 nl:t.nl≤120
 n:n≤200
def SmIs (t:Tr) (ns:List Nd) (n:Nat) (w:World) (e:Ending) (w':World):Prop:=∃q:Bool,e=.returned (.bool q)∧Ext w w'∧(q=true→SmP t ns n)
theorem small_any (w:World) (v1 v2 v3:Value) (A:Option Addr) (n c:Nat) (fs:List FV) (h:TrIn w t ns av) (hm:t.nl≤maxLen) (ha:t.al≤maxLen) (hu:∀(i:Nat) (n:Nd),ns[i]?=some n→n.s.ul≤maxLen) (hf:FrsIn w A n fs) (hn:n≤maxLen) :
  Calls Tryz.prog 6 #[.agg t.cs,.agg (tbC v1 v2 v3 (.slice A n c)).toArray] w (SmIs t ns n w):=by
 have cF:=fun W (hx:Ext w W)=>AB (few_any t ns av W (h.ext hx) hm ha hu)
 have hfl:fs.length=n:=by have:=hf.rd.recN fgC_len (by omega);simpa using this
 have hl:=h.nodes.nlen;unfold maxLen at hm hn;have HF:=AB hf;have HFL:=AB hfl;clear h ha hu hf hfl;go_enter Tryz.func6,Tryz.ntmps6;go_upto_region 1 with fail;generalize hw1:World.alloc (World.alloc w _) _=w1;obtain⟨gT,hgT⟩:∃g,w.heap.size=g:=⟨_,rfl⟩
 have BT:Blk w1 gT 25 t.cs:=by rw[←hw1,←hgT];exact (Blk.new _ _ _).alloc _
 have BX:Blk w1 (gT+1) 30 (tbC v1 v2 v3 (.slice A n c)).toArray:=by rw[←hw1,←hgT];exact Blk.new1 _ _ _ _
 have E1:=AB (show Ext w w1 by rw[←hw1];exact ((Ext.refl _).alloc _).alloc _);rw[hgT];clear hgT hw1;have C:=cF w1 (AA E1);clear cF;have t0:=(BT.cell 0).trans (rfl:_=some (Value.slice t.na t.nl t.nc));have t1:=(BT.cell 1).trans (rfl:_=some (Value.slice t.aa t.al t.ac));have t2:=(BT.cell 2).trans (rfl:_=some (Value.int .i64 t.view));have lT:=BT.lt;go_cut [22] from 8 to 22 (fun v22 wx=>∃q:Bool,v22=.bool q∧Ext w1 wx∧Hid (q=false→FewP t ns∧t.nl≤120∧n≤200))
 case first=>
  as_aux_lemma=>
  go_wp2_with fail
  with_reducible refine (AA C).mono ?_
  rintro e w2 ⟨q,rfl,hx,hq⟩;replace BT:=BT.ext hx;replace BX:=BX.ext hx;have HX:=AB hx;have HQ:=AB hq;clear hx hq C t0 t1 t2 lT;have t0:=(BT.cell 0).trans (rfl:_=some (Value.slice t.na t.nl t.nc));have lT:=BT.lt;have x3:=(BX.cell 3).trans (rfl:_=some (Value.slice A n c));have lX:=BX.lt;clear BT BX;cases q
  ·go_wp2_with fail;go_meet
   case rel=>exact⟨true,rfl,AA HX,AB (fun e=>by cases e)⟩
  ·by_cases h1:120<t.nl
   ·have h1I:(120:Int)<(t.nl:Int):=by omega
    go_wp2_with fail;go_meet
    case rel=>exact⟨true,rfl,AA HX,AB (fun e=>by cases e)⟩
   ·have h1I:¬(120:Int)<(t.nl:Int):=by omega
    by_cases h2:200<n
    ·have h2I:(200:Int)<(n:Int):=by omega
     go_wp2_with fail;go_meet
     case rel=>exact⟨true,rfl,AA HX,AB (fun e=>by cases e)⟩
    ·have h2I:¬(200:Int)<(n:Int):=by omega
     go_wp2_with fail;go_meet
     case rel=>exact⟨false,by rw[decide_eq_false (by omega),decide_eq_false (by omega)];rfl,AA HX,AB (fun _=>⟨AA HQ (by first|trivial|rfl),by omega,by omega⟩)⟩
 case rest=>
  clear C t0 t1 t2 lT BT;obtain⟨q,rfl,hx,HQ⟩:=hcut;replace BX:=BX.ext hx;replace E1:=AB ((AA E1).trans hx);clear hx;go_upto_if 22 with (fail);cases q
  ·as_aux_lemma=>
   obtain⟨hfew,hnl,hn2⟩:=AA HQ (by first|trivial|rfl);have HBX:=AB BX;have HFEW:=AB hfew;clear BX HQ hfew;go_upto_region 3 with fail;go_wp2_with fail;go_loopw [5,6,7] (fun v5 v6 _ wq=>∃(i:Nat) (m:Int),v6=.int .i64 i∧v5=.int .i64 m∧i≤n∧wq=wc) (fun _ v6 _ _=>n-(intOf v6).toNat)
   case atStart=>exact⟨0,0,rfl,rfl,by omega,rfl⟩
   case round=>
    obtain⟨i,m,rfl,rfl,hi,hwr⟩:=hrel;subst hwr;have BX:=AA HBX;have x3:=(BX.cell 3).trans (rfl:_=some (Value.slice A n c));have lX:=BX.lt;clear BX;by_cases hin:i<n
    ·as_aux_lemma=>
     have hinI:(0:Int)≤(i:Int)∧(i:Int)<(n:Int):=by omega
     obtain⟨x,hx⟩:∃x,fs[i]?=some x:=⟨_,AE (by have:=AA HFL;omega)⟩
     have hxm:=List.mem_of_getElem? hx;obtain⟨bf,of_,hA,lf,hmf⟩:=((AA HF).rd.ext (AA E1)).rec_ fgC_len (show (fs.map FV.f)[i]?=some x.f by rw[List.getElem?_map,hx];rfl) (by omega);subst hA;have f4:=hmf 4 _ (rfl:_=some (Value.slice x.f.lA x.f.ln x.f.lc));have hls:=(AA HF).ls x hxm;have HRL:=AB hls.1;have HLn:=AB (show x.ls.length=x.f.ln by have:=hls.1.recN llC_len (by omega);simpa using this);obtain⟨⟨fx,fy,fw,fh,lA,ln,lc⟩,xls⟩:=x;have hlm:ln≤9223372036854775807:=hls.2;simp only at f4 HRL HLn;clear hls hmf hxm hx;obtain⟨m1,hm1⟩:∃m1,wrap64 (m+(ln:Int))=m1:=⟨_,rfl⟩
     go_upto_region 7 with fail;go_wp2_with fail;clear hm1;go_loopw [5,7] (fun v5 v7 wq=>∃(k:Nat) (m2:Int),v7=.int .i64 k∧v5=.int .i64 m2∧k≤ln∧wq=wr) (fun _ v7 _=>ln-(intOf v7).toNat)
     case atStart=>exact⟨0,_,rfl,rfl,by omega,rfl⟩
     case round=>
      obtain⟨k,m2,rfl,rfl,hk,hwr⟩:=hrel;subst hwr;by_cases hm2k:m2≤1000
      ·have hm2N:¬(1000:Int)<m2:=by omega
       by_cases hkn:k<ln
       ·as_aux_lemma=>
        have hkI:(0:Int)≤(k:Int)∧(k:Int)<(ln:Int):=by omega
        obtain⟨y,hy⟩:∃y,xls[k]?=some y:=⟨_,AE (by have:=AA HLn;omega)⟩
        obtain⟨bl,ol,hA,ll,hml⟩:=((AA HRL).ext (AA E1)).rec_ llC_len (show (xls.map LV.l)[k]?=some y.l by rw[List.getElem?_map,hy];rfl) (by omega);subst hA;have l2:=hml 2 _ (rfl:_=some (Value.slice y.l.pA y.l.pn y.l.pc));generalize y.l.pn=pn at *;generalize y.l.pA=pA at *;generalize y.l.pc=pc at *;clear hml hy;obtain⟨m3,hm3⟩:∃m3,wrap64 (m2+(pn:Int))=m3:=⟨_,rfl⟩
        go_wp2_with fail;go_roundw
        case rel=>exact⟨k+1,_,by go_num,rfl,by omega,by first|trivial|rfl⟩
        case measure=>simp[intOf]<;>omega
       ·
        have hkI:¬(k:Int)<(ln:Int):=by omega
        go_wp2_with fail;go_roundw
        case rel=>exact⟨i+1,m2,by go_num,rfl,by omega,by first|trivial|rfl⟩
        case measure=>simp[intOf]<;>omega
      ·have hm2N:(1000:Int)<m2:=by omega
       by_cases hkn:k<ln
       ·
        have hkI:(0:Int)≤(k:Int)∧(k:Int)<(ln:Int):=by omega
        go_wp2_with fail;go_ret;exact⟨false,rfl,AA E1,fun e=>by cases e⟩
       ·have hkI:¬(k:Int)<(ln:Int):=by omega
        go_wp2_with fail;go_ret;exact⟨false,rfl,AA E1,fun e=>by cases e⟩
    ·
     have hinI:¬(i:Int)<(n:Int):=by omega
     go_wp2_with fail;go_ret;exact⟨true,rfl,AA E1,fun _=>⟨AA HFEW,hnl,hn2⟩⟩
  ·go_wp2_with fail;go_ret;exact⟨false,rfl,AA E1,fun e=>by cases e⟩
theorem in29_any (i k:Nat) (w:World) (hT:TOk ns) (h:Rd w 44 t.na t.nl (nds ns)) (hm:t.nl≤1000) (hi:i<ns.length) (_hk:k<ns.length) :
  Calls Tryz.prog 20 #[.agg t.cs,.int .i64 (i:Int),.int .i64 (k:Int)] w (fun e w'=>e=.returned (.bool (sub ns k i))∧Ext w w'):=by
 have hl:=h.nlen;obtain⟨na,nl,nc,aa,al,ac,view⟩:=t;simp only at h hm hl;obtain⟨bn,on,hna,lbn,_⟩:=h.at_ (by omega);subst hna;have HH:=AB h;have HT:=AB hT;have HL:=AB hl;clear h hT;go_enter Tryz.func20,Tryz.ntmps20;go_upto_region 1 with fail;generalize hw1:World.alloc w _=w1;obtain⟨gT,hgT⟩:∃g,w.heap.size=g:=⟨_,rfl⟩
 have BT:Blk w1 gT 25 (Tr.cs ⟨some ⟨bn,on,none⟩,nl,nc,aa,al,ac,view⟩):=by rw[←hw1,←hgT];exact Blk.new _ _ _
 have E1:=AB (show Ext w w1 by rw[←hw1];exact (Ext.refl _).alloc _);rw[hgT];have lb:=Nat.lt_of_lt_of_le lbn (AA E1).size;clear hgT hw1 lbn;have c0:=(BT.cell 0).trans (rfl:_=some (Value.slice (some ⟨bn,on,none⟩) nl nc));have lT:=BT.lt;clear BT;have HS0:=AB (show sub ns k i=sub ns k i from rfl);go_loopw [1] (fun v1 wq=>∃j:Nat,v1=.int .i64 j∧j≤i∧Hid (sub ns k j=sub ns k i)∧wq=w1) (fun v1 _=>(intOf v1).toNat)
 case atStart=>exact⟨i,rfl,by omega,AB rfl,rfl⟩
 case round=>
  obtain⟨j,rfl,hj,HS,hwr⟩:=hrel;subst hwr;by_cases hjk:k<j
  ·have hjkI:(k:Int)<(j:Int):=by omega
   have hjn:j<ns.length:=by omega
   have hjI:(0:Int)≤(j:Int)∧(j:Int)<(nl:Int):=by omega
   obtain⟨p,hp,hpj⟩:=(AA HT).par (show 0<j by omega) hjn;have cp:=((AA HH).ext (AA E1)).par rfl hjn;rw[hp] at cp;have HS2:=AB (show sub ns k p=sub ns k i by
    rw[←AA HS,sub,sub,bel_par (((AA HT).parN hjn).trans hp),decide_eq_false (show ¬j=k by omega),Bool.false_or,sub])
   clear hp;go_wp2_with fail;go_roundw
   case rel=>exact⟨p,rfl,by omega,HS2,by first|trivial|rfl⟩
   case measure=>simp[intOf]<;>omega
  ·have hjkI:¬(k:Int)<(j:Int):=by omega
   have HV:=AB (show sub ns k i=decide (j=k) by
    rw[←AA HS,sub];by_cases e:j=k
    ·rw[decide_eq_true e];rfl
    ·rw[decide_eq_false e,Bool.false_or];cases hb:bel ns (k:Int) j
     ·rfl
     ·have:=bel_lt j hb;omega)
   obtain⟨q,hq⟩:∃q,decide (j=k)=q:=⟨_,rfl⟩
   rw[hq] at HV;have hqI:((j:Int)==(k:Int))=q:=by
    rw[←hq];by_cases e:j=k
    ·simp[e]
    ·rw[decide_eq_false e];simp;omega
   clear hq;go_wp2_with fail;go_ret;exact⟨by rw[AA HV];rfl,AA E1⟩
theorem point_any (p:Pt) (hp:p.Ok) (A:Option Addr) (n c:Nat) (l:List Rc) (w:World) (h:Rd w 4 A n (recs rcC l)) (hl:∀r∈l,(-2000000000000000≤r.x∧r.x≤2000000000000000)∧(-2000000000000000≤r.y∧r.y≤2000000000000000)) (hn:n≤1000) :
  Calls Tryz.prog 11 #[.agg (pntC p).toArray,.slice A n c] w (fun e w'=>∃x y:Int,e=.returned (.tuple #[.int .i64 x,.int .i64 y])∧Ext w w'):=by
 obtain⟨px,py,near,node⟩:=p;obtain⟨x1,x2,y1,y2,n1,n2⟩:=hp;simp only at x1 x2 y1 y2 n1 n2;have hll:l.length=n:=by exact h.recN rcC_len (by omega)
 have HH:=AB h;have HLL:=AB hl;clear h hl;go_enter Tryz.func11,Tryz.ntmps11;go_upto_region 1 with fail;generalize hw1:World.alloc w _=w1;obtain⟨gP,hgP⟩:∃g,w.heap.size=g:=⟨_,rfl⟩
 have BP:Blk w1 gP 45 (pntC ⟨px,py,near,node⟩).toArray:=by rw[←hw1,←hgP];exact Blk.new _ _ _
 have E1:=AB (show Ext w w1 by rw[←hw1];exact (Ext.refl _).alloc _);rw[hgP];clear hgP hw1;have c0:=(BP.cell 0).trans (rfl:_=some (Value.int .i64 px));have c1:=(BP.cell 1).trans (rfl:_=some (Value.int .i64 py));have c2:=(BP.cell 2).trans (rfl:_=some (Value.bool near));have c3:=(BP.cell 3).trans (rfl:_=some (Value.int .u8 node));have lP:=BP.lt;cases near
 ·go_upto_region 2 with fail
  go_quiet (fail)
  go_wp2_with fail;go_ret2;exact⟨px,py,rfl,(AA E1).drewN _⟩
 ·by_cases hn0:n=0
  ·have hn0I:((n:Int)==0)=true:=by simpa using hn0
   go_upto_region 2 with fail
   go_quiet (fail)
   go_wp2_with fail;go_ret2;exact⟨px,py,rfl,(AA E1).drewN _⟩
  ·obtain⟨q,rfl⟩:∃q:Nat,node=(q:Int):=⟨node.toNat,by omega⟩
   have hkn:q % n<n:=Nat.mod_lt _ (by omega);obtain⟨k,hk⟩:∃k,q % n=k:=⟨_,rfl⟩
   rw[hk] at hkn;have hkI:(0:Int)≤(k:Int)∧(k:Int)<(n:Int):=by omega
   have hqk:(q:Int).tmod (n:Int)=(k:Int):=by rw[←hk,Int.tmod_eq_emod_of_nonneg (by omega)];exact_mod_cast rfl
   have hn0I:((n:Int)==0)=false:=by simpa using hn0
   obtain⟨r,hr⟩:∃r,l[k]?=some r:=⟨_,AE (by omega)⟩
   obtain⟨⟨rx1,rx2⟩,ry1,ry2⟩:=(AA HLL) r (List.mem_of_getElem? hr);obtain⟨b,off,hA,lb,hmr⟩:=(AA HH).rec_ rcC_len hr (by omega);subst hA;have HMR:=AB hmr;obtain⟨rx,ry,rw_,rh⟩:=r;simp only at rx1 rx2 ry1 ry2;obtain⟨mx,hmx⟩:∃m,px.tmod 100=m:=⟨_,rfl⟩
   obtain⟨my,hmy⟩:∃m,py.tmod 100=m:=⟨_,rfl⟩
   have bmx:-100<mx∧mx<100:=by rw[←hmx,tmod_lit];split<;>omega
   have bmy:-100<my∧my<100:=by rw[←hmy,tmod_lit];split<;>omega
   clear hk hr hmr hll;go_upto_region 3 with fail
   iterate 25 go_step
   refine wpList_load_midg 33 (.tmp 26) rfl b (off+k*4) rfl rfl (rcC ⟨rx,ry,rw_,rh⟩) _ (fun y v hv=>by rw[(AA E1).cells.1 _ _ lb];exact (AA HMR) y v hv) Tryz.underlying33 rfl (rcC_size _) ?_;simp only[AC];refine wpList_var rfl rfl 33 rfl 6 rfl (.tmp 27) rfl rfl (rcC zRc).toArray (rcC ⟨rx,ry,rw_,rh⟩).toArray rcC_zero rfl rfl (rcC_size _) rfl (by kernel_rfl) ?_;intro w2 BR hx z2;simp only[AC];replace BP:=BP.ext hx;replace E1:=AB ((AA E1).trans hx);generalize w1.heap.size=gR at *;clear hx z2 c0 c1 c2 c3 lP lb HMR;have c0:=(BP.cell 0).trans (rfl:_=some (Value.int .i64 px));have c1:=(BP.cell 1).trans (rfl:_=some (Value.int .i64 py));have lP:=BP.lt;have r0:=(BR.cell 0).trans (rfl:_=some (Value.int .i64 rx));have r1:=(BR.cell 1).trans (rfl:_=some (Value.int .i64 ry));have lR:=BR.lt;have hsx:-9000000000000000000≤rx+mx∧rx+mx≤9000000000000000000:=by omega
   have hsy:-9000000000000000000≤ry+my∧ry+my≤9000000000000000000:=by omega
   clear BP BR;go_upto_region 4 with fail;refine wp_region_ord [(1,0),(0,1),(1,2),(0,3),(1,4),(1,5),(1,6),(0,7),(1,8),(0,9),(1,10),(1,11),(1,12),(1,13)] 14 (fun w'=>Ext w2 w') (by kernel_rfl) (by kernel_rfl) rfl (by kernel_rfl) ((Ext.refl _).drew) ?_;simp only[AD]
   iterate 14 ((first|refine ordQA ?_|refine ordQB ?_);simp only[AC])
   refine ord_nil ?_;clear c0 c1 lP r0 r1 lR;go_wp2_with fail;go_ret2;exact⟨_,_,rfl,(AA E1).drew⟩
end
end Go.Proofs.YtamldoocjjdidaaGreat
