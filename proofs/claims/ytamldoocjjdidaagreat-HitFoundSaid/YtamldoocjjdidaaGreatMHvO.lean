import Derived.Test.YtamldoocjjdidaaGreatMHvN
import Derived.Test.YtamldoocjjdidaaGreatMHuN
namespace Go.Proofs.YtamldoocjjdidaaGreat
open Go.RowKit
set_option maxRecDepth 100000
set_option maxHeartbeats 64000000
theorem results_cell_tmps {P:Program} {fn:Func} {p t s:Tmp} {ty:TypeId} (h:fn.results=#[.cell p ty,.tmp t,.tmp s]) (tmps:Array Value) (w:World) (g:Nat) (T:TypeId) (cs:Array Value) (d:TypeDesc)
  (hp:tmps.getD p undef=.pointer (some ⟨g,0,none⟩)) (hg:Blk w g T cs)
  (hu:P.underlying ty=some d) (hd:(match d with| .struct _| .array _ _=>true|_=>false)=true) (hi:(P.info? ty).map (·.size)=some cs.size) :
  (results fn tmps).run P w=.ok (.tuple #[.agg cs,tmps.getD t undef,tmps.getD s undef]) w:=by
 have hp':tmps[p]?.getD undef=.pointer (some ⟨g,0,none⟩):=by simpa using hp
 simp[results,h,hp',asAddr,run_loadVar_row w g T ty cs (0,0) d hg hu hd hi]
def LayIs (w:World) (n:Nat) (Q:Prop) (e:Ending) (w':World):Prop:=∃(A1 A2 A3 A4:Option Addr) (n1 n2 n3 n4 c1 c2 c3 c4:Nat) (z er:Int),e=.returned (.tuple #[.agg (tbC (.slice A1 n1 c1) (.slice A2 n2 c2) (.slice A3 n3 c3) (.slice A4 n4 c4)).toArray,.int .i64 z,.int .i64 er])∧Ext w w' ∧
 (er=0→Q∧n4=n∧∃(gF:Nat) (fs:List Fg),A4=some ⟨gF,0,none⟩∧w.heap.size≤gF∧Rd w' 5 (some ⟨gF,0,none⟩) n (recs fgC fs)∧∀f∈fs,FgO w' w.heap.size f)
section
variable (t:Tr) (ns:List Nd) (av:List Int) (un:Nat→List Int)
theorem layout24_any (w:World) (Q:Prop) (hck:∀w',Ext w w'→Calls Tryz.prog 35 #[.agg t.cs] w' (fun e w2=>∃a b:Int,e=.returned (.tuple #[.int .i64 a,.int .i64 b])∧Ext w' w2∧(b=0→LT w t ns av un∧Q))) :
  Calls Tryz.prog 22 #[.agg t.cs] w (LayIs w t.nl Q):=by
 have HCK:=AB hck;clear hck;go_enter Tryz.func22,Tryz.ntmps22;go_upto_region 1 with fail;generalize hw1:World.alloc (World.alloc w _) _=w1;obtain⟨gT,hgT⟩:∃g,w.heap.size=g:=⟨_,rfl⟩
 have BT:Blk w1 gT 25 t.cs:=by rw[←hw1,←hgT];exact (Blk.new _ _ _).alloc _
 have BR:Blk w1 (gT+1) 30 (tbC sl0 sl0 sl0 sl0).toArray:=by rw[←hw1,←hgT];exact Blk.new1 _ _ _ _
 have E1:=AB (show Ext w w1 by rw[←hw1];exact ((Ext.refl _).alloc _).alloc _);have HGT:=AB hgT;rw[hgT];clear hgT hw1;have c0:=(BT.cell 0).trans (rfl:_=some (Value.slice t.na t.nl t.nc));have c1:=(BT.cell 1).trans (rfl:_=some (Value.slice t.aa t.al t.ac));have c2:=(BT.cell 2).trans (rfl:_=some (Value.int .i64 t.view));have lT:=BT.lt;go_wp2_with fail
 with_reducible refine ((AA HCK) _ (AA E1)).mono ?_
 rintro e w2 ⟨a,b,rfl,hx,hlt⟩;have HLT:=AB hlt;replace BT:=BT.ext hx;replace BR:=BR.ext hx;replace E1:=AB ((AA E1).trans hx);clear hx hlt c0 c1 c2 lT HCK;obtain⟨t1,ht1⟩:∃q,(b==0)=q:=⟨_,rfl⟩
 go_upto_if 17 with (fail);cases t1
 ·as_aux_lemma=>
  have hb:=AB (show b≠0 by simpa using ht1);go_upto_region 3 with fail;go_step;refine wpList_buildTo rfl 30 _ rfl _ rfl (tbC sl0 sl0 sl0 sl0).toArray (by rw[Array.map_empty];exact built_tb0) ?_;simp only[AC]
  iterate 6 go_step
  refine wpList_store_blk rfl 30 (.tmp 2) (.tmp 18) rfl (gT+1) rfl (tbC sl0 sl0 sl0 sl0).toArray rfl 30 (tbC sl0 sl0 sl0 sl0).toArray BR (tb_size _ _ _ _) rfl (by kernel_rfl) ?_;intro wz Bz gz zz;simp only[Act.put];go_wp2_with fail;refine bodyPost_ret (results_cell_tmps rfl _ _ (gT+1) 30 _ _ rfl Bz Tryz.underlying30 rfl (tb_size _ _ _ _)) rfl ?_;exact⟨none,none,none,none,0,0,0,0,0,0,0,0,a,b,rfl,(AA E1).grown gz (fun q e=>by have:=Option.some.inj e;have:=AA HGT;omega),fun h=>absurd h (AA hb)⟩
 ·as_aux_lemma=>
  have hb:b=0:=by simpa using ht1
  have L:=AB ((AA HLT) hb).1;have HQ:=AB ((AA HLT) hb).2;clear ht1 HLT;have cU:=AB (up24_any t ns av un w2 ((AA L).ext (AA E1)));have c0:=(BT.cell 0).trans (rfl:_=some (Value.slice t.na t.nl t.nc));have c1:=(BT.cell 1).trans (rfl:_=some (Value.slice t.aa t.al t.ac));have c2:=(BT.cell 2).trans (rfl:_=some (Value.int .i64 t.view));have lT:=BT.lt;go_upto_region 4 with fail;go_wp2_with fail
  with_reducible refine (AA cU).mono ?_
  rintro e w3 ⟨gC,z,cs,rfl,hcs,RC,hgC,hx⟩;replace BT:=BT.ext hx;replace BR:=BR.ext hx;replace E1:=AB ((AA E1).trans hx);have HCs:=AB hcs;clear hx c0 c1 c2 lT cU hcs hgC;by_cases hz:0≤z
  ·
   go_upto_region 6 with fail;go_step;refine wpList_buildTo rfl 30 _ rfl _ rfl (tbC sl0 sl0 sl0 sl0).toArray (by rw[Array.map_empty];exact built_tb0) ?_;simp only[AC]
   iterate 3 go_step
   refine wpList_store_blk rfl 30 (.tmp 2) (.tmp 28) rfl (gT+1) rfl (tbC sl0 sl0 sl0 sl0).toArray rfl 30 (tbC sl0 sl0 sl0 sl0).toArray BR (tb_size _ _ _ _) rfl (by kernel_rfl) ?_;intro wz Bz gz zz;simp only[Act.put];go_wp2_with fail;refine bodyPost_ret (results_cell_tmps rfl _ _ (gT+1) 30 _ _ rfl Bz Tryz.underlying30 rfl (tb_size _ _ _ _)) rfl ?_;exact⟨none,none,none,none,0,0,0,0,0,0,0,0,z,9,rfl,(AA E1).grown gz (fun q e=>by have:=Option.some.inj e;have:=AA HGT;omega),fun h=>absurd h (by decide)⟩
  ·have cD:=AB (down24_any t ns av un (some ⟨gC,0,none⟩) t.nl cs w3 ((AA L).ext (AA E1)) RC (AA HCs));have c0:=(BT.cell 0).trans (rfl:_=some (Value.slice t.na t.nl t.nc));have c1:=(BT.cell 1).trans (rfl:_=some (Value.slice t.aa t.al t.ac));have c2:=(BT.cell 2).trans (rfl:_=some (Value.int .i64 t.view));have lT:=BT.lt;go_upto_region 7 with fail;go_wp2_with fail
   with_reducible refine (AA cD).mono ?_
   rintro e w4 ⟨gU,z2,us,rfl,hus,RU,hgU,hx⟩;replace BT:=BT.ext hx;replace BR:=BR.ext hx;replace RC:=RC.ext hx;replace E1:=AB ((AA E1).trans hx);have HUs:=AB hus;clear hx c0 c1 c2 lT cD hus hgU hz;by_cases hz:0≤z2
   ·
    go_upto_region 9 with fail;go_step;refine wpList_buildTo rfl 30 _ rfl _ rfl (tbC sl0 sl0 sl0 sl0).toArray (by rw[Array.map_empty];exact built_tb0) ?_;simp only[AC]
    iterate 3 go_step
    refine wpList_store_blk rfl 30 (.tmp 2) (.tmp 38) rfl (gT+1) rfl (tbC sl0 sl0 sl0 sl0).toArray rfl 30 (tbC sl0 sl0 sl0 sl0).toArray BR (tb_size _ _ _ _) rfl (by kernel_rfl) ?_;intro wz Bz gz zz;simp only[Act.put];go_wp2_with fail;refine bodyPost_ret (results_cell_tmps rfl _ _ (gT+1) 30 _ _ rfl Bz Tryz.underlying30 rfl (tb_size _ _ _ _)) rfl ?_;exact⟨none,none,none,none,0,0,0,0,0,0,0,0,z2,9,rfl,(AA E1).grown gz (fun q e=>by have:=Option.some.inj e;have:=AA HGT;omega),fun h=>absurd h (by decide)⟩
   ·have cI:=AB (isles24_any t ns av un (some ⟨gC,0,none⟩) (some ⟨gU,0,none⟩) t.nl t.nl cs us w4 ((AA L).ext (AA E1)) RC (AA HCs) RU (AA HUs));have c0:=(BT.cell 0).trans (rfl:_=some (Value.slice t.na t.nl t.nc));have c1:=(BT.cell 1).trans (rfl:_=some (Value.slice t.aa t.al t.ac));have c2:=(BT.cell 2).trans (rfl:_=some (Value.int .i64 t.view));have lT:=BT.lt;have HlR:=AB (show gT+1<w4.heap.size from BR.lt);have Hw4:=AB (AA E1).size;go_upto_region 10 with fail;go_wp2_with fail
    with_reducible refine (AA cI).mono ?_
    rintro e w5 ⟨gH,gF,z3,fs,rfl,hfo,RF,hgF,hx⟩;replace BR:=BR.ext hx;replace E1:=AB ((AA E1).trans hx);have HFo:=AB hfo;clear hx c0 c1 c2 lT cI hfo hz BT RC RU;by_cases hz:0≤z3
    ·
     go_upto_region 12 with fail;go_step;refine wpList_buildTo rfl 30 _ rfl _ rfl (tbC sl0 sl0 sl0 sl0).toArray (by rw[Array.map_empty];exact built_tb0) ?_;simp only[AC]
     iterate 3 go_step
     refine wpList_store_blk rfl 30 (.tmp 2) (.tmp 50) rfl (gT+1) rfl (tbC sl0 sl0 sl0 sl0).toArray rfl 30 (tbC sl0 sl0 sl0 sl0).toArray BR (tb_size _ _ _ _) rfl (by kernel_rfl) ?_;intro wz Bz gz zz;simp only[Act.put];go_wp2_with fail;refine bodyPost_ret (results_cell_tmps rfl _ _ (gT+1) 30 _ _ rfl Bz Tryz.underlying30 rfl (tb_size _ _ _ _)) rfl ?_;exact⟨none,none,none,none,0,0,0,0,0,0,0,0,z3,9,rfl,(AA E1).grown gz (fun q e=>by have:=Option.some.inj e;have:=AA HGT;omega),fun h=>absurd h (by decide)⟩
    ·
     go_upto_region 13 with fail
     iterate 13 go_step
     refine wpList_buildTo rfl 30 _ rfl _ rfl (tbC (.slice (some ⟨gC,0,none⟩) t.nl t.nl) (.slice (some ⟨gU,0,none⟩) t.nl t.nl) (.slice (some ⟨gH,0,none⟩) t.nl t.nl) (.slice (some ⟨gF,0,none⟩) t.nl t.nl)).toArray (by simp only[List.map_toArray,List.map_cons,List.map_nil];exact built_tb _ _ _ _ _ _ _ _ _ _ _ _) ?_;simp only[AC];refine wpList_store_blk rfl 30 (.tmp 2) (.tmp 56) rfl (gT+1) rfl (tbC (.slice (some ⟨gC,0,none⟩) t.nl t.nl) (.slice (some ⟨gU,0,none⟩) t.nl t.nl) (.slice (some ⟨gH,0,none⟩) t.nl t.nl) (.slice (some ⟨gF,0,none⟩) t.nl t.nl)).toArray rfl 30 (tbC sl0 sl0 sl0 sl0).toArray BR (tb_size _ _ _ _) rfl (by kernel_rfl) ?_;intro wz Bz gz zz;simp only[Act.put];go_wp2_with fail;refine bodyPost_ret (results_cell_tmps rfl _ _ (gT+1) 30 _ _ rfl Bz Tryz.underlying30 rfl (tb_size _ _ _ _)) rfl ?_;have hl:=AA HlR;have h4:=AA Hw4;exact⟨_,_,_,_,_,_,_,_,_,_,_,_,_,_,rfl,(AA E1).grown gz (fun q e=>by have:=Option.some.inj e;have:=AA HGT;omega),fun _=>⟨AA HQ,rfl,gF,fs,rfl,by omega,RF.grown gz (fun b off e e2=>by
      injection e with e;injection e with e;have:=Option.some.inj e2;omega),fun f hf=>(((AA HFo) f hf).far gz BR (by decide) (by decide)).mono h4⟩⟩
end
theorem adv_all {av:List Int}:∀(d k:Nat),av.length-k=d→advV av k=true→∀i a,k≤i→av[i]?=some a→0≤a∧a≤1099511627776
 |0,k,hd,_,i,a,h1,h2=>by
  have:=(List.getElem?_eq_some_iff.1 h2).1;omega
 |d+1,k,hd,h,i,a,h1,h2=>by
  rw[advV,if_pos (by omega),AE (by omega)] at h;simp only[Bool.and_eq_true] at h
  rcases Nat.lt_or_ge k i with h3|h3
  ·exact adv_all d (k+1) (by omega) h.2 i a (by omega) h2
  ·obtain rfl:k=i:=by omega
   obtain⟨h4,h5⟩:=List.getElem?_eq_some_iff.1 h2;have h6:=h.1;rw[h5] at h6;exact of_decide_eq_true h6
theorem check_yes {ns:List Nd} {av:List Int} {view:Int} (hl:ns.length≤1000000) (h:(checkV ns av view).2=0):TOk ns∧(0≤view∧view≤1099511627776)∧∀a∈av,0≤a∧a≤1099511627776:=by
 refine⟨TOk.of hl h,?_⟩;unfold checkV at h
 split at h
 ·cases h
 ·split at h
  ·cases h
  ·rename_i h1
   split at h
   ·cases h
   ·rename_i h2
    refine⟨by omega,fun a ha=>?_⟩;obtain⟨i,hi⟩:=List.getElem?_of_mem ha;exact adv_all _ 0 rfl (by simpa using h2) i a (by omega) hi
theorem un_sum {ns:List Nd} {un:Nat→List Int} (hu:∀(i:Nat) (n:Nd),ns[i]?=some n→(un i).length=n.s.ul):∀k,k≤ns.length→unSum ns k≤4000→((List.range k).map fun i=>(un i).length).sum=unSum ns k
 |0,_,_=>by simp[unSum]
 |k+1,hk,hs=>by
  obtain⟨n,hn⟩:∃n,ns[k]?=some n:=⟨_,AE (by omega)⟩
  have h1:=unSum_succ hn;have h2:=un_sum hu k (by omega) (by omega);rw[List.range_succ,List.map_append,List.sum_append,h2,h1];have h3:=hu k n hn;simp only[List.map_cons,List.map_nil,List.sum_cons,List.sum_nil];omega
theorem lt_of {w:World} {t:Tr} {ns:List Nd} {av:List Int} {un:Nat→List Int} (h:TrIn w t ns av) (hu:∀(i:Nat) (n:Nd),ns[i]?=some n→UnOk w n (un i)) (hf:FewP t ns) (hc:(checkV ns av t.view).2=0):LT w t ns av un:=by
 have hl:=h.nodes.nlen;have hf1:=hf.nl;have hf2:=hf.al;obtain⟨h1,h2,h3⟩:=check_yes (by omega) hc;have hlen:∀(i:Nat) (n:Nd),ns[i]?=some n→(un i).length=n.s.ul:=fun i n hn=>by have:=(hu i n hn).1.len;rw[u16s_len] at this;omega
 exact⟨h,h1,by omega,h2,by rw[h.alen];omega,h3,fun i n hn=>hu i n hn,by rw[un_sum hlen _ (Nat.le_refl _) hf.un];exact hf.un⟩
theorem UnOk.ext {w w':World} {n:Nd} {us:List Int} (h:UnOk w n us) (hx:Ext w w'):UnOk w' n us:=⟨h.1.ext hx,h.2⟩
theorem inB_in {x:Int} (h:InM x):inB x=true:=by unfold InM at h;unfold inB;simp;omega
theorem lift_list {α β:Type} {g:β→α} {P:β→Prop}:∀l:List α,(∀a∈l,∃b:β,g b=a∧P b)→∃m:List β,m.map g=l∧∀b∈m,P b
 |[],_=>⟨[],rfl,fun b hb=>by cases hb⟩
 |a :: l,h=>by
  obtain⟨b,h1,h2⟩:=h a (List.mem_cons_self ..);obtain⟨m,h3,h4⟩:=lift_list l (fun x hx=>h x (List.mem_cons_of_mem _ hx));refine⟨b :: m,by rw[List.map_cons,h1,h3],fun x hx=>?_⟩
  rcases List.mem_cons.1 hx with rfl|hx
  ·exact h2
  ·exact h4 x hx
theorem own_max {w:World} {B e k n c:Nat} {A:Option Addr} {xs:List Value} (h:w.ownsRow B e k (.slice A n c) n xs):n≤maxLen:=by
 rcases h.2 with ⟨_,h2⟩|⟨g,cap,cur,_,_,_,h2,h3,_⟩
 ·rw[h2];exact Nat.zero_le _
 ·exact Nat.le_trans h2 h3
theorem frs_of {w:World} {B n:Nat} {A:Option Addr} {l:List Fg} (h:Rd w 5 A n (recs fgC l)) (hf:∀f∈l,FgO w B f):∃fs:List FV,FrsIn w A n fs∧fs.all fOk=true:=by
 obtain⟨fs,h1,h2⟩:=lift_list (g:=FV.f) (P:=fun x=>((Rd w 3 x.f.lA x.f.ln (recs llC (x.ls.map LV.l))∧x.f.ln≤maxLen)∧∀y∈x.ls,Rd w 5 y.l.pA y.l.pn (recs pcC y.ps)∧y.l.pn≤maxLen)∧fOk x=true) l (fun f hm=>by
  obtain⟨fx,fy,fw,fh,A',m,c,ls,e,ho,hl,_⟩:=hf f hm;injection e with e1 e2 e3;obtain⟨vs,g1,g2⟩:=lift_list (g:=LV.l) (P:=fun y=>(Rd w 5 y.l.pA y.l.pn (recs pcC y.ps)∧y.l.pn≤maxLen)∧lOk y=true) ls (fun y hy=>by
   obtain⟨⟨iy,ih⟩,ps,hp,hpo⟩:=hl y hy;refine⟨⟨y,ps⟩,rfl,⟨Rd.of_own hp,own_max hp⟩,?_⟩;unfold lOk;rw[inB_in iy,inB_in ih,Bool.and_self,Bool.true_and,List.all_eq_true];intro p hp;unfold pOk;rw[inB_in (hpo p hp).x,inB_in (hpo p hp).w];rfl)
  refine⟨⟨f,vs⟩,rfl,⟨⟨?_,?_⟩,fun y hy=>(g2 y hy).1⟩,?_⟩
  ·rw[g1,e1,e2];exact Rd.of_own ho
  ·rw[e2];exact own_max ho
  ·unfold fOk;rw[inB_in fx,inB_in fy,inB_in fw,inB_in fh];simp only[Bool.and_self,Bool.true_and];rw[List.all_eq_true];exact fun y hy=>(g2 y hy).2)
 refine⟨fs,⟨by rw[h1];exact h,fun x hx=>(h2 x hx).1.1,fun x hx=>(h2 x hx).1.2⟩,?_⟩;rw[List.all_eq_true];exact fun x hx=>(h2 x hx).2
section
variable (t:Tr) (ns:List Nd) (av:List Int) (un:Nat→List Int)
def LayW (w:World) (e:Ending) (w':World):Prop:=∃(A1 A2 A3 A4:Option Addr) (n1 n2 n3 n4 c1 c2 c3 c4:Nat) (z er:Int),e=.returned (.tuple #[.agg (tbC (.slice A1 n1 c1) (.slice A2 n2 c2) (.slice A3 n3 c3) (.slice A4 n4 c4)).toArray,.int .i64 z,.int .i64 er])∧Ext w w' ∧
 (er=0→(checkV ns av t.view).2=0∧n4=t.nl∧∃fs:List FV,FrsIn w' A4 n4 fs∧fs.all fOk=true)
theorem layout25_any (w:World) (Q:Prop) (hck:∀w',Ext w w'→Calls Tryz.prog 35 #[.agg t.cs] w' (fun e w2=>∃a b:Int,e=.returned (.tuple #[.int .i64 a,.int .i64 b])∧Ext w' w2∧(b=0→LT w t ns av un∧Q))) :
  Calls Tryz.prog 8 #[.agg t.cs] w (LayIs w t.nl Q):=by
 have C:=fun W (hx:Ext w W)=>AB (layout24_any t ns av un W Q (fun w' hx'=>(hck w' (hx.trans hx')).mono fun e w2 hk=>by
  obtain⟨a,b,h1,h2,h3⟩:=hk;exact⟨a,b,h1,h2,fun hb=>⟨(h3 hb).1.ext hx,(h3 hb).2⟩⟩))
 clear hck;go_enter Tryz.func8,Tryz.ntmps8;go_upto_region 1 with fail;generalize hw1:World.alloc (World.alloc w _) _=w1;obtain⟨gT,hgT⟩:∃g,w.heap.size=g:=⟨_,rfl⟩
 have BT:Blk w1 gT 25 t.cs:=by rw[←hw1,←hgT];exact (Blk.new _ _ _).alloc _
 have BR:Blk w1 (gT+1) 30 (tbC sl0 sl0 sl0 sl0).toArray:=by rw[←hw1,←hgT];exact Blk.new1 _ _ _ _
 have E1:=AB (show Ext w w1 by rw[←hw1];exact ((Ext.refl _).alloc _).alloc _);have HGT:=AB hgT;rw[hgT];clear hgT hw1;have C1:=C w1 (AA E1);have HlR:=AB (show gT+1<w1.heap.size from BR.lt);have Hw1:=AB (AA E1).size;clear C;go_step;refine wpList_load_blk rfl 25 (.tmp 1) rfl gT rfl 25 t.cs _ BT Tryz.underlying25 rfl (info_tree _) ?_;simp only[AC];go_wp2_with fail
 with_reducible refine (AA C1).mono ?_
 rintro e w2 ⟨A1,A2,A3,A4,n1,n2,n3,n4,c1,c2,c3,c4,z,er,rfl,hx,hl⟩;have HL:=AB hl;replace BR:=BR.ext hx;replace E1:=AB ((AA E1).trans hx);clear hx hl C1 BT;dsimp only
 iterate 10 go_step
 refine wpList_store_blk rfl 30 (.tmp 2) (.tmp 7) rfl (gT+1) rfl (tbC (.slice A1 n1 c1) (.slice A2 n2 c2) (.slice A3 n3 c3) (.slice A4 n4 c4)).toArray rfl 30 (tbC sl0 sl0 sl0 sl0).toArray BR (tb_size _ _ _ _) rfl (by kernel_rfl) ?_;intro wz Bz gz zz;simp only[Act.put];go_wp2_with fail;refine bodyPost_ret (results_cell_tmps rfl _ _ (gT+1) 30 _ _ rfl Bz Tryz.underlying30 rfl (tb_size _ _ _ _)) rfl ?_;refine⟨A1,A2,A3,A4,n1,n2,n3,n4,c1,c2,c3,c4,z,er,rfl,(AA E1).grown gz (fun q e=>by have:=Option.some.inj e;have:=AA HGT;omega),fun he=>?_⟩;obtain⟨q1,q2,gF,fs,q3,q4,q5,q6⟩:=(AA HL) he;have hl:=AA HlR;have h1:=AA Hw1;exact⟨q1,q2,gF,fs,q3,by omega,q5.grown gz (fun b off e e2=>by
  injection e with e;injection e with e;have:=Option.some.inj e2;omega),fun f hf=>((q6 f hf).far gz BR (by decide) (by decide)).mono h1⟩
theorem layout25_w (w:World) (h:TrIn w t ns av) (hu:∀(i:Nat) (n:Nd),ns[i]?=some n→UnOk w n (un i)) (hf:FewP t ns) :
  Calls Tryz.prog 8 #[.agg t.cs] w (LayW t ns av w):=by
 have hm:=hf.nl;have ha:=hf.al;refine (layout25_any t ns av un w ((checkV ns av t.view).2=0) (fun w' hx=>(rcheck_any t ns av w' (h.ext hx) (by omega) (by unfold maxLen;omega)).mono fun e w2 hk=>⟨_,_,hk.1,hk.2,fun hb=>⟨lt_of h hu hf hb,hb⟩⟩)).mono fun e w' hk=>?_
 obtain⟨A1,A2,A3,A4,n1,n2,n3,n4,c1,c2,c3,c4,z,er,h1,h2,h3⟩:=hk;refine⟨A1,A2,A3,A4,n1,n2,n3,n4,c1,c2,c3,c4,z,er,h1,h2,fun he=>?_⟩;obtain⟨q1,q2,gF,fs,q3,_,q5,q6⟩:=h3 he;obtain⟨fv,r1,r2⟩:=frs_of (A:=some ⟨gF,0,none⟩) q5 q6;exact⟨q1,q2,fv,by rw[q3,q2];exact r1,r2⟩
end
end Go.Proofs.YtamldoocjjdidaaGreat
