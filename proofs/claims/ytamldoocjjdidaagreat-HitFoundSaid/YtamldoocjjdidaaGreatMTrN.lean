import Derived.Test.YtamldoocjjdidaaGreatMTrB
import Derived.Test.YtamldoocjjdidaaGreatMSp2
namespace Go.Proofs.YtamldoocjjdidaaGreat
open Go.RowKit
set_option maxRecDepth 100000
set_option maxHeartbeats 64000000
section
variable {P:Program} {ops:Array Oper} {rest:List Oper} {o:Oper} {a:Act} {Q:Exit→Act→World→Prop} {w w':World}
theorem gsCell {w:World} (g i:Nat) {u:Value}:w.grownBy (w.setCell ⟨g,i,none⟩ u) (some g):=
 ⟨rfl,rfl,rfl,by simp[World.setCell],fun k _ hne=>Below.heap_setCell w ⟨g,i,none⟩ u k (by rintro rfl;exact hne rfl)⟩
theorem own_grown {B e k m g:Nat} {u:Value} {xs:List Value} (h:w.ownsRow B e k u m xs) (hg:w.grownBy w' (some g)) (hp:∀q,u.ownBlock=some q→q≠g):w'.ownsRow B e k u m xs:=by
 refine h.kept hg ?_;cases hq:u.ownBlock with
 |none=>exact .inl rfl
 |some q=>exact .inr (fun e=>hp q hq (Option.some.inj e))
theorem own_ext {B e k m:Nat} {u:Value} {xs:List Value} (h:w.ownsRow B e k u m xs) (hx:Ext w w'):w'.ownsRow B e k u m xs:=
 h.kept (row:=none) ⟨hx.os,hx.tape,hx.output,hx.size,fun i hi _=>hx.block i hi⟩ (by
  cases hu:u.ownBlock with
  |none=>exact .inl rfl
  |some b=>exact .inr (by simp))
theorem own_apart {B e k m g:Nat} {u:Value} {xs:List Value} (h:w.ownsRow B e k u m xs) (hg:g<B):∀q,u.ownBlock=some q→q≠g:=fun q e=>by
 have:=(h.lt q e).1;omega
theorem own_under {B e k m g:Nat} {u:Value} {xs:List Value} (h:w.ownsRow B e k u m xs) (hg:w.heap.size≤g):∀q,u.ownBlock=some q→q≠g:=fun q e=>by
 have:=(h.lt q e).2;omega
theorem own_moved {g:Nat} {u v:Value} (hp:∀q,u.ownBlock=some q→q≠g) (ha:v.ownBlock=u.ownBlock∨v.ownBlock=some w.heap.size) (hg:g<w.heap.size):∀q,v.ownBlock=some q→q≠g:=fun q e=>by
 rcases ha with h|h
 ·exact hp q (h▸e)
 ·have:=Option.some.inj (h.symm.trans e);omega
theorem Blk.grownNe {g g':Nat} {t:TypeId} {cs:Array Value} (h:Blk w g t cs) (hg:w.grownBy w' (some g')) (hn:g≠g'):Blk w' g t cs:=
 h.grown hg (fun e=>hn (Option.some.inj e).symm)
theorem Blk.grownOwn {g:Nat} {t:TypeId} {cs:Array Value} {u:Value} (h:Blk w g t cs) (hg:w.grownBy w' u.ownBlock) (hp:∀q,u.ownBlock=some q→q≠g):Blk w' g t cs:=
 h.grown hg (fun e=>hp g e rfl)
theorem Ext.grownBlk {b:World} {g:Nat} (h:Ext b w) (hg:w.grownBy w' (some g)) (hle:b.heap.size≤g):Ext b w':=
 h.grown hg (fun q e=>by have:=Option.some.inj e;omega)
theorem gsGrown (g:Nat):∀(vs:List Value) (k:Nat) (w:World),w.grownBy (w.setCells g k vs) (some g)
 |[],_,w=>World.grownBy.refl w _
 |v :: r,k,w=>by
  have h3:=gsGrown g r (k+1) (w.setCell ⟨g,k,none⟩ v);have hg:w.grownBy (w.setCell ⟨g,k,none⟩ v) (some g):=gsCell g k;rw[World.setCells];exact⟨h3.os.trans hg.os,h3.tape.trans hg.tape,h3.output.trans hg.output,Nat.le_trans hg.size h3.size,fun i hi hne=>(h3.block i (Nat.lt_of_lt_of_le hi hg.size) hne).trans (hg.block i hi hne)⟩
theorem gsSetCells {g:Nat} {t:TypeId}:∀(vs l:List Value) (k:Nat) (w:World),Blk w g t l.toArray→k+vs.length≤l.length→Blk (w.setCells g k vs) g t (l.take k++vs++l.drop (k+vs.length)).toArray∧w.grownBy (w.setCells g k vs) (some g)∧(w.setCells g k vs).heap.size=w.heap.size
 |[],l,k,w,h,_=>by
  refine⟨?_,World.grownBy.refl w _,rfl⟩;rw[List.append_nil,List.length_nil,Nat.add_zero,List.take_append_drop];exact h
 |v :: r,l,k,w,h,hk=>by
  rw[List.length_cons] at hk;have h1:=h.set_ k v;rw[List.setIfInBounds_toArray] at h1;obtain⟨h2,h3,h4⟩:=gsSetCells r (l.set k v) (k+1) _ h1 (by rw[List.length_set];omega);have hg:w.grownBy (w.setCell ⟨g,k,none⟩ v) (some g):=⟨rfl,rfl,rfl,by simp[World.setCell],fun k' hk' hne=>Below.heap_setCell w ⟨g,k,none⟩ v k' (by rintro rfl;exact hne rfl)⟩
  refine⟨?_,⟨h3.os.trans hg.os,h3.tape.trans hg.tape,h3.output.trans hg.output,Nat.le_trans hg.size h3.size,fun i hi hne=>(h3.block i (Nat.lt_of_lt_of_le hi hg.size) hne).trans (hg.block i hi hne)⟩,by rw[World.setCells,h4];simp[World.setCell]⟩;rw[World.setCells];have e1:(l.set k v).take (k+1)=l.take k++[v]:=by
   rw[List.take_add_one,List.getElem?_set_self (by omega),List.take_set_of_le (Nat.le_refl k)];rfl
  have e2:(l.set k v).drop (k+1+r.length)=l.drop (k+(r.length+1)):=by
   rw[List.drop_set_of_lt (by omega)];congr 1;omega
  rw[e1,e2] at h2
  simpa using h2
theorem wpList_store_in (hgd:o.guard=none) (ty:TypeId) (x y:Operand) (ho:o.op=.store ty x y) (g k:Nat) (hx:a.eval x=.pointer (some ⟨g,k,none⟩)) (cells:Array Value) (hy:a.eval y=.agg cells)
  (t:TypeId) (old:List Value) (hg:Blk w g t old.toArray) (hk:k+cells.size≤old.length) (hi:(P.info? ty).map (·.size)=some cells.size) (h1:cells.all (·.oneCell')=true) (new:List Value) (hnew:old.take k++cells.toList++old.drop (k+cells.size)=new)
  (h:∀w1,Blk w1 g t new.toArray→w.grownBy w1 (some g)→w1.heap.size=w.heap.size→wpList P ops Q rest (a.put o.dst undef) w1):wpList P ops Q (o :: rest) a w:=by
 obtain⟨k1,k2,k3⟩:=gsSetCells (g:=g) (t:=t) cells.toList old k w hg (by simpa using hk);refine wpList_store_mid hgd ty x y ho g k cells hx hy (fun j hj=>⟨?_,hg.frozen _⟩) hi h1 (h _ ?_ k2 k3)
 ·rw[hg.cell];simp;omega
 ·rw[Array.length_toList,hnew] at k1;exact k1
theorem wpList_store_one (hgd:o.guard=none) (ty:TypeId) (x y:Operand) (ho:o.op=.store ty x y) (g i:Nat) (hx:a.eval x=.pointer (some ⟨g,i,none⟩)) (v:Value) (hy:a.eval y=v) (h1:v.oneCell'=true)
  (t:TypeId) (old:List Value) (hg:Blk w g t old.toArray) (hlt:i<old.length) (hi:(P.info? ty).map (·.size)=some 1) (new:List Value) (hnew:old.set i v=new)
  (h:∀w1,Blk w1 g t new.toArray→w.grownBy w1 (some g)→w1.heap.size=w.heap.size→wpList P ops Q rest (a.put o.dst undef) w1):wpList P ops Q (o :: rest) a w:=
 wpList_store_cell hgd ty x y ho g i hx v hy h1 t old.toArray hg (by simpa using hlt) hi fun w1 k1 k2 k3=>h w1 (by rw[List.setIfInBounds_toArray,hnew] at k1;exact k1) k2 k3
end
@[reducible] def zst:Sty:=⟨0,false,0,0,⟨0,0⟩,⟨0,0⟩,⟨0,0⟩,⟨0,0⟩,⟨0,0⟩,⟨0,0⟩,⟨0,0⟩,⟨0,0⟩,⟨0,0⟩,⟨0,0⟩,0,0,0,0,0,0,0,0,0,0,false,0,0,0,0,0,⟨0,0⟩,none,0,0⟩
theorem zero_st:(Tryz.prog.info? 65).bind (·.zero)=some (.agg zst.cells):=by kernel_rfl
theorem root_val {ns:List Nd} {i:Nat} {n:Nd} (h:ns[i]?=some n):rootN ns i=(if n.s.kind=3 then false else (decide (i=0)||decide (n.s.kind=2)||n.s.flow||decide (n.s.float≠0)||(decide (0≤parN ns i)&&decide (nK ns (parN ns i).toNat=2)))):=by
 rw[rootN,h]
theorem Rd.same {w:World} {A:Option Addr} {n b off:Nat} {l:List Nd} (h:Rd w 44 A n (nds l)) (ha:A=some ⟨b,off,none⟩) {k:Nat} (hk:k<l.length):w.cell? ⟨b,off+k*44+1,none⟩=some (.int .u8 (nK l k)):=by
 have hk':=AE hk;obtain⟨b',off',ha',hb',hc'⟩:=h.node hk';rw[ha] at ha';injection ha' with e;injection e with e1 e2;subst e1 e2;have hK:nK l k=(l[k]).s.kind:=by simp[nK,hk']
 rw[hK];exact hc' 1 _ rfl
section
variable (t:Tr) (ns:List Nd)
theorem refroot_in (i:Nat) (hi:i<ns.length) (w:World) (h:Rd w 44 t.na t.nl (nds ns)) (hm:t.nl≤maxLen) :
  Calls Tryz.prog 83 #[.agg t.cs,.int .i64 i] w fun e w'=>e=.returned (.bool (rootN ns i))∧Ext w w':=by
 have hl:=h.nlen;have hp:=parN_lt ns i;have cu:=fun w h=>AB (parent_any t ns i hi w h hm)
 have hi':=AE hi;have HR:=root_val hi';obtain⟨b,off,ha,hb,hc⟩:=h.node hi';have c0:=hc 1 _ rfl;have c1:=hc 2 _ rfl;have c2:=hc 3 _ rfl;have hmid:w.rangeAt b (off+i*44+1) (ns[i]).s.cells.toList:=fun j v hv=>by
  have:=hc (j+1) v (by simpa using hv)
  rwa [Nat.add_comm j 1,←Nat.add_assoc] at this
 have hk2:=fun (k:Nat) (hk:k<ns.length)=>h.same ha hk
 have hh:=h;generalize ns[i].s=S at *;obtain⟨K0,FL,FT,hK0,hFL,hFT⟩:∃K0 FL FT,S.kind=K0∧S.flow=FL∧S.float=FT:=⟨_,_,_,rfl,rfl,rfl⟩
 rw[hK0,hFL,hFT] at HR;rw[hK0] at c0;rw[hFL] at c1;rw[hFT] at c2;obtain⟨na,nl,nc,aa,al,ac,view⟩:=t;simp only at ha hm hl h hc c0 c1 c2 hh cu;subst ha;have hm':=hm;unfold maxLen at hm';have hin:(0:Int)≤(i:Int)∧(i:Int)<(nl:Int):=by omega
 have HMID:=AB hmid;have HK2:=AB hk2;have HK:=AB hK0;have HFL:=AB hFL;have HFT:=AB hFT;clear hi' h hc hmid hk2 hK0 hFL hFT;by_cases k3:K0=3
 ·subst k3;have HV:Hid (rootN ns i=false):=AB (by rw[HR];simp[*]);clear HR;go_enter Tryz.func83,Tryz.ntmps83;go_wp2_with fail;go_ret;exact⟨ret1b (AA HV).symm,(Ext.refl _).alloc _⟩
 have k3b:(K0==3)=false:=by simpa using k3
 by_cases i0:i=0
 ·have i0b:((i:Int)==0)=true:=by simpa using i0
  have HV:Hid (rootN ns i=true):=AB (by rw[HR];simp[*]);clear HR;clear i0;go_enter Tryz.func83,Tryz.ntmps83;go_upto_region 3 with fail
  iterate 16 go_step
  refine wpList_load_mid rfl 65 _ rfl b (off+i*44+1) rfl S.cells.toList _ (fun j v hv=>(((Ext.refl w).alloc _).cells.1 b _ hb).trans ((AA HMID) j v hv)) Tryz.underlying65 rfl (by kernel_rfl) ?_;simp only[AC];have BT:Blk (w.alloc (.cells (Tr.cs ⟨some ⟨b,off,none⟩,nl,nc,aa,al,ac,view⟩) 25)) w.heap.size 25 (Tr.cs ⟨some ⟨b,off,none⟩,nl,nc,aa,al,ac,view⟩):=Blk.new _ _ _;have ET:Ext w (w.alloc (.cells (Tr.cs ⟨some ⟨b,off,none⟩,nl,nc,aa,al,ac,view⟩) 25)):=(Ext.refl _).alloc _;have hsz:(w.alloc (.cells (Tr.cs ⟨some ⟨b,off,none⟩,nl,nc,aa,al,ac,view⟩) 25)).heap.size=w.heap.size+1:=by simp
  generalize w.alloc (.cells (Tr.cs ⟨some ⟨b,off,none⟩,nl,nc,aa,al,ac,view⟩) 25)=wb at *;refine wpList_alloc_var rfl 65 rfl zst.cells zero_st ?_;intro wa Ba Ea za;simp only[AC];refine wpList_store_blk rfl 65 _ _ rfl wb.heap.size rfl S.cells rfl 65 zst.cells Ba (info_style S) rfl (by kernel_rfl) ?_;intro w3 Bs hg zs;simp only[Act.put];have E3:Ext w w3:=Ext.grown (ET.trans Ea) hg (fun g e=>by injection e with e;omega);have BT3:=(BT.ext Ea).grown hg (fun e=>by injection e with e;omega);clear Ba Ea za hg BT ET;have HZ:=AB hsz;clear hsz;generalize hgb:wb.heap.size=gb at *;clear HZ hgb wb;have dT:=BT3.cell;have lT:=BT3.lt;go_wp2_with fail;refine (AA (cu _ (hh.ext E3))).mono ?_;rintro e w4 ⟨rfl,hx⟩;replace E3:=E3.trans hx;replace BT3:=BT3.ext hx;replace Bs:=Bs.ext hx;clear hx dT lT;have dT:=BT3.cell;have lT:=BT3.lt;have dS:∀i:Nat,w4.cell? ⟨gb,i,none⟩=S.cells[i]?:=Bs.cell;have dS0:w4.cell? ⟨gb,0,none⟩=some (.int .u8 K0):=by rw[←AA HK];exact dS 0
  have dS1:w4.cell? ⟨gb,1,none⟩=some (.bool FL):=by rw[←AA HFL];exact dS 1
  have dS2:w4.cell? ⟨gb,2,none⟩=some (.int .u8 FT):=by rw[←AA HFT];exact dS 2
  obtain⟨hcc,hff⟩:=E3.cells;have hz:=Bs.lt;clear dS;go_wp2_with fail;go_ret;exact⟨ret1b (AA HV).symm,E3⟩
 have i0b:((i:Int)==0)=false:=by simp;omega
 by_cases k2:K0=2
 ·subst k2;have HV:Hid (rootN ns i=true):=AB (by rw[HR];simp[*]);clear HR;go_enter Tryz.func83,Tryz.ntmps83;go_upto_region 3 with fail
  iterate 16 go_step
  refine wpList_load_mid rfl 65 _ rfl b (off+i*44+1) rfl S.cells.toList _ (fun j v hv=>(((Ext.refl w).alloc _).cells.1 b _ hb).trans ((AA HMID) j v hv)) Tryz.underlying65 rfl (by kernel_rfl) ?_;simp only[AC];have BT:Blk (w.alloc (.cells (Tr.cs ⟨some ⟨b,off,none⟩,nl,nc,aa,al,ac,view⟩) 25)) w.heap.size 25 (Tr.cs ⟨some ⟨b,off,none⟩,nl,nc,aa,al,ac,view⟩):=Blk.new _ _ _;have ET:Ext w (w.alloc (.cells (Tr.cs ⟨some ⟨b,off,none⟩,nl,nc,aa,al,ac,view⟩) 25)):=(Ext.refl _).alloc _;have hsz:(w.alloc (.cells (Tr.cs ⟨some ⟨b,off,none⟩,nl,nc,aa,al,ac,view⟩) 25)).heap.size=w.heap.size+1:=by simp
  generalize w.alloc (.cells (Tr.cs ⟨some ⟨b,off,none⟩,nl,nc,aa,al,ac,view⟩) 25)=wb at *;refine wpList_alloc_var rfl 65 rfl zst.cells zero_st ?_;intro wa Ba Ea za;simp only[AC];refine wpList_store_blk rfl 65 _ _ rfl wb.heap.size rfl S.cells rfl 65 zst.cells Ba (info_style S) rfl (by kernel_rfl) ?_;intro w3 Bs hg zs;simp only[Act.put];have E3:Ext w w3:=Ext.grown (ET.trans Ea) hg (fun g e=>by injection e with e;omega);have BT3:=(BT.ext Ea).grown hg (fun e=>by injection e with e;omega);clear Ba Ea za hg BT ET;have HZ:=AB hsz;clear hsz;generalize hgb:wb.heap.size=gb at *;clear HZ hgb wb;have dT:=BT3.cell;have lT:=BT3.lt;go_wp2_with fail;refine (AA (cu _ (hh.ext E3))).mono ?_;rintro e w4 ⟨rfl,hx⟩;replace E3:=E3.trans hx;replace BT3:=BT3.ext hx;replace Bs:=Bs.ext hx;clear hx dT lT;have dT:=BT3.cell;have lT:=BT3.lt;have dS:∀i:Nat,w4.cell? ⟨gb,i,none⟩=S.cells[i]?:=Bs.cell;have dS0:w4.cell? ⟨gb,0,none⟩=some (.int .u8 2):=by rw[←AA HK];exact dS 0
  have dS1:w4.cell? ⟨gb,1,none⟩=some (.bool FL):=by rw[←AA HFL];exact dS 1
  have dS2:w4.cell? ⟨gb,2,none⟩=some (.int .u8 FT):=by rw[←AA HFT];exact dS 2
  obtain⟨hcc,hff⟩:=E3.cells;have hz:=Bs.lt;clear dS;go_wp2_with fail;go_ret;exact⟨ret1b (AA HV).symm,E3⟩
 have k2b:(K0==2)=false:=by simpa using k2
 cases FL
 rotate_left
 ·skip
  have HV:Hid (rootN ns i=true):=AB (by rw[HR];simp[*]);clear HR;go_enter Tryz.func83,Tryz.ntmps83;go_upto_region 3 with fail
  iterate 16 go_step
  refine wpList_load_mid rfl 65 _ rfl b (off+i*44+1) rfl S.cells.toList _ (fun j v hv=>(((Ext.refl w).alloc _).cells.1 b _ hb).trans ((AA HMID) j v hv)) Tryz.underlying65 rfl (by kernel_rfl) ?_;simp only[AC];have BT:Blk (w.alloc (.cells (Tr.cs ⟨some ⟨b,off,none⟩,nl,nc,aa,al,ac,view⟩) 25)) w.heap.size 25 (Tr.cs ⟨some ⟨b,off,none⟩,nl,nc,aa,al,ac,view⟩):=Blk.new _ _ _;have ET:Ext w (w.alloc (.cells (Tr.cs ⟨some ⟨b,off,none⟩,nl,nc,aa,al,ac,view⟩) 25)):=(Ext.refl _).alloc _;have hsz:(w.alloc (.cells (Tr.cs ⟨some ⟨b,off,none⟩,nl,nc,aa,al,ac,view⟩) 25)).heap.size=w.heap.size+1:=by simp
  generalize w.alloc (.cells (Tr.cs ⟨some ⟨b,off,none⟩,nl,nc,aa,al,ac,view⟩) 25)=wb at *;refine wpList_alloc_var rfl 65 rfl zst.cells zero_st ?_;intro wa Ba Ea za;simp only[AC];refine wpList_store_blk rfl 65 _ _ rfl wb.heap.size rfl S.cells rfl 65 zst.cells Ba (info_style S) rfl (by kernel_rfl) ?_;intro w3 Bs hg zs;simp only[Act.put];have E3:Ext w w3:=Ext.grown (ET.trans Ea) hg (fun g e=>by injection e with e;omega);have BT3:=(BT.ext Ea).grown hg (fun e=>by injection e with e;omega);clear Ba Ea za hg BT ET;have HZ:=AB hsz;clear hsz;generalize hgb:wb.heap.size=gb at *;clear HZ hgb wb;have dT:=BT3.cell;have lT:=BT3.lt;go_wp2_with fail;refine (AA (cu _ (hh.ext E3))).mono ?_;rintro e w4 ⟨rfl,hx⟩;replace E3:=E3.trans hx;replace BT3:=BT3.ext hx;replace Bs:=Bs.ext hx;clear hx dT lT;have dT:=BT3.cell;have lT:=BT3.lt;have dS:∀i:Nat,w4.cell? ⟨gb,i,none⟩=S.cells[i]?:=Bs.cell;have dS0:w4.cell? ⟨gb,0,none⟩=some (.int .u8 K0):=by rw[←AA HK];exact dS 0
  have dS1:w4.cell? ⟨gb,1,none⟩=some (.bool true):=by rw[←AA HFL];exact dS 1
  have dS2:w4.cell? ⟨gb,2,none⟩=some (.int .u8 FT):=by rw[←AA HFT];exact dS 2
  obtain⟨hcc,hff⟩:=E3.cells;have hz:=Bs.lt;clear dS;go_wp2_with fail;go_ret;exact⟨ret1b (AA HV).symm,E3⟩
 by_cases f0:FT=0
 rotate_left
 ·have f0b:(FT != 0)=true:=by simpa using f0
  have HV:Hid (rootN ns i=true):=AB (by rw[HR];simp[*]);clear HR;go_enter Tryz.func83,Tryz.ntmps83;go_upto_region 3 with fail
  iterate 16 go_step
  refine wpList_load_mid rfl 65 _ rfl b (off+i*44+1) rfl S.cells.toList _ (fun j v hv=>(((Ext.refl w).alloc _).cells.1 b _ hb).trans ((AA HMID) j v hv)) Tryz.underlying65 rfl (by kernel_rfl) ?_;simp only[AC];have BT:Blk (w.alloc (.cells (Tr.cs ⟨some ⟨b,off,none⟩,nl,nc,aa,al,ac,view⟩) 25)) w.heap.size 25 (Tr.cs ⟨some ⟨b,off,none⟩,nl,nc,aa,al,ac,view⟩):=Blk.new _ _ _;have ET:Ext w (w.alloc (.cells (Tr.cs ⟨some ⟨b,off,none⟩,nl,nc,aa,al,ac,view⟩) 25)):=(Ext.refl _).alloc _;have hsz:(w.alloc (.cells (Tr.cs ⟨some ⟨b,off,none⟩,nl,nc,aa,al,ac,view⟩) 25)).heap.size=w.heap.size+1:=by simp
  generalize w.alloc (.cells (Tr.cs ⟨some ⟨b,off,none⟩,nl,nc,aa,al,ac,view⟩) 25)=wb at *;refine wpList_alloc_var rfl 65 rfl zst.cells zero_st ?_;intro wa Ba Ea za;simp only[AC];refine wpList_store_blk rfl 65 _ _ rfl wb.heap.size rfl S.cells rfl 65 zst.cells Ba (info_style S) rfl (by kernel_rfl) ?_;intro w3 Bs hg zs;simp only[Act.put];have E3:Ext w w3:=Ext.grown (ET.trans Ea) hg (fun g e=>by injection e with e;omega);have BT3:=(BT.ext Ea).grown hg (fun e=>by injection e with e;omega);clear Ba Ea za hg BT ET;have HZ:=AB hsz;clear hsz;generalize hgb:wb.heap.size=gb at *;clear HZ hgb wb;have dT:=BT3.cell;have lT:=BT3.lt;go_wp2_with fail;refine (AA (cu _ (hh.ext E3))).mono ?_;rintro e w4 ⟨rfl,hx⟩;replace E3:=E3.trans hx;replace BT3:=BT3.ext hx;replace Bs:=Bs.ext hx;clear hx dT lT;have dT:=BT3.cell;have lT:=BT3.lt;have dS:∀i:Nat,w4.cell? ⟨gb,i,none⟩=S.cells[i]?:=Bs.cell;have dS0:w4.cell? ⟨gb,0,none⟩=some (.int .u8 K0):=by rw[←AA HK];exact dS 0
  have dS1:w4.cell? ⟨gb,1,none⟩=some (.bool false):=by rw[←AA HFL];exact dS 1
  have dS2:w4.cell? ⟨gb,2,none⟩=some (.int .u8 FT):=by rw[←AA HFT];exact dS 2
  obtain⟨hcc,hff⟩:=E3.cells;have hz:=Bs.lt;clear dS;go_wp2_with fail;go_ret;exact⟨ret1b (AA HV).symm,E3⟩
 subst f0;by_cases h0:0≤parN ns i
 rotate_left
 ·have h1:parN ns i=-1:=by omega
  rw[h1] at HR cu;have HV:Hid (rootN ns i=false):=AB (by rw[HR];simp[k3,i0,k2]);clear HR;clear h1 hp h0;go_enter Tryz.func83,Tryz.ntmps83;go_upto_region 3 with fail
  iterate 16 go_step
  refine wpList_load_mid rfl 65 _ rfl b (off+i*44+1) rfl S.cells.toList _ (fun j v hv=>(((Ext.refl w).alloc _).cells.1 b _ hb).trans ((AA HMID) j v hv)) Tryz.underlying65 rfl (by kernel_rfl) ?_;simp only[AC];have BT:Blk (w.alloc (.cells (Tr.cs ⟨some ⟨b,off,none⟩,nl,nc,aa,al,ac,view⟩) 25)) w.heap.size 25 (Tr.cs ⟨some ⟨b,off,none⟩,nl,nc,aa,al,ac,view⟩):=Blk.new _ _ _;have ET:Ext w (w.alloc (.cells (Tr.cs ⟨some ⟨b,off,none⟩,nl,nc,aa,al,ac,view⟩) 25)):=(Ext.refl _).alloc _;have hsz:(w.alloc (.cells (Tr.cs ⟨some ⟨b,off,none⟩,nl,nc,aa,al,ac,view⟩) 25)).heap.size=w.heap.size+1:=by simp
  generalize w.alloc (.cells (Tr.cs ⟨some ⟨b,off,none⟩,nl,nc,aa,al,ac,view⟩) 25)=wb at *;refine wpList_alloc_var rfl 65 rfl zst.cells zero_st ?_;intro wa Ba Ea za;simp only[AC];refine wpList_store_blk rfl 65 _ _ rfl wb.heap.size rfl S.cells rfl 65 zst.cells Ba (info_style S) rfl (by kernel_rfl) ?_;intro w3 Bs hg zs;simp only[Act.put];have E3:Ext w w3:=Ext.grown (ET.trans Ea) hg (fun g e=>by injection e with e;omega);have BT3:=(BT.ext Ea).grown hg (fun e=>by injection e with e;omega);clear Ba Ea za hg BT ET;have HZ:=AB hsz;clear hsz;generalize hgb:wb.heap.size=gb at *;clear HZ hgb wb;have dT:=BT3.cell;have lT:=BT3.lt;go_wp2_with fail;refine (AA (cu _ (hh.ext E3))).mono ?_;rintro e w4 ⟨rfl,hx⟩;replace E3:=E3.trans hx;replace BT3:=BT3.ext hx;replace Bs:=Bs.ext hx;clear hx dT lT;have dT:=BT3.cell;have lT:=BT3.lt;have dS:∀i:Nat,w4.cell? ⟨gb,i,none⟩=S.cells[i]?:=Bs.cell;have dS0:w4.cell? ⟨gb,0,none⟩=some (.int .u8 K0):=by rw[←AA HK];exact dS 0
  have dS1:w4.cell? ⟨gb,1,none⟩=some (.bool false):=by rw[←AA HFL];exact dS 1
  have dS2:w4.cell? ⟨gb,2,none⟩=some (.int .u8 0):=by rw[←AA HFT];exact dS 2
  obtain⟨hcc,hff⟩:=E3.cells;have hz:=Bs.lt;clear dS;go_wp2_with fail;go_ret;exact⟨ret1b (AA HV).symm,E3⟩
 obtain⟨k,hk⟩:∃k:Nat,parN ns i=k:=⟨(parN ns i).toNat,by omega⟩
 rw[hk] at hp h0 cu HR;rw[Int.toNat_natCast] at HR;have hkl:k<ns.length:=by omega
 have c3:=(AA HK2) k hkl;have hin2:(0:Int)≤(k:Int)∧(k:Int)<(nl:Int):=by omega
 generalize nK ns k=K at *;clear hk;by_cases kk:K=2
 ·subst kk;have HV:Hid (rootN ns i=true):=AB (by rw[HR];simp[k3]);clear HR;go_enter Tryz.func83,Tryz.ntmps83;go_upto_region 3 with fail
  iterate 16 go_step
  refine wpList_load_mid rfl 65 _ rfl b (off+i*44+1) rfl S.cells.toList _ (fun j v hv=>(((Ext.refl w).alloc _).cells.1 b _ hb).trans ((AA HMID) j v hv)) Tryz.underlying65 rfl (by kernel_rfl) ?_;simp only[AC];have BT:Blk (w.alloc (.cells (Tr.cs ⟨some ⟨b,off,none⟩,nl,nc,aa,al,ac,view⟩) 25)) w.heap.size 25 (Tr.cs ⟨some ⟨b,off,none⟩,nl,nc,aa,al,ac,view⟩):=Blk.new _ _ _;have ET:Ext w (w.alloc (.cells (Tr.cs ⟨some ⟨b,off,none⟩,nl,nc,aa,al,ac,view⟩) 25)):=(Ext.refl _).alloc _;have hsz:(w.alloc (.cells (Tr.cs ⟨some ⟨b,off,none⟩,nl,nc,aa,al,ac,view⟩) 25)).heap.size=w.heap.size+1:=by simp
  generalize w.alloc (.cells (Tr.cs ⟨some ⟨b,off,none⟩,nl,nc,aa,al,ac,view⟩) 25)=wb at *;refine wpList_alloc_var rfl 65 rfl zst.cells zero_st ?_;intro wa Ba Ea za;simp only[AC];refine wpList_store_blk rfl 65 _ _ rfl wb.heap.size rfl S.cells rfl 65 zst.cells Ba (info_style S) rfl (by kernel_rfl) ?_;intro w3 Bs hg zs;simp only[Act.put];have E3:Ext w w3:=Ext.grown (ET.trans Ea) hg (fun g e=>by injection e with e;omega);have BT3:=(BT.ext Ea).grown hg (fun e=>by injection e with e;omega);clear Ba Ea za hg BT ET;have HZ:=AB hsz;clear hsz;generalize hgb:wb.heap.size=gb at *;clear HZ hgb wb;have dT:=BT3.cell;have lT:=BT3.lt;go_wp2_with fail;refine (AA (cu _ (hh.ext E3))).mono ?_;rintro e w4 ⟨rfl,hx⟩;replace E3:=E3.trans hx;replace BT3:=BT3.ext hx;replace Bs:=Bs.ext hx;clear hx dT lT;have dT:=BT3.cell;have lT:=BT3.lt;have dS:∀i:Nat,w4.cell? ⟨gb,i,none⟩=S.cells[i]?:=Bs.cell;have dS0:w4.cell? ⟨gb,0,none⟩=some (.int .u8 K0):=by rw[←AA HK];exact dS 0
  have dS1:w4.cell? ⟨gb,1,none⟩=some (.bool false):=by rw[←AA HFL];exact dS 1
  have dS2:w4.cell? ⟨gb,2,none⟩=some (.int .u8 0):=by rw[←AA HFT];exact dS 2
  obtain⟨hcc,hff⟩:=E3.cells;have hz:=Bs.lt;clear dS;go_wp2_with fail;go_ret;exact⟨ret1b (AA HV).symm,E3⟩
 ·have kkb:(K==2)=false:=by simpa using kk
  have HV:Hid (rootN ns i=false):=AB (by rw[HR];simp[k3,i0,k2,kk]);clear HR;go_enter Tryz.func83,Tryz.ntmps83;go_upto_region 3 with fail
  iterate 16 go_step
  refine wpList_load_mid rfl 65 _ rfl b (off+i*44+1) rfl S.cells.toList _ (fun j v hv=>(((Ext.refl w).alloc _).cells.1 b _ hb).trans ((AA HMID) j v hv)) Tryz.underlying65 rfl (by kernel_rfl) ?_;simp only[AC];have BT:Blk (w.alloc (.cells (Tr.cs ⟨some ⟨b,off,none⟩,nl,nc,aa,al,ac,view⟩) 25)) w.heap.size 25 (Tr.cs ⟨some ⟨b,off,none⟩,nl,nc,aa,al,ac,view⟩):=Blk.new _ _ _;have ET:Ext w (w.alloc (.cells (Tr.cs ⟨some ⟨b,off,none⟩,nl,nc,aa,al,ac,view⟩) 25)):=(Ext.refl _).alloc _;have hsz:(w.alloc (.cells (Tr.cs ⟨some ⟨b,off,none⟩,nl,nc,aa,al,ac,view⟩) 25)).heap.size=w.heap.size+1:=by simp
  generalize w.alloc (.cells (Tr.cs ⟨some ⟨b,off,none⟩,nl,nc,aa,al,ac,view⟩) 25)=wb at *;refine wpList_alloc_var rfl 65 rfl zst.cells zero_st ?_;intro wa Ba Ea za;simp only[AC];refine wpList_store_blk rfl 65 _ _ rfl wb.heap.size rfl S.cells rfl 65 zst.cells Ba (info_style S) rfl (by kernel_rfl) ?_;intro w3 Bs hg zs;simp only[Act.put];have E3:Ext w w3:=Ext.grown (ET.trans Ea) hg (fun g e=>by injection e with e;omega);have BT3:=(BT.ext Ea).grown hg (fun e=>by injection e with e;omega);clear Ba Ea za hg BT ET;have HZ:=AB hsz;clear hsz;generalize hgb:wb.heap.size=gb at *;clear HZ hgb wb;have dT:=BT3.cell;have lT:=BT3.lt;go_wp2_with fail;refine (AA (cu _ (hh.ext E3))).mono ?_;rintro e w4 ⟨rfl,hx⟩;replace E3:=E3.trans hx;replace BT3:=BT3.ext hx;replace Bs:=Bs.ext hx;clear hx dT lT;have dT:=BT3.cell;have lT:=BT3.lt;have dS:∀i:Nat,w4.cell? ⟨gb,i,none⟩=S.cells[i]?:=Bs.cell;have dS0:w4.cell? ⟨gb,0,none⟩=some (.int .u8 K0):=by rw[←AA HK];exact dS 0
  have dS1:w4.cell? ⟨gb,1,none⟩=some (.bool false):=by rw[←AA HFL];exact dS 1
  have dS2:w4.cell? ⟨gb,2,none⟩=some (.int .u8 0):=by rw[←AA HFT];exact dS 2
  obtain⟨hcc,hff⟩:=E3.cells;have hz:=Bs.lt;clear dS;go_wp2_with fail;go_ret;exact⟨ret1b (AA HV).symm,E3⟩
end
@[reducible] def znd:Nd:=⟨0,zst⟩
theorem zero_nd:(Tryz.prog.info? 67).bind (·.zero)=some (.agg znd.cells.toArray):=by kernel_rfl
theorem info_nd (n:Nd):(Tryz.prog.info? 67).map (·.size)=some n.cells.toArray.size:=by kernel_rfl
def looseV (s:Sty):Bool:=((s.float != 0)||(s.clear != 0))
def nodeE (ns:List Nd) (i:Nat) (n:Nd):Int:=
 if (i=0∧n.p≠-1)∨(0<i∧n.p≠(i:Int)-1∧(n.p<0∨(i:Int)≤n.p∨bel ns n.p (i-1)=false)) then 6
 else if 65536<n.s.ul then 7
 else if 512<dep ns i then 8
 else if rightV n.s=false then 6
 else if i=0 then (if n.s.kind≠1∨looseV n.s=true then 6 else 0)
 else if nK ns n.p.toNat=3 then 6
 else if nK ns n.p.toNat=2 then (if n.s.kind=3∨looseV n.s=true then 6 else 0)
 else if 0≤firstN ns n.p i (n.p.toNat+1)∧((nK ns (firstN ns n.p i (n.p.toNat+1)).toNat==3) != (n.s.kind==3))=true then 6 else 0
def nodeV (ns:List Nd) (i:Nat):Int:=match ns[i]? with|some n=>nodeE ns i n|none=>0
theorem nodeV_of {ns:List Nd} {i:Nat} {n:Nd} (h:ns[i]?=some n):nodeV ns i=nodeE ns i n:=by rw[nodeV,h]
theorem firstN_at (ns:List Nd) (p:Int) (i k:Nat):firstN ns p i k=-1∨∃m:Nat,firstN ns p i k=m∧k≤m∧m<i:=by
 have key:∀d k,i-k=d→firstN ns p i k=-1∨∃m:Nat,firstN ns p i k=m∧k≤m∧m<i:=by
  intro d
  induction d with
  |zero=>intro k h;left;rw[firstN,if_neg (by omega)]
  |succ d ih=>
   intro k h;rw[firstN,if_pos (by omega)]
   split
   ·exact .inr ⟨k,rfl,by omega,by omega⟩
   ·rcases ih (k+1) (by omega) with h|⟨m,h1,h2,h3⟩
    ·exact .inl h
    ·exact .inr ⟨m,h1,by omega,h3⟩
 exact key _ k rfl
def PreIs (ns:List Nd) (i:Nat) (P:Int) (b:Bool):Prop:=b=true↔((i=0∧P≠-1)∨(0<i∧P≠(i:Int)-1∧(P<0∨(i:Int)≤P∨bel ns P (i-1)=false)))
section
variable (t:Tr) (ns:List Nd)
theorem node_any (i:Nat) (hi:i<ns.length) (w:World) (h:Rd w 44 t.na t.nl (nds ns)) (hm:t.nl≤1000000) :
  Calls Tryz.prog 50 #[.agg t.cs,.int .i64 i] w fun e w'=>e=.returned (.int .i64 (nodeV ns i))∧Ext w w':=by
 have hm':t.nl≤maxLen:=by unfold maxLen;omega
 have hl:=h.nlen;have hi':=AE hi;obtain⟨b,off,ha,hb,hc⟩:=h.node hi';have HR:=nodeV_of hi';have hmid:w.rangeAt b (off+i*44) (ns[i]).cells:=hc;have hk2:=fun (k:Nat) (hk:k<ns.length)=>h.same ha hk
 have cd:=fun w h=>AB (depth_any t ns i hi w h hm')
 have cb:=fun (j:Nat) (hj:j<ns.length) o w h=>AB (below_any t ns j hj o w h hm')
 have cf:=fun (p:Nat) (hp:p<ns.length) w h=>AB (first_any t ns p i (by omega) w h hm' hp)
 have HD:=dep_le ns i;generalize ns[i]=nd at *;obtain⟨P,S⟩:=nd;obtain⟨na,nl,nc,aa,al,ac,view⟩:=t;simp only at ha hm hm' hl h cd cb cf;subst ha;have hh:=h;have hin:(0:Int)≤(i:Int)∧(i:Int)<(nl:Int):=by omega
 have HMID:=AB hmid;have HK2:=AB hk2;have HH:=AB hh;have HHR:=AB HR;generalize nodeV ns i=V at *;have HDEP:=AB (show dep ns i=dep ns i from rfl);clear hi' h hc hmid hk2 HR hm' HDEP;go_enter Tryz.func50,Tryz.ntmps50;go_upto_region 1 with fail
 iterate 13 go_step
 refine wpList_load_mid rfl 67 _ rfl b (off+i*44) rfl (Nd.cells ⟨P,S⟩) _ (fun j v hv=>(((Ext.refl w).alloc _).cells.1 b _ hb).trans ((AA HMID) j v hv)) Tryz.underlying67 rfl (info_nd ⟨P,S⟩) ?_;simp only[AC];have BT:Blk (w.alloc (.cells (Tr.cs ⟨some ⟨b,off,none⟩,nl,nc,aa,al,ac,view⟩) 25)) w.heap.size 25 (Tr.cs ⟨some ⟨b,off,none⟩,nl,nc,aa,al,ac,view⟩):=Blk.new _ _ _;have ET:Ext w (w.alloc (.cells (Tr.cs ⟨some ⟨b,off,none⟩,nl,nc,aa,al,ac,view⟩) 25)):=(Ext.refl _).alloc _;have hsz:(w.alloc (.cells (Tr.cs ⟨some ⟨b,off,none⟩,nl,nc,aa,al,ac,view⟩) 25)).heap.size=w.heap.size+1:=by simp
 have HZ:=AB hsz;clear hsz;generalize w.alloc (.cells (Tr.cs ⟨some ⟨b,off,none⟩,nl,nc,aa,al,ac,view⟩) 25)=wb at *;generalize hgt:w.heap.size=gt at *;have HGT:=AB hgt;clear hgt;refine wpList_alloc_var rfl 67 rfl znd.cells.toArray zero_nd ?_;intro wa Ba Ea za;simp only[AC];refine wpList_store_blk rfl 67 _ _ rfl wb.heap.size rfl (Nd.cells ⟨P,S⟩).toArray rfl 67 znd.cells.toArray Ba (info_nd ⟨P,S⟩) rfl (by kernel_rfl) ?_;intro w3 BN hg zs;simp only[Act.put];have E3:Ext w w3:=Ext.grown (ET.trans Ea) hg (fun g e=>by injection e with e;have:=AA HZ;have:=AA HGT;omega);have BT3:=(BT.ext Ea).grown hg (fun e=>by injection e with e;have:=AA HZ;omega);clear Ba Ea za hg BT ET zs;generalize hgn:wb.heap.size=gn at *;clear HZ hgn wb wa;go_upto_region 2 with fail
 iterate 4 go_step
 refine wpList_load_mid rfl 65 _ rfl gn 1 rfl S.cells.toList _ (fun j v hv=>by rw[BN.cell,Nat.add_comm];simpa using hv) Tryz.underlying65 rfl (info_style S) ?_;simp only[AC];refine wpList_alloc_var rfl 65 rfl zst.cells zero_st ?_;intro wa Ba Ea za;simp only[AC];refine wpList_store_blk rfl 65 _ _ rfl w3.heap.size rfl S.cells rfl 65 zst.cells Ba (info_style S) rfl (by kernel_rfl) ?_;intro w4 BS hg zs;simp only[Act.put];have lT:=BT3.lt;have lN:=BN.lt;have E4:Ext w w4:=Ext.grown (E3.trans Ea) hg (fun g e=>by injection e with e;have:=E3.size;omega);have BT4:=(BT3.ext Ea).grown hg (fun e=>by injection e with e;omega);have BN4:=(BN.ext Ea).grown hg (fun e=>by injection e with e;omega);clear Ba Ea za hg BT3 BN E3 lT lN zs;generalize hgs:w3.heap.size=gs at *;clear hgs w3 wa;have cN:w4.cell? ⟨gn,0,none⟩=some (.int .i64 P):=BN4.cell 0;have lN:=BN4.lt;go_upto_region 4 with fail;have dT:=BT4.cell;have lT:=BT4.lt;go_cut [51] from 10 to 121 (fun v wx=>∃pb:Bool,v=.bool pb∧Hid (PreIs ns i P pb)∧Hid (Ext w4 wx))
 case first=>
  by_cases i0:i=0
  ·have i0b:((i:Int)==0)=true:=by simpa using i0
   have i0c:¬(0:Int)<(i:Int):=by omega
   by_cases hp:P=-1
   ·have hpb:(P != -1)=false:=by simpa using hp
    have HR:=AB (show PreIs ns i P false by unfold PreIs;simp;omega);clear hp i0;go_wp2_with fail;go_meet
    case rel=>exact⟨false,rfl,HR,AB (Ext.refl _)⟩
   ·have hpb:(P != -1)=true:=by simpa using hp
    have HR:=AB (show PreIs ns i P true from ⟨fun _=>.inl ⟨i0,hp⟩,fun _=>rfl⟩);clear hp i0;go_wp2_with fail;go_meet
    case rel=>exact⟨true,rfl,HR,AB (Ext.refl _)⟩
  have i0b:((i:Int)==0)=false:=by simp;omega
  have i0c:(0:Int)<(i:Int):=by omega
  have i0d:IntKind.i64.wrap ((i:Int)-1)=(i:Int)-1:=IntWalk.i64_in _ (by omega);by_cases hp1:P=(i:Int)-1
  ·have hpb:(P != (i:Int)-1)=false:=by simpa using hp1
   have HR:=AB (show PreIs ns i P false by unfold PreIs;simp;omega);clear hp1;go_wp2_with fail;go_meet
   case rel=>exact⟨false,rfl,HR,AB (Ext.refl _)⟩
  have hpb:(P != (i:Int)-1)=true:=by simpa using hp1
  have HR:Hid ((P<0∨(i:Int)≤P∨bel ns P (i-1)=false)→PreIs ns i P true):=AB (fun h=>⟨fun _=>.inr ⟨by omega,hp1,h⟩,fun _=>rfl⟩);clear hp1;by_cases hp2:P<0
  ·have H:=AB (AA HR (.inl hp2));go_wp2_with fail;go_meet
   case rel=>exact⟨true,rfl,H,AB (Ext.refl _)⟩
  by_cases hp3:(i:Int)≤P
  ·have H:=AB (AA HR (.inr (.inl hp3)));go_wp2_with fail;go_meet
   case rel=>exact⟨true,rfl,H,AB (Ext.refl _)⟩
  obtain⟨j,hj⟩:∃j:Nat,(i:Int)-1=j:=⟨i-1,by omega⟩
  have HJ:=AB (show i-1=j by omega);have hjl:j<ns.length:=by omega
  have hpc:(P != (j:Int))=true:=by rw[←hj];exact hpb
  have HN:=AB (show ¬P<0∧¬(i:Int)≤P∧¬i=0 by omega);go_wp2_with fail;refine (AA (cb j hjl _ _ (hh.ext E4))).mono ?_;rintro e w4b ⟨rfl,hx⟩;have HX:=AB hx;clear hx hj;obtain⟨bb,hbb⟩:∃x,bel ns P j=x:=⟨_,rfl⟩
  have H:Hid (PreIs ns i P (!bb)):=AB (by
   obtain⟨n1,n2,n3⟩:=AA HN
   constructor
   ·intro h;exact (AA HR (.inr (.inr (by rw[AA HJ,hbb];simpa using h)))).1 rfl
   ·rintro (⟨h,_⟩|⟨_,_,h|h|h⟩)
    ·omega
    ·omega
    ·omega
    ·rw[AA HJ,hbb] at h;rw[h];rfl)
  go_wp2_with fail;go_meet
  case rel=>exact⟨!bb,rfl,H,HX⟩
 case rest=>
 clear cN lN dT lT;obtain⟨pb,rfl,HPB,HX⟩:=hcut;have E:=E4.trans (AA HX);have BT:=BT4.ext (AA HX);replace BS:=BS.ext (AA HX);clear HX E4 BT4 BN4;cases pb
 rotate_left
 ·have H:=AB ((AA HHR).trans (if_pos ((AA HPB).1 rfl)));go_wp2_with fail;go_ret;exact⟨ret1 (AA H).symm,E⟩
 have HPRE:=AB (fun h=>Bool.noConfusion ((AA HPB).2 h):¬((i=0∧P≠-1)∨(0<i∧P≠(i:Int)-1∧(P<0∨(i:Int)≤P∨bel ns P (i-1)=false))));have H1:=AB ((AA HHR).trans (if_neg (AA HPRE)));clear HHR HPB;have dT:=BT.cell;have lT:=BT.lt;have dS:=BS.cell;have lS:=BS.lt;go_upto_region 6 with fail;by_cases hu:65536<S.ul
 ·have H:=AB ((AA H1).trans (if_pos hu));have hul:(65536:Int)<(S.ul:Int):=by omega
  go_wp2_with fail;go_ret;exact⟨ret1 (AA H).symm,E⟩
 have H2:=AB ((AA H1).trans (if_neg hu));have hul:¬(65536:Int)<(S.ul:Int):=by omega
 clear H1 hu;go_upto_region 8 with fail;go_wp2_with fail;refine (AA (cd _ (hh.ext E))).mono ?_;rintro e w5 ⟨rfl,hx⟩;replace E:=E.trans hx;replace BT:=BT.ext hx;replace BS:=BS.ext hx;clear hx dT lT dS lS hul;have dT:=BT.cell;have lT:=BT.lt;have dS:=BS.cell;have lS:=BS.lt;generalize dep ns i=DP at *;by_cases hd:512<DP
 ·have H:=AB ((AA H2).trans (if_pos hd));have hdI:(512:Int)<(DP:Int):=by omega
  go_wp2_with fail;go_ret;exact⟨ret1 (AA H).symm,E⟩
 have H3:=AB ((AA H2).trans (if_neg hd));have hdI:¬(512:Int)<(DP:Int):=by omega
 clear H2 hd;go_upto_region 10 with fail;clear hdI;obtain⟨p1,hp1⟩:∃x,(S.float != 0)=x:=⟨_,rfl⟩
 obtain⟨p2,hp2⟩:∃x,(S.clear != 0)=x:=⟨_,rfl⟩
 have HLO:=AB (show looseV S=(p1||p2) by rw[looseV,hp1,hp2]);go_cut [8] from 10 to 121 (fun v wx=>v=.bool (p1||p2)∧wx=w5)
 case first=>
  cases p1
  all_goals
   go_wp2_with fail;go_meet
   case rel=>exact⟨rfl,rfl⟩
 case rest=>
 obtain⟨rfl,rfl⟩:=hcut;clear hp1 hp2;generalize (p1||p2)=lo at *;go_upto_region 11 with fail;go_step;refine wpList_load_blk rfl 65 _ rfl gs rfl 65 S.cells _ BS Tryz.underlying65 rfl (info_style S) ?_;simp only[AC];go_wp2_with fail;refine (rright_any S _).mono ?_;rintro e w7 ⟨rfl,hx⟩;replace E:=E.trans hx;replace BT:=BT.ext hx;replace BS:=BS.ext hx;clear hx dT lT dS lS;have dT:=BT.cell;have lT:=BT.lt;have dS:=BS.cell;have lS:=BS.lt;cases hr:rightV S
 ·have H:=AB ((AA H3).trans (if_pos hr));clear hr;go_wp2_with fail;go_ret;exact⟨ret1 (AA H).symm,E⟩
 have H4:=AB ((AA H3).trans (if_neg (by rw[hr];simp)));clear hr H3;by_cases i0:i=0
 ·have H5:=AB ((AA H4).trans (if_pos i0));have i0b:((i:Int)==0)=true:=by simpa using i0
  clear i0 H4;by_cases hk1:S.kind=1
  rotate_left
  ·have hk1b:(S.kind != 1)=true:=by simpa using hk1
   have H:=AB ((AA H5).trans (if_pos (.inl hk1)));clear hk1;go_wp2_with fail;go_ret;exact⟨ret1 (AA H).symm,E⟩
  have hk1b:(S.kind != 1)=false:=by simpa using hk1
  cases lo
  ·have H:=AB ((AA H5).trans (if_neg (by rw[AA HLO];simpa using hk1)));clear hk1;go_wp2_with fail;go_ret;exact⟨ret1 (AA H).symm,E⟩
  ·have H:=AB ((AA H5).trans (if_pos (.inr (AA HLO))));clear hk1;go_wp2_with fail;go_ret;exact⟨ret1 (AA H).symm,E⟩
 have H5:=AB ((AA H4).trans (if_neg i0));have i0b:((i:Int)==0)=false:=by simp;omega
 have hP:0≤P∧P<(i:Int):=by
  by_cases h:P=(i:Int)-1
  ·omega
  ·exact⟨Int.not_lt.1 fun h'=>AA HPRE (.inr ⟨by omega,h,.inl h'⟩),Int.not_le.1 fun h'=>AA HPRE (.inr ⟨by omega,h,.inr (.inl h')⟩)⟩
 obtain⟨q,rfl⟩:∃q:Nat,P=q:=⟨P.toNat,by omega⟩
 have hqi:q<i:=by omega
 clear H4 HPRE hP;have kq:=(E.cells.1 b _ (by have:=AA HGT;omega)).trans ((AA HK2) q (by omega));have hq2:(0:Int)≤(q:Int)∧(q:Int)<(nl:Int):=by omega
 obtain⟨KQ,hKQ⟩:∃K,nK ns q=K:=⟨_,rfl⟩
 rw[hKQ] at kq;have HKQ:Hid (nK ns (Int.toNat ((q:Nat):Int))=KQ):=AB (by rw[Int.toNat_natCast];exact hKQ);clear hKQ;by_cases h3:KQ=3
 ·subst h3;have H:=AB ((AA H5).trans (if_pos (AA HKQ)));go_wp2_with fail;go_ret;exact⟨ret1 (AA H).symm,E⟩
 have H6:=AB ((AA H5).trans (if_neg (by rw[AA HKQ];exact h3)));have h3b:(KQ==3)=false:=by simpa using h3
 clear H5 h3;by_cases h2:KQ=2
 ·subst h2;have H7:=AB ((AA H6).trans (if_pos (AA HKQ)));obtain⟨s3,hs3⟩:∃x,(S.kind==3)=x:=⟨_,rfl⟩
  have HV:Hid (V=if (s3||lo)=true then 6 else 0):=AB (by rw[AA H7,AA HLO,←hs3];simp);clear H6 H7;cases s3
  cases lo
  all_goals
   go_wp2_with fail;go_ret;exact⟨ret1 (AA HV).symm,E⟩
 have H7:=AB ((AA H6).trans (if_neg (by rw[AA HKQ];exact h2)));have h2b:(KQ==2)=false:=by simpa using h2
 clear H6 h2;go_upto_region 16 with fail;go_wp2_with fail;refine (AA (cf q (by omega) _ (hh.ext E))).mono ?_;rintro e w8 ⟨rfl,hx⟩;replace E:=E.trans hx;replace BT:=BT.ext hx;replace BS:=BS.ext hx;clear hx dT lT dS lS;have dT:=BT.cell;have lT:=BT.lt;have dS:=BS.cell;have lS:=BS.lt;rw[Int.toNat_natCast] at H7
 rcases firstN_at ns (q:Int) i (q+1) with hf|⟨m,hf,hf1,hf2⟩
 ·rw[hf];have HV:=AB ((AA H7).trans (if_neg (by rw[hf];omega)));have hdd:decide ((0:Int)≤-1)=false:=by decide
  clear hf;go_wp2_with fail
  go_quiet (fail)
  go_wp2_with fail;go_ret;exact⟨ret1 (AA HV).symm,E.drewN _⟩
 rw[hf];have km:=(E.cells.1 b _ (by have:=AA HGT;omega)).trans ((AA HK2) m (by omega));generalize hKM:nK ns m=KM at *;obtain⟨x3,hx3⟩:∃x,(KM==3)=x:=⟨_,rfl⟩
 obtain⟨y3,hy3⟩:∃x,(S.kind==3)=x:=⟨_,rfl⟩
 have hm2:(0:Int)≤(m:Int)∧(m:Int)<(nl:Int):=by omega
 have hdd:decide ((0:Int)≤(m:Int))=true:=by simp
 have HV:Hid (V=if (x3 != y3)=true then 6 else 0):=AB (by rw[AA H7,hf,Int.toNat_natCast,hKM,hx3,hy3];simp);clear hKM hf;cases x3<;>cases y3
 all_goals
  go_wp2_with fail
  go_quiet (fail)
  go_wp2_with fail;go_ret;exact⟨ret1 (AA HV).symm,E.drewN _⟩
end
end Go.Proofs.YtamldoocjjdidaaGreat
