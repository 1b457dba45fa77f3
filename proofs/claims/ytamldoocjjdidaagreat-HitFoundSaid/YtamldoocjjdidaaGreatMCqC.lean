import Derived.Test.YtamldoocjjdidaaGreatMCrE
import Derived.Test.YtamldoocjjdidaaGreatMTrN
import Derived.Laws.EntriesVeiled
namespace Go.Proofs.YtamldoocjjdidaaGreat
open Go.RowKit
set_option maxRecDepth 100000
set_option maxHeartbeats 64000000
structure ItW (x:It):Prop where
 left:-2000000000000≤x.left∧x.left≤2000000000000
 right:-2000000000000≤x.right∧x.right≤2000000000000
 wide:0≤x.wide∧x.wide≤10000000000000
theorem ItBd.w {x:It} (h:ItBd x):ItW x:=⟨h.left,h.right,h.wide⟩
def boolL (l:List Bool):List Value:=l.map Value.bool
theorem boolL_get {l:List Bool} {i:Nat} {x:Bool} (h:l[i]?=some x):(boolL l)[i]?=some (.bool x):=by rw[boolL,List.getElem?_map,h];rfl
theorem boolL_set (l:List Bool) (i:Nat) (x:Bool):(boolL l).toArray.setIfInBounds i (.bool x)=(boolL (l.set i x)).toArray:=by
 rw[List.setIfInBounds_toArray,boolL,boolL,List.map_set]
theorem Blk.bool {w:World} {g:Nat} {l:List Bool} (h:Blk w g 4 (boolL l).toArray) {i:Nat} {x:Bool} (hx:l[i]?=some x):w.cell? ⟨g,i,none⟩=some (.bool x):=by
 rw[h.cell,List.getElem?_toArray];exact boolL_get hx
def castL (l:List Nat):List Int:=l.map fun x:Nat=>(x:Int)
theorem castL_len (l:List Nat):(castL l).length=l.length:=by simp[castL]
theorem castL_get {l:List Nat} {i u:Nat} (h:l[i]?=some u):(castL l)[i]?=some (u:Int):=by rw[castL,List.getElem?_map,h];rfl
theorem Rd.intIn {w:World} {A:Option Addr} {n:Nat} {l:List Int} (h:Rd w 1 A n (ints l)) {i:Nat} {x:Int} (hx:l[i]?=some x):∃b off,A=some ⟨b,off,none⟩∧b<w.heap.size∧w.cell? ⟨b,off+i,none⟩=some (.int .i64 x):=by
 have hl:=(List.getElem?_eq_some_iff.1 hx).1;have hn:n=l.length:=by have:=h.len;rw[ints_len] at this;omega
 obtain⟨b,off,rfl,hb,hc⟩:=h.at_ (by omega);exact⟨b,off,rfl,hb,hc i _ (by rw[ints,List.getElem?_map,hx];rfl)⟩
def stI (x:It):It:=⟨x.s,x.left,x.right,x.wide,x.high,x.down,x.above,x.below,x.x,x.y,true⟩
theorem ItBd.st {x:It} (h:ItBd x):ItBd (stI x):=⟨h.sh,h.left,h.right,h.wide,h.high,h.down,h.above,h.below⟩
section
variable {s:Sty} {c:Int} {nr:Nat} {rs:List (List Nat)} {I:Nat→It}
theorem rows_nodup (h:rs.flatten.Nodup) {r:Nat} (hr:r<rs.length):(rs.getD r []).Nodup:=by
 rw[List.getD_eq_getElem?_getD,AE hr];exact (List.pairwise_flatten.1 h).1 _ (List.getElem_mem hr)
end
theorem own_far {w w':World} {base e k:Nat} {u:Value} {m:Nat} {zs:List Value} (h:w.ownsRow base e k u m zs) (hx:Ext w w'):w'.ownsRow base e k u m zs:=
 h.kept (row:=none) ⟨hx.os,hx.tape,hx.output,hx.size,fun i hi _=>hx.block i hi⟩ (by
  cases hu:u.ownBlock with
  |none=>exact .inl rfl
  |some b=>exact .inr (by simp))
theorem ExtX.transX {w w' w'':World} {xs ys:List Nat} (h:ExtX w w' xs) (k:ExtX w' w'' ys) (hs:∀y∈ys,y∈xs):ExtX w w'' xs:=
 ⟨k.os.trans h.os,k.tape.trans h.tape,k.output.trans h.output,Nat.le_trans h.size k.size,fun i hi hx=>(k.block i (Nat.lt_of_lt_of_le hi h.size) (fun hy=>hx (hs i hy))).trans (h.block i hi hx)⟩
structure Fr where
 (x y w h:Int)
def frC (f:Fr):List Value:=[.int .i64 f.x,.int .i64 f.y,.int .i64 f.w,.int .i64 f.h,.slice none 0 0]
theorem frC_len (f:Fr):(frC f).length=5:=rfl
theorem frC_one (f:Fr):∀v∈frC f,v.oneCell'=true:=by
 intro v hv;simp only[frC,List.mem_cons,List.not_mem_nil,or_false] at hv
 rcases hv with rfl|rfl|rfl|rfl|rfl<;>rfl
structure FrAt (w:World) (gF n:Nat) (F:Nat→Fr):Prop where
 lt:gF<w.heap.size
 cell:∀i,i<n→w.rangeAt gF (i*5) (frC (F i))
 fro:∀j,w.frozen? ⟨gF,j,none⟩=false
def mkF (n:Nat):Array Value:=madeCells (frC ⟨0,0,0,0⟩).toArray (n*5)
section
variable {w w':World} {gF n:Nat} {F:Nat→Fr}
theorem FrAt.new (w:World) (n:Nat):FrAt (w.alloc (.cells (mkF n) 58)) w.heap.size n (fun _=>⟨0,0,0,0⟩):=by
 refine⟨by simp,fun i hi j v hv=>?_,fun j=>(Blk.new w 58 (mkF n)).frozen j⟩;have hj:j<5:=(List.getElem?_eq_some_iff.1 hv).1;rw[(Blk.new w 58 (mkF n)).cell,mkF,madeCells];have hin:i*5+j<n*5:=by omega
 rw[Array.getElem?_map,Array.getElem?_range,if_pos hin];have hm:(i*5+j) % 5=j:=by omega
 show some ((frC ⟨0,0,0,0⟩).toArray[(i*5+j) % 5]!)=some v
 rw[hm]
 match j,hj with
 |0,_=>exact hv
 |1,_=>exact hv
 |2,_=>exact hv
 |3,_=>exact hv
 |4,_=>exact hv
theorem FrAt.block (h:FrAt w gF n F) (hs:w.heap.size≤w'.heap.size) (hb:w'.heap[gF]?=w.heap[gF]?):FrAt w' gF n F:=
 ⟨Nat.lt_of_lt_of_le h.lt hs,fun i hi j v hv=>(World.cell?_of_block hb).trans (h.cell i hi j v hv),fun j=>(World.frozen?_of_block hb).trans (h.fro j)⟩
theorem FrAt.ext (h:FrAt w gF n F) (hx:Ext w w'):FrAt w' gF n F:=h.block hx.size (hx.block gF h.lt)
theorem FrAt.extx (h:FrAt w gF n F) {xs:List Nat} (hx:ExtX w w' xs) (hg:gF∉xs):FrAt w' gF n F:=h.block hx.size (hx.block gF h.lt hg)
theorem FrAt.far (h:FrAt w gF n F) {p:Addr} (hp:gF≠p.block) (v:Value):FrAt (w.setCell p v) gF n F:=h.block (by simp[World.setCell]) (Below.heap_setCell w p v gF hp)
theorem FrAt.congr (h:FrAt w gF n F) {G:Nat→Fr} (e:∀i,i<n→G i=F i):FrAt w gF n G:=⟨h.lt,fun i hi=>by rw[e i hi];exact h.cell i hi,h.fro⟩
theorem FrAt.there (h:FrAt w gF n F) {k:Nat} (hk:k<n):w.there gF (k*5) 5:=by
 intro j hj;refine⟨?_,h.fro _⟩;obtain⟨v,hv⟩:∃v,(frC (F k))[j]?=some v:=⟨_,AE (by rw[frC_len];exact hj)⟩
 rw[h.cell k hk j v hv];rfl
theorem frozen_setCells (b:Nat):∀(vs:List Value) (o:Nat) (w:World) (q:Nat),(w.setCells b o vs).frozen? ⟨b,q,none⟩=w.frozen? ⟨b,q,none⟩
 |[],_,_,_=>rfl
 |v :: vs,o,w,q=>by
  rw[World.setCells,frozen_setCells b vs (o+1) _ q];simp
theorem size_setCells (b:Nat):∀(vs:List Value) (o:Nat) (w:World),(w.setCells b o vs).heap.size=w.heap.size
 |[],_,_=>rfl
 |v :: vs,o,w=>by
  rw[World.setCells,size_setCells b vs (o+1) _];simp[World.setCell]
theorem FrAt.put (h:FrAt w gF n F) {k:Nat} (hk:k<n) (f:Fr):FrAt (w.setCells gF (k*5) (frC f)) gF n (fun i=>if i=k then f else F i):=by
 refine⟨by rw[size_setCells];exact h.lt,fun i hi=>?_,fun j=>by rw[frozen_setCells];exact h.fro j⟩;by_cases e:i=k
 ·subst e;simp only[if_true];exact World.rangeAt_setCells_same w gF (i*5) (frC f) (h.there hi)
 ·simp only[if_neg e];intro j v hv;have hj:j<5:=(List.getElem?_eq_some_iff.1 hv).1;rw[World.cell?_setCells_out gF (frC f) (k*5) w ⟨gF,i*5+j,none⟩ (fun _ _=>by
   show i*5+j<k*5∨k*5+(frC f).length≤i*5+j
   rw[frC_len];omega)]
  exact h.cell i hi j v hv
theorem extx_setCells {w0:World} {b:Nat} {xs:List Nat} (hb:b∈xs):∀(vs:List Value) (o:Nat) (w:World),ExtX w0 w xs→ExtX w0 (w.setCells b o vs) xs
 |[],_,_,h=>h
 |v :: vs,o,_,h=>extx_setCells hb vs (o+1) _ (h.set (p:=⟨b,o,none⟩) hb v)
theorem FrAt.rd (h:FrAt w gF n F):Rd w 5 (some ⟨gF,0,none⟩) n (recs frC ((List.range n).map F)):=
 ⟨by rw[recs_len frC_len];simp,fun _=>⟨gF,0,rfl,h.lt,fun j u hu=>by
  have hj:j<n*5:=by have:=(List.getElem?_eq_some_iff.1 hu).1;rw[recs_len frC_len] at this;simpa using this
  have hq:j / 5<n:=by omega
  have he:j / 5*5+j % 5=j:=by omega
  rw[←he,recs_get frC_len (x:=F (j / 5)) (by simp[hq]) (by omega)] at hu;have:=h.cell _ hq _ _ hu;rw[he] at this;rw[Nat.zero_add];exact this⟩⟩
end
def noB (n:Nat):List Bool:=List.replicate n false
theorem blk_setCells {w:World} {g b o:Nat} {t:TypeId} {cs:Array Value} (h:Blk w g t cs) (hg:g≠b) (vs:List Value):Blk (w.setCells b o vs) g t cs:=
 (extx_setCells (xs:=[b]) (by simp) vs o w (ExtX.refl w [b])).blk h (by simpa using hg)
theorem frag_all:∃i,Tryz.prog.info? 58=some i∧i.zero=some (.agg (frC ⟨0,0,0,0⟩).toArray)∧i.size=5∧i.bytes=56:=by
 have h:(Tryz.prog.info? 58).map (fun i=>(i.zero,i.size,i.bytes))=some (some (.agg (frC ⟨0,0,0,0⟩).toArray),5,56):=by kernel_rfl
 exact info_parts h
theorem make_frags (n:Nat) (hn:n≤1000000) (w:World):(Instr.makeSlice 28 (.int .i64 (n:Int)) (.int .i64 (n:Int))).run Tryz.prog w=.ok (.slice (some ⟨w.heap.size,0,none⟩) n n) (w.alloc (.cells (mkF n) 58)):=by
 obtain⟨i0,hi0,hz0,hz1,hz2⟩:=frag_all;have hr:=run_make (P:=Tryz.prog) w 28 58 i0 _ Tryz.underlying28 hi0 hz0 .i64 .i64 (n:Int) (n:Int) (by omega) (by omega) (by rw[hz2];omega) (by omega);simp only[Int.toNat_natCast] at hr;rw[hr,hz1];rfl
theorem bool_info:(Tryz.prog.info? 4).map (fun i=>(i.zero,i.size,i.bytes))=some (some (.bool false),1,1):=by kernel_rfl
theorem make_bools (n:Nat) (hn:n≤1000000) (w:World):(Instr.makeSlice 106 (.int .i64 (n:Int)) (.int .i64 (n:Int))).run Tryz.prog w=.ok (.slice (some ⟨w.heap.size,0,none⟩) n n) (w.alloc (.cells (boolL (noB n)).toArray 4)):=by
 obtain⟨i0,hi0,hz0,hz1,hz2⟩:=info_parts bool_info;have:=make_n _ _ i0 _ Tryz.underlying106 hi0 hz0 hz1 rfl n (by rw[hz2];omega) (by omega) w;rw[this,boolL,noB,List.map_replicate,List.toArray_replicate]
structure RowsOk (rs:List (List Nat)) (n:Nat):Prop where
 nd:rs.flatten.Nodup
 lt:∀ks∈rs,∀k∈ks,k<n
theorem nodup_small {l:List Nat} {n:Nat} (h:l.Nodup) (hl:∀x∈l,x<n):l.length≤n:=by
 induction n generalizing l with
 |zero=>
  cases l with
  |nil=>simp
  |cons a l=>exact absurd (hl a (List.mem_cons_self ..)) (by omega)
 |succ n ih=>
  have h1:=ih (l:=l.erase n) (h.erase _) (fun x hx=>by
   have h2:=(h.mem_erase_iff).1 hx;have:=hl x h2.2;omega)
  have h2:=List.length_erase_le (a:=n) (l:=l);have h3:=List.le_length_erase (a:=n) (l:=l);omega
theorem RowsOk.row {rs:List (List Nat)} {n:Nat} (h:RowsOk rs n) {r:Nat} (hr:r<rs.length):(rs.getD r []).Nodup∧(∀k∈rs.getD r [],k<n)∧(rs.getD r []).length≤n:=by
 have h1:=rows_nodup h.nd hr;have h2:∀k∈rs.getD r [],k<n:=by
  rw[List.getD_eq_getElem?_getD,AE hr];exact h.lt _ (List.getElem_mem hr)
 exact⟨h1,h2,nodup_small h1 h2⟩
theorem Blk.rdk {w:World} {g n k:Nat} {t:TypeId} {cs:Array Value} (h:Blk w g t cs) (hn:cs.size=n*k):Rd w k (some ⟨g,0,none⟩) n cs.toList:=
 ⟨by simp[hn],fun _=>⟨g,0,rfl,h.lt,fun j u hu=>by rw[Nat.zero_add,h.cell];simpa using hu⟩⟩
end Go.Proofs.YtamldoocjjdidaaGreat
namespace Go.Proofs.YtamldoocjjdidaaGreat
open Go.ChangeShapes Go.WideShapes Go.ChangeAt Go.RowKit
set_option maxRecDepth 100000
set_option maxHeartbeats 64000000
def u16s (us:List Int):List Value:=us.map (Value.int .u16 ·)
theorem u16s_len (us:List Int):(u16s us).length=us.length:=by simp[u16s]
theorem u16s_get {us:List Int} {i:Nat} {x:Int} (h:us[i]?=some x):(u16s us)[i]?=some (.int .u16 x):=by simp[u16s,h]
theorem flat_u16:flat Tryz.prog 3 176=some [.int .u16]:=by kernel_rfl
theorem cells_u16:Tryz.prog.cellsOf 176=1:=by kernel_rfl
theorem u16s_of:∀(xss:List (List Value)),(∀xs∈xss,∃z:Int,xs=[.int .u16 z]∧0≤z∧z≤65535)→∃us,xss.flatten=u16s us∧∀z∈us,0≤z∧z≤65535
 |[],_=>⟨[],rfl,fun z hz=>by cases hz⟩
 |xs :: t,h=>by
  obtain⟨z,h1,hz⟩:=h xs (List.mem_cons_self ..);obtain⟨us,h2,hu⟩:=u16s_of t (fun y hy=>h y (List.mem_cons_of_mem _ hy));refine⟨z :: us,by rw[List.flatten_cons,h1,h2];rfl,fun y hy=>?_⟩
  rcases List.mem_cons.1 hy with rfl|hy
  ·exact hz
  ·exact hu y hy
section
variable {H:Type} {enc:TypeId×Value→H} {w:World} {spare:Nat→Bool} {held:Bool}
theorem units_rd {A:Option Addr} {n c:Nat} (h:SliceOk enc Tryz.prog w 0 spare held 176 A n c):∃us:List Int,Rd w 1 A n (u16s us)∧∀z∈us,0≤z∧z≤65535:=by
 obtain⟨xss,hl,_,hr,hx⟩:=h.rd cells_u16 (by omega);obtain⟨us,hu,hb⟩:=u16s_of xss (fun xs hm=>by
  obtain⟨x,fuel,ht⟩:=hx xs hm;have hl:=flat_ok 3 176 _ fuel xs x flat_u16 ht;obtain⟨v0,t0,rfl,k0,h0⟩:=hl.cons;obtain rfl:=h0.nil;obtain⟨z,rfl,hz⟩:=k0;exact⟨z,rfl,bd_u16 hz⟩)
 exact⟨us,hu▸hr,hb⟩
end
section
variable {w:World}
theorem Rd.cellAt {n b off i:Nat} {u:Value} {xs:List Value} (h:Rd w 1 (some ⟨b,off,none⟩) n xs) (hi:i<n) (hu:xs[i]?=some u):b<w.heap.size∧w.cell? ⟨b,off+i,none⟩=some u:=by
 obtain⟨b',off',u',h1,h2,h3,h4⟩:=h.get hi;injection h1 with h1;injection h1 with h1 h5;subst h1 h5;rw[hu] at h3;injection h3 with h3;subst h3;exact⟨h2,h4⟩
theorem own_ne {B e k m B' e' k' m':Nat} {u v:Value} {xs ys:List Value} (h:w.ownsRow B e k u m xs) (h':w.ownsRow B' e' k' v m' ys) (hn:e≠e'):u.ownBlock=none∨u.ownBlock≠v.ownBlock:=by
 rcases h.2 with ⟨rfl,_⟩|⟨g,cap,cur,rfl,_,hg,_⟩
 ·exact .inl rfl
 ·right
  intro hq
  rcases h'.2 with ⟨rfl,_⟩|⟨g',cap',cur',rfl,_,hg',_⟩
  ·cases hq
  ·have e:g=g':=Option.some.inj hq;subst e;have e2:=Option.some.inj (hg.symm.trans hg');injection e2 with _ e3 _;exact hn e3
end
theorem info_bnd {P:Program} {e:TypeId} {z:Value} {size B:Nat} (h:(P.info? e).map (fun i=>(i.zero,i.size,decide (i.bytes≤B)))=some (some z,size,true)):∃i,P.info? e=some i∧i.zero=some z∧i.size=size∧i.bytes≤B:=by
 cases hq:P.info? e with
 |none=>simp[hq] at h
 |some i=>
  simp[hq] at h;exact⟨i,rfl,h.1,h.2.1,h.2.2⟩
theorem ji_info:(Tryz.prog.info? 3).map (fun i=>(i.zero,i.size,decide (i.bytes≤100000)))=some (some (.int .i64 0),1,true):=by kernel_rfl
structure Cs where
 (s:Sty) (c:Int) (ka:Option Addr) (kl kc:Nat) (ua:Option Addr) (ul uc:Nat) (ha:Option Addr) (hl hc:Nat)
@[reducible] def Cs.cells (x:Cs):Array Value:=#[.int .u8 x.s.kind,.bool x.s.flow,.int .u8 x.s.float,.int .u8 x.s.clear,.int .u8 x.s.w.k,.int .i64 x.s.w.n,.int .u8 x.s.h.k,.int .i64 x.s.h.n,.int .u8 x.s.minw.k,.int .i64 x.s.minw.n,.int .u8 x.s.maxw.k,.int .i64 x.s.maxw.n,.int .u8 x.s.minh.k,.int .i64 x.s.minh.n,.int .u8 x.s.maxh.k,.int .i64 x.s.maxh.n,.int .u8 x.s.m0.k,.int .i64 x.s.m0.n,.int .u8 x.s.m1.k,.int .i64 x.s.m1.n,.int .u8 x.s.m2.k,.int .i64 x.s.m2.n,.int .u8 x.s.m3.k,.int .i64 x.s.m3.n,.int .i64 x.s.b0,.int .i64 x.s.b1,.int .i64 x.s.b2,.int .i64 x.s.b3,.int .i64 x.s.p0,.int .i64 x.s.p1,.int .i64 x.s.p2,.int .i64 x.s.p3,.int .u8 x.s.align,.int .i64 x.s.line,.bool x.s.wrap,.int .u8 x.s.justify,.int .u8 x.s.items,.int .i64 x.s.order,.int .i64 x.s.grow,.int .i64 x.s.shrink,.int .u8 x.s.basis.k,.int .i64 x.s.basis.n,.slice x.s.ua x.s.ul x.s.uc,.int .i64 x.c,.slice x.ka x.kl x.kc,.slice x.ua x.ul x.uc,.slice x.ha x.hl x.hc]
end Go.Proofs.YtamldoocjjdidaaGreat
namespace Go.Proofs.YtamldoocjjdidaaGreat
open Go.RowKit
set_option maxRecDepth 100000
set_option maxHeartbeats 64000000
theorem wpList_load_midg {P:Program} {ops:Array Oper} {rest:List Oper} {op:Oper} {a:Act} {w:World} {Q:Exit→Act→World→Prop} (ty:TypeId) (x:Operand) (ho:op.op=.load ty x)
  (b o:Nat) (hx:a.eval x=.pointer (some ⟨b,o,none⟩)) (hw:Region.wanted op (yielded ops a.tmps)=true) (cs:List Value) (d:TypeDesc) (hc:w.rangeAt b o cs)
  (hu:P.underlying ty=some d) (hd:d.isRow=true) (hi:(P.info? ty).map (·.size)=some cs.length)
  (h:wpList P ops Q rest (a.put op.dst (.agg cs.toArray)) w):wpList P ops Q (op :: rest) a w:=
 BigFrame.wpList_want hw fun _ hK=>wp_load_mid ty x ho b o hx cs d hc hu hd hi (hK _ _ h)
theorem wpList_load_sty {ops:Array Oper} {rest:List Oper} {op:Oper} {a:Act} {w:World} {Q:Exit→Act→World→Prop} (x:Operand) (ho:op.op=.load 65 x)
  (b o:Nat) (hx:a.eval x=.pointer (some ⟨b,o,none⟩)) (hw:Region.wanted op (yielded ops a.tmps)=true) (s:Sty) (hc:w.rangeAt b o (styC s))
  (h:wpList Tryz.prog ops Q rest (a.put op.dst (.agg s.cells)) w):wpList Tryz.prog ops Q (op :: rest) a w:=
 wpList_load_midg 65 x ho b o hx hw (styC s) _ hc Tryz.underlying65 rfl (info_style s) h
structure LenOk (l:Ln):Prop where
 no:l.k≠2
 may:lenMayB l 0 0=true
structure HiOk (s:Sty):Prop where
 (h:LenOk s.h) (lo:LenOk s.minh) (hi:LenOk s.maxh)
theorem LenOk.bd {l:Ln} (h:LenOk l) (hk:l.k=1):0≤l.n∧l.n≤1099511627776:=by
 have:=h.may;rw[lenMayB,if_neg (by omega),if_pos hk] at this
 simpa using this
theorem HiOk.sh {s:Sty} (h:HiOk s):StyH s:=⟨h.h.bd,h.lo.bd,h.hi.bd⟩
theorem may_part {l:Ln} {lo:Int} (h:lenMayB l lo (-100000)=true):partOk l:=by
 intro hk;rw[lenMayB,if_neg (by omega),if_neg (by omega),if_pos hk] at h
 simpa using h
theorem may_part0 {l:Ln} (h:lenMayB l 0 0=true):partOk l:=by
 intro hk;rw[lenMayB,if_neg (by omega),if_neg (by omega),if_pos hk] at h;simp at h;omega
theorem EdgesOk.ok {s:Sty} (h:EdgesOk s):StyOk s:=⟨h.thin,may_part h.m0,may_part h.m2⟩
theorem lenM_bd {l:Ln} {c:Int} (h:lenMayB l (-1099511627776) (-100000)=true) (hc:0≤c∧c≤1099511627776):-12000000000000≤resV l c∧resV l c≤12000000000000:=by
 have hp:=may_part h;unfold resV
 split
 ·rename_i hk
  rw[lenMayB,if_neg (by omega),if_pos hk] at h;simp at h;omega
 ·split
  ·rename_i hk
   have:=hp hk;have hm:=mul_bound c l.n hc.1 hc.2 this.1 this.2;rw[Int.max_eq_left hc.1];have hh:=part_hi c l.n hc.1 hc.2 this.1 this.2;have hl:=part_lo c l.n this.1 this.2;have hs:=part_split c l.n;omega
  ·omega
structure KidOk (s:Sty):Prop where
 may:mayB s=true
 hi:HiOk s
 basis:lenMayB s.basis 0 0=true
 grow:0≤s.grow∧s.grow≤60
 shrink:0≤s.shrink∧s.shrink≤60
structure UsOk (u:Us):Prop where
 (w:0≤u.w∧u.w≤1099511627776) (l:-1099511627776≤u.l∧u.l≤1099511627776) (r:-1099511627776≤u.r∧u.r≤1099511627776)
theorem Cs.sty (x:Cs) {j:Nat} {v:Value} (h:(styC x.s)[j]?=some v):x.cells[j]?=some v:=by
 have hj:j<(styC x.s).length:=(List.getElem?_eq_some_iff.1 h).1
 show (styC x.s++([.int .i64 x.c,.slice x.ka x.kl x.kc,.slice x.ua x.ul x.uc,.slice x.ha x.hl x.hc]:List Value)).toArray[j]?=some v
 rw[List.getElem?_toArray,List.getElem?_append_left hj];exact h
def cutF (f:Fr):Fr:=⟨cutV f.x,cutV f.y,cutV f.w,cutV f.h⟩
def cutFB (f:Fr):Bool:=cutB f.x||cutB f.y||cutB f.w||cutB f.h
@[reducible] def frG (f:Fr) (lv:Value):Array Value:=#[.int .i64 f.x,.int .i64 f.y,.int .i64 f.w,.int .i64 f.h,lv]
theorem size_frG (f:Fr) (lv:Value):(Tryz.prog.info? 58).map (·.size)=some (frG f lv).size:=by kernel_rfl
def cutK (f:Fr) (k:Nat):Fr:=⟨if 0<k then cutV f.x else f.x,if 1<k then cutV f.y else f.y,if 2<k then cutV f.w else f.w,if 3<k then cutV f.h else f.h⟩
def byK (f:Fr) (k:Nat):Bool:=(decide (0<k)&&cutB f.x)||(decide (1<k)&&cutB f.y)||(decide (2<k)&&cutB f.w)||(decide (3<k)&&cutB f.h)
theorem byK_all (f:Fr):byK f 4=cutFB f:=by simp[byK,cutFB]
theorem byK_1 (f:Fr):(byK f 0||cutB f.x)=byK f 1:=by simp[byK]
theorem byK_2 (f:Fr):(byK f 1||cutB f.y)=byK f 2:=by simp[byK]
theorem byK_3 (f:Fr):(byK f 2||cutB f.w)=byK f 3:=by simp[byK]
theorem byK_4 (f:Fr):(byK f 3||cutB f.h)=byK f 4:=by simp[byK]
def CutIs (w:World) (f:Fr) (lv:Value) (e:Ending) (w':World):Prop:=e=.returned (.tuple #[.agg (frG (cutF f) lv),.bool (cutFB f)])∧Ext w w'
theorem cutFrag_any (f:Fr) (A:Option Addr) (n c:Nat) (w:World):Calls Tryz.prog 88 #[.agg (frG f (.slice A n c))] w (CutIs w f (.slice A n c)):=by
 obtain⟨lv,hlv⟩:∃v,Value.slice A n c=v:=⟨_,rfl⟩
 have cC:=fun x w=>AB (ref_cut x w)
 go_enter Tryz.func88,Tryz.ntmps88;go_upto_region 3 with fail;rw[hlv];have HLV:=AB hlv;clear hlv;have E:Ext w (((w.alloc (.cells (frG f lv) 58)).alloc (.cells (frG ⟨0,0,0,0⟩ (.slice none 0 0)) 58)).alloc (.cells #[.pointer (some ⟨w.heap.size,0,none⟩),.pointer (some ⟨w.heap.size,1,none⟩),.pointer (some ⟨w.heap.size,2,none⟩),.pointer (some ⟨w.heap.size,3,none⟩)] 149)):=(((Ext.refl _).alloc _).alloc _).alloc _;have BF:Blk (((w.alloc (.cells (frG f lv) 58)).alloc (.cells (frG ⟨0,0,0,0⟩ (.slice none 0 0)) 58)).alloc (.cells #[.pointer (some ⟨w.heap.size,0,none⟩),.pointer (some ⟨w.heap.size,1,none⟩),.pointer (some ⟨w.heap.size,2,none⟩),.pointer (some ⟨w.heap.size,3,none⟩)] 149)) w.heap.size 58 (frG f lv):=((Blk.new _ _ _).alloc _).alloc _;have BO:Blk (((w.alloc (.cells (frG f lv) 58)).alloc (.cells (frG ⟨0,0,0,0⟩ (.slice none 0 0)) 58)).alloc (.cells #[.pointer (some ⟨w.heap.size,0,none⟩),.pointer (some ⟨w.heap.size,1,none⟩),.pointer (some ⟨w.heap.size,2,none⟩),.pointer (some ⟨w.heap.size,3,none⟩)] 149)) (w.heap.size+1) 58 (frG ⟨0,0,0,0⟩ (.slice none 0 0)):=(Blk.new1 _ _ _ _).alloc _;have BL:Blk (((w.alloc (.cells (frG f lv) 58)).alloc (.cells (frG ⟨0,0,0,0⟩ (.slice none 0 0)) 58)).alloc (.cells #[.pointer (some ⟨w.heap.size,0,none⟩),.pointer (some ⟨w.heap.size,1,none⟩),.pointer (some ⟨w.heap.size,2,none⟩),.pointer (some ⟨w.heap.size,3,none⟩)] 149)) (w.heap.size+1+1) 149 #[.pointer (some ⟨w.heap.size,0,none⟩),.pointer (some ⟨w.heap.size,1,none⟩),.pointer (some ⟨w.heap.size,2,none⟩),.pointer (some ⟨w.heap.size,3,none⟩)]:=Blk.new2 _ _ _ _ _;generalize ((w.alloc (.cells (frG f lv) 58)).alloc (.cells (frG ⟨0,0,0,0⟩ (.slice none 0 0)) 58)).alloc (.cells #[.pointer (some ⟨w.heap.size,0,none⟩),.pointer (some ⟨w.heap.size,1,none⟩),.pointer (some ⟨w.heap.size,2,none⟩),.pointer (some ⟨w.heap.size,3,none⟩)] 149)=w0 at *;obtain⟨gF,hgF⟩:∃g,w.heap.size=g:=⟨_,rfl⟩
 rw[hgF] at BF BO BL ⊢;have hsz:w.heap.size≤gF:=by omega
 have HG:=AB hgF;clear hgF;go_wp2_with fail;go_loopw [4,6] (fun v4 v6 wr=>∃k:Nat,v6=.int .i64 k∧k≤4∧v4=.bool (byK f k)∧Ext w wr∧Blk wr gF 58 (frG (cutK f k) lv)∧Blk wr (gF+1) 58 (frG ⟨0,0,0,0⟩ (.slice none 0 0))∧Blk wr (gF+1+1) 149 #[.pointer (some ⟨gF,0,none⟩),.pointer (some ⟨gF,1,none⟩),.pointer (some ⟨gF,2,none⟩),.pointer (some ⟨gF,3,none⟩)]) (fun _ v6 _=>4-(intOf v6).toNat)
 case atStart=>exact⟨0,rfl,by omega,rfl,E,BF,BO,BL⟩
 case round=>
  clear E BF BO BL;obtain⟨k,rfl,hk,rfl,E,BF,BO,BL⟩:=hrel
  rcases (by omega:k=0∨k=1∨k=2∨k=3∨k=4) with rfl|rfl|rfl|rfl|rfl
  ·skip
   obtain⟨bb,hbb⟩:∃b,byK f 0=b:=⟨_,rfl⟩
   have hb2:=byK_1 f;rw[hbb] at hb2 ⊢;obtain⟨ov,hov⟩:∃b,cutB f.x=b:=⟨_,rfl⟩
   rw[hov] at hb2;have HB2:=AB hb2;have HOV:=AB hov;clear hbb hb2 hov;replace BF:Blk wr gF 58 [.int .i64 f.x,.int .i64 f.y,.int .i64 f.w,.int .i64 f.h,lv].toArray:=BF;have cBL0:=(BL.cell 0).trans (show _=some (.pointer (some ⟨gF,0,none⟩)) from rfl);have cBLl:=BL.lt;have cBF0:=(BF.cell 0).trans (show _=some (.int .i64 f.x) from rfl);have cBFl:=BF.lt;go_wp2_with fail;refine (AA (cC _ _)).mono ?_;rintro e wz ⟨rfl,rfl⟩;rw[AA HOV];clear cBF0 cBFl;have cBF0:=(BF.cell 0).trans (show _=some (.int .i64 f.x) from rfl);have cBFl:=BF.lt;have cfBF0:=BF.frozen 0;go_upto_region 8 with fail;clear cBF0 cBFl cfBF0;have B_:Blk (wr.setCell ⟨gF,0,none⟩ (.int .i64 (cutV f.x))) gF 58 [.int .i64 (cutV f.x),.int .i64 f.y,.int .i64 f.w,.int .i64 f.h,lv].toArray:=BF.set_ 0 (.int .i64 (cutV f.x));have gr:wr.grownBy (wr.setCell ⟨gF,0,none⟩ (.int .i64 (cutV f.x))) (some gF):=gsCell _ _;generalize wr.setCell ⟨gF,0,none⟩ (.int .i64 (cutV f.x))=w1x at *;replace E:=E.grownBlk gr (by omega);replace BO:=BO.grownNe gr (by omega);replace BL:=BL.grownNe gr (by omega);replace BF:=B_;clear B_ gr;clear cBL0 cBLl;cases bb
   ·go_wp2_with fail;go_roundw
    case rel=>exact⟨1,by go_num,by omega,by rw[←AA HB2];rfl,E,BF,BO,BL⟩
    case measure=>simp[intOf]
   ·go_wp2_with fail;go_roundw
    case rel=>exact⟨1,by go_num,by omega,by rw[←AA HB2];rfl,E,BF,BO,BL⟩
    case measure=>simp[intOf]
  ·skip
   obtain⟨bb,hbb⟩:∃b,byK f 1=b:=⟨_,rfl⟩
   have hb2:=byK_2 f;rw[hbb] at hb2 ⊢;obtain⟨ov,hov⟩:∃b,cutB f.y=b:=⟨_,rfl⟩
   rw[hov] at hb2;have HB2:=AB hb2;have HOV:=AB hov;clear hbb hb2 hov;replace BF:Blk wr gF 58 [.int .i64 (cutV f.x),.int .i64 f.y,.int .i64 f.w,.int .i64 f.h,lv].toArray:=BF;have cBL1:=(BL.cell 1).trans (show _=some (.pointer (some ⟨gF,1,none⟩)) from rfl);have cBLl:=BL.lt;have cBF1:=(BF.cell 1).trans (show _=some (.int .i64 f.y) from rfl);have cBFl:=BF.lt;go_wp2_with fail;refine (AA (cC _ _)).mono ?_;rintro e wz ⟨rfl,rfl⟩;rw[AA HOV];clear cBF1 cBFl;have cBF1:=(BF.cell 1).trans (show _=some (.int .i64 f.y) from rfl);have cBFl:=BF.lt;have cfBF1:=BF.frozen 1;go_upto_region 8 with fail;clear cBF1 cBFl cfBF1;have B_:Blk (wr.setCell ⟨gF,1,none⟩ (.int .i64 (cutV f.y))) gF 58 [.int .i64 (cutV f.x),.int .i64 (cutV f.y),.int .i64 f.w,.int .i64 f.h,lv].toArray:=BF.set_ 1 (.int .i64 (cutV f.y));have gr:wr.grownBy (wr.setCell ⟨gF,1,none⟩ (.int .i64 (cutV f.y))) (some gF):=gsCell _ _;generalize wr.setCell ⟨gF,1,none⟩ (.int .i64 (cutV f.y))=w1x at *;replace E:=E.grownBlk gr (by omega);replace BO:=BO.grownNe gr (by omega);replace BL:=BL.grownNe gr (by omega);replace BF:=B_;clear B_ gr;clear cBL1 cBLl;cases bb
   ·go_wp2_with fail;go_roundw
    case rel=>exact⟨2,by go_num,by omega,by rw[←AA HB2];rfl,E,BF,BO,BL⟩
    case measure=>simp[intOf]
   ·go_wp2_with fail;go_roundw
    case rel=>exact⟨2,by go_num,by omega,by rw[←AA HB2];rfl,E,BF,BO,BL⟩
    case measure=>simp[intOf]
  ·skip
   obtain⟨bb,hbb⟩:∃b,byK f 2=b:=⟨_,rfl⟩
   have hb2:=byK_3 f;rw[hbb] at hb2 ⊢;obtain⟨ov,hov⟩:∃b,cutB f.w=b:=⟨_,rfl⟩
   rw[hov] at hb2;have HB2:=AB hb2;have HOV:=AB hov;clear hbb hb2 hov;replace BF:Blk wr gF 58 [.int .i64 (cutV f.x),.int .i64 (cutV f.y),.int .i64 f.w,.int .i64 f.h,lv].toArray:=BF;have cBL2:=(BL.cell 2).trans (show _=some (.pointer (some ⟨gF,2,none⟩)) from rfl);have cBLl:=BL.lt;have cBF2:=(BF.cell 2).trans (show _=some (.int .i64 f.w) from rfl);have cBFl:=BF.lt;go_wp2_with fail;refine (AA (cC _ _)).mono ?_;rintro e wz ⟨rfl,rfl⟩;rw[AA HOV];clear cBF2 cBFl;have cBF2:=(BF.cell 2).trans (show _=some (.int .i64 f.w) from rfl);have cBFl:=BF.lt;have cfBF2:=BF.frozen 2;go_upto_region 8 with fail;clear cBF2 cBFl cfBF2;have B_:Blk (wr.setCell ⟨gF,2,none⟩ (.int .i64 (cutV f.w))) gF 58 [.int .i64 (cutV f.x),.int .i64 (cutV f.y),.int .i64 (cutV f.w),.int .i64 f.h,lv].toArray:=BF.set_ 2 (.int .i64 (cutV f.w));have gr:wr.grownBy (wr.setCell ⟨gF,2,none⟩ (.int .i64 (cutV f.w))) (some gF):=gsCell _ _;generalize wr.setCell ⟨gF,2,none⟩ (.int .i64 (cutV f.w))=w1x at *;replace E:=E.grownBlk gr (by omega);replace BO:=BO.grownNe gr (by omega);replace BL:=BL.grownNe gr (by omega);replace BF:=B_;clear B_ gr;clear cBL2 cBLl;cases bb
   ·go_wp2_with fail;go_roundw
    case rel=>exact⟨3,by go_num,by omega,by rw[←AA HB2];rfl,E,BF,BO,BL⟩
    case measure=>simp[intOf]
   ·go_wp2_with fail;go_roundw
    case rel=>exact⟨3,by go_num,by omega,by rw[←AA HB2];rfl,E,BF,BO,BL⟩
    case measure=>simp[intOf]
  ·skip
   obtain⟨bb,hbb⟩:∃b,byK f 3=b:=⟨_,rfl⟩
   have hb2:=byK_4 f;rw[hbb] at hb2 ⊢;obtain⟨ov,hov⟩:∃b,cutB f.h=b:=⟨_,rfl⟩
   rw[hov] at hb2;have HB2:=AB hb2;have HOV:=AB hov;clear hbb hb2 hov;replace BF:Blk wr gF 58 [.int .i64 (cutV f.x),.int .i64 (cutV f.y),.int .i64 (cutV f.w),.int .i64 f.h,lv].toArray:=BF;have cBL3:=(BL.cell 3).trans (show _=some (.pointer (some ⟨gF,3,none⟩)) from rfl);have cBLl:=BL.lt;have cBF3:=(BF.cell 3).trans (show _=some (.int .i64 f.h) from rfl);have cBFl:=BF.lt;go_wp2_with fail;refine (AA (cC _ _)).mono ?_;rintro e wz ⟨rfl,rfl⟩;rw[AA HOV];clear cBF3 cBFl;have cBF3:=(BF.cell 3).trans (show _=some (.int .i64 f.h) from rfl);have cBFl:=BF.lt;have cfBF3:=BF.frozen 3;go_upto_region 8 with fail;clear cBF3 cBFl cfBF3;have B_:Blk (wr.setCell ⟨gF,3,none⟩ (.int .i64 (cutV f.h))) gF 58 [.int .i64 (cutV f.x),.int .i64 (cutV f.y),.int .i64 (cutV f.w),.int .i64 (cutV f.h),lv].toArray:=BF.set_ 3 (.int .i64 (cutV f.h));have gr:wr.grownBy (wr.setCell ⟨gF,3,none⟩ (.int .i64 (cutV f.h))) (some gF):=gsCell _ _;generalize wr.setCell ⟨gF,3,none⟩ (.int .i64 (cutV f.h))=w1x at *;replace E:=E.grownBlk gr (by omega);replace BO:=BO.grownNe gr (by omega);replace BL:=BL.grownNe gr (by omega);replace BF:=B_;clear B_ gr;clear cBL3 cBLl;cases bb
   ·go_wp2_with fail;go_roundw
    case rel=>exact⟨4,by go_num,by omega,by rw[←AA HB2];rfl,E,BF,BO,BL⟩
    case measure=>simp[intOf]
   ·go_wp2_with fail;go_roundw
    case rel=>exact⟨4,by go_num,by omega,by rw[←AA HB2];rfl,E,BF,BO,BL⟩
    case measure=>simp[intOf]
  ·skip
   rw[byK_all];replace BF:Blk wr gF 58 (frG (cutF f) lv):=BF;go_upto_region 9 with fail;go_step;refine wpList_load_blk rfl 58 (.tmp 1) rfl gF rfl 58 (frG (cutF f) lv) _ BF Tryz.underlying58 rfl (size_frG _ _) ?_;simp only[AC]
   iterate 3 go_step
   refine wpList_store_blk rfl 58 (.tmp 2) (.tmp 40) rfl (gF+1) rfl (frG (cutF f) lv) rfl 58 (frG ⟨0,0,0,0⟩ (.slice none 0 0)) BO (size_frG _ _) rfl (by rw[←AA HLV];kernel_rfl) ?_;intro w1 B1 gr zs;simp only[Act.put];replace E:=E.grownBlk gr (by omega);go_wp2_with fail;refine bodyPost_ret (results_cell_tmp rfl _ _ (gF+1) 58 _ _ rfl B1 Tryz.underlying58 rfl (by kernel_rfl)) rfl ⟨?_,E⟩;rw[AA HLV];rfl
end Go.Proofs.YtamldoocjjdidaaGreat
