import Derived.Test.YtamldoocjjdidaaGreatMWidG
import Derived.Test.YtamldoocjjdidaaGreatMHtN
import Derived.Test.YtamldoocjjdidaaGreatMFlt
namespace Go.Proofs.YtamldoocjjdidaaGreat
open Go.RowKit
set_option maxRecDepth 100000
set_option maxHeartbeats 64000000
theorem blk_ne {w:World} {g g':Nat} {T T':TypeId} {cs cs':Array Value} (h:Blk w g T cs) (h':Blk w g' T' cs') (hT:T≠T'):g≠g':=by
 rintro rfl;have e:=Option.some.inj (h.symm.trans h');injection e with _ e2 _;exact hT e2
theorem own_blk_ne {w:World} {B e k m g:Nat} {u:Value} {xs:List Value} {T:TypeId} {cs:Array Value} (h:w.ownsRow B e k u m xs) (hb:Blk w g T cs) (hT:e≠T):∀q,u.ownBlock=some q→q≠g:=by
 intro q hq
 rcases h.2 with ⟨rfl,_⟩|⟨g',cap,cur,rfl,_,hg,_⟩
 ·cases hq
 ·obtain rfl:=Option.some.inj hq;exact blk_ne (show Blk w g' e cur from hg) hb hT
structure Ck where
 (t:Tr) (root:Int) (gK BK kc:Nat) (vs:List Value) (uA hA:Option Addr) (un uc hn hc:Nat) (gW gO gX gY gH gR B:Nat)
def wkC (K:Ck) (n:Nat) (at_ m l:Int) (fA:Option Addr) (F fc:Nat):List Value:=
 [.slice K.t.na K.t.nl K.t.nc,.slice K.t.aa K.t.al K.t.ac,.int .i64 K.t.view,.int .i64 K.root,.slice (some ⟨K.gK,0,none⟩) n K.kc,.slice K.uA K.un K.uc,.slice K.hA K.hn K.hc,.int .i64 at_,.int .i64 m,.int .i64 l,.slice fA F fc,
  .slice (some ⟨K.gO,0,none⟩) n n,.slice (some ⟨K.gX,0,none⟩) n n,.slice (some ⟨K.gY,0,none⟩) n n,.slice (some ⟨K.gH,0,none⟩) n n,.slice (some ⟨K.gR,0,none⟩) n n]
def IntB (w:World) (g n:Nat):Prop:=∃xs:List Int,xs.length=n∧Blk w g 2 (ints xs).toArray
def BoolB (w:World) (g n:Nat):Prop:=∃xs:List Bool,xs.length=n∧Blk w g 4 (boolL xs).toArray
def RowsO (w:World) (B N:Nat) (v:Value):Prop:=∃(A:Option Addr) (m c:Nat) (rs:List Rw),v=.slice A m c∧w.ownsRow B 227 4 (.slice A m c) m (recs rwC rs)∧(∀r∈rs,RwO w B N r)∧m≤20000000
def RowsB (w:World) (g n B:Nat) (NW:Nat→Nat):Prop:=∃vs:List Value,vs.length=n∧Blk w g 225 vs.toArray∧∀i v,vs[i]?=some v→RowsO w B (NW i) v
def KidsB (w:World) (K:Ck) (n:Nat) (ns:List Nd):Prop:=Rws w K.BK K.gK n (kidsN ns n) K.vs
def KeepS (w w':World):Prop:=∀g cs,Blk w g 65 cs→Blk w' g 65 cs
theorem KeepS.refl (w:World):KeepS w w:=fun _ _ h=>h
theorem KeepS.trans {a b c:World} (h:KeepS a b) (k:KeepS b c):KeepS a c:=fun g cs hb=>k g cs (h g cs hb)
theorem KeepS.of {w w':World} (hx:Ext w w'):KeepS w w':=fun _ _ h=>h.ext hx
def StB (w:World) (K:Ck) (n F:Nat):Prop:=∃(at_ m l:Int) (fA:Option Addr) (fc:Nat) (fs:List Fl),Blk w K.gW 191 (wkC K n at_ m l fA F fc).toArray∧w.ownsRow K.B 229 5 (.slice fA F fc) F (recs flC fs)
section
variable {w w':World} {g q n B:Nat} {NW:Nat→Nat} {T:TypeId} {cs:Array Value} {A:Option Addr} {ns:List Nd} {K:Ck} {F:Nat}
theorem IntB.ext (h:IntB w g n) (hx:Ext w w'):IntB w' g n:=h.imp fun _ k=>⟨k.1,k.2.ext hx⟩
theorem BoolB.ext (h:BoolB w g n) (hx:Ext w w'):BoolB w' g n:=h.imp fun _ k=>⟨k.1,k.2.ext hx⟩
theorem RwO.ext {N:Nat} {r:Rw} (h:RwO w B N r) (hx:Ext w w'):RwO w' B N r:=⟨h.1,h.2.imp fun _ k=>own_ext k hx⟩
theorem RowsO.ext {N:Nat} {v:Value} (h:RowsO w B N v) (hx:Ext w w'):RowsO w' B N v:=by
 obtain⟨A,m,c,rs,h1,h2,h3⟩:=h;exact⟨A,m,c,rs,h1,own_ext h2 hx,fun r hr=>(h3.1 r hr).ext hx,h3.2⟩
theorem RowsB.ext (h:RowsB w g n B NW) (hx:Ext w w'):RowsB w' g n B NW:=h.imp fun _ k=>⟨k.1,k.2.1.ext hx,fun i v hv=>(k.2.2 i v hv).ext hx⟩
theorem KidsB.ext (h:KidsB w K n ns) (hx:Ext w w'):KidsB w' K n ns:=Rws.ext h hx
theorem StB.ext (h:StB w K n F) (hx:Ext w w'):StB w' K n F:=by
 obtain⟨a,m,l,fA,fc,fs,h1,h2⟩:=h;exact⟨a,m,l,fA,fc,fs,h1.ext hx,own_ext h2 hx⟩
theorem IntB.far (h:IntB w g n) (hg:w.grownBy w' (some q)) (hq:Blk w q T cs) (hT:2≠T):IntB w' g n:=h.imp fun _ k=>⟨k.1,k.2.grownNe hg (blk_ne k.2 hq hT)⟩
theorem BoolB.far (h:BoolB w g n) (hg:w.grownBy w' (some q)) (hq:Blk w q T cs) (hT:4≠T):BoolB w' g n:=h.imp fun _ k=>⟨k.1,k.2.grownNe hg (blk_ne k.2 hq hT)⟩
theorem RwO.far {N:Nat} {r:Rw} (h:RwO w B N r) (hg:w.grownBy w' (some q)) (hq:q<B):RwO w' B N r:=⟨h.1,h.2.imp fun _ k=>own_grown k hg (own_apart k hq)⟩
theorem RowsO.far {N:Nat} {v:Value} (h:RowsO w B N v) (hg:w.grownBy w' (some q)) (hq:q<B):RowsO w' B N v:=by
 obtain⟨A,m,c,rs,h1,h2,h3⟩:=h;exact⟨A,m,c,rs,h1,own_grown h2 hg (own_apart h2 hq),fun r hr=>(h3.1 r hr).far hg hq,h3.2⟩
theorem RowsB.far (h:RowsB w g n B NW) (hg:w.grownBy w' (some q)) (hqB:q<B) (hq:Blk w q T cs) (hT:225≠T):RowsB w' g n B NW:=
 h.imp fun _ k=>⟨k.1,k.2.1.grownNe hg (blk_ne k.2.1 hq hT),fun i v hv=>(k.2.2 i v hv).far hg hqB⟩
theorem KidsB.far (h:KidsB w K n ns) (hg:w.grownBy w' (some q)) (hq:Blk w q T cs) (hT:52≠T) (hT2:3≠T):KidsB w' K n ns:=
 Rws.grown h hg (fun e=>blk_ne (Rws.blk h) hq hT (Option.some.inj e).symm) (fun i v hv=>by
  cases hv2:v.ownBlock with
  |none=>exact .inl rfl
  |some b=>exact .inr (fun e=>own_blk_ne (Rws.row h i v hv) hq hT2 b hv2 (Option.some.inj e)))
theorem KeepS.far (hg:w.grownBy w' (some q)) (hq:Blk w q T cs) (hT:65≠T):KeepS w w':=fun _ _ h=>h.grownNe hg (blk_ne h hq hT)
theorem StB.far (h:StB w K n F) (hg:w.grownBy w' (some q)) (hqB:q<K.B) (hq:Blk w q T cs) (hT:191≠T):StB w' K n F:=by
 obtain⟨a,m,l,fA,fc,fs,h1,h2⟩:=h;exact⟨a,m,l,fA,fc,fs,h1.grownNe hg (blk_ne h1 hq hT),own_grown h2 hg (own_apart h2 hqB)⟩
theorem IntB.put (h:IntB w g n) {i:Nat} {v:Int}:IntB (w.setCell ⟨q,i,none⟩ (.int .i64 v)) g n:=by
 obtain⟨xs,h1,h2⟩:=h;by_cases hgq:g=q
 ·subst hgq;have h3:=h2.set_ i (.int .i64 v);rw[List.setIfInBounds_toArray,←ints_set] at h3;exact⟨_,by rw[List.length_set];exact h1,h3⟩
 ·exact⟨xs,h1,h2.far hgq _⟩
end
structure WkS (w0 w:World) (ns:List Nd) (NW:Nat→Nat) (K:Ck) (F:Nat):Prop where
 ext:Ext w0 w
 lo:w0.heap.size≤K.gW∧w0.heap.size≤K.gO∧w0.heap.size≤K.gX∧w0.heap.size≤K.gY∧w0.heap.size≤K.gH∧w0.heap.size≤K.gR
 hi:K.gW<K.B∧K.gO<K.B∧K.gX<K.B∧K.gY<K.B∧K.gH<K.B∧K.gR<K.B
 bd:K.B≤w.heap.size
 st:StB w K ns.length F
 kids:KidsB w K ns.length ns
 op:BoolB w K.gO ns.length
 xs:IntB w K.gX ns.length
 ys:IntB w K.gY ns.length
 hs:IntB w K.gH ns.length
 rows:RowsB w K.gR ns.length K.B NW
section
variable {w0 w w':World} {ns:List Nd} {NW:Nat→Nat} {K:Ck} {F:Nat}
theorem WkS.step (h:WkS w0 w ns NW K F) (hx:Ext w w'):WkS w0 w' ns NW K F:=
 ⟨h.ext.trans hx,h.lo,h.hi,Nat.le_trans h.bd hx.size,h.st.ext hx,h.kids.ext hx,h.op.ext hx,h.xs.ext hx,h.ys.ext hx,h.hs.ext hx,h.rows.ext hx⟩
theorem WkS.setW (h:WkS w0 w ns NW K F) (hg:w.grownBy w' (some K.gW)) {F':Nat} (hs:StB w' K ns.length F'):WkS w0 w' ns NW K F':=by
 obtain⟨a,m,l,fA,fc,fs,h1,h2⟩:=h.st;exact⟨h.ext.grownBlk hg h.lo.1,h.lo,h.hi,Nat.le_trans h.bd hg.size,hs,h.kids.far hg h1 (by decide) (by decide),h.op.far hg h1 (by decide),h.xs.far hg h1 (by decide),h.ys.far hg h1 (by decide),h.hs.far hg h1 (by decide),h.rows.far hg h.hi.1 h1 (by decide)⟩
theorem WkS.setI (h:WkS w0 w ns NW K F) {q i:Nat} {v:Int} (hq:q=K.gX∨q=K.gY∨q=K.gH):WkS w0 (w.setCell ⟨q,i,none⟩ (.int .i64 v)) ns NW K F:=by
 have hg:=gsCell (w:=w) q i (u:=.int .i64 v);have hqb:∃cs,Blk w q 2 cs:=by
  rcases hq with rfl|rfl|rfl
  ·exact h.xs.elim fun _ k=>⟨_,k.2⟩
  ·exact h.ys.elim fun _ k=>⟨_,k.2⟩
  ·exact h.hs.elim fun _ k=>⟨_,k.2⟩
 obtain⟨cs,hb⟩:=hqb;have hlo:w0.heap.size≤q:=by have:=h.lo;rcases hq with rfl|rfl|rfl<;>omega
 have hhi:q<K.B:=by have:=h.hi;rcases hq with rfl|rfl|rfl<;>omega
 exact⟨h.ext.grownBlk hg hlo,h.lo,h.hi,Nat.le_trans h.bd hg.size,h.st.far hg hhi hb (by decide),h.kids.far hg hb (by decide) (by decide),h.op.far hg hb (by decide),h.xs.put,h.ys.put,h.hs.put,h.rows.far hg hhi hb (by decide)⟩
theorem WkS.setO (h:WkS w0 w ns NW K F) {i:Nat} {v:Bool}:WkS w0 (w.setCell ⟨K.gO,i,none⟩ (.bool v)) ns NW K F:=by
 have hg:=gsCell (w:=w) K.gO i (u:=.bool v);obtain⟨bs,hl,hb⟩:=h.op;have h3:=hb.set_ i (.bool v);rw[boolL_set'] at h3;exact⟨h.ext.grownBlk hg h.lo.2.1,h.lo,h.hi,Nat.le_trans h.bd hg.size,h.st.far hg h.hi.2.1 hb (by decide),h.kids.far hg hb (by decide) (by decide),⟨_,by rw[List.length_set];exact hl,h3⟩,h.xs.far hg hb (by decide),h.ys.far hg hb (by decide),h.hs.far hg hb (by decide),h.rows.far hg h.hi.2.1 hb (by decide)⟩
theorem WkS.setR (h:WkS w0 w ns NW K F) {i:Nat} {v:Value} (hv:RowsO w K.B (NW i) v):WkS w0 (w.setCell ⟨K.gR,i,none⟩ v) ns NW K F:=by
 have hg:=gsCell (w:=w) K.gR i (u:=v);obtain⟨vs,hl,hb,hr⟩:=h.rows;have h3:=hb.set_ i v;rw[List.setIfInBounds_toArray] at h3;have hB:=h.hi.2.2.2.2.2;exact⟨h.ext.grownBlk hg h.lo.2.2.2.2.2,h.lo,h.hi,Nat.le_trans h.bd hg.size,h.st.far hg hB hb (by decide),h.kids.far hg hb (by decide) (by decide),h.op.far hg hb (by decide),h.xs.far hg hb (by decide),h.ys.far hg hb (by decide),h.hs.far hg hb (by decide),⟨_,by rw[List.length_set];exact hl,h3,fun j u hu=>by
  rw[List.getElem?_set] at hu
  split at hu
  ·rename_i hij
   subst hij
   split at hu
   ·obtain rfl:=Option.some.inj hu;exact hv.far hg hB
   ·cases hu
  ·exact (hr j u hu).far hg hB⟩⟩
theorem WkS.keepW (h:WkS w0 w ns NW K F) (i:Nat) (v:Value):KeepS w (w.setCell ⟨K.gW,i,none⟩ v):=by
 obtain⟨a,m,l,fA,fc,fs,h1,h2⟩:=h.st;exact KeepS.far (gsCell _ _) h1 (by decide)
theorem WkS.keepI (h:WkS w0 w ns NW K F) {q:Nat} (hq:q=K.gX∨q=K.gY∨q=K.gH) (i:Nat) (v:Value):KeepS w (w.setCell ⟨q,i,none⟩ v):=by
 rcases hq with rfl|rfl|rfl
 ·exact h.xs.elim fun _ k=>KeepS.far (gsCell _ _) k.2 (by decide)
 ·exact h.ys.elim fun _ k=>KeepS.far (gsCell _ _) k.2 (by decide)
 ·exact h.hs.elim fun _ k=>KeepS.far (gsCell _ _) k.2 (by decide)
theorem WkS.keepO (h:WkS w0 w ns NW K F) (i:Nat) (v:Value):KeepS w (w.setCell ⟨K.gO,i,none⟩ v):=h.op.elim fun _ k=>KeepS.far (gsCell _ _) k.2 (by decide)
theorem WkS.keepR (h:WkS w0 w ns NW K F) (i:Nat) (v:Value):KeepS w (w.setCell ⟨K.gR,i,none⟩ v):=h.rows.elim fun _ k=>KeepS.far (gsCell _ _) k.2.1 (by decide)
section
variable {u:Value} {xs:List Value} {B' Fn g n B:Nat}
theorem IntB.own (hO:w.ownsRow B' 229 5 u Fn xs) (hg:w.grownBy w' u.ownBlock) (h:IntB w g n):IntB w' g n:=h.imp fun _ k=>⟨k.1,k.2.grownOwn hg (own_blk_ne hO k.2 (by decide))⟩
theorem BoolB.own (hO:w.ownsRow B' 229 5 u Fn xs) (hg:w.grownBy w' u.ownBlock) (h:BoolB w g n):BoolB w' g n:=h.imp fun _ k=>⟨k.1,k.2.grownOwn hg (own_blk_ne hO k.2 (by decide))⟩
theorem RowsO.own (hO:w.ownsRow B' 229 5 u Fn xs) (hg:w.grownBy w' u.ownBlock) {N:Nat} {v:Value} (h:RowsO w B N v):RowsO w' B N v:=by
 obtain⟨A,m,c,rs,h1,h2,h3⟩:=h;exact⟨A,m,c,rs,h1,h2.kept hg (own_ne h2 hO (by decide)),fun r hr=>⟨(h3.1 r hr).1,(h3.1 r hr).2.imp fun _ k=>k.kept hg (own_ne k hO (by decide))⟩,h3.2⟩
theorem RowsB.own (hO:w.ownsRow B' 229 5 u Fn xs) (hg:w.grownBy w' u.ownBlock) (h:RowsB w g n B NW):RowsB w' g n B NW:=
 h.imp fun _ k=>⟨k.1,k.2.1.grownOwn hg (own_blk_ne hO k.2.1 (by decide)),fun i v hv=>(k.2.2 i v hv).own hO hg⟩
theorem KidsB.own (hO:w.ownsRow B' 229 5 u Fn xs) (hg:w.grownBy w' u.ownBlock) (h:KidsB w K n ns):KidsB w' K n ns:=
 Rws.grown h hg (fun e=>own_blk_ne hO (Rws.blk h) (by decide) _ e rfl) (fun i v hv=>own_ne (Rws.row h i v hv) hO (by decide))
theorem KeepS.own (hO:w.ownsRow B' 229 5 u Fn xs) (hg:w.grownBy w' u.ownBlock):KeepS w w':=fun _ _ h=>h.grownOwn hg (own_blk_ne hO h (by decide))
theorem WkS.pushF (h:WkS w0 w ns NW K F) {a m l:Int} {fA A5:Option Addr} {fc c5:Nat} {fs:List Fl} {f:Fl} (BW:Blk w K.gW 191 (wkC K ns.length a m l fA F fc).toArray) (OF:w.ownsRow K.B 229 5 (.slice fA F fc) F (recs flC fs))
  (hg:w.grownBy w' (Value.ownBlock (.slice fA F fc))) (hx:Ext w0 w') (ho:w'.ownsRow K.B 229 5 (.slice A5 (F+1) c5) (F+1) (recs flC fs++flC f)) :
  WkS w0 (w'.setCell ⟨K.gW,10,none⟩ (.slice A5 (F+1) c5)) ns NW K (F+1)∧KeepS w (w'.setCell ⟨K.gW,10,none⟩ (.slice A5 (F+1) c5)):=by
 have BW':=BW.grownOwn hg (own_blk_ne OF BW (by decide));have hs:=gsCell (w:=w') K.gW 10 (u:=.slice A5 (F+1) c5);refine⟨⟨hx.grownBlk hs h.lo.1,h.lo,h.hi,Nat.le_trans h.bd (Nat.le_trans hg.size hs.size),⟨a,m,l,A5,c5,fs++[f],BW'.set_ 10 _,?_⟩,(h.kids.own OF hg).far hs BW' (by decide) (by decide),(h.op.own OF hg).far hs BW' (by decide),(h.xs.own OF hg).far hs BW' (by decide),(h.ys.own OF hg).far hs BW' (by decide),(h.hs.own OF hg).far hs BW' (by decide),(h.rows.own OF hg).far hs h.hi.1 BW' (by decide)⟩,(KeepS.own OF hg).trans (KeepS.far hs BW' (by decide))⟩;rw[recs_append,recs_one];exact own_grown ho hs (own_apart ho h.hi.1)
end
theorem own_mono {w:World} {B B' e k m:Nat} {u:Value} {xs:List Value} (h:w.ownsRow B' e k u m xs) (hB:B≤B'):w.ownsRow B e k u m xs:=by
 refine⟨h.1,?_⟩
 rcases h.2 with h2|⟨g,cap,cur,hv,hb,hr⟩
 ·exact .inl h2
 ·exact .inr ⟨g,cap,cur,hv,Nat.le_trans hB hb,hr⟩
theorem FSt.rowsO {w1:World} {N m c B:Nat} {A:Option Addr} {rs:List Rw} (h:FSt w1 w N A m c rs) (hB:B≤w1.heap.size) (hm:m≤20000000):RowsO w B N (.slice A m c):=
 ⟨A,m,c,rs,rfl,own_mono h.own hB,fun r hr=>⟨(h.xs r hr).1,(h.xs r hr).2.imp fun _ k=>own_mono k hB⟩,hm⟩
end
theorem least24_any (A:Option Addr) (n c:Nat) (bl:List Bool) (w:World) (rb:Rd w 1 A n (boolL bl)) (hn:n≤1000000) :
  Calls Tryz.prog 53 #[.slice A n c] w (SomeI w):=by
 have hl:bl.length=n:=by have:=rb.len;rw[boolL,List.length_map] at this;omega
 go_enter Tryz.func53,Tryz.ntmps53;go_wp2_with fail;go_loopw [3] (fun v3 wr=>∃k:Nat,v3=.int .i64 k∧k≤n∧Ext w wr) (fun v3 _=>n-(intOf v3).toNat)
 case atStart=>exact⟨0,rfl,by omega,Ext.refl _⟩
 case round=>
  obtain⟨k,rfl,hk,E⟩:=hrel;by_cases hkn:k<n
  ·have hkI:(0:Int)≤(k:Int)∧(k:Int)<(n:Int):=by omega
   obtain⟨v,hv⟩:∃v,bl[k]?=some v:=⟨_,AE (by omega)⟩
   obtain⟨b,off,rfl,lb,_⟩:=rb.at_ (by omega);have cl:=(rb.ext E).cellAt hkn (show (boolL bl)[k]?=some (Value.bool v) by rw[boolL,List.getElem?_map,hv];rfl);have cl1:=cl.1;have cl2:=cl.2;clear cl hv;cases v
   ·go_wp2_with fail;go_roundw
    case rel=>exact⟨k+1,by go_num,by omega,E⟩
    case measure=>simp[intOf];omega
   ·go_wp2_with fail;go_ret;exact⟨_,rfl,E⟩
  ·have hkI:¬(k:Int)<(n:Int):=by omega
   go_wp2_with fail;go_ret;exact⟨_,rfl,E⟩
theorem usC_sz (u:Us):(Tryz.prog.info? 120).map (·.size)=some (usC u).toArray.size:=by kernel_rfl
def UsedB (w:World) (e:Ending) (w':World):Prop:=∃(u:Us) (b:Bool),e=.returned (.tuple #[.agg (usC u).toArray,.bool b])∧UsOk u∧Ext w w'
theorem clampV_nn (s:Sty) (c x:Int):0≤clampV s c x:=by unfold clampV;simp only;exact Int.le_max_right _ _
theorem UsOk.cut {x l r:Int} (hx:0≤x):UsOk ⟨cutV x,cutV l,cutV r⟩:=by
 have h1:=cutV_in x;have h2:=cutV_in l;have h3:=cutV_in r;exact⟨⟨cutV_nn hx,h1.2⟩,h2,h3⟩
theorem flow_used (s:Sty) (c:Int) (hs:mayB s=true) (hc:c≤1099511627776) (w:World):Calls Tryz.prog 107 #[.agg s.cells,.int .i64 c] w (UsedB w):=
 (ref_flow s c hs hc w).mono fun _ _ ⟨h1,h2⟩=>⟨⟨cutV (flowW s (max c 0)),cutV (flowL s (max c 0)),cutV (flowR s (max c 0))⟩,_,h1,UsOk.cut (clampV_nn _ _ _),h2⟩
theorem shrunk_used (s:Sty) (c l g:Int) (hs:mayB s=true) (hc:c≤1099511627776) (hl:InM l) (hg:InM g) (w:World):Calls Tryz.prog 109 #[.agg s.cells,.int .i64 c,.int .i64 l,.int .i64 g] w (UsedB w):=
 (ref_shr s c l g hs hc hl.1 hl.2 hg.1 hg.2 w).mono fun _ _ ⟨h1,h2⟩=>⟨⟨cutV (shrW s (max c 0) l g),cutV (resV s.m3 (max c 0)),cutV (resV s.m1 (max c 0))⟩,_,h1,UsOk.cut (clampV_nn _ _ _),h2⟩
theorem run_load_sty {op:Oper} {a:Act} {w:World} {b o:Nat} {s:Sty} (x:Operand) (ho:op.op=.load 65 x) (hx:a.eval x=.pointer (some ⟨b,o,none⟩)) (hc:w.rangeAt b o (styC s)):(execOp a.eval op).run Tryz.prog w=.ok (.value (.agg s.cells)) w:=by
 unfold execOp;have h:=run_loadVar_mid (P:=Tryz.prog) w b o 65 (styC s) _ hc Tryz.underlying65 rfl (info_style s);simp only[ho,hx,Instr.loadAt,Instr.sureAddr,Sem.run_bind,Sem.run_pure,Result.andThen_ok,h];rfl
section
variable (t:Tr) (ns:List Nd) (av:List Int) (un:Nat→List Int)
theorem first21_any (w:World) (h:LT w t ns av un):Calls Tryz.prog 81 #[.agg t.cs] w (UsedB w):=by
 have hpos:=h.ok.pos;obtain⟨nd,hnd⟩:∃nd,ns[0]?=some nd:=⟨_,AE hpos⟩
 obtain⟨bn,on,hna,lbn,hcn⟩:=h.tr.nodes.node hnd;have hnl:=h.tr.nodes.nlen;have hok:=h.ok.nd hnd;have hv:=h.view;obtain⟨na,nl,nc,aa,al,ac,view⟩:=t;simp only at hna hnl hv;subst hna;have HC:=AB hcn;have cF:=fun w=>AB (flow_used nd.s view hok.kid.may hv.2 w)
 have hiI:(0:Int)<(nl:Int):=by omega
 have hi2:0<nl:=by omega
 clear hcn h hok;go_enter Tryz.func81,Tryz.ntmps81;go_upto_region 1 with fail;have BT:Blk ((w.alloc (.cells (Tr.cs ⟨some ⟨bn,on,none⟩,nl,nc,aa,al,ac,view⟩) 25)).alloc (.cells #[.int .i64 0,.int .i64 0,.int .i64 0] 120)) w.heap.size 25 (Tr.cs ⟨some ⟨bn,on,none⟩,nl,nc,aa,al,ac,view⟩):=(Blk.new _ _ _).alloc _;have BR:Blk ((w.alloc (.cells (Tr.cs ⟨some ⟨bn,on,none⟩,nl,nc,aa,al,ac,view⟩) 25)).alloc (.cells #[.int .i64 0,.int .i64 0,.int .i64 0] 120)) (w.heap.size+1) 120 #[.int .i64 0,.int .i64 0,.int .i64 0]:=Blk.new1 _ _ _ _;have E:Ext w ((w.alloc (.cells (Tr.cs ⟨some ⟨bn,on,none⟩,nl,nc,aa,al,ac,view⟩) 25)).alloc (.cells #[.int .i64 0,.int .i64 0,.int .i64 0] 120)):=((Ext.refl _).alloc _).alloc _;generalize (w.alloc (.cells (Tr.cs ⟨some ⟨bn,on,none⟩,nl,nc,aa,al,ac,view⟩) 25)).alloc (.cells #[.int .i64 0,.int .i64 0,.int .i64 0] 120)=w1 at *;obtain⟨g,hg⟩:∃g,w.heap.size=g:=⟨_,rfl⟩
 rw[hg] at BT BR lbn ⊢;have HG:=AB hg;clear hg;have c0:=(BT.cell 0).trans (rfl:_=some (Value.slice (some ⟨bn,on,none⟩) nl nc));have c2:=(BT.cell 2).trans (rfl:_=some (Value.int .i64 view));have lT:=BT.lt;have HL:=AB (show bn<w1.heap.size by omega);refine wp_region_ord [(1,0),(0,1),(1,2),(1,3),(0,4),(1,5),(0,6),(3,7),(1,8),(1,9),(3,10),(1,11)] 7 (fun w'=>Ext w1 w') (by kernel_rfl) (by kernel_rfl) rfl (by kernel_rfl) ((Ext.refl _).drew) ?_;simp only[AD]
 iterate 4 ((first|refine ordQA ?_|refine ordQB ?_);simp only[AC])
 refine ord_hold (v:=.agg nd.s.cells) rfl (fun w' hI=>run_load_sty (.tmp 7) rfl rfl (fun x v hv=>?_)) ?_
 ·have h1:=(AA HC) (1+x) v (by rw[Nat.add_comm];exact hv);rw[show on+0*44+(1+x)=on+1+x by omega] at h1;exact (hI.cells.1 bn _ (AA HL)).trans ((E.cells.1 bn _ (by have:=AA HG;omega)).trans h1)
 simp only[AC]
 iterate 2 ((first|refine ordQA ?_|refine ordQB ?_);simp only[AC])
 refine ord_last ?_;go_wp2_with fail
 with_reducible refine (AA (cF _)).mono ?_
 rintro e wc ⟨⟨uw,ul,ur⟩,b,rfl,hu,hx⟩;go_wp2_with fail
 iterate 2 ((first|refine ordQA ?_|refine ordQB ?_);simp only[AC])
 refine ord_last ?_;have E2:=E.trans ((Ext.refl w1).drew.trans hx);replace BR:=BR.ext ((Ext.refl w1).drew.trans hx);refine wpList_store_blk rfl 120 (.tmp 2) (.tmp 12) rfl (g+1) rfl (usC ⟨uw,ul,ur⟩).toArray rfl 120 #[.int .i64 0,.int .i64 0,.int .i64 0] BR (usC_sz _) rfl (by kernel_rfl) ?_;intro w3 B3 g3 z3;simp only[Act.put];go_wp2_with fail
 iterate 1 ((first|refine ordQA ?_|refine ordQB ?_);simp only[AC])
 refine ord_nil ?_;go_wp2_with fail;refine bodyPost_ret (results_cell_tmp rfl _ _ (g+1) 120 _ _ rfl B3 Tryz.underlying120 rfl (usC_sz _)) rfl ?_;exact⟨_,b,rfl,hu,E2.grown g3 (fun q e=>by have:=Option.some.inj e;have:=AA HG;omega)⟩
end
theorem line_row:RowInfo 73 3:=rowInfo (z:=.agg (llC zLl).toArray) llC_info rfl
theorem piece_row:RowInfo 75 5:=rowInfo (z:=.agg (pcC zPc).toArray) pcC_info rfl
def LlO (w:World) (B:Nat) (l:Ll):Prop:=(InM l.y∧InM l.h)∧∃ps:List Pc,w.ownsRow B 75 5 (.slice l.pA l.pn l.pc) l.pn (recs pcC ps)∧∀p∈ps,PcOk p
structure LSt (w0 w:World) (A:Option Addr) (m c:Nat) (ls:List Ll):Prop where
 ext:Ext w0 w
 own:w.ownsRow w0.heap.size 73 3 (.slice A m c) m (recs llC ls)
 xs:∀l∈ls,LlO w w0.heap.size l
def AwayL (ls:List Ll) (u:Value):Prop:=∀l∈ls,(Value.slice l.pA l.pn l.pc).ownBlock=none∨(Value.slice l.pA l.pn l.pc).ownBlock≠u.ownBlock
section
variable {w0 w w':World} {A A':Option Addr} {m c c':Nat} {ls:List Ll} {u v:Value}
theorem LlO.keep {B:Nat} {l:Ll} (h:LlO w B l) (hk:∀ps:List Pc,w.ownsRow B 75 5 (.slice l.pA l.pn l.pc) l.pn (recs pcC ps)→w'.ownsRow B 75 5 (.slice l.pA l.pn l.pc) l.pn (recs pcC ps)):LlO w' B l:=⟨h.1,h.2.imp fun ps k=>⟨hk ps k.1,k.2⟩⟩
theorem LSt.step (h:LSt w0 w A m c ls) (hx:Ext w w'):LSt w0 w' A m c ls:=
 ⟨h.ext.trans hx,own_ext h.own hx,fun l hl=>(h.xs l hl).keep fun _ k=>own_ext k hx⟩
theorem LSt.grown {xs:List Value} {k:Nat} (h:LSt w0 w A m c ls) (hg:w.grownBy w' u.ownBlock) (hu:w.ownsRow w0.heap.size 75 5 u k xs) (ha:AwayL ls u):LSt w0 w' A m c ls:=
 ⟨h.ext.grown hg (fun q hq=>(hu.lt q hq).1),h.own.kept hg (own_ne h.own hu (by decide)),fun l hl=>(h.xs l hl).keep fun _ k=>k.kept hg (ha l hl)⟩
theorem LSt.var {g:Nat} (h:LSt w0 w A m c ls) (hg:w.grownBy w' (some g)) (hlo:w0.heap.size≤g) (h1:∀q,(Value.slice A m c).ownBlock=some q→q≠g) (h2:∀l∈ls,∀q,(Value.slice l.pA l.pn l.pc).ownBlock=some q→q≠g):LSt w0 w' A m c ls:=
 ⟨h.ext.grown hg (fun q e=>by have:=Option.some.inj e;omega),own_grown h.own hg h1,fun l hl=>(h.xs l hl).keep fun _ k=>own_grown k hg (h2 l hl)⟩
theorem LSt.push {l:Ll} {xs:List Value} (h:LSt w0 w A m c ls) (hl:LlO w w0.heap.size l) (hx:Ext w0 w') (hg:w.grownBy w' (Value.ownBlock (.slice A m c))) (ho:w'.ownsRow w0.heap.size 73 3 (.slice A' (m+1) c') (m+1) (recs llC ls++xs)) (hxs:xs=llC l):LSt w0 w' A' (m+1) c' (ls++[l]):=
 ⟨hx,by rw[recs_append,recs_one,←hxs];exact ho,fun q hq=>by
  have hk:∀r',LlO w w0.heap.size r'→LlO w' w0.heap.size r':=fun r' k=>k.keep fun _ k2=>k2.kept hg (own_ne k2 h.own (by decide))
  rcases List.mem_append.1 hq with hq|hq
  ·exact hk q (h.xs q hq)
  ·obtain rfl:=List.mem_singleton.1 hq;exact hk q hl⟩
theorem LSt.zero (w:World):LSt w w none 0 0 []:=⟨Ext.refl _,own_nil _ _ _ _,by simp⟩
theorem LSt.lns (h:LSt w0 w A m c ls):Lns w A m:=⟨ls,Rd.of_own h.own,fun l hl=>⟨(h.xs l hl).1.1,(h.xs l hl).1.2,(h.xs l hl).2.imp fun _ k=>⟨Rd.of_own k.1,k.2⟩⟩⟩
theorem AwayL.moved (h:LSt w0 w A m c ls) (ha:AwayL ls u) (hu:v.ownBlock=u.ownBlock∨v.ownBlock=some w.heap.size):AwayL ls v:=by
 rcases hu with hu|hu
 ·intro r hr;rw[hu];exact ha r hr
 ·intro r hr
  right
  intro hq;obtain⟨zs,k,_⟩:=(h.xs r hr).2;have:=(k.lt _ (hq.trans hu)).2;omega
structure PSt (w0 w:World) (A:Option Addr) (m c:Nat) (ls:List Ll) (gL:Nat) (l:Ll) (ps:List Pc):Prop where
 f:LSt w0 w A m c ls
 bl:Blk w gL 73 (llC l).toArray
 ox:w.ownsRow w0.heap.size 75 5 (.slice l.pA l.pn l.pc) l.pn (recs pcC ps)
 ok:∀p∈ps,PcOk p
 num:InM l.y∧InM l.h
 aw:AwayL ls (.slice l.pA l.pn l.pc)
 p1:∀q,(Value.slice A m c).ownBlock=some q→q≠gL
 p2:∀r∈ls,∀q,(Value.slice r.pA r.pn r.pc).ownBlock=some q→q≠gL
 p3:∀q,(Value.slice l.pA l.pn l.pc).ownBlock=some q→q≠gL
 lo:w0.heap.size≤gL
theorem PSt.step {gL:Nat} {l:Ll} {ps:List Pc} (h:PSt w0 w A m c ls gL l ps) (hx:Ext w w'):PSt w0 w' A m c ls gL l ps:=
 ⟨h.f.step hx,h.bl.ext hx,own_ext h.ox hx,h.ok,h.num,h.aw,h.p1,h.p2,h.p3,h.lo⟩
theorem PSt.new {gL:Nat} {y z:Int} (h:LSt w0 w A m c ls) (hx:Ext w w') (hb:Blk w' gL 73 (llC ⟨y,z,none,0,0⟩).toArray) (hg:w.heap.size≤gL) (hy:InM y) (hz:InM z):PSt w0 w' A m c ls gL ⟨y,z,none,0,0⟩ []:=
 ⟨h.step hx,hb,own_nil _ _ _ _,by simp,⟨hy,hz⟩,fun r hr=>by
   cases hq:(Value.slice r.pA r.pn r.pc).ownBlock with
   |none=>exact .inl rfl
   |some q=>exact .inr (by simp[Value.ownBlock]),fun q hq=>by have:=(h.own.lt q hq).2;omega,
  fun r hr q hq=>by
   obtain⟨zs,k,_⟩:=(h.xs r hr).2;have:=(k.lt q hq).2;omega,fun q hq=>(by cases hq),by have:=h.ext.size;omega⟩
theorem PSt.more {gL:Nat} {l:Ll} {ps:List Pc} {p:Pc} {A5:Option Addr} {c5:Nat} (h:PSt w0 w A m c ls gL l ps) (hp:PcOk p) (hg:w.grownBy w' (Value.ownBlock (.slice l.pA l.pn l.pc))) (ho:w'.ownsRow w0.heap.size 75 5 (.slice A5 (l.pn+1) c5) (l.pn+1) (recs pcC ps++pcC p)) (hat:Value.ownBlock (.slice A5 (l.pn+1) c5)=Value.ownBlock (.slice l.pA l.pn l.pc)∨Value.ownBlock (.slice A5 (l.pn+1) c5)=some w.heap.size) :
  PSt w0 (w'.setCell ⟨gL,2,none⟩ (.slice A5 (l.pn+1) c5)) A m c ls gL ⟨l.y,l.h,A5,l.pn+1,c5⟩ (ps++[p]):=by
 have hp3:=own_moved h.p3 hat h.bl.lt;have F1:=h.f.grown hg h.ox h.aw;have B1:=h.bl.grownOwn hg h.p3;have hs:=gsCell (w:=w') gL 2 (u:=.slice A5 (l.pn+1) c5);refine⟨F1.var hs h.lo h.p1 h.p2,B1.set_ 2 _,?_,?_,h.num,AwayL.moved h.f h.aw hat,h.p1,h.p2,hp3,h.lo⟩
 ·show World.ownsRow _ _ _ 5 (.slice A5 (l.pn+1) c5) (l.pn+1) (recs pcC (ps++[p]))
  rw[recs_append,recs_one];exact own_grown ho hs hp3
 ·intro q hq
  rcases List.mem_append.1 hq with hq|hq
  ·exact h.ok q hq
  ·obtain rfl:=List.mem_singleton.1 hq;exact hp
theorem PSt.others {gL:Nat} {l:Ll} {ps:List Pc} {A5:Option Addr} {c5:Nat} (h:PSt w0 w A m c ls gL l ps) (hg:w.grownBy w' (Value.ownBlock (.slice l.pA l.pn l.pc))) {g:Nat} {T:TypeId} {cs:Array Value} (hb:Blk w g T cs) (h1:75≠T) (h2:T≠73):Blk (w'.setCell ⟨gL,2,none⟩ (.slice A5 (l.pn+1) c5)) g T cs:=by
 have B1:=h.bl.grownOwn hg h.p3;have b1:=hb.grownOwn hg (own_blk_ne h.ox hb h1);exact b1.far (blk_ne b1 B1 h2) _
theorem LlO.ext {B:Nat} {l:Ll} (h:LlO w B l) (hx:Ext w w'):LlO w' B l:=h.keep fun _ k=>own_ext k hx
theorem LlO.mono {B B':Nat} {l:Ll} (h:LlO w B' l) (hB:B≤B'):LlO w B l:=⟨h.1,h.2.imp fun _ k=>⟨own_mono k.1 hB,k.2⟩⟩
def LinesO (w:World) (B:Nat) (v:Value):Prop:=∃(A:Option Addr) (m c:Nat) (ls:List Ll),v=.slice A m c∧w.ownsRow B 73 3 (.slice A m c) m (recs llC ls)∧(∀l∈ls,LlO w B l)∧m≤20000000
theorem LinesO.ext {B:Nat} {v:Value} (h:LinesO w B v) (hx:Ext w w'):LinesO w' B v:=by
 obtain⟨A,m,c,ls,h1,h2,h3⟩:=h;exact⟨A,m,c,ls,h1,own_ext h2 hx,fun l hl=>(h3.1 l hl).ext hx,h3.2⟩
theorem LinesO.mono {B B':Nat} {v:Value} (h:LinesO w B' v) (hB:B≤B'):LinesO w B v:=by
 obtain⟨A,m,c,ls,h1,h2,h3⟩:=h;exact⟨A,m,c,ls,h1,own_mono h2 hB,fun l hl=>(h3.1 l hl).mono hB,h3.2⟩
theorem LinesO.far {B q:Nat} {v:Value} {T:TypeId} {cs:Array Value} (h:LinesO w B v) (hg:w.grownBy w' (some q)) (hq:Blk w q T cs) (h1:73≠T) (h2:75≠T):LinesO w' B v:=by
 obtain⟨A,m,c,ls,e1,k2,k3⟩:=h;exact⟨A,m,c,ls,e1,own_grown k2 hg (own_blk_ne k2 hq h1),fun l hl=>(k3.1 l hl).keep fun _ k=>own_grown k hg (own_blk_ne k hq h2),k3.2⟩
theorem LinesO.own {B B' e k n:Nat} {u v:Value} {xs:List Value} (h:LinesO w B v) (hO:w.ownsRow B' e k u n xs) (hg:w.grownBy w' u.ownBlock) (h1:73≠e) (h2:75≠e):LinesO w' B v:=by
 obtain⟨A,m,c,ls,e1,k2,k3⟩:=h;exact⟨A,m,c,ls,e1,k2.kept hg (own_ne k2 hO h1),fun l hl=>(k3.1 l hl).keep fun _ q=>q.kept hg (own_ne q hO h2),k3.2⟩
theorem LinesO.lns {B:Nat} {A:Option Addr} {m c:Nat} (h:LinesO w B (.slice A m c)):Lns w A m:=by
 obtain⟨A',m',c',ls,h1,h2,h3⟩:=h;injection h1 with e1 e2 e3;subst e1 e2 e3;exact⟨ls,Rd.of_own h2,fun l hl=>⟨(h3.1 l hl).1.1,(h3.1 l hl).1.2,(h3.1 l hl).2.imp fun _ k=>⟨Rd.of_own k.1,k.2⟩⟩⟩
theorem LinesO.nil (w:World) (B:Nat):LinesO w B (.slice none 0 0):=⟨none,0,0,[],rfl,own_nil _ _ _ _,by simp,by omega⟩
theorem LSt.linesO (h:LSt w0 w A m c ls) {B:Nat} (hB:B≤w0.heap.size) (hm:m≤20000000):LinesO w B (.slice A m c):=
 ⟨A,m,c,ls,rfl,own_mono h.own hB,fun l hl=>(h.xs l hl).mono hB,hm⟩
theorem PSt.done {gL:Nat} {l:Ll} {ps:List Pc} (h:PSt w0 w A m c ls gL l ps):LlO w w0.heap.size l:=⟨h.num,ps,h.ox,h.ok⟩
end
section
variable {w0 w:World} {ns:List Nd} {NW:Nat→Nat} {K:Ck} {F:Nat}
theorem WkS.kid (S:WkS w0 w ns NW K F) {b:Nat} (hb:b<ns.length):∃A c,K.vs[b]?=some (.slice A (kidsN ns ns.length b).length c):=by
 obtain⟨v,hv,hc,_,ho⟩:=Rws.get S.kids hb
 rcases ho.2 with ⟨rfl,h0⟩|⟨g',cap,cur,rfl,_⟩
 ·exact⟨none,0,by rw[h0];exact hv⟩
 ·exact⟨_,_,hv⟩
theorem WkS.kidCell (S:WkS w0 w ns NW K F) {b:Nat} {v:Value} (hb:b<ns.length) (hv:K.vs[b]?=some v):K.gK<w.heap.size∧w.cell? ⟨K.gK,b,none⟩=some v:=by
 obtain⟨v',hv',hc,_,ho⟩:=Rws.get S.kids hb;rw[hv] at hv';obtain rfl:=Option.some.inj hv';exact⟨(Rws.blk S.kids).lt,hc⟩
theorem WkS.kidRd (S:WkS w0 w ns NW K F) {b c:Nat} {A:Option Addr} (hv:K.vs[b]?=some (.slice A (kidsN ns ns.length b).length c)):Rd w 1 A (kidsN ns ns.length b).length (ints (kidsN ns ns.length b)):=
 Rd.of_own (Rws.row S.kids b _ hv)
end
structure Il where
 (nA:Option Addr) (nn nc:Nat) (fA:Option Addr) (fn fc:Nat) (bA:Option Addr) (bn bc:Nat) (high:Int) (lA:Option Addr) (ln lc:Nat) (over:Bool)
def ilC (x:Il):List Value:=[.slice x.nA x.nn x.nc,.slice x.fA x.fn x.fc,.slice x.bA x.bn x.bc,.int .i64 x.high,.slice x.lA x.ln x.lc,.bool x.over]
def zIl:Il:=⟨none,0,0,none,0,0,none,0,0,0,none,0,0,false⟩
theorem ilC_size (x:Il):(Tryz.prog.info? 117).map (·.size)=some (ilC x).toArray.size:=by kernel_rfl
theorem ilC_zero:(Tryz.prog.info? 117).bind (·.zero)=some (.agg (ilC zIl).toArray):=by kernel_rfl
theorem frag_row:RowInfo 58 5:=rowInfo (z:=.agg (fgC zFg).toArray) fgC_info rfl
theorem bool_info1:(Tryz.prog.info? 4).map (fun i=>(i.zero,i.size,decide (i.bytes≤100000)))=some (some (.bool false),1,true):=by kernel_rfl
theorem bool_row:RowInfo 4 1:=rowInfo (z:=.bool false) bool_info1 rfl
structure FgO (W:World) (B:Nat) (f:Fg):Prop where
 (x:InM f.x) (y:InM f.y) (w:InM f.w) (h:InM f.h) (ls:LinesO W B (.slice f.lA f.ln f.lc))
theorem FgO.keep {w w':World} {B:Nat} {f:Fg} (h:FgO w B f) (hk:LinesO w B (.slice f.lA f.ln f.lc)→LinesO w' B (.slice f.lA f.ln f.lc)):FgO w' B f:=⟨h.x,h.y,h.w,h.h,hk h.ls⟩
theorem FgO.ext {w w':World} {B:Nat} {f:Fg} (h:FgO w B f) (hx:Ext w w'):FgO w' B f:=h.keep fun k=>k.ext hx
theorem FgO.mono {w:World} {B B':Nat} {f:Fg} (h:FgO w B' f) (hB:B≤B'):FgO w B f:=⟨h.x,h.y,h.w,h.h,h.ls.mono hB⟩
theorem FgO.ok {w:World} {B:Nat} {f:Fg} (h:FgO w B f):FgOk w f:=⟨h.x,h.y,h.w,h.h,h.ls.lns⟩
structure IlOk (w:World) (B n:Nat) (il:Il):Prop where
 nodes:∃zs:List Int,Rd w 1 il.nA il.nn (ints zs)∧∀z∈zs,0≤z∧z<(n:Int)
 new:∀b off,il.nA=some ⟨b,off,none⟩→B≤b
 nn:il.nn≤n
 fn:il.fn=il.nn
 bn:il.bn=il.nn
 frags:∃fs:List Fg,w.ownsRow B 58 5 (.slice il.fA il.fn il.fc) il.fn (recs fgC fs)∧∀f∈fs,FgO w B f
 bey:∃bl:List Bool,w.ownsRow B 4 1 (.slice il.bA il.bn il.bc) il.bn (boolL bl)
 high:InM il.high
 lines:LinesO w B (.slice il.lA il.ln il.lc)
theorem LinesO.low {w w':World} {B q:Nat} {v:Value} (h:LinesO w B v) (hg:w.grownBy w' (some q)) (hq:q<B):LinesO w' B v:=by
 obtain⟨A,m,c,ls,e1,k2,k3⟩:=h;exact⟨A,m,c,ls,e1,own_grown k2 hg (own_apart k2 hq),fun l hl=>(k3.1 l hl).keep fun _ k=>own_grown k hg (own_apart k hq),k3.2⟩
theorem IlOk.low {w w':World} {B n q:Nat} {il:Il} (h:IlOk w B n il) (hg:w.grownBy w' (some q)) (hq:q<B):IlOk w' B n il:=
 ⟨h.nodes.imp fun _ k=>⟨k.1.grown hg (fun b off e e2=>by have h1:=h.new b off e;have h2:=Option.some.inj e2;omega),k.2⟩,h.new,h.nn,h.fn,h.bn,
  h.frags.imp fun _ k=>⟨own_grown k.1 hg (own_apart k.1 hq),fun f hf=>(k.2 f hf).keep fun k2=>k2.low hg hq⟩,h.bey.imp fun _ k=>own_grown k hg (own_apart k hq),h.high,h.lines.low hg hq⟩
theorem IlOk.mono {w:World} {B B' n:Nat} {il:Il} (h:IlOk w B' n il) (hB:B≤B'):IlOk w B n il:=
 ⟨h.nodes,fun b off e=>Nat.le_trans hB (h.new b off e),h.nn,h.fn,h.bn,h.frags.imp fun _ k=>⟨own_mono k.1 hB,fun f hf=>(k.2 f hf).mono hB⟩,h.bey.imp fun _ k=>own_mono k hB,h.high,h.lines.mono hB⟩
def IsleIs (w:World) (n:Nat) (e:Ending) (w':World):Prop:=∃il:Il,e=.returned (.agg (ilC il).toArray)∧IlOk w' w.heap.size n il∧Ext w w'
theorem cut_fg (x y z h:Int) (A:Option Addr) (n c:Nat) (w:World):Calls Tryz.prog 88 #[.agg #[.int .i64 x,.int .i64 y,.int .i64 z,.int .i64 h,.slice A n c]] w
  (fun e w'=>∃(f:Fg) (b:Bool),e=.returned (.tuple #[.agg (fgC f).toArray,.bool b])∧(InM f.x∧InM f.y∧InM f.w∧InM f.h)∧(f.lA=A∧f.ln=n∧f.lc=c)∧Ext w w'):=
 (cutFrag_any ⟨x,y,z,h⟩ A n c w).mono fun _ _ hk=>⟨⟨cutV x,cutV y,cutV z,cutV h,A,n,c⟩,_,hk.1,⟨cutV_in _,cutV_in _,cutV_in _,cutV_in _⟩,⟨rfl,rfl,rfl⟩,hk.2⟩
theorem insN_mem {ns:List Nd} {r z:Int} (h:z∈insN ns r):∃m:Nat,z=(m:Int)∧1≤m∧m<ns.length:=by
 unfold insN at h
 split at h
 ·unfold insR at h;obtain⟨m,hm,rfl⟩:=List.mem_map.1 h;obtain⟨h1,h2⟩:=List.mem_filter.1 hm;simp only[Bool.and_eq_true,decide_eq_true_eq] at h2;exact⟨m,rfl,h2.1.1,List.mem_range.1 h1⟩
 ·cases h
theorem insN_len (ns:List Nd) (r:Int):(insN ns r).length≤ns.length:=by
 unfold insN
 split
 ·exact insR_len _ _ _
 ·simp
structure BSt (w2 w:World) (gI:Nat) (il:Il) (i:Nat) (fs:List Fg) (bl:List Bool):Prop where
 ext:Ext w2 w
 bi:Blk w gI 117 (ilC il).toArray
 of:w.ownsRow w2.heap.size 58 5 (.slice il.fA il.fn il.fc) il.fn (recs fgC fs)
 fok:∀f∈fs,FgO w w2.heap.size f
 ob:w.ownsRow w2.heap.size 4 1 (.slice il.bA il.bn il.bc) il.bn (boolL bl)
 fn:il.fn=i
 lo:w2.heap.size≤gI
section
variable {w2 w w':World} {gI:Nat} {il il':Il} {i:Nat} {fs:List Fg} {bl:List Bool}
theorem BSt.step (h:BSt w2 w gI il i fs bl) (hx:Ext w w'):BSt w2 w' gI il i fs bl:=
 ⟨h.ext.trans hx,h.bi.ext hx,own_ext h.of hx,fun f hf=>(h.fok f hf).ext hx,own_ext h.ob hx,h.fn,h.lo⟩
theorem BSt.varF (h:BSt w2 w gI il i fs bl) {gF:Nat} {cs:Array Value} (hF:Blk w gF 58 cs) (hg:w.grownBy w' (some gF)) (hlo:w2.heap.size≤gF) (hne:∀q,(Value.slice il.fA il.fn il.fc).ownBlock=some q→q≠gF):BSt w2 w' gI il i fs bl:=
 ⟨h.ext.grownBlk hg hlo,h.bi.grownNe hg (blk_ne h.bi hF (by decide)),own_grown h.of hg hne,fun f hf=>(h.fok f hf).keep fun k=>k.far hg hF (by decide) (by decide),own_grown h.ob hg (own_blk_ne h.ob hF (by decide)),h.fn,h.lo⟩
theorem BSt.cell (h:BSt w2 w gI il i fs bl) (j:Nat) (v:Value) (hv:(ilC il).toArray.setIfInBounds j v=(ilC il').toArray) (h1:il'.fA=il.fA∧il'.fn=il.fn∧il'.fc=il.fc) (h2:il'.bA=il.bA∧il'.bn=il.bn∧il'.bc=il.bc):BSt w2 (w.setCell ⟨gI,j,none⟩ v) gI il' i fs bl:=by
 have hg:=gsCell (w:=w) gI j (u:=v);obtain⟨a1,a2,a3⟩:=h1;obtain⟨b1,b2,b3⟩:=h2;refine⟨h.ext.grownBlk hg h.lo,hv▸h.bi.set_ j v,?_,fun f hf=>(h.fok f hf).keep fun k=>k.far hg h.bi (by decide) (by decide),?_,by rw[a2];exact h.fn,h.lo⟩
 ·rw[a1,a2,a3];exact own_grown h.of hg (own_blk_ne h.of h.bi (by decide))
 ·rw[b1,b2,b3];exact own_grown h.ob hg (own_blk_ne h.ob h.bi (by decide))
theorem BSt.pushF (h:BSt w2 w gI il i fs bl) {f:Fg} {A5:Option Addr} {c5:Nat} (hf:FgO w w2.heap.size f) (hg:w.grownBy w' (Value.ownBlock (.slice il.fA il.fn il.fc))) (hx:Ext w2 w') (ho:w'.ownsRow w2.heap.size 58 5 (.slice A5 (il.fn+1) c5) (il.fn+1) (recs fgC fs++fgC f)) :
  BSt w2 (w'.setCell ⟨gI,1,none⟩ (.slice A5 (il.fn+1) c5)) gI { il with fA:=A5,fn:=il.fn+1,fc:=c5 } (i+1) (fs++[f]) bl:=by
 have B1:=h.bi.grownOwn hg (own_blk_ne h.of h.bi (by decide));have hs:=gsCell (w:=w') gI 1 (u:=.slice A5 (il.fn+1) c5);have hb1:=h.ob.kept hg (own_ne h.ob h.of (by decide));refine⟨hx.grownBlk hs h.lo,B1.set_ 1 _,?_,?_,own_grown hb1 hs (own_blk_ne hb1 B1 (by decide)),by show il.fn+1=i+1;rw[h.fn],h.lo⟩
 ·show World.ownsRow _ _ _ 5 (.slice A5 (il.fn+1) c5) (il.fn+1) (recs fgC (fs++[f]))
  rw[recs_append,recs_one];exact own_grown ho hs (own_blk_ne ho B1 (by decide))
 ·intro q hq;have hk:∀q:Fg,FgO w w2.heap.size q→FgO (w'.setCell ⟨gI,1,none⟩ (.slice A5 (il.fn+1) c5)) w2.heap.size q:=fun q k=>(k.keep fun k2=>k2.own h.of hg (by decide) (by decide)).keep fun k2=>k2.far hs B1 (by decide) (by decide)
  rcases List.mem_append.1 hq with hq|hq
  ·exact hk q (h.fok q hq)
  ·obtain rfl:=List.mem_singleton.1 hq;exact hk q hf
theorem BSt.pushB (h:BSt w2 w gI il i fs bl) {b:Bool} {A5:Option Addr} {c5:Nat} (hg:w.grownBy w' (Value.ownBlock (.slice il.bA il.bn il.bc))) (hx:Ext w2 w') (ho:w'.ownsRow w2.heap.size 4 1 (.slice A5 (il.bn+1) c5) (il.bn+1) (boolL bl++[.bool b])) :
  BSt w2 (w'.setCell ⟨gI,2,none⟩ (.slice A5 (il.bn+1) c5)) gI { il with bA:=A5,bn:=il.bn+1,bc:=c5 } i fs (bl++[b]):=by
 have B1:=h.bi.grownOwn hg (own_blk_ne h.ob h.bi (by decide));have hs:=gsCell (w:=w') gI 2 (u:=.slice A5 (il.bn+1) c5);have hf1:=h.of.kept hg (own_ne h.of h.ob (by decide));refine⟨hx.grownBlk hs h.lo,B1.set_ 2 _,own_grown hf1 hs (own_blk_ne hf1 B1 (by decide)),?_,?_,h.fn,h.lo⟩
 ·exact fun q hq=>((h.fok q hq).keep fun k2=>k2.own h.ob hg (by decide) (by decide)).keep fun k2=>k2.far hs B1 (by decide) (by decide)
 ·show World.ownsRow _ _ _ 1 (.slice A5 (il.bn+1) c5) (il.bn+1) (boolL (bl++[b]))
  rw[show boolL (bl++[b])=boolL bl++[.bool b] by simp[boolL]];exact own_grown ho hs (own_blk_ne ho B1 (by decide))
end
structure WkIn (w0:World) (ns:List Nd) (av:List Int) (un:Nat→List Int) (K:Ck) (us:List Us) (hs:List Int):Prop where
 lt:LT w0 K.t ns av un
 ru:Rd w0 3 K.uA K.un (recs usC us)
 uok:∀u∈us,UsOk u
 rh:Rd w0 1 K.hA K.hn (ints hs)
 few:K.un≤1000000∧K.hn≤1000000
def UsedIs (w:World) (e:Ending) (w':World):Prop:=∃u:Us,e=.returned (.agg (usC u).toArray)∧UsOk u∧Ext w w'
theorem UsOk.zero:UsOk ⟨0,0,0⟩:=⟨by decide,by decide,by decide⟩
theorem usC_size (u:Us):(Tryz.prog.info? 120).map (·.size)=some (usC u).toArray.size:=by kernel_rfl
section
variable {w0 w:World} {ns:List Nd} {av:List Int} {un:Nat→List Int} {NW:Nat→Nat} {K:Ck} {F:Nat} {us:List Us} {hs:List Int}
theorem used22_any (I:WkIn w0 ns av un K us hs) (i:Nat) (hi:i≤1000000) (S:WkS w0 w ns NW K F) :
  Calls Tryz.prog 150 #[ptrV K.gW,.int .i64 i] w (UsedIs w):=by
 obtain⟨a,m,l,fA,fc,fs,BW,OF⟩:=S.st;have c5:=(BW.cell 5).trans (rfl:_=some (Value.slice K.uA K.un K.uc));have lW:=BW.lt;have hfu:=I.few.1;have HS:=AB S;clear OF S;go_enter Tryz.func150,Tryz.ntmps150;go_upto_if 11 with (fail);have BR:Blk (w.alloc (.cells #[.int .i64 0,.int .i64 0,.int .i64 0] 120)) w.heap.size 120 #[.int .i64 0,.int .i64 0,.int .i64 0]:=Blk.new _ _ _;have E:Ext w (w.alloc (.cells #[.int .i64 0,.int .i64 0,.int .i64 0] 120)):=(Ext.refl _).alloc _;replace BW:=BW.ext E;clear c5 lW;have c5:=(BW.cell 5).trans (rfl:_=some (Value.slice K.uA K.un K.uc));have lW:=BW.lt;generalize w.alloc (.cells #[.int .i64 0,.int .i64 0,.int .i64 0] 120)=w1 at *;obtain⟨g,hg⟩:∃g,w.heap.size=g:=⟨_,rfl⟩
 rw[hg] at BR ⊢;have HG:=AB hg;clear hg;by_cases hiu:i<K.un
 ·have hiI:(0:Int)≤(i:Int)∧(i:Int)<(K.un:Int):=by omega
  obtain⟨u,hu⟩:∃u,us[i]?=some u:=⟨_,AE (by have:=I.ru.recN usC_len (by omega);omega)⟩
  have HU:=AB (I.uok u (List.mem_of_getElem? hu));obtain⟨b,off,hA,lb,hm⟩:=((I.ru.ext (AA HS).ext).ext E).rec_ usC_len hu (by omega);rw[hA] at c5;have hcap:=AB hm;clear hm hu;go_upto_region 2 with fail
  iterate 19 go_step
  refine wpList_load_midg 120 (.tmp 17) rfl b (off+i*3) rfl rfl (usC u) _ (fun x v hv=>(AA hcap) x v hv) Tryz.underlying120 rfl (usC_size _) ?_;simp only[AC];refine wpList_store_blk rfl 120 (.tmp 4) (.tmp 18) rfl g rfl (usC u).toArray rfl 120 #[.int .i64 0,.int .i64 0,.int .i64 0] BR (usC_size _) rfl (by kernel_rfl) ?_;intro w2 B2 g2 z2;simp only[Act.put];go_wp2_with fail;refine bodyPost_ret (results_cellH rfl _ _ g 120 _ _ rfl B2 Tryz.underlying120 rfl (usC_size _)) rfl ?_;exact⟨u,rfl,AA HU,E.grown g2 (fun q e=>by have:=Option.some.inj e;have:=AA HG;omega)⟩
 ·have hiI:¬(i:Int)<(K.un:Int):=by omega
  have hib:decide (i<K.un)=false:=by simp;omega
  have cR:=BR.cell;have fR:=BR.frozen;have lR:=BR.lt;have hle:=AA HG;go_wp2_with fail;refine bodyPost_ret (results_cellH rfl _ _ g 120 _ _ rfl (((BR.set_ 0 _).set_ 1 _).set_ 2 _) Tryz.underlying120 rfl (by kernel_rfl)) rfl ?_;exact⟨⟨0,0,0⟩,rfl,UsOk.zero,((E.set (by simp;omega) _).set (by simp;omega) _).set (by simp;omega) _⟩
theorem high22_any (I:WkIn w0 ns av un K us hs) (i:Nat) (hi:i≤1000000) (S:WkS w0 w ns NW K F) :
  Calls Tryz.prog 158 #[ptrV K.gW,.int .i64 i] w (SomeI w):=by
 obtain⟨a,m,l,fA,fc,fs,BW,OF⟩:=S.st;have c6:=(BW.cell 6).trans (rfl:_=some (Value.slice K.hA K.hn K.hc));have lW:=BW.lt;have hfu:=I.few.2;by_cases hiu:i<K.hn
 ·have hiI:(0:Int)≤(i:Int)∧(i:Int)<(K.hn:Int):=by omega
  have hr:=I.rh.ext S.ext;obtain⟨z,hz⟩:∃u,hs[i]?=some u:=⟨_,AE (by have:=hr.len;rw[ints_len] at this;omega)⟩
  obtain⟨b,off,hA,lb,_⟩:=hr.at_ (by omega);rw[hA] at c6 hr;have q0:=hr.cellAt hiu (show (ints hs)[i]?=some (Value.int .i64 z) by rw[ints,List.getElem?_map,hz];rfl);have q1:=q0.2;clear q0 hz hr OF S hA;go_enter Tryz.func158,Tryz.ntmps158;go_wp2_with fail;go_ret;exact⟨_,rfl,Ext.refl _⟩
 ·have hiI:¬(i:Int)<(K.hn:Int):=by omega
  have hib:decide (i<K.hn)=false:=by simp;omega
  clear OF S;go_enter Tryz.func158,Tryz.ntmps158;go_wp2_with fail;go_ret;exact⟨_,rfl,Ext.refl _⟩
theorem mark22_any (S:WkS w0 w ns NW K F):Calls Tryz.prog 114 #[ptrV K.gW] w (SomeI w):=by
 obtain⟨a,m,l,fA,fc,fs,BW,OF⟩:=S.st;have c7:=(BW.cell 7).trans (rfl:_=some (Value.int .i64 a));have c8:=(BW.cell 8).trans (rfl:_=some (Value.int .i64 m));have c9:=(BW.cell 9).trans (rfl:_=some (Value.int .i64 l));have lW:=BW.lt;have cS:=fun w=>AB (show Calls Tryz.prog 151 #[.agg #[.int .i64 m,.int .i64 l]] w (SomeI w) from sum14_any ⟨m,l⟩ w)
 clear OF S;go_enter Tryz.func114,Tryz.ntmps114;go_upto_region 1 with fail;refine wp_region_ord [(1,0),(1,1),(1,2),(0,3),(1,4),(1,5),(1,6),(0,7),(2,8),(1,9),(1,10)] 11 (fun w'=>Ext w w') (by kernel_rfl) (by kernel_rfl) rfl (by kernel_rfl) ((Ext.refl _).drew) ?_;simp only[AD]
 iterate 8 ((first|refine ordQA ?_|refine ordQB ?_);simp only[AC])
 refine ord_keep ?_;go_wp2_with fail
 with_reducible refine (AA (cS _)).mono ?_
 rintro e w2 ⟨z,rfl,hx⟩;go_wp2_with fail;refine⟨(Ext.refl _).drew.trans hx,?_⟩
 iterate 2 ((first|refine ordQA ?_|refine ordQB ?_);simp only[AC])
 refine ord_nil ?_;go_wp2_with fail;go_ret;exact⟨_,rfl,(Ext.refl _).drew.trans hx⟩
end
end Go.Proofs.YtamldoocjjdidaaGreat
