import Derived.Test.YtamldoocjjdidaaGreatMHvK
namespace Go.Proofs.YtamldoocjjdidaaGreat
open Go.RowKit
set_option maxRecDepth 100000
set_option maxHeartbeats 64000000
structure Ik where
 (gH gF gB gL n:Nat) (Ar:Option Addr) (zs:List Int) (lo hi:Nat)
structure RoS (w:World) (K:Ik):Prop where
 rd:Rd w 1 K.Ar K.zs.length (ints K.zs)
 bd:0<K.zs.length→∃b off,K.Ar=some ⟨b,off,none⟩∧K.lo≤b∧b<K.hi
theorem RoS.ext {w w':World} {K:Ik} (h:RoS w K) (hx:Ext w w'):RoS w' K:=⟨h.rd.ext hx,h.bd⟩
theorem RoS.grown {w w':World} {K:Ik} {q:Nat} (h:RoS w K) (hg:w.grownBy w' (some q)) (hq:q<K.lo∨K.hi≤q):RoS w' K:=by
 refine⟨?_,h.bd⟩
 rcases Nat.eq_zero_or_pos K.zs.length with h0|h0
 ·exact⟨h.rd.len,fun hn=>absurd hn (by omega)⟩
 ·obtain⟨b,off,hA,h1,h2⟩:=h.bd h0;refine h.rd.grown hg (fun b' o' e e2=>?_);rw[hA] at e;injection e with e;injection e with e;have:=Option.some.inj e2;omega
theorem FgO.far {w w':World} {B q:Nat} {f:Fg} {T:TypeId} {cs:Array Value} (h:FgO w B f) (hg:w.grownBy w' (some q)) (hq:Blk w q T cs) (h1:73≠T) (h2:75≠T):FgO w' B f:=h.keep fun k=>k.far hg hq h1 h2
theorem IlOk.ext {w w':World} {B n:Nat} {il:Il} (h:IlOk w B n il) (hx:Ext w w'):IlOk w' B n il:=
 ⟨h.nodes.imp fun _ k=>⟨k.1.ext hx,k.2⟩,h.new,h.nn,h.fn,h.bn,h.frags.imp fun _ k=>⟨own_ext k.1 hx,fun f hf=>(k.2 f hf).ext hx⟩,h.bey.imp fun _ k=>own_ext k hx,h.high,h.lines.ext hx⟩
structure IsS (w1 w:World) (K:Ik):Prop where
 ext:Ext w1 w
 hs:∃hs:List Int,hs.length=K.n∧Blk w K.gH 2 (ints hs).toArray
 fr:∃fs:List Fg,fs.length=K.n∧(∀f∈fs,FgO w w1.heap.size f)∧Blk w K.gF 58 (recs fgC fs).toArray
 bb:∃bl:List Bool,bl.length=K.n∧Blk w K.gB 4 (boolL bl).toArray
 ls:∃vs:List Value,vs.length=K.n∧(∀v∈vs,LinesO w w1.heap.size v)∧Blk w K.gL 56 vs.toArray
 ro:RoS w K
 lo:w1.heap.size≤K.gH∧w1.heap.size≤K.gF∧w1.heap.size≤K.gB∧w1.heap.size≤K.gL
 hi:K.gH<K.lo∧K.gF<K.lo∧K.gB<K.lo∧K.hi≤K.gL
section
variable {w1 w w':World} {K:Ik}
theorem IsS.step (h:IsS w1 w K) (hx:Ext w w'):IsS w1 w' K:=
 ⟨h.ext.trans hx,h.hs.imp fun _ q=>⟨q.1,q.2.ext hx⟩,h.fr.imp fun _ q=>⟨q.1,fun f hf=>(q.2.1 f hf).ext hx,q.2.2.ext hx⟩,h.bb.imp fun _ q=>⟨q.1,q.2.ext hx⟩,h.ls.imp fun _ q=>⟨q.1,fun v hv=>(q.2.1 v hv).ext hx,q.2.2.ext hx⟩,h.ro.ext hx,h.lo,h.hi⟩
theorem IsS.far (h:IsS w1 w K) {q:Nat} {T:TypeId} {cs:Array Value} (hq:Blk w q T cs) (hg:w.grownBy w' (some q)) (hlo:w1.heap.size≤q) (hr:q<K.lo∨K.hi≤q)
  (h1:2≠T) (h2:58≠T) (h3:4≠T) (h4:56≠T) (h5:73≠T) (h6:75≠T):IsS w1 w' K:=
 ⟨h.ext.grownBlk hg hlo,h.hs.imp fun _ k=>⟨k.1,k.2.grownNe hg (blk_ne k.2 hq h1)⟩,h.fr.imp fun _ k=>⟨k.1,fun f hf=>(k.2.1 f hf).far hg hq h5 h6,k.2.2.grownNe hg (blk_ne k.2.2 hq h2)⟩,h.bb.imp fun _ k=>⟨k.1,k.2.grownNe hg (blk_ne k.2 hq h3)⟩,
  h.ls.imp fun _ k=>⟨k.1,fun v hv=>(k.2.1 v hv).far hg hq h5 h6,k.2.2.grownNe hg (blk_ne k.2.2 hq h4)⟩,h.ro.grown hg hr,h.lo,h.hi⟩
theorem IsS.setH (h:IsS w1 w K) (i:Nat) (z:Int):IsS w1 (w.setCell ⟨K.gH,i,none⟩ (.int .i64 z)) K:=by
 have hg:=gsCell (w:=w) K.gH i (u:=.int .i64 z);obtain⟨hs,hl,hb⟩:=h.hs;have h3:=hb.set_ i (.int .i64 z);rw[List.setIfInBounds_toArray,←ints_set] at h3;exact⟨h.ext.grownBlk hg h.lo.1,⟨_,by rw[List.length_set];exact hl,h3⟩,h.fr.imp fun _ k=>⟨k.1,fun f hf=>(k.2.1 f hf).far hg hb (by decide) (by decide),k.2.2.grownNe hg (blk_ne k.2.2 hb (by decide))⟩,h.bb.imp fun _ k=>⟨k.1,k.2.grownNe hg (blk_ne k.2 hb (by decide))⟩,
  h.ls.imp fun _ k=>⟨k.1,fun v hv=>(k.2.1 v hv).far hg hb (by decide) (by decide),k.2.2.grownNe hg (blk_ne k.2.2 hb (by decide))⟩,h.ro.grown hg (.inl h.hi.1),h.lo,h.hi⟩
theorem IsS.setB (h:IsS w1 w K) (i:Nat) (b:Bool):IsS w1 (w.setCell ⟨K.gB,i,none⟩ (.bool b)) K:=by
 have hg:=gsCell (w:=w) K.gB i (u:=.bool b);obtain⟨bl,hl,hb⟩:=h.bb;have h3:=hb.set_ i (.bool b);rw[boolL_set'] at h3;exact⟨h.ext.grownBlk hg h.lo.2.2.1,h.hs.imp fun _ k=>⟨k.1,k.2.grownNe hg (blk_ne k.2 hb (by decide))⟩,h.fr.imp fun _ k=>⟨k.1,fun f hf=>(k.2.1 f hf).far hg hb (by decide) (by decide),k.2.2.grownNe hg (blk_ne k.2.2 hb (by decide))⟩,⟨_,by rw[List.length_set];exact hl,h3⟩,
  h.ls.imp fun _ k=>⟨k.1,fun v hv=>(k.2.1 v hv).far hg hb (by decide) (by decide),k.2.2.grownNe hg (blk_ne k.2.2 hb (by decide))⟩,h.ro.grown hg (.inl h.hi.2.2.1),h.lo,h.hi⟩
theorem IsS.putB (h:IsS w1 w K) (hg:w.grownBy w' (some K.gB)) {bl':List Bool} (hl':bl'.length=K.n) (hb':Blk w' K.gB 4 (boolL bl').toArray):IsS w1 w' K:=by
 obtain⟨bl,hl,hb⟩:=h.bb;exact⟨h.ext.grownBlk hg h.lo.2.2.1,h.hs.imp fun _ k=>⟨k.1,k.2.grownNe hg (blk_ne k.2 hb (by decide))⟩,h.fr.imp fun _ k=>⟨k.1,fun f hf=>(k.2.1 f hf).far hg hb (by decide) (by decide),k.2.2.grownNe hg (blk_ne k.2.2 hb (by decide))⟩,⟨bl',hl',hb'⟩,
  h.ls.imp fun _ k=>⟨k.1,fun v hv=>(k.2.1 v hv).far hg hb (by decide) (by decide),k.2.2.grownNe hg (blk_ne k.2.2 hb (by decide))⟩,h.ro.grown hg (.inl h.hi.2.2.1),h.lo,h.hi⟩
theorem boolL_set1 (bl:List Bool) (i:Nat) (b:Bool):(boolL bl).set i (.bool b)=boolL (bl.set i b):=by simp[boolL,List.map_set]
theorem IsS.setL (h:IsS w1 w K) (i:Nat) {v:Value} (hv:LinesO w w1.heap.size v):IsS w1 (w.setCell ⟨K.gL,i,none⟩ v) K:=by
 have hg:=gsCell (w:=w) K.gL i (u:=v);obtain⟨vs,hl,hk,hb⟩:=h.ls;have h3:=hb.set_ i v;rw[List.setIfInBounds_toArray] at h3;refine⟨h.ext.grownBlk hg h.lo.2.2.2,h.hs.imp fun _ k=>⟨k.1,k.2.grownNe hg (blk_ne k.2 hb (by decide))⟩,h.fr.imp fun _ k=>⟨k.1,fun f hf=>(k.2.1 f hf).far hg hb (by decide) (by decide),k.2.2.grownNe hg (blk_ne k.2.2 hb (by decide))⟩,h.bb.imp fun _ k=>⟨k.1,k.2.grownNe hg (blk_ne k.2 hb (by decide))⟩,
  ⟨_,by rw[List.length_set];exact hl,fun u hu=>?_,h3⟩,h.ro.grown hg (.inr h.hi.2.2.2),h.lo,h.hi⟩
 rcases List.mem_or_eq_of_mem_set hu with h1|h1
 ·exact (hk u h1).far hg hb (by decide) (by decide)
 ·rw[h1];exact hv.far hg hb (by decide) (by decide)
theorem IsS.setF (h:IsS w1 w K) {i:Nat} (hi:i<K.n) {f:Fg} (hf:FgO w w1.heap.size f):IsS w1 (w.setCells K.gF (i*5) (fgC f)) K:=by
 have hg:=gsGrown K.gF (fgC f) (i*5) w;obtain⟨fs,hl,hk,hb⟩:=h.fr;refine⟨h.ext.grownBlk hg h.lo.2.1,h.hs.imp fun _ k=>⟨k.1,k.2.grownNe hg (blk_ne k.2 hb (by decide))⟩,⟨fs.set i f,by rw[List.length_set];exact hl,fun u hu=>?_,hb.putRec fgC_len (by omega) f⟩,h.bb.imp fun _ k=>⟨k.1,k.2.grownNe hg (blk_ne k.2 hb (by decide))⟩,
  h.ls.imp fun _ k=>⟨k.1,fun v hv=>(k.2.1 v hv).far hg hb (by decide) (by decide),k.2.2.grownNe hg (blk_ne k.2.2 hb (by decide))⟩,h.ro.grown hg (.inl h.hi.2.1),h.lo,h.hi⟩
 rcases List.mem_or_eq_of_mem_set hu with h1|h1
 ·exact (hk u h1).far hg hb (by decide) (by decide)
 ·rw[h1];exact hf.far hg hb (by decide) (by decide)
theorem IsS.setFL (h:IsS w1 w K) {i:Nat} (hi:i<K.n) {A:Option Addr} {m c:Nat} (hv:LinesO w w1.heap.size (.slice A m c)):IsS w1 (w.setCell ⟨K.gF,i*5+4,none⟩ (.slice A m c)) K:=by
 have hg:=gsCell (w:=w) K.gF (i*5+4) (u:=.slice A m c);obtain⟨fs,hl,hk,hb⟩:=h.fr;obtain⟨f,hf⟩:∃f,fs[i]?=some f:=⟨_,AE (by omega)⟩
 have h3:=hb.set_ (i*5+4) (.slice A m c);rw[List.setIfInBounds_toArray,recs_set fgC_len (show 4<5 by decide) hf (show (fgC f).set 4 (.slice A m c)=fgC ⟨f.x,f.y,f.w,f.h,A,m,c⟩ from rfl)] at h3;refine⟨h.ext.grownBlk hg h.lo.2.1,h.hs.imp fun _ k=>⟨k.1,k.2.grownNe hg (blk_ne k.2 hb (by decide))⟩,⟨_,by rw[List.length_set];exact hl,fun u hu=>?_,h3⟩,h.bb.imp fun _ k=>⟨k.1,k.2.grownNe hg (blk_ne k.2 hb (by decide))⟩,
  h.ls.imp fun _ k=>⟨k.1,fun v hv=>(k.2.1 v hv).far hg hb (by decide) (by decide),k.2.2.grownNe hg (blk_ne k.2.2 hb (by decide))⟩,h.ro.grown hg (.inl h.hi.2.1),h.lo,h.hi⟩
 rcases List.mem_or_eq_of_mem_set hu with h1|h1
 ·exact (hk u h1).far hg hb (by decide) (by decide)
 ·rw[h1];have h4:=hk f (List.mem_of_getElem? hf);exact⟨h4.x,h4.y,h4.w,h4.h,hv.far hg hb (by decide) (by decide)⟩
end
theorem ll_all:(Tryz.prog.info? 56).map (fun i=>(i.zero,i.size,i.bytes))=some (some (.slice none 0 0),1,24):=by kernel_rfl
theorem i64_all:(Tryz.prog.info? 2).map (fun i=>(i.zero,i.size,i.bytes))=some (some (.int .i64 0),1,8):=by kernel_rfl
theorem make_ll (n:Nat) (hn:n≤1000000) (w:World):(Instr.makeSlice 115 (.int .i64 (n:Int)) (.int .i64 (n:Int))).run Tryz.prog w=.ok (.slice (some ⟨w.heap.size,0,none⟩) n n) (w.alloc (.cells (List.replicate n (Value.slice none 0 0)).toArray 56)):=by
 obtain⟨i0,hi0,hz0,hz1,hz2⟩:=info_parts ll_all;have:=make_n (P:=Tryz.prog) 115 56 i0 _ Tryz.underlying115 hi0 hz0 hz1 rfl n (by rw[hz2];omega) (by omega) w
 simpa using this
theorem make_ii (n:Nat) (hn:n≤1000000) (w:World):(Instr.makeSlice 23 (.int .i64 (n:Int)) (.int .i64 (n:Int))).run Tryz.prog w=.ok (.slice (some ⟨w.heap.size,0,none⟩) n n) (w.alloc (.cells (ints (List.replicate n 0)).toArray 2)):=by
 obtain⟨i0,hi0,hz0,hz1,hz2⟩:=info_parts i64_all;have:=make_n (P:=Tryz.prog) 23 2 i0 _ Tryz.underlying23 hi0 hz0 hz1 rfl n (by rw[hz2];omega) (by omega) w
 simpa[ints] using this
theorem roots_mem {ns:List Nd} {z:Int} {k:Nat} (h:z∈rootsN ns k):∃i:Nat,z=(i:Int)∧i<k∧rootN ns i=true:=by
 unfold rootsN at h;obtain⟨i,hi,rfl⟩:=List.mem_map.1 h;obtain⟨h1,h2⟩:=List.mem_filter.1 hi;exact⟨i,rfl,List.mem_range.1 h1,h2⟩
section
variable (t:Tr) (ns:List Nd) (av:List Int) (un:Nat→List Int)
def IslesIs (w:World) (n:Nat) (e:Ending) (w':World):Prop:=∃(gH gF:Nat) (z:Int) (fs:List Fg),e=.returned (.tuple #[.slice (some ⟨gH,0,none⟩) n n,.slice (some ⟨gF,0,none⟩) n n,.int .i64 z])∧(∀f∈fs,FgO w' w.heap.size f)∧Rd w' 5 (some ⟨gF,0,none⟩) n (recs fgC fs)∧w.heap.size≤gF∧Ext w w'
theorem isles24_any (Ac Au:Option Addr) (cc cu:Nat) (cs:List Ct) (us:List Us) (w:World) (h:LT w t ns av un) (rc:Rd w 4 Ac t.nl (recs ctC cs)) (hcs:CtsOk cs) (ru:Rd w 3 Au t.nl (recs usC us)) (hus:∀u∈us,UsOk u) :
  Calls Tryz.prog 38 #[.agg t.cs,.slice Ac t.nl cc,.slice Au t.nl cu] w (IslesIs w t.nl):=by
 have hnl:=h.tr.nodes.nlen;have few:=h.few;have hpos:=h.ok.pos;have H:=AB h;have HRC:=AB rc;have HCS:=AB hcs;have HRU:=AB ru;have HUS:=AB hus;have cR:=fun w h=>AB (refroots_new t ns w h (by omega))
 have mh:=make_ii t.nl (by omega);have mf:=make_recs fgC_len (by omega) zFg Tryz.underlying28 fg_all5 (by omega) t.nl (by omega);have mb:=make_bo t.nl (by omega);have ml:=make_ll t.nl (by omega);have hn0:(0:Int)<(t.nl:Int)∧(t.nl:Int)≤300:=by omega
 clear h rc hcs ru hus;go_enter Tryz.func38,Tryz.ntmps38;go_upto_region 5 with fail;have E0:=AB ((Ext.refl w).alloc (.cells t.cs 25));have BT0:=Blk.new w 25 t.cs;have hs0:=World.size_alloc w (.cells t.cs 25);generalize w.alloc (.cells t.cs 25)=w0 at *;generalize hw1:World.alloc (World.alloc (World.alloc w0 _) _) _=w1;obtain⟨gT,hgT⟩:∃g,w.heap.size=g:=⟨_,rfl⟩
 have HGT:=AB hgT;rw[hgT] at hs0;have BH:Blk w1 (gT+1) 2 (ints (List.replicate t.nl 0)).toArray:=by rw[←hw1,←hs0];exact ((Blk.new _ _ _).alloc _).alloc _
 have BF:Blk w1 (gT+1+1) 58 (recs fgC (List.replicate t.nl zFg)).toArray:=by rw[←hw1,←hs0];exact (Blk.new1 _ _ _ _).alloc _
 have BB:Blk w1 (gT+1+1+1) 4 (boolL (List.replicate t.nl false)).toArray:=by rw[←hw1,←hs0];exact Blk.new2 _ _ _ _ _
 have E1:=AB (show Ext w0 w1 by rw[←hw1];exact (((Ext.refl _).alloc _).alloc _).alloc _);rw[hgT] at BT0 ⊢;have BT:=BT0.ext (AA E1);have hz1:=AB (show w1.heap.size=gT+1+1+1+1 by rw[←hw1];simp[hs0]);clear hw1 mh mf mb hgT;have c0:=(BT.cell 0).trans (rfl:_=some (Value.slice t.na t.nl t.nc));have c1:=(BT.cell 1).trans (rfl:_=some (Value.slice t.aa t.al t.ac));have c2:=(BT.cell 2).trans (rfl:_=some (Value.int .i64 t.view));have lT:=BT.lt;go_wp2_with fail
 with_reducible refine (AA (cR _ ((AA H).ext ((AA E0).trans (AA E1))).tr.nodes)).mono ?_
 rintro e w2 ⟨Ar,cr,rfl,RR,hx,hfr⟩;have HX2:=AB hx;have HFR:=AB hfr;replace BH:=BH.ext hx;replace BF:=BF.ext hx;replace BB:=BB.ext hx;have HBT0:=AB BT0;obtain⟨zs,hzs⟩:∃l,rootsN ns ns.length=l:=⟨_,rfl⟩
 have HZ:=AB (fun z (hz:z∈zs)=>roots_mem (show z∈rootsN ns ns.length by rw[hzs];exact hz));have hzl:zs.length≤t.nl:=by rw[←hzs,←hnl];exact rootsN_len ns _
 rw[hzs] at RR ⊢;clear hx hfr cR c0 c1 c2 lT BT BT0 hzs;go_upto_region 7 with fail;have BL:Blk (w2.alloc (.cells (Array.replicate t.nl (Value.slice none 0 0)) 56)) w2.heap.size 56 (List.replicate t.nl (Value.slice none 0 0)).toArray:=by
  have:=Blk.new w2 56 (Array.replicate t.nl (Value.slice none 0 0))
  simpa using this
 have hx:=(Ext.refl w2).alloc (.cells (Array.replicate t.nl (Value.slice none 0 0)) 56);have S:IsS w0 (w2.alloc (.cells (Array.replicate t.nl (Value.slice none 0 0)) 56)) ⟨gT+1,gT+1+1,gT+1+1+1,w2.heap.size,t.nl,Ar,zs,w1.heap.size,w2.heap.size⟩:=
  ⟨((AA E1).trans (AA HX2)).trans hx,⟨_,by simp,BH.ext hx⟩,⟨_,by simp,fun f hf=>by rw[(List.mem_replicate.1 hf).2];exact⟨InM0,InM0,InM0,InM0,LinesO.nil _ _⟩,BF.ext hx⟩,⟨_,by simp,BB.ext hx⟩,⟨_,by simp,fun v hv=>by rw[(List.mem_replicate.1 hv).2];exact LinesO.nil _ _,BL⟩,
   ⟨RR.ext hx,fun h0=>by obtain⟨b,off,e,hb,_⟩:=RR.at_ h0;exact⟨b,off,e,(AA HFR) b off e,hb⟩⟩,by simp only[hs0];have:=(AA HX2).size;have:=AA hz1;omega,by have:=AA hz1;simp only;omega⟩
 generalize w2.alloc (.cells (Array.replicate t.nl (Value.slice none 0 0)) 56)=w3 at *;generalize hK:(⟨gT+1,gT+1+1,gT+1+1+1,w2.heap.size,t.nl,Ar,zs,w1.heap.size,w2.heap.size⟩:Ik)=K at S;have k1:gT+1=K.gH:=by rw[←hK]
 have k2:gT+1+1=K.gF:=by rw[←hK]
 have k3:gT+1+1+1=K.gB:=by rw[←hK]
 have k4:w2.heap.size=K.gL:=by rw[←hK]
 have k5:t.nl=K.n:=by rw[←hK]
 have k6:Ar=K.Ar:=by rw[←hK]
 have k7:zs=K.zs:=by rw[←hK]
 rw[k3,k2,k1,k4];have HK5:=AB k5;have HK6:=AB k6;have HK7:=AB k7;have HLt:=AB (show gT<w0.heap.size by omega);have hiK:K.hi=w2.heap.size:=by rw[←hK]
 have HHI:=AB (show K.hi=K.gL by rw[hiK,k4]);clear hK k1 k2 k3 k4 k5 k6 k7 BH BF BB BL RR hs0 hx hiK ml hz1;have HIs:=AB (fun r (hr:r<ns.length) (hroot:rootN ns r=true) (hs:List Int) wq h ru rc rh=>island23_any (un:=un) (av:=av) (us:=us) (cs:=cs) (hs:=hs) t r hr hroot Au Ac (some ⟨K.gH,0,none⟩) t.nl cu t.nl cc t.nl t.nl (w:=wq) h ru (AA HUS) rc (AA HCS) rh (by omega) (by omega));go_wp2_with fail;go_loopw [15] (fun v15 wq=>∃d:Nat,v15=.int .i64 ((d:Int)-1)∧d≤zs.length∧IsS w0 wq K) (fun v15 _=>(intOf v15+1).toNat)
 case atStart=>exact⟨zs.length,rfl,by omega,S⟩
 case round=>
  clear S;obtain⟨d,rfl,hd,S⟩:=hrel
  rcases Nat.eq_zero_or_pos d with h0|h0
  ·as_aux_lemma=>
   subst h0;have EWr:=AB S.ext;go_upto_region 20 with fail;go_step;refine wpList_alloc_var rfl 120 rfl (usC ⟨0,0,0⟩).toArray (by kernel_rfl) ?_;intro w4 BV hx zx;simp only[AC];have HgU:=AB (show w0.heap.size≤wr.heap.size∧K.hi≤wr.heap.size by have h1:=S.ext.size;have h2:=S.ls.elim fun _ q=>q.2.2.lt;have:=AA HHI;omega);replace S:=S.step hx;generalize wr.heap.size=gU at *;clear hx zx;have hlen:(0:Int)<(t.nl:Int):=hn0.1;obtain⟨u,hu⟩:∃u,us[0]?=some u:=⟨_,AE (by have:=(AA HRU).recN usC_len (by omega);omega)⟩
   obtain⟨bu,ou,hAu,lbu,hmu⟩:=((AA HRU).ext ((AA E0).trans S.ext)).rec_ usC_len hu (by omega);have HMU:=AB hmu;clear hmu hu;subst hAu;go_upto_region 22 with fail
   iterate 7 go_step
   refine wpList_load_midg 120 (.tmp 119) rfl bu ou rfl rfl (usC u) _ (fun y v hv=>by have h1:=(AA HMU) y v hv;rwa [show ou+0*3+y=ou+y by omega] at h1) Tryz.underlying120 rfl (by kernel_rfl) ?_;simp only[AC];refine wpList_store_blk rfl 120 (.tmp 19) (.tmp 120) rfl gU rfl (usC u).toArray rfl 120 (usC ⟨0,0,0⟩).toArray BV (usC_sz _) rfl (by kernel_rfl) ?_;intro w5 B5 g5 z5;simp only[Act.put];replace S:=S.far BV g5 (AA HgU).1 (.inr (AA HgU).2) (by decide) (by decide) (by decide) (by decide) (by decide) (by decide);clear BV g5 z5 lbu HMU;have BTr:=(AA HBT0).ext S.ext;have c0:=(BTr.cell 0).trans (rfl:_=some (Value.slice t.na t.nl t.nc));have c1:=(BTr.cell 1).trans (rfl:_=some (Value.slice t.aa t.al t.ac));have c2:=(BTr.cell 2).trans (rfl:_=some (Value.int .i64 t.view));have lT:=BTr.lt;have v0:=(B5.cell 0).trans (rfl:_=some (Value.int .i64 u.w));have v1:=(B5.cell 1).trans (rfl:_=some (Value.int .i64 u.l));have v2:=(B5.cell 2).trans (rfl:_=some (Value.int .i64 u.r));have lU:=B5.lt;obtain⟨hs,hhl,BHr⟩:=S.hs;obtain⟨z0,hz0⟩:∃v,hs[0]?=some v:=⟨_,AE (by have:=AA HK5;omega)⟩
   have kH:=(BHr.cell 0).trans (show _=some (Value.int .i64 z0) by rw[List.getElem?_toArray,ints,List.getElem?_map,hz0];rfl);have lH:=BHr.lt;have cF1:=fun w h=>AB (show Calls Tryz.prog 57 #[.agg t.cs,.agg #[.int .i64 u.w,.int .i64 u.l,.int .i64 u.r],.int .i64 z0] w (FragB w) from first24_any t ns av un u z0 w h)
   clear BTr B5 hz0 BHr hhl hs;go_upto_region 23 with fail;refine wp_region_flt [(0,0),(0,1),(1,2),(1,3),(0,4)] [9] [(2,5),(1,6),(1,7),(1,8)] [(2,10),(1,11)] (fun _ v w'=>∃g,v=.pointer (some ⟨g,0,none⟩)∧w5.heap.size≤g∧Blk w' g 58 (fgC zFg).toArray) (by kernel_rfl) (by kernel_rfl) (by kernel_rfl) (fun j v w w' h hx=>by obtain⟨g,h1,h2,h3⟩:=h;exact⟨g,h1,h2,h3.ext hx⟩) ?_;simp only[AD]
   iterate 5 ((first|refine ordQA ?_|refine ordQB ?_);simp only[AC])
   refine ord_nil ?_;clear c0 c1 c2 lT v0 v1 v2 lU kH lH;refine⟨fun j hj=>?_,?_⟩
   ·obtain rfl:=List.mem_singleton.1 hj;refine⟨_,rfl,rfl,fun w' hx hW=>⟨.pointer (some ⟨w'.heap.size,0,none⟩),w'.alloc (.cells (fgC zFg).toArray 58),?_,(Ext.refl _).alloc _,_,rfl,hW.size,Blk.new _ _ _⟩⟩;go_simp;rfl
   ·refine flt_keep (fun w13 hT hW=>?_);have HW:=AB hW;clear hT hW;go_wp2_with fail
    with_reducible refine (AA (cF1 _ ((AA H).ext (((AA E0).trans S.ext).trans (AA HW))))).mono ?_
    rintro e w14 ⟨f0,f1,f2,f3,cb,rfl,hfo,hx⟩;have HX:=AB hx;have HFO:=AB hfo;replace HW:=AB ((AA HW).trans hx);clear hx hfo cF1;go_wp2_with fail;refine⟨AA HX,?_⟩;clear HX
    iterate 3 (
     (first
      |(refine flt_pure (v:=?_) ?_ (fun w'=>?_) ?_;rotate_left;rfl;(focus (go_simp;rfl)))
      |(refine flt_hold (v:=?_) ?_ (fun w' hI=>?_) ?_;rotate_left;rfl;(focus (have hc:=hI.cells.1;go_simp;rfl))))
     simp only[AC])
    refine flt_nil ?_;intro w17 vs hT hR;obtain⟨gV,hv,hlo,BF⟩:=hR 9 (List.mem_singleton.2 rfl);replace HW:=AB ((AA HW).trans hT);clear hT hR
    show wpOrdL _ _ _ _ _ (Act.put _ (some 20) (vs 9)) _
    rw[hv];clear hv vs;simp only[AC];refine ord_keep ?_;refine wpList_store_blk rfl 58 (.tmp 20) (.tmp 128) rfl gV rfl (fgC ⟨f0,f1,f2,f3,none,0,0⟩).toArray rfl 58 (fgC zFg).toArray BF (fgC_size _) rfl (by kernel_rfl) ?_;clear BF;intro w18 BV g18 z18;have hx:=(AA HW).grown g18 (fun q e=>by have:=Option.some.inj e;omega);clear g18 z18 HW;refine⟨rfl,hx,?_⟩;simp only[Act.put]
    iterate 1 ((first|refine ordQA ?_|refine ordQB ?_);simp only[AC])
    refine ord_nil ?_;replace S:=S.step hx;clear hx;obtain⟨fs0,hfs0,-,B0⟩:=S.fr;have HT:=AB (B0.recThere fgC_len (i:=0) (by have:=AA HK5;omega));clear B0 hfs0 fs0;go_upto_region 24 with fail
    iterate 4 go_step
    refine wpList_load_blk rfl 58 (.tmp 20) rfl gV rfl 58 (fgC ⟨f0,f1,f2,f3,none,0,0⟩).toArray _ BV Tryz.underlying58 rfl (fgC_size _) ?_;simp only[AC]
    iterate 3 go_step
    refine wpList_store_mid rfl 58 (.tmp 132) (.tmp 131) rfl K.gF (0*5) (fgC ⟨f0,f1,f2,f3,none,0,0⟩).toArray rfl rfl (AA HT) (fgC_size _) (all_oneCell_toArray (fgC_one _)) ?_;simp only[Act.put];replace S:=S.setF (i:=0) (f:=⟨f0,f1,f2,f3,none,0,0⟩) (by have:=AA HK5;omega) ⟨(AA HFO).1,(AA HFO).2.1,(AA HFO).2.2.1,(AA HFO).2.2.2,LinesO.nil _ _⟩;clear HT BV hlo;generalize World.setCells w18 K.gF (0*5) _=w19 at *;obtain⟨bl,hbl,BBr⟩:=S.bb;obtain⟨vb,hvb⟩:∃v,bl[0]?=some v:=⟨_,AE (by have:=AA HK5;omega)⟩
    have kB:=BBr.bool hvb;have lB:=BBr.lt;have fB:=BBr.frozen 0;have HSC:=AB (fun b=>S.setB 0 b);clear hvb BBr hbl S;go_upto_region 25 with fail;go_cut [] from 115 to 164 (fun wx=>IsS w0 wx K)
    case first=>
     as_aux_lemma=>
     cases vb
     all_goals
      go_wp2_with fail;go_meet
      case rel=>exact (AA HSC) _
    case rest=>
     as_aux_lemma=>
     clear HSC kB lB fB;go_wp2_with fail;go_loopw [22] (fun v22 wq=>∃k:Nat,v22=.int .i64 k∧k≤zs.length∧IsS w0 wq K) (fun v22 _=>zs.length-(intOf v22).toNat)
     case atStart=>exact⟨0,rfl,by omega,hcut⟩
     case round=>
      clear hcut;obtain⟨k,rfl,hk,S⟩:=hrel;by_cases hkz:k<zs.length
      ·as_aux_lemma=>
       have hkI:(0:Int)≤(k:Int)∧(k:Int)<(zs.length:Int):=by omega
       obtain⟨z,hz⟩:∃z,zs[k]?=some z:=⟨_,AE hkz⟩
       obtain⟨r,rfl,hr,-⟩:=(AA HZ) z (List.mem_of_getElem? hz);have hrI:(0:Int)≤(r:Int)∧(r:Int)<(t.nl:Int):=by omega
       have hrK:r<K.n:=by have:=AA HK5;omega
       have rz:=S.ro.rd;rw[←AA HK6,←AA HK7] at rz;obtain⟨ba,oa,hAr,la,-⟩:=rz.at_ (by omega);have q1:wr.cell? ⟨ba,oa+k,none⟩=some (.int .i64 (r:Int)):=by
        rw[hAr] at rz;exact (rz.cellAt hkz (show (ints zs)[k]?=some (Value.int .i64 (r:Int)) by rw[ints,List.getElem?_map,hz];rfl)).2
       subst hAr;obtain⟨vs,hvl,hvo,BLr⟩:=S.ls;obtain⟨vl,hvl2⟩:∃v,vs[r]?=some v:=⟨_,AE (by omega)⟩
       have hlo:=hvo vl (List.mem_of_getElem? hvl2);obtain⟨Al,ml,cl,hAl⟩:∃A m c,vl=.slice A m c:=by obtain⟨A,m,c,_,h1,_⟩:=hlo;exact⟨A,m,c,h1⟩
       subst hAl;have kL:=(BLr.cell r).trans (show _=some (Value.slice Al ml cl) by rw[List.getElem?_toArray];exact hvl2);have lL:=BLr.lt;obtain⟨fs0,hfs0,-,B0⟩:=S.fr;obtain⟨f,hf⟩:∃f,fs0[r]?=some f:=⟨_,AE (by omega)⟩
       have kF:=B0.recAt fgC_len hf (j:=4) (show (fgC f)[4]?=some (Value.slice f.lA f.ln f.lc) from rfl);have lF:=B0.lt;have fF:=B0.frozen (r*5+4);have HS2:=AB ((S.setFL hrK hlo).step (Ext.refl _).drew);clear rz hz hvl hvo BLr hvl2 hlo hfs0 B0 hf S;go_upto_region 29 with fail;refine wp_region_ord [(1,0),(1,1),(1,2),(1,3),(0,4),(1,5),(1,6),(1,7),(1,8),(0,9),(1,10),(0,11),(1,12),(1,13),(3,14)] 14 (fun w'=>Ext wr w') (by kernel_rfl) (by kernel_rfl) rfl (by kernel_rfl) ((Ext.refl _).drew) ?_;simp only[AD]
       iterate 14 ((first|refine ordQA ?_|refine ordQB ?_);simp only[AC])
       refine ord_last ?_;go_wp2_with fail;refine ord_nil ?_;clear q1 la kL lL kF lF fF;go_wp2_with fail;go_roundw
       case rel=>exact⟨k+1,by go_num,by omega,AA HS2⟩
       case measure=>simp[intOf]<;>omega
      ·as_aux_lemma=>
       have hkI:¬(k:Int)<(zs.length:Int):=by omega
       obtain⟨bl,hbl,BBr⟩:=S.bb;have cL:=fun w rb=>AB (least24_any (some ⟨K.gB,0,none⟩) t.nl t.nl bl w rb (by omega))
       have RB:Rd wr 1 (some ⟨K.gB,0,none⟩) t.nl (boolL bl):=BBr.rdk (n:=t.nl) (k:=1) (by simp[boolL,hbl];exact (AA HK5).symm);have EWf:=AB ((AA E0).trans S.ext);clear hbl BBr;go_wp2_with fail
       with_reducible refine (AA (cL _ RB)).mono ?_
       rintro e w25 ⟨z,rfl,hx⟩;replace S:=S.step hx;have hE:=AB ((AA E0).trans S.ext);clear hx cL RB;go_wp2_with fail
       go_ret3
       obtain⟨fs0,hfs0,hfo,B0⟩:=S.fr;have hw0:=(AA E0).size;exact⟨K.gH,K.gF,z,fs0,rfl,fun f hf=>(hfo f hf).mono hw0,by rw[AA HK5,←hfs0];exact B0.recRd fgC_len,by have:=S.lo;omega,AA hE⟩
  ·as_aux_lemma=>
   obtain⟨i,rfl⟩:∃k,d=k+1:=⟨d-1,by omega⟩
   have hdI:((i+1:Nat):Int)-1=(i:Int):=by omega
   rw[hdI];have hiz:i<zs.length:=by omega
   have hizI:(0:Int)≤(i:Int)∧(i:Int)<(zs.length:Int):=by omega
   obtain⟨z,hz⟩:∃z,zs[i]?=some z:=⟨_,AE hiz⟩
   obtain⟨r,rfl,hr,hroot⟩:=(AA HZ) z (List.mem_of_getElem? hz);have hrI:(0:Int)≤(r:Int)∧(r:Int)<(t.nl:Int):=by omega
   have rz:=S.ro.rd;rw[←AA HK6,←AA HK7] at rz;obtain⟨ba,oa,hAr,la,-⟩:=rz.at_ (by omega);have q1:wr.cell? ⟨ba,oa+i,none⟩=some (.int .i64 (r:Int)):=by
    rw[hAr] at rz;exact (rz.cellAt hiz (show (ints zs)[i]?=some (Value.int .i64 (r:Int)) by rw[ints,List.getElem?_map,hz];rfl)).2
   subst hAr;have HZI:=AB hz;clear rz hz;go_upto_region 11 with fail;clear q1 la;obtain⟨hs,hhl,BHr⟩:=S.hs;have EWr:=AB ((AA E0).trans S.ext);have RH:Rd wr 1 (some ⟨K.gH,0,none⟩) t.nl (ints hs):=BHr.rdk (n:=t.nl) (k:=1) (by simp[ints];rw[hhl,AA HK5]);have cIs:=AB ((AA HIs) r hr hroot hs wr ((AA H).ext (AA EWr)) ((AA HRU).ext (AA EWr)) ((AA HRC).ext (AA EWr)) RH);have BTr:=(AA HBT0).ext S.ext;have c0:=(BTr.cell 0).trans (rfl:_=some (Value.slice t.na t.nl t.nc));have c1:=(BTr.cell 1).trans (rfl:_=some (Value.slice t.aa t.al t.ac));have c2:=(BTr.cell 2).trans (rfl:_=some (Value.int .i64 t.view));have lT:=BTr.lt;have HLb:=AB (show K.gH<wr.heap.size∧K.gF<wr.heap.size∧K.gB<wr.heap.size∧K.gL<wr.heap.size from ⟨BHr.lt,S.fr.elim fun _ q=>q.2.2.lt,S.bb.elim fun _ q=>q.2.lt,S.ls.elim fun _ q=>q.2.2.lt⟩);clear BHr RH hhl BTr hs;go_wp2_with fail
   with_reducible refine (AA cIs).mono ?_
   rintro e w4 ⟨il,rfl,hil,hx⟩;replace S:=S.step hx;have HBi:=AB (show K.hi≤wr.heap.size∧w0.heap.size≤wr.heap.size by have:=AA HHI;have:=AA HLb;have:=S.lo;omega);have HW4:=AB hx.size;clear hx cIs c0 c1 c2 lT;generalize hBi:wr.heap.size=Bi at *;clear hBi;dsimp only
   iterate 1 go_step
   refine wpList_var rfl rfl 117 rfl 17 rfl (.tmp 52) rfl rfl (ilC zIl).toArray (ilC il).toArray ilC_zero rfl rfl (ilC_size _) rfl (by kernel_rfl) ?_;intro w5 BI hx z5;simp only[AC];replace S:=S.step hx;replace hil:=hil.ext hx;have HgI:=AB (show Bi≤w4.heap.size from AA HW4);generalize w4.heap.size=gI at *;clear hx z5;have i3:=(BI.cell 3).trans (rfl:_=some (Value.int .i64 il.high));have lI:=BI.lt;obtain⟨hs,hhl,BHr⟩:=S.hs;obtain⟨vh,hvh⟩:∃v,hs[r]?=some v:=⟨_,AE (by have:=AA HK5;omega)⟩
   have kH:=(BHr.cell r).trans (show _=some (Value.int .i64 vh) by rw[List.getElem?_toArray,ints,List.getElem?_map,hvh];rfl);have lH:=BHr.lt;have fH:=BHr.frozen r;have SA:=S.setH r il.high;have BIA:=BI.grownNe (gsCell (u:=.int .i64 il.high) K.gH r) (blk_ne BI BHr (by decide));have hilA:=hil.low (gsCell (u:=.int .i64 il.high) K.gH r) (AA HLb).1;clear hvh BHr hhl S BI hil;go_upto_region 13 with fail;clear i3 lI kH lH fH;generalize World.setCell w5 ⟨K.gH,r,none⟩ (.int .i64 il.high)=w6 at *;have i4:=(BIA.cell 4).trans (rfl:_=some (Value.slice il.lA il.ln il.lc));have lI:=BIA.lt;obtain⟨vs,hvl,hvo,BLr⟩:=SA.ls;obtain⟨vl,hvl2⟩:∃v,vs[r]?=some v:=⟨_,AE (by have:=AA HK5;omega)⟩
   have kL:=(BLr.cell r).trans (show _=some vl by rw[List.getElem?_toArray];exact hvl2);have lL:=BLr.lt;have fL:=BLr.frozen r;have SB:=SA.setL r (hilA.lines.mono (AA HBi).2);have BIB:=BIA.grownNe (gsCell (u:=.slice il.lA il.ln il.lc) K.gL r) (blk_ne BIA BLr (by decide));have hilB:=hilA.low (gsCell (u:=.slice il.lA il.ln il.lc) K.gL r) (AA HLb).2.2.2;clear hvl2 BLr hvl hvo SA BIA hilA;go_upto_region 14 with fail;clear i4 lI kL lL fL;generalize World.setCell w6 ⟨K.gL,r,none⟩ (.slice il.lA il.ln il.lc)=w7 at *;have i5:=(BIB.cell 5).trans (rfl:_=some (Value.bool il.over));have lI:=BIB.lt;obtain⟨bl,hbl,BBr⟩:=SB.bb;obtain⟨vb,hvb⟩:∃v,bl[r]?=some v:=⟨_,AE (by have:=AA HK5;omega)⟩
   have kB:=BBr.bool hvb;have lB:=BBr.lt;have fB:=BBr.frozen r;have HSC:=AB (fun b=>SB.setB r b);have HBIC:=AB (fun b=>BIB.grownNe (gsCell (u:=.bool b) K.gB r) (blk_ne BIB BBr (by decide)));have HilC:=AB (fun b=>hilB.low (gsCell (u:=.bool b) K.gB r) (AA HLb).2.2.1);clear hvb BBr hbl SB BIB hilB;go_cut [] from 39 to 114 (fun wx=>IsS w0 wx K∧Blk wx gI 117 (ilC il).toArray∧IlOk wx Bi ns.length il)
   case first=>
    as_aux_lemma=>
    cases vb
    all_goals
     go_wp2_with fail;go_meet
     case rel=>exact⟨(AA HSC) _,(AA HBIC) _,(AA HilC) _⟩
   case rest=>
    as_aux_lemma=>
    clear HSC HBIC HilC i5 lI kB lB fB;obtain⟨S,BI,hil⟩:=hcut;go_wp2_with fail;go_loopw [18] (fun v18 wq=>∃k:Nat,v18=.int .i64 k∧k≤il.nn∧IsS w0 wq K∧Blk wq gI 117 (ilC il).toArray∧IlOk wq Bi ns.length il) (fun v18 _=>il.nn-(intOf v18).toNat)
    case atStart=>exact⟨0,rfl,by omega,S,BI,hil⟩
    case round=>
     clear S BI hil;obtain⟨k,rfl,hk,S,BI,hil⟩:=hrel;have hnn:=hil.nn;by_cases hkn:k<il.nn
     ·as_aux_lemma=>
      have hkI:(0:Int)≤(k:Int)∧(k:Int)<(il.nn:Int):=by omega
      obtain⟨il0,hil0⟩:∃x,il=x:=⟨_,rfl⟩
      obtain⟨nA,nn,nc,fA,fn,fc,bA,bn,bc,high,lA,ln,lc,over⟩:=il;obtain⟨ys,RN,hys⟩:=hil.nodes;simp only at hk hkn hkI hnn RN hys;have hyl:ys.length=nn:=by have:=RN.len;rw[ints_len] at this;omega
      obtain⟨y,hy⟩:∃y,ys[k]?=some y:=⟨_,AE (by omega)⟩
      obtain⟨m,rfl⟩:∃m:Nat,y=(m:Int):=⟨y.toNat,by have:=hys y (List.mem_of_getElem? hy);omega⟩
      have hm:m<t.nl:=by have:=hys _ (List.mem_of_getElem? hy);omega
      have hmI:(0:Int)≤(m:Int)∧(m:Int)<(t.nl:Int):=by omega
      obtain⟨by_,oy,hAy,ly,-⟩:=RN.at_ (by omega);have q1:wr.cell? ⟨by_,oy+k,none⟩=some (.int .i64 (m:Int)):=by
       rw[hAy] at RN;exact (RN.cellAt hkn (show (ints ys)[k]?=some (Value.int .i64 (m:Int)) by rw[ints,List.getElem?_map,hy];rfl)).2
      have hfn:=hil.fn;have hbn:=hil.bn;simp only at hfn hbn;subst hfn hbn;obtain⟨fs,OF,hfo⟩:=hil.frags;obtain⟨bl,OB⟩:=hil.bey;simp only at OF OB;have hfl:=(Rd.of_own OF).recN fgC_len (by omega);obtain⟨f,hf⟩:∃f,fs[k]?=some f:=⟨_,AE (by omega)⟩
      have HFO:=AB (hfo f (List.mem_of_getElem? hf));obtain⟨bf,of_,hAf,lf,hmf⟩:=(Rd.of_own OF).rec_ fgC_len hf (by omega);have m0:=hmf 0 _ (show (fgC f)[0]?=some (Value.int .i64 f.x) from rfl);have m1:=hmf 1 _ (show (fgC f)[1]?=some (Value.int .i64 f.y) from rfl);have m2:=hmf 2 _ (show (fgC f)[2]?=some (Value.int .i64 f.w) from rfl);have m3:=hmf 3 _ (show (fgC f)[3]?=some (Value.int .i64 f.h) from rfl);have m4:=hmf 4 _ (show (fgC f)[4]?=some (Value.slice f.lA f.ln f.lc) from rfl);rw[Nat.add_zero] at m0;have i0:=(BI.cell 0).trans (rfl:_=some (Value.slice nA bn nc));have i1:=(BI.cell 1).trans (rfl:_=some (Value.slice fA bn fc));rw[hAy] at i0;rw[hAf] at i1;have lI:=BI.lt;have hmK:m<K.n:=by have:=AA HK5;omega
      have HnA:=AB hil.new;clear hmf hf hfl hfo hys;go_upto_region 18 with fail;refine wp_region_ord [(1,0),(1,1),(0,2),(1,3),(1,4),(0,5),(1,6),(0,7),(1,8),(1,9),(0,10),(1,11),(3,12)] 12 (fun w'=>Ext wr w') (by kernel_rfl) (by kernel_rfl) rfl (by kernel_rfl) ((Ext.refl _).drew) ?_;simp only[AD]
      iterate 12 ((first|refine ordQA ?_|refine ordQB ?_);simp only[AC])
      have hS:=(Ext.refl wr).drew;have S9:=S.step hS;have BI9:=BI.ext hS;have hil9:=hil.ext hS;have RN9:=RN.ext hS;have OB9:=own_ext OB hS;have HFO9:=AB ((AA HFO).ext hS);clear q1 ly m0 m1 m2 m3 m4 i0 i1 lI lf S BI hil RN OB OF hS HFO;generalize wr.drew=w9 at *;obtain⟨fs0,hfs0,-,B0⟩:=S9.fr;have HT:=AB (B0.recThere fgC_len (i:=m) (by omega));have hgF:=gsGrown K.gF (fgC f) (m*5) w9;have SA:=S9.setF hmK ((AA HFO9).mono (AA HBi).2);have BIA:=BI9.grownNe hgF (fun e=>by have:=(AA HLb).2.1;have:=AA HgI;omega);have hilA:=hil9.low hgF (AA HLb).2.1;have RNA:=RN9.grown hgF (fun b off e e2=>by have h1:=(AA HnA) b off e;have h2:=Option.some.inj e2;have:=(AA HLb).2.1;omega);have OBA:=own_grown OB9 hgF (own_apart OB9 (AA HLb).2.1);have HSA:=AB SA;have HBIA:=AB BIA;have HilA:=AB hilA;have HRNA:=AB RNA;have HOBA:=AB OBA;clear B0 hfs0 S9 BI9 hil9 RN9 OB9 HFO9 SA BIA hilA RNA OBA hgF;refine ord_last ?_;refine wpList_store_mid rfl 58 (.tmp 92) (.tmp 91) rfl K.gF (m*5) (fgC f).toArray rfl rfl (AA HT) (fgC_size _) (all_oneCell_toArray (fgC_one _)) ?_;simp only[Act.put];clear HT fs0;generalize World.setCells w9 K.gF (m*5) _=wA at *;go_wp2_with fail;refine ord_nil ?_;have i0:=((AA HBIA).cell 0).trans (rfl:_=some (Value.slice nA bn nc));have i2:=((AA HBIA).cell 2).trans (rfl:_=some (Value.slice bA bn bc));rw[hAy] at i0;have lI:=(AA HBIA).lt;have RNr:=AA HRNA;rw[hAy] at RNr;have q1:=(RNr.cellAt hkn (show (ints ys)[k]?=some (Value.int .i64 (m:Int)) by rw[ints,List.getElem?_map,hy];rfl))
      have ly:=q1.1;have q2:=q1.2;clear q1 RNr;have rb:=Rd.of_own (AA HOBA);obtain⟨xb,hxb⟩:∃v,bl[k]?=some v:=⟨_,AE (by have:=rb.len;rw[boolL,List.length_map] at this;omega)⟩
      obtain⟨bb,ob,hAb,lb5,-⟩:=rb.at_ (by omega);rw[hAb] at rb i2;have qb:=(rb.cellAt hkn (show (boolL bl)[k]?=some (Value.bool xb) by rw[boolL,List.getElem?_map,hxb];rfl)).2;obtain⟨bl0,hbl0,BB0⟩:=(AA HSA).bb;obtain⟨v0,hv0⟩:∃v,bl0[m]?=some v:=⟨_,AE (by omega)⟩
      have kB:=BB0.bool hv0;have lB:=BB0.lt;have fB:=BB0.frozen m;have HBB0:=AB BB0;have HL0:=AB hbl0;clear rb hxb hv0 BB0 hbl0 HRNA HOBA;go_upto_region 19 with fail;cases v0
      ·refine wp_region_ord [(1,0),(1,1),(0,2),(1,3),(1,4),(0,5),(1,6),(1,7),(0,8),(1,9),(1,10),(0,11),(1,12),(0,13),(1,14),(1,15),(0,16),(1,17),(1,18),(0,19),(1,20),(1,21),(3,22)] 22 (fun w'=>Ext wA w') (by kernel_rfl) (by kernel_rfl) rfl (by kernel_rfl) ((Ext.refl _).drew) ?_;simp only[AD]
       iterate 22 ((first|refine ordQE ?_|refine ordQF ?_|refine ordQC ?_|refine ordQD ?_);simp only[AC])
       have hS:=(Ext.refl wA).drew;have SC:=(AA HSA).step hS;have BIC:=(AA HBIA).ext hS;have hilC:=(AA HilA).ext hS;have BBC:=(AA HBB0).ext hS;clear i0 i2 lI ly q2 lb5 qb kB lB fB hS HSA HBIA HilA HBB0;generalize wA.drew=wC at *;refine ord_last ?_;refine wpList_store_one rfl 4 (.tmp 114) (.tmp 113) rfl K.gB m rfl (.bool xb) rfl rfl 4 (boolL bl0) BBC (by rw[boolL,List.length_map,AA HL0];exact hmK) (by kernel_rfl) _ (boolL_set1 bl0 m xb) ?_;intro wE BE gE zE;have SE:=SC.putB gE (by rw[List.length_set];exact AA HL0) BE;have BIE:=BIC.grownNe gE (blk_ne BIC BBC (by decide));have hilE:=hilC.low gE (AA HLb).2.2.1;clear SC BIC hilC BBC BE gE zE;simp only[Act.put];go_wp2_with fail;refine ord_nil ?_;go_wp2_with fail;go_roundw
       case rel=>exact⟨k+1,by go_num,by first|omega|(simp only;omega),SE,BIE,hilE⟩
       case measure=>simp[intOf]<;>omega
      ·refine wp_region_ord [(1,0),(1,1),(0,2),(1,3),(1,4),(0,5),(1,6),(1,7),(0,8),(1,9),(1,10),(0,11),(1,12),(0,13),(1,14),(1,15),(0,16),(1,17),(1,18),(0,19),(1,20),(1,21),(3,22)] 22 (fun w'=>Ext wA w') (by kernel_rfl) (by kernel_rfl) rfl (by kernel_rfl) ((Ext.refl _).drew) ?_;simp only[AD]
       iterate 22 ((first|refine ordQE ?_|refine ordQF ?_|refine ordQC ?_|refine ordQD ?_);simp only[AC])
       have hS:=(Ext.refl wA).drew;have SC:=(AA HSA).step hS;have BIC:=(AA HBIA).ext hS;have hilC:=(AA HilA).ext hS;have BBC:=(AA HBB0).ext hS;clear i0 i2 lI ly q2 lb5 qb kB lB fB hS HSA HBIA HilA HBB0;generalize wA.drew=wC at *;refine ord_last ?_;refine wpList_store_one rfl 4 (.tmp 114) (.tmp 113) rfl K.gB m rfl (.bool true) rfl rfl 4 (boolL bl0) BBC (by rw[boolL,List.length_map,AA HL0];exact hmK) (by kernel_rfl) _ (boolL_set1 bl0 m true) ?_;intro wE BE gE zE;have SE:=SC.putB gE (by rw[List.length_set];exact AA HL0) BE;have BIE:=BIC.grownNe gE (blk_ne BIC BBC (by decide));have hilE:=hilC.low gE (AA HLb).2.2.1;clear SC BIC hilC BBC BE gE zE;simp only[Act.put];go_wp2_with fail;refine ord_nil ?_;go_wp2_with fail;go_roundw
       case rel=>exact⟨k+1,by go_num,by first|omega|(simp only;omega),SE,BIE,hilE⟩
       case measure=>simp[intOf]<;>omega
     ·as_aux_lemma=>
      have hkI:¬(k:Int)<(il.nn:Int):=by omega
      have i0:=(BI.cell 0).trans (rfl:_=some (Value.slice il.nA il.nn il.nc));have lI:=BI.lt;go_wp2_with fail;go_roundw
      case rel=>exact⟨i,by go_num,by omega,S⟩
      case measure=>simp[intOf]<;>omega
end
end Go.Proofs.YtamldoocjjdidaaGreat
