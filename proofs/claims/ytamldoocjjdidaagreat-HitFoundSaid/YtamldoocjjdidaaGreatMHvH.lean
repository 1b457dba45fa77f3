import Derived.Test.YtamldoocjjdidaaGreatMHtF
import Derived.Test.YtamldoocjjdidaaGreatMEdG
import Derived.Deep.CutBlock
namespace Go.Proofs.YtamldoocjjdidaaGreat
open Go.RowKit
set_option maxRecDepth 100000
set_option maxHeartbeats 64000000
def posF (ns:List Nd) (g:Nat→Int):Nat→Nat→Int
 |0,_=>0
 |f+1,i=>g i+(if parN ns i<0 then 0 else posF ns g f (parN ns i).toNat)
theorem posF_fuel (ns:List Nd) (g:Nat→Int):∀(i f:Nat),i<f→posF ns g f i=posF ns g (i+1) i:=by
 intro i
 induction i using Nat.strongRecOn with
 |ind i ih=>
  intro f hf;obtain⟨f,rfl⟩:∃k,f=k+1:=⟨f-1,by omega⟩
  show g i+_=g i+_
  congr 1
  split
  ·rfl
  ·rename_i hp
   have h1:=parN_lt ns i;have hlt:(parN ns i).toNat<i:=by omega
   rw[ih _ hlt f (by omega),ih _ hlt i (by omega)]
def posN (ns:List Nd) (g:Nat→Int) (i:Nat):Int:=posF ns g (i+1) i
theorem posN_up (ns:List Nd) (g:Nat→Int) (i:Nat):posN ns g i=g i+(if parN ns i<0 then 0 else posN ns g (parN ns i).toNat):=by
 unfold posN
 show g i+_=g i+_
 congr 1
 split
 ·rfl
 ·rename_i hp
  have h1:=parN_lt ns i;exact posF_fuel ns g _ i (by omega)
theorem posN_bd (ns:List Nd) (g:Nat→Int) (M:Nat) (hg:∀i,-(M:Int)≤g i∧g i≤M):∀i:Nat,-(M:Int)*(i+1)≤posN ns g i∧posN ns g i≤M*(i+1):=by
 intro i
 induction i using Nat.strongRecOn with
 |ind i ih=>
  rw[posN_up];have h0:=hg i;have hM:(0:Int)≤(M:Int)*(i:Int):=Int.mul_nonneg (by omega) (by omega);rw[Int.mul_add,Int.mul_add,Int.mul_one,Int.mul_one,Int.neg_mul]
  split
  ·omega
  ·rename_i hp
   have h1:=parN_lt ns i;have hlt:(parN ns i).toNat<i:=by omega
   obtain⟨h2,h3⟩:=ih _ hlt;have h4:(M:Int)*(((parN ns i).toNat:Int)+1)≤M*(i:Int):=Int.mul_le_mul_of_nonneg_left (by omega) (by omega);rw[Int.neg_mul] at h2;omega
def rcC (r:Rc):List Value:=[.int .i64 r.x,.int .i64 r.y,.int .i64 r.w,.int .i64 r.h]
theorem rcC_len (r:Rc):(rcC r).length=4:=rfl
theorem rcC_one (r:Rc):∀v∈rcC r,v.oneCell'=true:=by
 intro v hv;simp only[rcC,List.mem_cons,List.not_mem_nil,or_false] at hv
 rcases hv with rfl|rfl|rfl|rfl<;>rfl
def zRc:Rc:=⟨0,0,0,0⟩
theorem rcC_size (r:Rc):(Tryz.prog.info? 33).map (·.size)=some (rcC r).toArray.size:=by kernel_rfl
theorem rcC_zero:(Tryz.prog.info? 33).bind (·.zero)=some (.agg (rcC zRc).toArray):=by kernel_rfl
theorem rcC_all:(Tryz.prog.info? 33).map (fun i=>(i.zero,i.size,i.bytes))=some (some (.agg (rcC zRc).toArray),4,32):=by kernel_rfl
theorem built_rc0:Tryz.prog.built 33 []=some (rcC zRc).toArray:=by kernel_rfl
theorem built_rc4 (a b c d:Int):Tryz.prog.built 33 [(0,.int .i64 a),(1,.int .i64 b),(2,.int .i64 c),(3,.int .i64 d)]=some (rcC ⟨a,b,c,d⟩).toArray:=by kernel_rfl
structure FgM (f:Fg):Prop where
 (x:InM f.x) (y:InM f.y) (w:InM f.w) (h:InM f.h)
def fgN (fs:List FV) (i:Nat):Fg:=match fs[i]? with|some f=>f.f|none=>zFg
def fX (fs:List FV) (i:Nat):Int:=(fgN fs i).x
def fY (fs:List FV) (i:Nat):Int:=(fgN fs i).y
theorem fgN_of {fs:List FV} {i:Nat} {f:FV} (h:fs[i]?=some f):fgN fs i=f.f:=by unfold fgN;rw[h]
theorem inB_of {x:Int} (h:inB x=true):InM x:=by unfold inB at h;unfold InM;simpa using h
theorem fgN_bd {fs:List FV} (h:fs.all fOk=true) (i:Nat):FgM (fgN fs i):=by
 cases hf:fs[i]? with
 |none=>unfold fgN;rw[hf];exact⟨⟨by decide,by decide⟩,⟨by decide,by decide⟩,⟨by decide,by decide⟩,⟨by decide,by decide⟩⟩
 |some f=>
  rw[fgN_of hf];have h1:=List.all_eq_true.1 h f (List.mem_of_getElem? hf);unfold fOk at h1;simp only[Bool.and_eq_true] at h1;exact⟨inB_of h1.1.1.1.1,inB_of h1.1.1.1.2,inB_of h1.1.1.2,inB_of h1.1.2⟩
def boxN (ns:List Nd) (fs:List FV) (i:Nat):Rc:=⟨posN ns (fX fs) i,posN ns (fY fs) i,(fgN fs i).w,(fgN fs i).h⟩
theorem posX_bd (ns:List Nd) {fs:List FV} (h:∀i,FgM (fgN fs i)) (i:Nat):-1099511627776*((i:Int)+1)≤posN ns (fX fs) i∧posN ns (fX fs) i≤1099511627776*((i:Int)+1):=
 posN_bd ns (fX fs) 1099511627776 (fun k=>by have h1:=(h k).x;unfold InM at h1;unfold fX;omega) i
theorem posY_bd (ns:List Nd) {fs:List FV} (h:∀i,FgM (fgN fs i)) (i:Nat):-1099511627776*((i:Int)+1)≤posN ns (fY fs) i∧posN ns (fY fs) i≤1099511627776*((i:Int)+1):=
 posN_bd ns (fY fs) 1099511627776 (fun k=>by have h1:=(h k).y;unfold InM at h1;unfold fY;omega) i
structure RpS (w w':World) (tcs xcs:Array Value) (gT gQ:Nat) (r:Rc):Prop where
 ext:Ext w w'
 bt:Blk w' gT 25 tcs
 bx:Blk w' (gT+1) 30 xcs
 br:Blk w' (gT+1+1) 33 (rcC zRc).toArray
 bq:Blk w' gQ 33 (rcC r).toArray
 lo:w.heap.size=gT∧gT+1+1<gQ
theorem RpS.step {w w' w'':World} {tcs xcs:Array Value} {gT gQ:Nat} {r:Rc} (h:RpS w w' tcs xcs gT gQ r) (hx:Ext w' w''):RpS w w'' tcs xcs gT gQ r:=
 ⟨h.ext.trans hx,h.bt.ext hx,h.bx.ext hx,h.br.ext hx,h.bq.ext hx,h.lo⟩
theorem RpS.put {w w':World} {tcs xcs:Array Value} {gT gQ:Nat} {r r':Rc} (h:RpS w w' tcs xcs gT gQ r) (i:Nat) (v:Value) (hv:(rcC r).toArray.setIfInBounds i v=(rcC r').toArray):RpS w (w'.setCell ⟨gQ,i,none⟩ v) tcs xcs gT gQ r':=
 ⟨h.ext.set (by have:=h.lo;simp only;omega) _,h.bt.far (by have:=h.lo;simp only;omega) _,h.bx.far (by have:=h.lo;simp only;omega) _,h.br.far (by have:=h.lo;simp only;omega) _,hv▸h.bq.set_ i v,h.lo⟩
def plN (ns:List Nd) (fs:List FV) (i:Nat):Rc:=if nK ns i=3 then zRc else boxN ns fs i
def plL (ns:List Nd) (fs:List FV):List Rc:=(List.range ns.length).map (plN ns fs)
theorem plL_len (ns:List Nd) (fs:List FV):(plL ns fs).length=ns.length:=by simp[plL]
theorem plL_get {ns:List Nd} {fs:List FV} {i:Nat} (h:i<ns.length):(plL ns fs)[i]?=some (plN ns fs i):=by simp[plL,h]
def plV (v:Bool) (ns:List Nd) (fs:List FV):List Rc:=if v=true then plL ns fs else []
def PlsIs (w:World) (v:Bool) (ns:List Nd) (fs:List FV) (e:Ending) (w':World):Prop:=∃(A:Option Addr) (c:Nat),e=.returned (.tuple #[.slice A (plV v ns fs).length c,.int .i64 (if v=true then 0 else 1)])∧Rd w' 4 A (plV v ns fs).length (recs rcC (plV v ns fs))∧Ext w w'
theorem tog_yes {b:Int} {n m:Nat} {fs:List FV} (h:togB b n m fs=true):b=0∧n=m∧fs.all fOk=true:=by
 unfold togB at h;simp only[Bool.and_eq_true,beq_iff_eq,decide_eq_true_eq] at h;exact⟨h.1,h.2.1,h.2.2⟩
theorem ExtX.then {w w' w'':World} {xs:List Nat} (h:ExtX w w' xs) (k:ExtX w' w'' xs):ExtX w w'' xs:=
 ⟨k.os.trans h.os,k.tape.trans h.tape,k.output.trans h.output,Nat.le_trans h.size k.size,fun i hi hx=>(k.block i (Nat.lt_of_lt_of_le hi h.size) hx).trans (h.block i hi hx)⟩
theorem ExtX.of {w w':World} (h:Ext w w') (xs:List Nat):ExtX w w' xs:=(ExtX.refl w xs).trans h
theorem setCells_extX (g:Nat):∀(vs:List Value) (k:Nat) (w w0:World),ExtX w0 w [g]→ExtX w0 (w.setCells g k vs) [g]
 |[],_,_,_,h=>h
 |v :: vs,k,w,w0,h=>setCells_extX g vs (k+1) _ _ (h.set (by simp) v)
theorem take_snoc {l:List Int} {k:Nat} (h:k<l.length):l.take (k+1)=l.take k++[l[k]]:=by
 rw[List.take_succ_eq_append_getElem h]
def AtP (ns:List Nd) (fs:List FV) (L:List Rc) (S:Nat→Bool) (L':List Rc):Prop:=L'.length=L.length∧∀j,j<L.length→L'[j]?=if S j=true∧nK ns j≠3 then some (boxN ns fs j) else L[j]?
section
variable {ns:List Nd} {fs:List FV}
theorem AtP.none (L:List Rc) {S:Nat→Bool} (hS:∀j,j<L.length→S j=true→nK ns j=3):AtP ns fs L S L:=⟨rfl,fun j hj=>by
 by_cases h:S j=true∧nK ns j≠3
 ·exact absurd (hS j hj h.1) h.2
 ·rw[if_neg h]⟩
theorem AtP.one {L:List Rc} {i:Nat} (hi:i<L.length) (hk:nK ns i≠3):AtP ns fs L (fun j=>decide (j=i)) (L.set i (boxN ns fs i)):=by
 refine⟨by simp,fun j hj=>?_⟩;by_cases h:j=i
 ·subst h;simp[hk,hj]
 ·rw[if_neg (by simp[h]),List.getElem?_set_ne (fun e=>h e.symm)]
theorem AtP.then {L L' L'':List Rc} {S S' S'':Nat→Bool} (h:AtP ns fs L S L') (h':AtP ns fs L' S' L'') (hS:∀j,j<L.length→S'' j=(S j||S' j)):AtP ns fs L S'' L'':=by
 refine⟨h'.1.trans h.1,fun j hj=>?_⟩;rw[h'.2 j (by rw[h.1];exact hj),h.2 j hj,hS j hj];by_cases h3:nK ns j=3
 ·simp[h3]
 ·cases S j<;>cases S' j<;>simp[h3]
theorem AtP.congr {L L':List Rc} {S S':Nat→Bool} (h:AtP ns fs L S L') (hS:∀j,j<L.length→S' j=S j):AtP ns fs L S' L':=
 ⟨h.1,fun j hj=>by rw[h.2 j hj,hS j hj]⟩
theorem AtP.all (h:TOk ns) {L:List Rc} (hA:AtP ns fs (List.replicate ns.length zRc) (sub ns 0) L):L=plL ns fs:=by
 obtain⟨hl,hA⟩:=hA;rw[List.length_replicate] at hl hA;refine List.ext_getElem? fun j=>?_
 by_cases hj:j<ns.length
 ·rw[hA j hj,ok_below0 h hj,plL_get hj,plN];by_cases h3:nK ns j=3
  ·simp[h3,hj]
  ·simp[h3]
 ·rw[List.getElem?_eq_none (by omega),List.getElem?_eq_none (by rw[plL_len];omega)]
theorem pos_kid {c i:Nat} (g:Nat→Int) (hc:parN ns c=i):posN ns g i+g c=posN ns g c:=by
 have h1:=posN_up ns g c;rw[hc,if_neg (by omega),Int.toNat_natCast] at h1;omega
theorem pos_first (g:Nat→Int) (h:TOk ns):(0:Int)+g 0=posN ns g 0:=by
 rw[posN_up,h.parN h.pos,h.par0];simp
end
structure Pn (w0:World) (ns:List Nd) (tcs xcs:Array Value) (n gt gx gp gk gd gl:Nat) (Ak:Option Addr) (w:World) (L:List Rc):Prop where
 ext:Ext w0 w
 bt:Blk w gt 25 tcs
 bx:Blk w gx 30 xcs
 bp:Blk w gp 40 #[.slice (some ⟨gl,0,none⟩) n n]
 bk:Blk w gk 77 #[.slice Ak n n]
 bd:Blk w gd 79 #[.func (.func 25) #[] #[.pointer (some ⟨gt,0,none⟩),.pointer (some ⟨gx,0,none⟩),.pointer (some ⟨gp,0,none⟩),.pointer (some ⟨gk,0,none⟩),.pointer (some ⟨gd,0,none⟩)]]
 bl:Blk w gl 33 (recs rcC L).toArray
 rows:RdR w (gl+1) Ak n (kidsN ns n)
 far:w0.heap.size≤gl∧gt≠gl∧gx≠gl∧gp≠gl∧gk≠gl∧gd≠gl
 len:L.length=n
section
variable {w0:World} {ns:List Nd} {tcs xcs:Array Value} {n gt gx gp gk gd gl:Nat} {Ak:Option Addr} {w w':World} {L:List Rc}
theorem Pn.step (h:Pn w0 ns tcs xcs n gt gx gp gk gd gl Ak w L) (hx:Ext w w'):Pn w0 ns tcs xcs n gt gx gp gk gd gl Ak w' L:=
 ⟨h.ext.trans hx,h.bt.ext hx,h.bx.ext hx,h.bp.ext hx,h.bk.ext hx,h.bd.ext hx,h.bl.ext hx,h.rows.ext hx,h.far,h.len⟩
theorem Pn.put (h:Pn w0 ns tcs xcs n gt gx gp gk gd gl Ak w L) {k:Nat} (hk:k<n) (r:Rc):Pn w0 ns tcs xcs n gt gx gp gk gd gl Ak (w.setCells gl (k*4) (rcC r)) (L.set k r):=by
 obtain⟨f1,f2,f3,f4,f5,f6⟩:=h.far;have hx:ExtX w (w.setCells gl (k*4) (rcC r)) [gl]:=setCells_extX gl _ _ _ _ (ExtX.refl w [gl]);refine⟨h.ext.grownBlk (gsGrown gl _ _ w) f1,blk_setCells h.bt f2 _,blk_setCells h.bx f3 _,blk_setCells h.bp f4 _,blk_setCells h.bk f5 _,blk_setCells h.bd f6 _,h.bl.putRec rcC_len (by rw[h.len];exact hk) r,h.rows.far hx (fun g hg=>by rw[List.mem_singleton.1 hg];omega),h.far,by rw[List.length_set];exact h.len⟩
end
section
variable (ns:List Nd) (fs:List FV) (b off nl nc al ac:Nat) (aa:Option Addr) (view:Int) (v1 v2 v3:Value) (bf of_ c:Nat) (w0:World) (gt gx gp gk gd gl:Nat) (Ak:Option Addr)
theorem pldown_any (hT:TOk ns) (h:Rd w0 44 (some ⟨b,off,none⟩) nl (nds ns)) (hm:nl≤1000) (hf:Rd w0 5 (some ⟨bf,of_,none⟩) nl (recs fgC (fs.map FV.f))) (hb:∀i,FgM (fgN fs i)):∀(d i:Nat),ns.length-i≤d→i<ns.length→∀(L:List Rc) (px py:Int) (w:World),
  Pn w0 ns (Tr.cs ⟨some ⟨b,off,none⟩,nl,nc,aa,al,ac,view⟩) (tbC v1 v2 v3 (.slice (some ⟨bf,of_,none⟩) nl c)).toArray nl gt gx gp gk gd gl Ak w L→(px+fX fs i=posN ns (fX fs) i∧py+fY fs i=posN ns (fY fs) i) →
  Calls Tryz.prog 25 #[.int .i64 (i:Int),.int .i64 px,.int .i64 py,.pointer (some ⟨gt,0,none⟩),.pointer (some ⟨gx,0,none⟩),.pointer (some ⟨gp,0,none⟩),.pointer (some ⟨gk,0,none⟩),.pointer (some ⟨gd,0,none⟩)] w
   fun e w'=>e=.returned (.tuple #[])∧∃L',AtP ns fs L (sub ns i) L'∧Pn w0 ns (Tr.cs ⟨some ⟨b,off,none⟩,nl,nc,aa,al,ac,view⟩) (tbC v1 v2 v3 (.slice (some ⟨bf,of_,none⟩) nl c)).toArray nl gt gx gp gk gd gl Ak w' L'∧ExtX w w' [gl]:=by
 intro d
 induction d with
 |zero=>intro i hd hi;omega
 |succ d ih=>
 intro i hd hi L px py w D hv;have hl:=h.nlen;have hfl:fs.length=nl:=by have:=hf.recN fgC_len (by omega);simpa using this
 have hin:(0:Int)≤(i:Int)∧(i:Int)<(nl:Int):=by omega
 have ck:=(h.ext D.ext).same rfl hi;have IH:=fun c (hc:i<c) (hcn:c<ns.length) L px py w D hv=>AB (ih c (by omega) hcn L px py w D hv)
 clear ih;have hiL:i<nl:=by omega
 have lb:=Nat.lt_of_lt_of_le (show b<w0.heap.size by obtain⟨b',off',e,hlt,_⟩:=h.at_ (by omega);injection e with e;injection e with e1 e2;omega) D.ext.size;by_cases h3:nK ns i=3
 ·
  have h3b:(nK ns i==3)=true:=by simpa using h3
  have H3:=AB h3;clear h3;have HA:=AB (show AtP ns fs L (sub ns i) L from AtP.none L (fun j hj hs=>by
   by_cases hji:j=i
   ·rw[hji];exact AA H3
   ·rw[sub,ok_leaf hT (by have:=D.len;omega) (AA H3),Bool.or_false] at hs;exact absurd (by simpa using hs) hji))
  have c1:=D.bt.cell;have l1:=D.bt.lt;generalize nK ns i=kk at *;clear IH hv;go_enter Tryz.func25,Tryz.ntmps25;go_wp2_with fail;refine bodyPost_ret (results_none rfl _ _ _) rfl ?_;exact⟨rfl,L,AA HA,D,ExtX.refl _ _⟩
 ·
  have h3b:(nK ns i==3)=false:=by simpa using h3
  have H3:=AB h3;clear h3;obtain⟨x,hx⟩:∃x,fs[i]?=some x:=⟨_,AE (by omega)⟩
  obtain⟨b2,o2,hA2,lf,hmf⟩:=hf.rec_ fgC_len (show (fs.map FV.f)[i]?=some (fgN fs i) by rw[List.getElem?_map,hx,fgN_of hx];rfl) (by omega);injection hA2 with hA2;injection hA2 with hA2 hA3;subst hA2 hA3;have hFb:=hb i;have pb1:=posX_bd ns hb i;have pb2:=posY_bd ns hb i;obtain⟨F,hF⟩:∃F,fgN fs i=F:=⟨_,rfl⟩
  have hXe:fX fs i=F.x:=by rw[←hF];rfl
  have hYe:fY fs i=F.y:=by rw[←hF];rfl
  have HBO:=AB (show boxN ns fs i=⟨px+F.x,py+F.y,F.w,F.h⟩ by rw[←hXe,←hYe,hv.1,hv.2,boxN,hF]);rw[hXe,hYe] at hv;rw[hF] at hmf hFb;obtain⟨fx,fy,fw,fh,lA,ln,lc⟩:=F;simp only at HBO hv;have hwx:-9000000000000000000≤px+fx∧px+fx≤9000000000000000000:=by omega
  have hwy:-9000000000000000000≤py+fy∧py+fy≤9000000000000000000:=by omega
  have HMF:=AB hmf;have HT:=AB hT;have HDL:=AB D.len;have HHL:=AB hl;clear hx hF hmf hFb pb1 pb2 hXe hYe hv hT hl hfl;have c1:=D.bt.cell;have l1:=D.bt.lt;obtain⟨kk,hkk⟩:∃kk,nK ns i=kk:=⟨_,rfl⟩
  rw[hkk] at ck h3b;clear hkk;go_enter Tryz.func25,Tryz.ntmps25;go_upto_region 1 with fail;clear c1 l1 ck lb h3b;have x3:=(D.bx.cell 3).trans (rfl:_=some (Value.slice (some ⟨bf,of_,none⟩) nl c));have lX:=D.bx.lt
  iterate 13 go_step
  refine wpList_load_midg 58 (.tmp 25) rfl bf (of_+i*5) rfl rfl (fgC ⟨fx,fy,fw,fh,lA,ln,lc⟩) _ (fun y v hv=>by rw[D.ext.cells.1 _ _ lf];exact (AA HMF) y v hv) Tryz.underlying58 rfl (fgC_size _) ?_;simp only[AC];refine wpList_var rfl rfl 58 rfl 11 rfl (.tmp 26) rfl rfl (fgC zFg).toArray (fgC ⟨fx,fy,fw,fh,lA,ln,lc⟩).toArray fgC_zero rfl rfl (fgC_size _) rfl (by kernel_rfl) ?_;intro w2 BV hx z2;simp only[AC];replace D:=D.step hx;have X2:=ExtX.of hx [gl];generalize w.heap.size=gV at *;clear hx z2 x3 lX lf HMF;have k0:=(BV.cell 0).trans (rfl:_=some (Value.int .i64 fx));have k1:=(BV.cell 1).trans (rfl:_=some (Value.int .i64 fy));have k2:=(BV.cell 2).trans (rfl:_=some (Value.int .i64 fw));have k3:=(BV.cell 3).trans (rfl:_=some (Value.int .i64 fh));have lV:=BV.lt;clear BV;have cp:=(D.bp.cell 0).trans (rfl:_=some (Value.slice (some ⟨gl,0,none⟩) nl nl));have lP:=D.bp.lt;go_upto_region 2 with fail
  iterate 43 go_step
  refine wpList_buildTo rfl 33 _ rfl _ rfl (rcC ⟨px+fx,py+fy,fw,fh⟩).toArray (by simp only[List.map_toArray,List.map_cons,List.map_nil];exact built_rc4 _ _ _ _) ?_;simp only[AC]
  iterate 3 go_step
  have HTH:=AB (D.bl.recThere rcC_len (i:=i) (by have:=AA HDL;omega));refine wpList_store_mid rfl 33 (.tmp 42) (.tmp 41) rfl gl (i*4) (rcC ⟨px+fx,py+fy,fw,fh⟩).toArray rfl rfl (AA HTH) (rcC_size _) (all_oneCell_toArray (rcC_one _)) ?_;have X3:ExtX w (w2.setCells gl (i*4) (rcC ⟨px+fx,py+fy,fw,fh⟩)) [gl]:=setCells_extX gl _ _ _ _ X2;have D3:=D.put hiL ⟨px+fx,py+fy,fw,fh⟩;rw[←AA HBO] at X3 D3;have HA:=AB (show AtP ns fs L (fun j=>decide (j=i)) (L.set i (boxN ns fs i)) from AtP.one (by have:=AA HDL;omega) (by exact AA H3));rw[←AA HBO];clear D X2 k0 k1 k2 k3 lV cp lP HTH;simp only[Act.put];generalize World.setCells _ _ _ _=w3 at *;obtain⟨bk,ok,Ai,ci,hAk,hB,hbk,hck,hrw,hfr⟩:=D3.rows.at_ i hiL;have ck3:=(D3.bk.cell 0).trans (rfl:_=some (Value.slice Ak nl nl));have lk3:=D3.bk.lt;obtain⟨l,hll⟩:∃l,kidsN ns nl i=l:=⟨_,rfl⟩
  rw[hll] at hck hrw;have HK:=AB (show ∀x∈l,∃c:Nat,x=c∧c<nl∧parN ns c=i from fun x hx=>kids_mem.1 (by rw[hll];exact hx));have HLL:=AB hll;clear hll;subst hAk;generalize hLs:L.set i (boxN ns fs i)=L2 at *;clear hLs;go_wp2_with fail;clear ck3 lk3 hck;have HX:=AB X3;clear X3;go_loopw [48] (fun x wr=>∃(k:Nat) (L3:List Rc),x=.int .i64 k∧k≤l.length∧Hid (AtP ns fs L (upTo ns i (l.take k)) L3)∧Pn w0 ns (Tr.cs ⟨some ⟨b,off,none⟩,nl,nc,aa,al,ac,view⟩) (tbC v1 v2 v3 (.slice (some ⟨bf,of_,none⟩) nl c)).toArray nl gt gx gp gk gd gl (some ⟨bk,ok,none⟩) wr L3∧Hid (ExtX w wr [gl])∧Rd wr 1 Ai l.length (ints l)) (fun x _=>l.length-(intOf x).toNat)
  case atStart=>exact⟨0,L2,rfl,by omega,by rw[List.take_zero];exact AB ((AA HA).congr (fun j _=>upTo_nil i j)),D3,HX,hrw⟩
  case round=>
   clear D3 HX hrw hbk;obtain⟨k,L3,rfl,q1,HA3,D3,X3,hrw⟩:=hrel;have hlen:l.length≤1000:=by
    rw[←AA HLL];exact Nat.le_trans (kidsN_len ns nl i) hm
   by_cases hk:k<l.length
   ·
    obtain⟨bq,oq,u,rfl,hbq,hu,hcq⟩:=hrw.get hk;rw[ints_get hk] at hu;obtain rfl:_=u:=Option.some.inj hu;obtain⟨c',hlc,hcn,hpc⟩:=AA HK _ (List.getElem_mem hk);have hic:i<c':=by have:=parN_lt ns c';omega
    rw[hlc] at hcq;have HS:=AB ((take_snoc hk).trans (by rw[hlc]));clear hlc hu;have cd:=(D3.bd.cell 0).trans (rfl:_=some (Value.func (.func 25) #[] #[.pointer (some ⟨gt,0,none⟩),.pointer (some ⟨gx,0,none⟩),.pointer (some ⟨gp,0,none⟩),.pointer (some ⟨gk,0,none⟩),.pointer (some ⟨gd,0,none⟩)]));have ld:=D3.bd.lt;have cp:=(D3.bp.cell 0).trans (rfl:_=some (Value.slice (some ⟨gl,0,none⟩) nl nl));have lP:=D3.bp.lt;have hL3:L3[i]?=some (boxN ns fs i):=by
     rw[(AA HA3).2 i (by have:=AA HDL;omega),if_pos ⟨by simp[upTo],AA H3⟩]
    have q0:=D3.bl.recAt rcC_len hL3 (j:=0) (show _=some (Value.int .i64 (posN ns (fX fs) i)) from rfl);have q2:=D3.bl.recAt rcC_len hL3 (j:=1) (show _=some (Value.int .i64 (posN ns (fY fs) i)) from rfl);rw[Nat.add_zero] at q0;have lL:=D3.bl.lt;have C:=AB ((AA (IH c' hic (by rw[AA HHL];exact hcn) L3 (posN ns (fX fs) i) (posN ns (fY fs) i) wr.drew (D3.step (Ext.refl _).drew) ⟨pos_kid (fX fs) hpc,pos_kid (fY fs) hpc⟩)));have HPC:=AB hpc;generalize posN ns (fX fs) i=pX at *;generalize posN ns (fY fs) i=pY at *;clear hpc IH hL3;go_upto_region 6 with fail;refine wp_region_ord [(0,0),(1,1),(0,2),(1,3),(1,4),(1,5),(0,6),(0,7),(1,8),(1,9),(1,10),(0,11),(3,12)] 12 (fun w'=>Ext wr w') (by kernel_rfl) (by kernel_rfl) rfl (by kernel_rfl) ((Ext.refl _).drew) ?_;simp only[AD]
    iterate 12 ((first|refine ordQA ?_|refine ordQB ?_);simp only[AC])
    refine ord_last ?_;go_wp2_with fail
    with_reducible refine (AA C).mono ?_
    rintro e w4 ⟨rfl,L4,HA4,D4,X4⟩;have HA5:=AB ((AA HA3).then HA4 (S'':=upTo ns i (l.take (k+1))) (fun j _=>by rw[AA HS,upTo_snoc]));have X5:=AB (((AA X3).then (ExtX.of (Ext.refl wr).drew [gl])).then X4);have hrw4:=X4.rd (hrw.ext (Ext.refl wr).drew) (fun b' o' e hm=>by have:=hfr b' o' e;have:=List.mem_singleton.1 hm;omega);clear HA4 D3 X3 X4 hrw cd ld cp lP q0 q2 lL C;go_wp2_with fail;refine ord_nil ?_;go_wp2_with fail;go_roundw
    case rel=>exact⟨k+1,L4,by go_num,by omega,HA5,D4,X5,hrw4⟩
    case measure=>simp[intOf];omega
   ·
    have HA5:=AB (show AtP ns fs L (sub ns i) L3 from (AA HA3).congr (fun j hj=>by
     rw[List.take_of_length_le (by omega),←AA HLL,←AA HHL,upTo_all (by rw[AA HHL,←AA HDL];exact hj)]))
    clear IH;go_wp2_with fail
    go_end0
    exact⟨rfl,L3,AA HA5,D3,AA X3⟩
end
section
variable (t:Tr) (ns:List Nd)
theorem places_hit (a b:Int) (v1 v2 v3:Value) (A:Option Addr) (n c:Nat) (fs:List FV) (w:World) (hck:∀w',Ext w w'→Calls Tryz.prog 39 #[.agg t.cs] w' (fun e w2=>e=.returned (.tuple #[.int .i64 a,.int .i64 b])∧Ext w' w2))
  (hf:FrsIn w A n fs) (hn:n≤1000) (hm:t.nl≤1000) (h:Rd w 44 t.na t.nl (nds ns)) (hT:b=0→TOk ns):Calls Tryz.prog 9 #[.agg t.cs,.agg (tbC v1 v2 v3 (.slice A n c)).toArray] w (PlsIs w (togB b n t.nl fs) ns fs):=by
 have HCK:=AB hck;have HF:=AB hf;have HH:=AB h;have HT:=AB hT;have hl:=h.nlen;obtain⟨v,hv⟩:∃v,togB b n t.nl fs=v:=⟨_,rfl⟩
 have HV:=AB hv;have HM:=AB hm;have HN:=AB hn;have HL:=AB hl;rw[hv];clear hck hf h hT hl hv hm hn;go_enter Tryz.func9,Tryz.ntmps9;go_upto_region 1 with fail;generalize hw1:World.alloc (World.alloc w _) _=w1;obtain⟨gT,hgT⟩:∃g,w.heap.size=g:=⟨_,rfl⟩
 have BT:Blk w1 gT 25 t.cs:=by rw[←hw1,←hgT];exact (Blk.new _ _ _).alloc _
 have BX:Blk w1 (gT+1) 30 (tbC v1 v2 v3 (.slice A n c)).toArray:=by rw[←hw1,←hgT];exact Blk.new1 _ _ _ _
 have E1:=AB (show Ext w w1 by rw[←hw1];exact ((Ext.refl _).alloc _).alloc _);rw[hgT];have HGT:=AB hgT;clear hgT hw1;have cG:=AB (together_any t a b v1 v2 v3 A n c fs w1 (fun w' hx=>(AA HCK) w' ((AA E1).trans hx)) ((AA HF).ext (AA E1)) (by have:=AA HN;omega) (by have:=AA HM;omega));rw[AA HV] at cG;go_step;refine wpList_load_blk rfl 25 (.tmp 2) rfl gT rfl 25 t.cs _ BT Tryz.underlying25 rfl (info_tree _) ?_;simp only[AC];refine wpList_load_blk rfl 30 (.tmp 3) rfl (gT+1) rfl 30 (tbC v1 v2 v3 (.slice A n c)).toArray _ BX Tryz.underlying30 rfl (tb_size _ _ _ _) ?_;simp only[AC];go_wp2_with fail
 with_reducible refine (AA cG).mono ?_
 rintro e w2 ⟨rfl,hx⟩;replace BT:=BT.ext hx;replace BX:=BX.ext hx;replace E1:=AB ((AA E1).trans hx);clear hx cG HCK;cases v
 ·go_wp2_with fail;go_ret2;exact⟨none,0,rfl,Rd.nil _ _ _,AA E1⟩
 ·obtain⟨hb0,hnm,hall⟩:=tog_yes (AA HV);have hFB:=AB (fun i=>fgN_bd hall i);have HTK:=AB ((AA HT) hb0);have hm:=AA HM;subst hnm;clear hb0 hall HT HV;have hpos:0<t.nl:=by have:=(AA HTK).pos;have:=AA HL;omega
  obtain⟨na,nl,nc,aa,al,ac,view⟩:=t;simp only at hpos hm HL HH BT HF;obtain⟨bn,on,hna,lbn,_⟩:=(AA HH).at_ hpos;obtain⟨bf,of_,hA,lbf,_⟩:=(AA HF).rd.at_ hpos;subst hna hA;clear lbn lbf;have hmk:=make_recs rcC_len (by omega) zRc (te:=40) (e:=33) Tryz.underlying40 rcC_all (by omega) nl (by omega) w2;have c0:=(BT.cell 0).trans (rfl:_=some (Value.slice (some ⟨bn,on,none⟩) nl nc));have lT:=BT.lt;have cK:=fun w h=>AB (kids_any (⟨some ⟨bn,on,none⟩,nl,nc,aa,al,ac,view⟩:Tr) ns w h (by simp only;omega))
  go_upto_region 4 with fail;clear hmk c0 lT;have hsz:=BX.lt;obtain⟨gl,hgl⟩:∃g,w2.heap.size=g:=⟨_,rfl⟩
  have BL:Blk ((w2.alloc (.cells (recs rcC (List.replicate nl zRc)).toArray 33)).alloc (.cells #[.slice (some ⟨w2.heap.size,0,none⟩) nl nl] 40)) gl 33 (recs rcC (List.replicate nl zRc)).toArray:=by rw[←hgl];exact (Blk.new _ _ _).alloc _
  have BP:Blk ((w2.alloc (.cells (recs rcC (List.replicate nl zRc)).toArray 33)).alloc (.cells #[.slice (some ⟨w2.heap.size,0,none⟩) nl nl] 40)) (gl+1) 40 #[.slice (some ⟨gl,0,none⟩) nl nl]:=by rw[←hgl];exact Blk.new1 _ _ _ _
  have E3:Ext w2 ((w2.alloc (.cells (recs rcC (List.replicate nl zRc)).toArray 33)).alloc (.cells #[.slice (some ⟨w2.heap.size,0,none⟩) nl nl] 40)):=((Ext.refl _).alloc _).alloc _;have hgT:gT<gl:=by omega
  have hwl:=(AA E1).size;rw[hgl] at hwl hsz;have HGL:=AB hgl;generalize ((w2.alloc (.cells (recs rcC (List.replicate nl zRc)).toArray 33)).alloc (.cells #[.slice (some ⟨w2.heap.size,0,none⟩) nl nl] 40))=w3 at *;rw[hgl];clear hgl;replace BT:=BT.ext E3;replace BX:=BX.ext E3;replace E1:=AB ((AA E1).trans E3);clear E3;go_step;refine wpList_load_blk rfl 25 (.tmp 2) rfl gT rfl 25 (Tr.cs ⟨some ⟨bn,on,none⟩,nl,nc,aa,al,ac,view⟩) _ BT Tryz.underlying25 rfl (info_tree _) ?_;simp only[AC];go_wp2_with fail
  with_reducible refine (AA (cK _ ((AA HH).ext (AA E1)))).mono ?_
  rintro e w4 ⟨Ak,rfl,hrows,hx⟩;have lt3:gl+1<w3.heap.size:=BP.lt;have lx:=hx.size;replace BT:=BT.ext hx;replace BX:=BX.ext hx;replace BP:=BP.ext hx;replace BL:=BL.ext hx;replace E1:=AB ((AA E1).trans hx);clear hx cK;go_upto_region 7 with fail;have D:Pn w ns (Tr.cs ⟨some ⟨bn,on,none⟩,nl,nc,aa,al,ac,view⟩) (tbC v1 v2 v3 (.slice (some ⟨bf,of_,none⟩) nl c)).toArray nl gT (gT+1) (gl+1) w4.heap.size (w4.heap.size+1) gl Ak ((w4.alloc (.cells #[.slice Ak nl nl] 77)).alloc (.cells #[(.func (.func 25) #[] #[.pointer (some ⟨gT,0,none⟩),.pointer (some ⟨gT+1,0,none⟩),.pointer (some ⟨gl+1,0,none⟩),.pointer (some ⟨w4.heap.size,0,none⟩),.pointer (some ⟨w4.heap.size+1,0,none⟩)])] 79)) (List.replicate nl zRc):=
   ⟨((AA E1).alloc _).alloc _,(BT.alloc _).alloc _,(BX.alloc _).alloc _,(BP.alloc _).alloc _,(Blk.new _ _ _).alloc _,Blk.new1 _ _ _ _,(BL.alloc _).alloc _,((hrows.mono (by omega)).ext ((Ext.refl _).alloc _)).ext ((Ext.refl _).alloc _),by omega,List.length_replicate⟩
  have C:=AB (pldown_any ns fs bn on nl nc al ac aa view v1 v2 v3 bf of_ c w gT (gT+1) (gl+1) w4.heap.size (w4.heap.size+1) gl Ak (AA HTK) (AA HH) hm (AA HF).rd (AA hFB) ns.length 0 (by omega) (AA HTK).pos (List.replicate nl zRc) 0 0 _ D ⟨pos_first (fX fs) (AA HTK),pos_first (fY fs) (AA HTK)⟩);have cD:((w4.alloc (.cells #[.slice Ak nl nl] 77)).alloc (.cells #[(.func (.func 25) #[] #[.pointer (some ⟨gT,0,none⟩),.pointer (some ⟨gT+1,0,none⟩),.pointer (some ⟨gl+1,0,none⟩),.pointer (some ⟨w4.heap.size,0,none⟩),.pointer (some ⟨w4.heap.size+1,0,none⟩)])] 79)).cell? ⟨w4.heap.size+1,0,none⟩=some (.func (.func 25) #[] #[.pointer (some ⟨gT,0,none⟩),.pointer (some ⟨gT+1,0,none⟩),.pointer (some ⟨gl+1,0,none⟩),.pointer (some ⟨w4.heap.size,0,none⟩),.pointer (some ⟨w4.heap.size+1,0,none⟩)]):=(D.bd.cell 0).trans rfl;clear D BT BX BP BL hrows lx lt3 hgT hwl hsz;go_wp2_with fail;refine (AA C).mono ?_;rintro e w5 ⟨rfl,L5,HA,D5,-⟩;have HE:=AB (show L5=plL ns fs from by rw[show nl=ns.length from (AA HL).symm] at HA;exact AtP.all (AA HTK) HA);have HLE:=AB D5.len;have c5:=(D5.bp.cell 0).trans (rfl:_=some (Value.slice (some ⟨gl,0,none⟩) nl nl));have l5:=D5.bp.lt;clear C cD;go_wp2_with fail;go_ret2;have hpl:(plV true ns fs)=L5:=(AA HE).symm;refine⟨some ⟨gl,0,none⟩,nl,?_,?_,D5.ext⟩
  ·rw[hpl,AA HLE];rfl
  ·rw[hpl];exact D5.bl.recRd rcC_len
end
def spanB (f m x:Int):Bool:=decide (f≤x)&&decide (x<f+m)
def firstA {α:Type} (p:α→Bool):List α→Nat→Int
 |[],_=>-1
 |x :: l,k=>if p x=true then (k:Int) else firstA p l (k+1)
def lastP (p:Nat→Bool):Nat→Int
 |0=>-1
 |n+1=>if p n=true then (n:Int) else lastP p n
def pcIn (r:Rc) (px:Int) (p:Pc):Bool:=spanB (r.x+p.x) p.w px
def lnIn (r:Rc) (py:Int) (l:LV):Bool:=spanB (r.y+l.l.y) l.l.h py
def lineA (r:Rc) (px py:Int):List LV→Nat→Int×Int
 |[],_=>(-1,-1)
 |l :: t,k=>if lnIn r py l=true then ((k:Int),firstA (pcIn r px) l.ps 0) else lineA r px py t (k+1)
def boxIn (ns:List Nd) (fs:List FV) (px py:Int) (i:Nat):Bool:=decide (nK ns i≠3)&&(spanB (plN ns fs i).x (plN ns fs i).w px&&spanB (plN ns fs i).y (plN ns fs i).h py)
def lsN (fs:List FV) (i:Nat):List LV:=match fs[i]? with|some f=>f.ls|none=>[]
def farB (v:Bool) (px py:Int):Bool:=!v||(decide (px < -1152921504606846976)||(decide (1152921504606846976<px)||(decide (py < -1152921504606846976)||decide (1152921504606846976<py))))
def atV (v:Bool) (ns:List Nd) (fs:List FV) (px py:Int):Int×Int×Int:=
 if farB v px py=true then (-1,-1,-1) else
  if lastP (boxIn ns fs px py) ns.length<0 then (-1,-1,-1) else
   (lastP (boxIn ns fs px py) ns.length,lineA (plN ns fs (lastP (boxIn ns fs px py) ns.length).toNat) px py (lsN fs (lastP (boxIn ns fs px py) ns.length).toNat) 0)
def HitIs (w:World) (V:Int×Int×Int) (e:Ending) (w':World):Prop:=e=.returned (.tuple #[.int .i64 V.1,.int .i64 V.2.1,.int .i64 V.2.2])∧Ext w w'
theorem last_ge (p:Nat→Bool):∀n:Nat,-1≤lastP p n∧lastP p n<n
 |0=>by simp[lastP]
 |n+1=>by
  have:=last_ge p n;unfold lastP
  split<;>omega
theorem last_yes {p:Nat→Bool} {n:Nat} (h:p n=true):lastP p (n+1)=n:=by rw[lastP,if_pos h]
theorem last_no {p:Nat→Bool} {n:Nat} (h:p n=false):lastP p (n+1)=lastP p n:=by rw[lastP,if_neg (by simp[h])]
theorem first_yes {α:Type} {p:α→Bool} {l:List α} {k:Nat} {x:α} (hx:l[k]?=some x) (h:p x=true):firstA p (l.drop k) k=k:=by
 obtain⟨hk,rfl⟩:=List.getElem?_eq_some_iff.1 hx;rw[List.drop_eq_getElem_cons hk,firstA,if_pos h]
theorem first_no {α:Type} {p:α→Bool} {l:List α} {k:Nat} {x:α} (hx:l[k]?=some x) (h:p x=false):firstA p (l.drop k) k=firstA p (l.drop (k+1)) (k+1):=by
 obtain⟨hk,rfl⟩:=List.getElem?_eq_some_iff.1 hx;rw[List.drop_eq_getElem_cons hk,firstA,if_neg (by simp[h])]
theorem first_end {α:Type} {p:α→Bool} {l:List α} {k:Nat} (h:l.length≤k):firstA p (l.drop k) k=-1:=by rw[List.drop_eq_nil_of_le h,firstA]
theorem line_yes {r:Rc} {px py:Int} {l:List LV} {k:Nat} {x:LV} (hx:l[k]?=some x) (h:lnIn r py x=true):lineA r px py (l.drop k) k=((k:Int),firstA (pcIn r px) x.ps 0):=by
 obtain⟨hk,rfl⟩:=List.getElem?_eq_some_iff.1 hx;rw[List.drop_eq_getElem_cons hk,lineA,if_pos h]
theorem line_no {r:Rc} {px py:Int} {l:List LV} {k:Nat} {x:LV} (hx:l[k]?=some x) (h:lnIn r py x=false):lineA r px py (l.drop k) k=lineA r px py (l.drop (k+1)) (k+1):=by
 obtain⟨hk,rfl⟩:=List.getElem?_eq_some_iff.1 hx;rw[List.drop_eq_getElem_cons hk,lineA,if_neg (by simp[h])]
theorem line_end {r:Rc} {px py:Int} {l:List LV} {k:Nat} (h:l.length≤k):lineA r px py (l.drop k) k=(-1,-1):=by rw[List.drop_eq_nil_of_le h,lineA]
theorem meet_point (ns:List Nd) (fs:List FV) (px py:Int) (i:Nat):meetB (plN ns fs i) ⟨px,py,1,1⟩=boxIn ns fs px py i:=by
 unfold boxIn;by_cases h3:nK ns i=3
 ·rw[plN,if_pos h3];simp[meetB,Rc.some,zRc,h3]
 ·rw[decide_eq_true h3,Bool.true_and,Bool.eq_iff_iff];simp only[meetB,Rc.some,spanB,Bool.and_eq_true,decide_eq_true_eq];omega
structure RcM (r:Rc):Prop where
 (x:-2000000000000000≤r.x∧r.x≤2000000000000000) (y:-2000000000000000≤r.y∧r.y≤2000000000000000) (w:InM r.w) (h:InM r.h)
theorem RcM.ok {r:Rc} (h:RcM r):r.Ok:=by
 obtain⟨h1,h2,h3,h4⟩:=h;unfold InM at h3 h4
 constructor<;>omega
theorem plN_bd (ns:List Nd) {fs:List FV} (h:∀i,FgM (fgN fs i)) {i:Nat} (hi:i<1000):RcM (plN ns fs i):=by
 unfold plN
 split
 ·exact⟨by decide,by decide,⟨by decide,by decide⟩,⟨by decide,by decide⟩⟩
 ·have h1:=posX_bd ns h i;have h2:=posY_bd ns h i;exact⟨by show _≤posN ns (fX fs) i∧posN ns (fX fs) i≤_;omega,by show _≤posN ns (fY fs) i∧posN ns (fY fs) i≤_;omega,(h i).w,(h i).h⟩
structure LvM (l:LV):Prop where
 (y:InM l.l.y) (h:InM l.l.h) (ps:∀p∈l.ps,InM p.x∧InM p.w)
theorem lsN_bd {fs:List FV} (h:fs.all fOk=true) (i:Nat):∀l∈lsN fs i,LvM l:=by
 intro l hl;unfold lsN at hl;cases hf:fs[i]? with
 |none=>rw[hf] at hl;cases hl
 |some f=>
  rw[hf] at hl;have h1:=List.all_eq_true.1 h f (List.mem_of_getElem? hf);unfold fOk at h1;simp only[Bool.and_eq_true] at h1;have h2:=List.all_eq_true.1 h1.2 l hl;unfold lOk at h2;simp only[Bool.and_eq_true] at h2;refine⟨inB_of h2.1.1,inB_of h2.1.2,fun p hp=>?_⟩;have h3:=List.all_eq_true.1 h2.2 p hp;unfold pOk at h3;simp only[Bool.and_eq_true] at h3;exact⟨inB_of h3.1,inB_of h3.2⟩
theorem built_pt (a b:Int):Tryz.prog.built 33 [(0,.int .i64 a),(1,.int .i64 b),(2,.int .i64 1),(3,.int .i64 1)]=some (rcC ⟨a,b,1,1⟩).toArray:=by kernel_rfl
section
variable (t:Tr) (ns:List Nd)
theorem hitat_any (a b:Int) (v1 v2 v3:Value) (A:Option Addr) (n c:Nat) (fs:List FV) (px py:Int) (w:World) (hck:∀w',Ext w w'→Calls Tryz.prog 39 #[.agg t.cs] w' (fun e w2=>e=.returned (.tuple #[.int .i64 a,.int .i64 b])∧Ext w' w2))
  (hf:FrsIn w A n fs) (hn:n≤1000) (hm:t.nl≤1000) (h:Rd w 44 t.na t.nl (nds ns)) (hT:b=0→TOk ns):Calls Tryz.prog 12 #[.agg t.cs,.agg (tbC v1 v2 v3 (.slice A n c)).toArray,.int .i64 px,.int .i64 py] w (HitIs w (atV (togB b n t.nl fs) ns fs px py)):=by
 have HCK:=AB hck;have HF:=AB hf;have HH:=AB h;have HT:=AB hT;have hl:=h.nlen;have hfl:=AB hf.len;obtain⟨v,hv⟩:∃v,togB b n t.nl fs=v:=⟨_,rfl⟩
 have HV:=AB hv;have HM:=AB hm;have HN:=AB hn;have HL:=AB hl;rw[hv];obtain⟨R,hR⟩:∃R,atV v ns fs px py=R:=⟨_,rfl⟩
 have HR:=AB hR;rw[hR];clear hck hf h hT hl hv hm hn hR;go_enter Tryz.func12,Tryz.ntmps12;go_upto_region 1 with fail;generalize hw1:World.alloc (World.alloc w _) _=w1;obtain⟨gT,hgT⟩:∃g,w.heap.size=g:=⟨_,rfl⟩
 have BT:Blk w1 gT 25 t.cs:=by rw[←hw1,←hgT];exact (Blk.new _ _ _).alloc _
 have BX:Blk w1 (gT+1) 30 (tbC v1 v2 v3 (.slice A n c)).toArray:=by rw[←hw1,←hgT];exact Blk.new1 _ _ _ _
 have E1:=AB (show Ext w w1 by rw[←hw1];exact ((Ext.refl _).alloc _).alloc _);rw[hgT];clear hgT hw1;have cG:=AB (places_hit t ns a b v1 v2 v3 A n c fs w1 (fun w' hx=>(AA HCK) w' ((AA E1).trans hx)) ((AA HF).ext (AA E1)) (AA HN) (AA HM) ((AA HH).ext (AA E1)) (AA HT));rw[AA HV] at cG;go_step;refine wpList_load_blk rfl 25 (.tmp 4) rfl gT rfl 25 t.cs _ BT Tryz.underlying25 rfl (info_tree _) ?_;simp only[AC];refine wpList_load_blk rfl 30 (.tmp 5) rfl (gT+1) rfl 30 (tbC v1 v2 v3 (.slice A n c)).toArray _ BX Tryz.underlying30 rfl (tb_size _ _ _ _) ?_;simp only[AC];go_wp2_with fail
 with_reducible refine (AA cG).mono ?_
 rintro e w2 ⟨A9,c9,rfl,RP,hx⟩;replace BX:=BX.ext hx;replace E1:=AB ((AA E1).trans hx);clear hx cG HCK BT;have HRP:=AB RP;have HBX:=AB BX;clear RP BX;obtain⟨m,hm⟩:∃m,(plV v ns fs).length=m:=⟨_,rfl⟩
 rw[hm] at HRP;rw[hm];have HMM:=AB hm;clear hm;obtain⟨er,her⟩:∃er:Int,(if v=true then (0:Int) else 1)=er:=⟨_,rfl⟩
 rw[her];have hev:=AB (show (er != 0)=!v by rw[←her];cases v<;>rfl);clear her;go_upto_region 2 with fail;go_cut [43] from 26 to 43 (fun v43 wx=>v43=.bool (farB v px py)∧wx=w2)
 case first=>
  as_aux_lemma=>
  have hev2:=AA hev;cases v
  ·simp only[Bool.not_false] at hev2;go_wp2_with fail;go_meet
   case rel=>exact⟨rfl,rfl⟩
  ·simp only[Bool.not_true] at hev2;by_cases h1:px < -1152921504606846976
   ·go_wp2_with fail;go_meet
    case rel=>exact⟨by simp[farB,h1],rfl⟩
   ·by_cases h2:1152921504606846976<px
    ·go_wp2_with fail;go_meet
     case rel=>exact⟨by simp[farB,h2],rfl⟩
    ·by_cases h3:py < -1152921504606846976
     ·go_wp2_with fail;go_meet
      case rel=>exact⟨by simp[farB,h3],rfl⟩
     ·by_cases h4:1152921504606846976<py
      ·go_wp2_with fail;go_meet
       case rel=>exact⟨by simp[farB,h4],rfl⟩
      ·go_wp2_with fail;go_meet
       case rel=>exact⟨by simp[farB,h1,h2,h3,h4],rfl⟩
 case rest=>
  obtain⟨hq,hwc⟩:=hcut;subst hq;subst hwc;clear hev;obtain⟨q,hq⟩:∃q,farB v px py=q:=⟨_,rfl⟩
  rw[hq];go_upto_if 43 with (fail);cases q
  ·as_aux_lemma=>
   have hyes:v=true:=by
    cases v
    ·simp[farB] at hq
    ·rfl
   subst hyes;have hfar:(-1152921504606846976≤px∧px≤1152921504606846976)∧(-1152921504606846976≤py∧py≤1152921504606846976):=by
    simp[farB] at hq;omega
   obtain⟨hb0,hnm,hall⟩:=tog_yes (AA HV);have hFB:=AB (fun i=>fgN_bd hall i);have hLB:=AB (fun i=>lsN_bd hall i);have hML:=AB (show ns.length=m by have:=AA HMM;simpa[plV,plL_len] using this);have hmn:=AB (show m=n by have:=AA hML;have:=AA HL;omega);have hm1:m≤1000:=by have:=AA hmn;have:=AA HN;omega
   have HR2:=AB (show ∀k:Int,lastP (boxIn ns fs px py) ns.length=k→R=if k<0 then (-1,-1,-1) else (k,lineA (plN ns fs k.toNat) px py (lsN fs k.toNat) 0) from fun k hk=>by rw[←AA HR,atV,if_neg (by simp[hq]),hk]);replace HRP:Hid (Rd wc 4 A9 m (recs rcC (plL ns fs))):=HRP;clear hb0 hnm hall HR HV HT HMM hq;go_upto_region 4 with fail
   iterate 7 go_step
   refine wpList_buildTo rfl 33 _ rfl _ rfl (rcC ⟨px,py,1,1⟩).toArray (by simp only[List.map_toArray,List.map_cons,List.map_nil];exact built_pt _ _) ?_;simp only[AC];refine wpList_var rfl rfl 33 rfl 13 rfl (.tmp 46) rfl rfl (rcC zRc).toArray (rcC ⟨px,py,1,1⟩).toArray rcC_zero rfl rfl (rcC_size _) rfl (by kernel_rfl) ?_;intro w3 BP hx z3;simp only[AC];have E3:=AB ((AA E1).trans hx);have HBP:=AB BP;replace HBX:=AB ((AA HBX).ext hx);replace HRP:=AB ((AA HRP).ext hx);generalize wc.heap.size=gP at *;clear hx z3 BP E1;go_wp2_with fail;go_loopw [8] (fun v8 wq=>∃k:Int,v8=.int .i64 k∧-1≤k∧k<(m:Int)∧Hid (lastP (boxIn ns fs px py) (k+1).toNat=lastP (boxIn ns fs px py) ns.length)∧Ext w3 wq) (fun v8 _=>(intOf v8+1).toNat)
   case atStart=>exact⟨(m:Int)-1,by go_num,by omega,by omega,AB (by rw[AA hML];congr 1;omega),Ext.refl _⟩
   case round=>
    obtain⟨k,rfl,hk1,hkm,HK,E⟩:=hrel;by_cases hk0:0≤k
    ·
     obtain⟨k,rfl⟩:∃i:Nat,k=(i:Int):=⟨k.toNat,by omega⟩
     have hkm2:k<m:=by omega
     have hkI:(0:Int)≤(k:Int)∧(k:Int)<(m:Int):=by omega
     obtain⟨bp,op_,hA9,lp,hmp⟩:=((AA HRP).ext E).rec_ rcC_len (plL_get (fs:=fs) (show k<ns.length by rw[AA hML];exact hkm2)) (by omega);subst hA9;have hbd:=plN_bd ns (AA hFB) (i:=k) (by omega);have cM:=fun w=>AB (meet_any (plN ns fs k) ⟨px,py,1,1⟩ hbd.ok ⟨by simp only;omega,by simp only;omega,by simp only;omega,by simp only;omega,by simp only;omega,by simp only;omega,by simp only;omega,by simp only;omega⟩ w)
     rw[meet_point] at cM;obtain⟨r,hr⟩:∃r,plN ns fs k=r:=⟨_,rfl⟩
     have HRE:=AB hr;rw[hr] at cM hmp hbd;obtain⟨q,hq⟩:∃q,boxIn ns fs px py k=q:=⟨_,rfl⟩
     rw[hq] at cM;have HQ:=AB hq;clear hr hq;obtain⟨rx,ry,rw_,rh⟩:=r;have p0:=hmp 0 _ (rfl:_=some (Value.int .i64 rx));rw[Nat.add_zero] at p0;have p1:=hmp 1 _ (rfl:_=some (Value.int .i64 ry));have p2:=hmp 2 _ (rfl:_=some (Value.int .i64 rw_));have p3:=hmp 3 _ (rfl:_=some (Value.int .i64 rh));have BP:=(AA HBP).ext E;have g0:=(BP.cell 0).trans (rfl:_=some (Value.int .i64 px));have g1:=(BP.cell 1).trans (rfl:_=some (Value.int .i64 py));have g2:=(BP.cell 2).trans (rfl:_=some (Value.int .i64 1));have g3:=(BP.cell 3).trans (rfl:_=some (Value.int .i64 1));have lP:=BP.lt;clear BP hmp;go_upto_region 6 with fail;refine wp_region_ord [(1,0),(1,1),(1,2),(1,3),(1,4),(1,5),(0,6),(0,7),(3,8),(1,9),(1,10)] 8 (fun w'=>Ext wr w') (by kernel_rfl) (by kernel_rfl) rfl (by kernel_rfl) ((Ext.refl _).drew) ?_;simp only[AD]
     iterate 8 ((first|refine ordQE ?_|refine ordQF ?_|refine ordQC ?_|refine ordQD ?_);simp only[AC])
     refine ord_last ?_;go_wp2_with fail
     with_reducible refine (AA (cM _)).mono ?_
     rintro e w4 ⟨rfl,hx⟩;clear p0 p1 p2 p3 g0 g1 g2 g3 lP lp cM;have E4:=AB ((E.trans (Ext.refl wr).drew).trans hx);clear hx E;go_wp2_with fail
     iterate 2 ((first|refine ordQE ?_|refine ordQF ?_|refine ordQC ?_|refine ordQD ?_);simp only[AC])
     refine ord_nil ?_;cases q
     ·
      go_wp2_with fail;go_roundw
      case rel=>exact⟨(k:Int)-1,by go_num,by omega,by omega,AB (by rw[←AA HK,show ((k:Int)+1).toNat=k+1 by omega,last_no (AA HQ)];congr 1;omega),AA E4⟩
      case measure=>simp[intOf]<;>omega
     ·
      have HKK:=AB (show lastP (boxIn ns fs px py) ns.length=(k:Int) by rw[←AA HK,show ((k:Int)+1).toNat=k+1 by omega,last_yes (AA HQ)]);have HR3:=AB (show R=((k:Int),lineA ⟨rx,ry,rw_,rh⟩ px py (lsN fs k) 0) by rw[(AA HR2) k (AA HKK),if_neg (by omega),Int.toNat_natCast,AA HRE]);clear HKK HK HQ;obtain⟨bx1,bx2⟩:=hbd.x;obtain⟨by1,by2⟩:=hbd.y;simp only at bx1 bx2 by1 by2;have hkn2:k<n:=by have:=AA hmn;omega
      have hknI:(0:Int)≤(k:Int)∧(k:Int)<(n:Int):=by omega
      obtain⟨fv,hfv⟩:∃x,fs[k]?=some x:=⟨_,AE (by rw[AA hfl];exact hkn2)⟩
      have hfm:=List.mem_of_getElem? hfv;have hls:lsN fs k=fv.ls:=by unfold lsN;rw[hfv]
      have HLV:=AB (show ∀l∈fv.ls,LvM l from fun l hl=>(AA hLB) k l (by rw[hls];exact hl));rw[hls] at HR3;obtain⟨bf,of_,hA,lf,hmf⟩:=(AA HF).rd.rec_ fgC_len (show (fs.map FV.f)[k]?=some fv.f by rw[List.getElem?_map,hfv];rfl) (by omega);subst hA;have HLS:=AB ((AA HF).ls _ hfm);have HPS:=AB ((AA HF).ps _ hfm);have f4:=hmf 4 _ (rfl:_=some (Value.slice fv.f.lA fv.f.ln fv.f.lc));obtain⟨⟨fx,fy,fw,fh,lA,ln,lc⟩,xls⟩:=fv;simp only at HLV HR3 HLS HPS f4;have HLF:=AB lf;have HF4:=AB f4;clear lf f4;obtain⟨bp2,op2,hA9,lp,hmp⟩:=((AA HRP).ext (AA E4)).rec_ rcC_len (plL_get (fs:=fs) (show k<ns.length by rw[AA hML];exact hkm2)) (by omega);injection hA9 with hA9;injection hA9 with hA9 hA10;subst hA9 hA10;rw[AA HRE] at hmp;have p0:=hmp 0 _ (rfl:_=some (Value.int .i64 rx));rw[Nat.add_zero] at p0;have p1:=hmp 1 _ (rfl:_=some (Value.int .i64 ry));clear hmp HRE hfm hls hmf hfv;obtain⟨x0,hx0⟩:∃x0,px-rx=x0:=⟨_,rfl⟩
      obtain⟨y0,hy0⟩:∃y0,py-ry=y0:=⟨_,rfl⟩
      have hw0:IntKind.i64.wrap (px-rx)=x0:=by rw[IntWalk.i64_in _ (by omega)];exact hx0
      have hw1:IntKind.i64.wrap (py-ry)=y0:=by rw[IntWalk.i64_in _ (by omega)];exact hy0
      have HX0:=AB hx0;have HY0:=AB hy0;have hb0:-1200000000000000000≤x0∧x0≤1200000000000000000:=by omega
      have hb1:-1200000000000000000≤y0∧y0≤1200000000000000000:=by omega
      clear hx0 hy0;go_upto_region 10 with fail;refine wp_region_ord [(1,0),(1,1),(1,2),(1,3),(1,4),(0,5),(1,6),(1,7),(1,8),(1,9),(1,10),(1,11),(0,12),(1,13),(1,14),(1,15)] 16 (fun w'=>Ext w4 w') (by kernel_rfl) (by kernel_rfl) rfl (by kernel_rfl) ((Ext.refl _).drew) ?_;simp only[AD]
      iterate 16 ((first|refine ordQA ?_|refine ordQB ?_);simp only[AC])
      refine ord_nil ?_;have E5:=AB ((AA E4).drew);have HB0:=AB hb0;have HB1:=AB hb1;clear E4 p0 p1 lp hw0 hw1 hfar bx1 bx2 by1 by2 hbd hb0 hb1;generalize w4.drew=w5 at *;have EW:=AB ((AA E3).trans (AA E5));have g4:=((AA EW).cells.1 _ _ (AA HLF)).trans (AA HF4);have lf4:=Nat.lt_of_lt_of_le (AA HLF) (AA EW).size;have BX:=(AA HBX).ext (AA E5);have x3:=(BX.cell 3).trans (rfl:_=some (Value.slice (some ⟨bf,of_,none⟩) n c));have lX:=BX.lt;clear BX;obtain⟨RL,hln⟩:=AA HLS;replace hln:ln≤9223372036854775807:=hln;have hll:=AB (show xls.length=ln by have:=RL.recN llC_len (by omega);simpa using this);have HRL:=AB RL;clear RL;go_wp2_with fail;clear g4 lf4 x3 lX;go_loopw [8,9,10,16,17,86] (fun v8 _ _ _ _ v86 wq=>∃j:Nat,v86=.int .i64 j∧v8=.int .i64 k∧j≤ln∧Hid (lineA ⟨rx,ry,rw_,rh⟩ px py (xls.drop j) j=lineA ⟨rx,ry,rw_,rh⟩ px py xls 0)∧Hid (Ext w5 wq)) (fun _ _ _ _ _ v86 _=>ln-(intOf v86).toNat)
      case atStart=>exact⟨0,rfl,rfl,by omega,AB rfl,AB (Ext.refl _)⟩
      case round=>
       obtain⟨j,rfl,rfl,hj,HJ,E6⟩:=hrel;by_cases hjn:j<ln
       ·
        have hjI:(0:Int)≤(j:Int)∧(j:Int)<(ln:Int):=by omega
        obtain⟨y,hy⟩:∃y,xls[j]?=some y:=⟨_,AE (by have:=AA hll;omega)⟩
        have hym:=List.mem_of_getElem? hy;have hlv:=(AA HLV) y hym;obtain⟨⟨ly,lh,pA,pn,pc⟩,yps⟩:=y;obtain⟨bl,ol,hA,ll,hml⟩:=((AA HRL).ext ((AA EW).trans (AA E6))).rec_ llC_len (show (xls.map LV.l)[j]?=some (⟨ly,lh,pA,pn,pc⟩:Ll) by rw[List.getElem?_map,hy];rfl) (by omega);subst hA;have HML:=AB hml;have HYj:=AB hy;obtain⟨RPp,hpn⟩:=(AA HPS) _ hym;replace hpn:pn≤9223372036854775807:=hpn;have HRPp:=AB RPp;obtain⟨bly,blh,blp⟩:=hlv;simp only at bly blh blp HRPp hpn;unfold InM at bly blh;have HLP:=AB blp;clear hml hy hym RPp blp;go_upto_region 13 with fail
        iterate 7 go_step
        refine wpList_load_midg 73 (.tmp 89) rfl bl (ol+j*3) rfl rfl (llC ⟨ly,lh,pA,pn,pc⟩) _ (fun q v hv=>(AA HML) q v hv) Tryz.underlying73 rfl (llC_size _) ?_;simp only[AC];refine wpList_alloc_var rfl 73 rfl (llC zLl).toArray llC_zero ?_;intro w6 B6 hx6 z6;simp only[AC]
        iterate 3 go_step
        refine wpList_store_blk rfl 73 (.tmp 17) (.tmp 90) rfl wr.heap.size rfl (llC ⟨ly,lh,pA,pn,pc⟩).toArray rfl 73 (llC zLl).toArray B6 (llC_size _) rfl (by kernel_rfl) ?_;intro w7 BL g7 z7;simp only[Act.put];have E7:=AB ((AA E6).trans (hx6.grown g7 (fun q e=>by have:=Option.some.inj e;omega)));have HBL:=AB BL;generalize wr.heap.size=gL at *;clear hx6 z6 g7 z7 B6 HML ll E6;have l0:=(BL.cell 0).trans (rfl:_=some (Value.int .i64 ly));have l1:=(BL.cell 1).trans (rfl:_=some (Value.int .i64 lh));have lL:=BL.lt;clear BL;have hy0:=AA HY0;have hb1:=AA HB1;obtain⟨q,hq⟩:∃q,lnIn ⟨rx,ry,rw_,rh⟩ py ⟨⟨ly,lh,pA,pn,pc⟩,yps⟩=q:=⟨_,rfl⟩
        have HQ:=AB hq;have hqv:q=(decide (ly≤y0)&&decide (y0<ly+lh)):=by
         rw[←hq,Bool.eq_iff_iff];simp only[lnIn,spanB,Bool.and_eq_true,decide_eq_true_eq];omega
        clear hq hy0;have HQV:=AB hqv;clear hqv;go_upto_region 14 with fail;go_cut [103] from 91 to 103 (fun v103 wx=>v103=.bool (!q)∧wx=w7)
        case first=>
         as_aux_lemma=>
         by_cases h1:y0<ly
         ·go_wp2_with fail;go_meet
          case rel=>exact⟨by rw[AA HQV,decide_eq_false (by omega)];rfl,rfl⟩
         ·by_cases h2:ly+lh≤y0
          ·go_wp2_with fail;go_meet
           case rel=>exact⟨by rw[AA HQV,decide_eq_true (by omega),decide_eq_false (by omega)];rfl,rfl⟩
          ·go_wp2_with fail;go_meet
           case rel=>exact⟨by rw[AA HQV,decide_eq_true (by omega),decide_eq_true (by omega)];rfl,rfl⟩
        case rest=>
         obtain⟨hq,hwc⟩:=hcut;subst hq;subst hwc;clear l0 l1 lL;go_upto_if 103 with (fail);cases q
         ·
          simp only[Bool.not_false];have HJ2:=AB (show lineA ⟨rx,ry,rw_,rh⟩ px py (xls.drop (j+1)) (j+1)=lineA ⟨rx,ry,rw_,rh⟩ px py xls 0 by rw[←AA HJ,line_no (AA HYj) (AA HQ)]);go_wp2_with fail;go_roundw
          case rel=>exact⟨j+1,by go_num,rfl,by omega,HJ2,E7⟩
          case measure=>simp[intOf]<;>omega
         ·
          simp only[Bool.not_true];have HL3:=AB (show lineA ⟨rx,ry,rw_,rh⟩ px py xls 0=((j:Int),firstA (pcIn ⟨rx,ry,rw_,rh⟩ px) yps 0) by rw[←AA HJ,line_yes (AA HYj) (AA HQ)]);rw[AA HL3] at HR3;clear HL3 HJ HYj HQ HQV;have BL:=AA HBL;have l2:=(BL.cell 2).trans (rfl:_=some (Value.slice pA pn pc));have lL:=BL.lt;clear BL HBL;have hpp:=AB (show yps.length=pn by have:=(AA HRPp).recN pcC_len (by omega);exact this);go_upto_region 15 with fail;go_wp2_with fail;clear l2 lL;have EW7:=AB ((AA EW).trans (AA E7));go_loopw [8,9,10,18,19,107] (fun v8 _ _ _ _ v107 wq=>∃i:Nat,v107=.int .i64 i∧v8=.int .i64 k∧i≤pn∧Hid (firstA (pcIn ⟨rx,ry,rw_,rh⟩ px) (yps.drop i) i=firstA (pcIn ⟨rx,ry,rw_,rh⟩ px) yps 0)∧Hid (Ext wc wq)) (fun _ _ _ _ _ v107 _=>pn-(intOf v107).toNat)
          case atStart=>exact⟨0,rfl,rfl,by omega,AB rfl,AB (Ext.refl _)⟩
          case round=>
           obtain⟨i,rfl,rfl,hi,HI,E8⟩:=hrel;by_cases hin:i<pn
           ·
            have hiI:(0:Int)≤(i:Int)∧(i:Int)<(pn:Int):=by omega
            obtain⟨z,hz⟩:∃z,yps[i]?=some z:=⟨_,AE (by have:=AA hpp;omega)⟩
            obtain⟨bzx,bzw⟩:=(AA HLP) z (List.mem_of_getElem? hz);obtain⟨bq,oq,hA2,lq,hmq⟩:=((AA HRPp).ext ((AA EW7).trans (AA E8))).rec_ pcC_len hz (by omega);subst hA2;have HMQ:=AB hmq;have HZ:=AB hz;unfold InM at bzx bzw;clear hmq hz;go_upto_region 17 with fail
            iterate 7 go_step
            refine wpList_load_midg 75 (.tmp 110) rfl bq (oq+i*5) rfl rfl (pcC z) _ (fun q v hv=>(AA HMQ) q v hv) Tryz.underlying75 rfl (pcC_size _) ?_;simp only[AC];refine wpList_alloc_var rfl 75 rfl (pcC zPc).toArray pcC_zero ?_;intro w8 B8 hx8 z8;simp only[AC]
            iterate 3 go_step
            refine wpList_store_blk rfl 75 (.tmp 19) (.tmp 111) rfl wr.heap.size rfl (pcC z).toArray rfl 75 (pcC zPc).toArray B8 (pcC_size _) rfl (by kernel_rfl) ?_;intro w9 BZ g9 z9;simp only[Act.put];have E9:=AB ((AA E8).trans (hx8.grown g9 (fun q e=>by have:=Option.some.inj e;omega)));generalize wr.heap.size=gZ at *;clear hx8 z8 g9 z9 B8 HMQ lq E8;have l3:=(BZ.cell 3).trans (rfl:_=some (Value.int .i64 z.x));have l4:=(BZ.cell 4).trans (rfl:_=some (Value.int .i64 z.w));have lZ:=BZ.lt;clear BZ;have hx0:=AA HX0;have hb0:=AA HB0;obtain⟨q,hq⟩:∃q,pcIn ⟨rx,ry,rw_,rh⟩ px z=q:=⟨_,rfl⟩
            have HQ:=AB hq;have hqv:q=(decide (z.x≤x0)&&decide (x0<z.x+z.w)):=by
             rw[←hq,Bool.eq_iff_iff];simp only[pcIn,spanB,Bool.and_eq_true,decide_eq_true_eq];omega
            clear hq hx0;have HQV:=AB hqv;clear hqv;obtain⟨zx,hzx⟩:∃x,z.x=x:=⟨_,rfl⟩
            obtain⟨zw,hzw⟩:∃x,z.w=x:=⟨_,rfl⟩
            rw[hzx] at l3 HQV bzx;rw[hzw] at l4 HQV bzw;clear hzx hzw;go_upto_region 18 with fail;go_cut [124] from 112 to 124 (fun v124 wx=>v124=.bool q∧wx=w9)
            case first=>
             as_aux_lemma=>
             by_cases h1:zx≤x0
             ·by_cases h2:x0<zx+zw
              ·go_wp2_with fail;go_meet
               case rel=>exact⟨by rw[AA HQV,decide_eq_true (by omega),decide_eq_true (by omega)];rfl,rfl⟩
              ·go_wp2_with fail;go_meet
               case rel=>exact⟨by rw[AA HQV,decide_eq_true (by omega),decide_eq_false (by omega)];rfl,rfl⟩
             ·go_wp2_with fail;go_meet
              case rel=>exact⟨by rw[AA HQV,decide_eq_false (by omega)];rfl,rfl⟩
            case rest=>
             obtain⟨hq,hwc⟩:=hcut;subst hq;subst hwc;clear l3 l4 lZ bzx bzw;go_upto_if 124 with (fail);cases q
             ·
              have HI2:=AB (show firstA (pcIn ⟨rx,ry,rw_,rh⟩ px) (yps.drop (i+1)) (i+1)=firstA (pcIn ⟨rx,ry,rw_,rh⟩ px) yps 0 by rw[←AA HI,first_no (AA HZ) (AA HQ)]);go_wp2_with fail;go_roundw
              case rel=>exact⟨i+1,by go_num,rfl,by omega,HI2,E9⟩
              case measure=>simp[intOf]<;>omega
             ·
              have HR4:=AB (show R=((k:Int),(j:Int),(i:Int)) by rw[AA HR3,←AA HI,first_yes (AA HZ) (AA HQ)]);go_wp2_with fail
              go_ret3
              exact⟨by rw[AA HR4];rfl,(AA EW7).trans (AA E9)⟩
           ·
            have hiI:¬(i:Int)<(pn:Int):=by omega
            have HR4:=AB (show R=((k:Int),(j:Int),-1) by rw[AA HR3,←AA HI,first_end (by rw[AA hpp];omega)]);go_wp2_with fail
            go_ret3
            exact⟨by rw[AA HR4];rfl,(AA EW7).trans (AA E8)⟩
       ·
        have hjI:¬(j:Int)<(ln:Int):=by omega
        have HR4:=AB (show R=((k:Int),-1,-1) by rw[AA HR3,←AA HJ,line_end (by rw[AA hll];omega)]);go_wp2_with fail
        go_ret3
        exact⟨by rw[AA HR4];rfl,(AA EW).trans (AA E6)⟩
    ·
     have hke:k=-1:=by omega
     subst hke;have HR3:=AB (show R=(-1,-1,-1) by rw[(AA HR2) (-1) (by rw[←AA HK];rfl),if_pos (by decide)]);clear hk0 hk1 hkm;go_upto_region 6 with fail;refine wp_region_ord [(1,0),(1,1),(1,2),(1,3),(1,4),(1,5),(0,6),(0,7),(3,8),(1,9),(1,10)] 8 (fun w'=>Ext wr w') (by kernel_rfl) (by kernel_rfl) rfl (by kernel_rfl) ((Ext.refl _).drew) ?_;simp only[AD]
     iterate 8 ((first|refine ordQE ?_|refine ordQF ?_|refine ordQC ?_|refine ordQD ?_);simp only[AC])
     refine ord_last ?_;go_wp2_with fail
     iterate 2 ((first|refine ordQE ?_|refine ordQF ?_|refine ordQC ?_|refine ordQD ?_);simp only[AC])
     refine ord_nil ?_;go_wp2_with fail
     go_ret3
     exact⟨by rw[AA HR3];rfl,((AA E3).trans E).drew⟩
  ·as_aux_lemma=>
   have HR2:=AB (show R=(-1,-1,-1) by rw[←AA HR,atV,if_pos hq]);clear hq;go_wp2_with fail
   go_ret3
   exact⟨by rw[AA HR2];rfl,AA E1⟩
end
end Go.Proofs.YtamldoocjjdidaaGreat
