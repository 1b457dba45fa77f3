import Derived.Test.YtamldoocjjdidaaGreatMCqC
import Derived.BigRegion
namespace Go.Proofs.YtamldoocjjdidaaGreat
open Go.RowKit
set_option maxRecDepth 100000
set_option maxHeartbeats 64000000
def SomeI (w:World) (e:Ending) (w':World):Prop:=∃z:Int,e=.returned (.int .i64 z)∧Ext w w'
def botV (f:Fl):Int:=IntKind.i64.wrap (f.y+f.h)
theorem clear_any (A:Option Addr) (n c:Nat) (side y:Int) (fs:List Fl) (w:World) (rf:Rd w 5 A n (recs flC fs)) (hn:n≤1000000) :
  Calls Tryz.prog 113 #[.slice A n c,.int .u8 side,.int .i64 y] w (SomeI w):=by
 have hN:=rf.recN flC_len (by omega);go_enter Tryz.func113,Tryz.ntmps113;go_wp2_with fail;go_loopw [2,7] (fun v2 v7 wr=>∃(k:Nat) (z:Int),v7=.int .i64 k∧k≤n∧v2=.int .i64 z∧Ext w wr) (fun _ v7 _=>n-(intOf v7).toNat)
 case atStart=>exact⟨0,y,rfl,by omega,rfl,Ext.refl _⟩
 case round=>
  obtain⟨k,z,rfl,hk,rfl,E⟩:=hrel;by_cases hkn:k<n
  ·have hkI:(0:Int)≤(k:Int)∧(k:Int)<(n:Int):=by omega
   obtain⟨f,hf⟩:∃f,fs[k]?=some f:=⟨_,AE (by omega)⟩
   obtain⟨b,off,rfl,lb,hm⟩:=(rf.ext E).rec_ flC_len hf (by omega);have c0:=hm 0 _ (show (flC f)[0]?=some (Value.int .u8 f.side) from rfl);have c2:=hm 2 _ (show (flC f)[2]?=some (Value.int .i64 f.y) from rfl);have c4:=hm 4 _ (show (flC f)[4]?=some (Value.int .i64 f.h) from rfl);rw[Nat.add_zero] at c0;obtain⟨fs0,fx,fy,fw,fh⟩:=f;simp only at c0 c2 c4;obtain⟨bt,hbt⟩:∃z,IntKind.i64.wrap (fy+fh)=z:=⟨_,rfl⟩
   obtain⟨mx,hmx⟩:∃m,max z bt=m:=⟨_,rfl⟩
   clear hm hf;by_cases h3:side=3
   ·subst h3;go_upto_region 5 with fail
    go_quiet (fail)
    go_wp2_with fail;go_roundw
    case rel=>exact⟨k+1,_,by go_num,by omega,rfl,E.drewN _⟩
    case measure=>simp[intOf];omega
   ·have z3:(side==3)=false:=by simp;exact h3
    clear h3;by_cases h1:side=fs0
    ·subst h1;have z1:(side==side)=true:=by simp
     by_cases h0:side=0
     ·subst h0;go_wp2_with fail;go_roundw
      case rel=>exact⟨k+1,_,by go_num,by omega,rfl,E⟩
      case measure=>simp[intOf];omega
     ·have z0:(side != 0)=true:=by simp;exact h0
      clear h0;go_upto_region 5 with fail
      go_quiet (fail)
      go_wp2_with fail;go_roundw
      case rel=>exact⟨k+1,_,by go_num,by omega,rfl,E.drewN _⟩
      case measure=>simp[intOf];omega
    ·have z1:(side==fs0)=false:=by simp;exact h1
     clear h1;go_wp2_with fail;go_roundw
     case rel=>exact⟨k+1,_,by go_num,by omega,rfl,E⟩
     case measure=>simp[intOf];omega
  ·have hkI:¬(k:Int)<(n:Int):=by omega
   go_wp2_with fail;go_ret;exact⟨_,rfl,E⟩
def NxSt (fs:List Fl) (y:Int) (k:Nat) (z:Int) (is:Bool):Prop:=(is=true→∃f∈fs,botV f=z∧y<z)∧(is=false→∀i f,i<k→fs[i]?=some f→botV f≤y)
theorem NxSt.zero (fs:List Fl) (y z:Int):NxSt fs y 0 z false:=⟨fun h=>(by cases h),fun _ i f h=>(by omega)⟩
theorem NxSt.keep {fs:List Fl} {y z:Int} {k:Nat} {is:Bool} {f:Fl} (h:NxSt fs y k z is) (hf:fs[k]?=some f) (hb:is=true∨botV f≤y):NxSt fs y (k+1) z is:=
 ⟨h.1,fun e i g hi hg=>by
  rcases Nat.lt_or_ge i k with h1|h1
  ·exact h.2 e i g h1 hg
  ·obtain rfl:i=k:=by omega
   rw[hf] at hg;obtain rfl:=Option.some.inj hg
   rcases hb with hb|hb
   ·rw[hb] at e;cases e
   ·exact hb⟩
theorem NxSt.take {fs:List Fl} {y b:Int} {k:Nat} {f:Fl} (hf:fs[k]?=some f) (hb:botV f=b) (hy:y<b):NxSt fs y (k+1) b true:=
 ⟨fun _=>⟨f,List.mem_of_getElem? hf,hb,hy⟩,fun e=>by cases e⟩
def NextIs (w:World) (fs:List Fl) (y:Int) (e:Ending) (w':World):Prop:=∃(b:Int) (is:Bool),e=.returned (.tuple #[.int .i64 b,.bool is])∧(is=true→∃f∈fs,botV f=b∧y<b)∧(is=false→∀f∈fs,botV f≤y)∧Ext w w'
theorem next_any (A:Option Addr) (n c:Nat) (y:Int) (fs:List Fl) (w:World) (rf:Rd w 5 A n (recs flC fs)) (hn:n≤1000000) :
  Calls Tryz.prog 164 #[.slice A n c,.int .i64 y] w (NextIs w fs y):=by
 have hN:=rf.recN flC_len (by omega);go_enter Tryz.func164,Tryz.ntmps164;go_wp2_with fail;go_loopw [6,7,8] (fun v6 v7 v8 wr=>∃(k:Nat) (z:Int) (is:Bool),v8=.int .i64 k∧k≤n∧v6=.int .i64 z∧v7=.bool is∧Hid (NxSt fs y k z is)∧Ext w wr) (fun _ _ v8 _=>n-(intOf v8).toNat)
 case atStart=>exact⟨0,0,false,rfl,by omega,rfl,rfl,AB (NxSt.zero _ _ _),Ext.refl _⟩
 case round=>
  obtain⟨k,z,is,rfl,hk,rfl,rfl,HX,E⟩:=hrel;by_cases hkn:k<n
  ·have hkI:(0:Int)≤(k:Int)∧(k:Int)<(n:Int):=by omega
   obtain⟨f,hf⟩:∃f,fs[k]?=some f:=⟨_,AE (by omega)⟩
   obtain⟨b,off,rfl,lb,hm⟩:=(rf.ext E).rec_ flC_len hf (by omega);have c2:=hm 2 _ (show (flC f)[2]?=some (Value.int .i64 f.y) from rfl);have c4:=hm 4 _ (show (flC f)[4]?=some (Value.int .i64 f.h) from rfl);have HF:=AB hf;obtain⟨fy,hfy⟩:∃z,f.y=z:=⟨_,rfl⟩
   obtain⟨fh,hfh⟩:∃z,f.h=z:=⟨_,rfl⟩
   obtain⟨bt,hbt⟩:∃z,IntKind.i64.wrap (fy+fh)=z:=⟨_,rfl⟩
   have HB:=AB (show botV f=bt by rw[botV,hfy,hfh,hbt]);rw[hfy] at c2;rw[hfh] at c4;clear hm hf hfy hfh;go_upto_region 6 with fail
   go_quiet (fail)
   clear c2 c4 hbt lb;replace E:=E.drewN nq;generalize wr.drewN nq=wq at *;by_cases hy:y<bt
   ·have HY:=AB hy;have HT:=AB (NxSt.take (AA HF) (AA HB) hy);cases is
    ·go_wp2_with fail;go_roundw
     case rel=>exact⟨k+1,bt,true,by go_num,by omega,rfl,rfl,HT,E⟩
     case measure=>simp[intOf];omega
    ·by_cases hz:bt<z
     ·go_wp2_with fail;go_roundw
      case rel=>exact⟨k+1,bt,true,by go_num,by omega,rfl,rfl,HT,E⟩
      case measure=>simp[intOf];omega
     ·have HK:=AB ((AA HX).keep (AA HF) (.inl rfl));go_wp2_with fail;go_roundw
      case rel=>exact⟨k+1,z,true,by go_num,by omega,rfl,rfl,HK,E⟩
      case measure=>simp[intOf];omega
   ·have HK:=AB ((AA HX).keep (AA HF) (.inr (by rw[AA HB];omega)));go_wp2_with fail;go_roundw
    case rel=>exact⟨k+1,z,is,by go_num,by omega,rfl,rfl,HK,E⟩
    case measure=>simp[intOf];omega
  ·have hkI:¬(k:Int)<(n:Int):=by omega
   go_wp2_with fail;go_ret2;refine⟨_,_,rfl,(AA HX).1,fun e f hf=>?_,E⟩;obtain⟨i,hi⟩:=List.getElem?_of_mem hf;exact (AA HX).2 e i f (by have:=(List.getElem?_eq_some_iff.1 hi).1;omega) hi
def SomeI2 (w:World) (e:Ending) (w':World):Prop:=∃y z:Int,e=.returned (.tuple #[.int .i64 y,.int .i64 z])∧Ext w w'
theorem room_any (A B:Option Addr) (n c m d:Nat) (x y:Int) (fs:List Fl) (bl:List Bool) (w:World) (rf:Rd w 5 A n (recs flC fs)) (rb:Rd w 1 B m (boolL bl)) (hn:n≤1000000) (hm:n≤m) :
  Calls Tryz.prog 167 #[.slice A n c,.slice B m d,.int .i64 x,.int .i64 y] w (SomeI2 w):=by
 have hN:=rf.recN flC_len (by omega);have hM:bl.length=m:=by have:=rb.len;rw[boolL,List.length_map] at this;omega
 go_enter Tryz.func167,Tryz.ntmps167;go_wp2_with fail;go_loopw [2,3,10] (fun v2 v3 v10 wr=>∃(k:Nat) (a b:Int),v10=.int .i64 k∧k≤n∧v2=.int .i64 a∧v3=.int .i64 b∧Ext w wr) (fun _ _ v10 _=>n-(intOf v10).toNat)
 case atStart=>exact⟨0,x,y,rfl,by omega,rfl,rfl,Ext.refl _⟩
 case round=>
  obtain⟨k,a,b,rfl,hk,rfl,rfl,E⟩:=hrel;by_cases hkn:k<n
  ·have hkI:(0:Int)≤(k:Int)∧(k:Int)<(n:Int)∧(n:Int)≤(m:Int):=by omega
   obtain⟨f,hf⟩:∃f,fs[k]?=some f:=⟨_,AE (by omega)⟩
   obtain⟨bv,hbv⟩:∃f,bl[k]?=some f:=⟨_,AE (by omega)⟩
   obtain⟨b1,off,rfl,lb,hm⟩:=(rf.ext E).rec_ flC_len hf (by omega);obtain⟨b2,off2,rfl,lb2,hm2⟩:=(rb.ext E).at_ (by omega);have d0:=hm2 k _ (boolL_get hbv);have c0:=hm 0 _ (show (flC f)[0]?=some (Value.int .u8 f.side) from rfl);have c1:=hm 1 _ (show (flC f)[1]?=some (Value.int .i64 f.x) from rfl);have c3:=hm 3 _ (show (flC f)[3]?=some (Value.int .i64 f.w) from rfl);rw[Nat.add_zero] at c0;obtain⟨fs0,fx,fy,fw,fh⟩:=f;simp only at c0 c1 c3;obtain⟨bt,hbt⟩:∃z,IntKind.i64.wrap (fx+fw)=z:=⟨_,rfl⟩
   obtain⟨mx,hmx⟩:∃m,max a bt=m:=⟨_,rfl⟩
   obtain⟨mn,hmn⟩:∃m,min b fx=m:=⟨_,rfl⟩
   clear hm hm2 hf hbv;cases bv
   ·go_wp2_with fail;go_roundw
    case rel=>exact⟨k+1,_,_,by go_num,by omega,rfl,rfl,E⟩
    case measure=>simp[intOf];omega
   ·by_cases h2:fs0=2
    ·subst h2;go_wp2_with fail;go_roundw
     case rel=>exact⟨k+1,_,_,by go_num,by omega,rfl,rfl,E⟩
     case measure=>simp[intOf];omega
    ·have z2:(fs0==2)=false:=by simp;exact h2
     clear h2;go_upto_region 7 with fail
     go_quiet (fail)
     go_wp2_with fail;go_roundw
     case rel=>exact⟨k+1,_,_,by go_num,by omega,rfl,rfl,E.drewN _⟩
     case measure=>simp[intOf];omega
  ·have hkI:¬(k:Int)<(n:Int):=by omega
   go_wp2_with fail;go_ret2;exact⟨_,_,rfl,E⟩
def AtIs (w:World) (n:Nat) (fs:List Fl) (y:Int) (e:Ending) (w':World):Prop:=∃(g:Nat) (bl:List Bool),e=.returned (.slice (some ⟨g,0,none⟩) n n)∧bl.length=n∧Rd w' 1 (some ⟨g,0,none⟩) n (boolL bl)∧(∀(i:Nat) (f:Fl),fs[i]?=some f→bl[i]?=some true→y<botV f)∧Ext w w'
theorem no_getB {n i:Nat}:¬(noB n)[i]?=some true:=fun h=>by
 rw[noB,List.getElem?_replicate] at h
 split at h<;>cases h
theorem boolL_set' (l:List Bool) (k:Nat) (b:Bool):(boolL l).toArray.setIfInBounds k (.bool b)=(boolL (l.set k b)).toArray:=by
 rw[List.setIfInBounds_toArray,boolL,boolL,List.map_set]
def AtSt (fs:List Fl) (y:Int) (bl:List Bool):Prop:=∀(i:Nat) (f:Fl),fs[i]?=some f→bl[i]?=some true→y<botV f
theorem AtSt.put {fs:List Fl} {y:Int} {bl:List Bool} (h:AtSt fs y bl) {k:Nat} {f:Fl} (hf:fs[k]?=some f) {b:Bool} (hb:b=true→y<botV f):AtSt fs y (bl.set k b):=fun i g hg ht=>by
 rw[List.getElem?_set] at ht
 split at ht
 ·rename_i e
  subst e;rw[hf] at hg;obtain rfl:=Option.some.inj hg
  split at ht
  ·exact hb (Option.some.inj ht)
  ·cases ht
 ·exact h i g hg ht
theorem at15_any (A:Option Addr) (n c:Nat) (y h:Int) (fs:List Fl) (w:World) (rf:Rd w 5 A n (recs flC fs)) (hn:n≤1000000) :
  Calls Tryz.prog 168 #[.slice A n c,.int .i64 y,.int .i64 h] w (AtIs w n fs y):=by
 have hN:=rf.recN flC_len (by omega);have hmk:=make_bools n hn;go_enter Tryz.func168,Tryz.ntmps168;go_upto_region 2 with fail;clear hmk;have BB:Blk (w.alloc (.cells (boolL (noB n)).toArray 4)) w.heap.size 4 (boolL (noB n)).toArray:=Blk.new _ _ _;have E:Ext w (w.alloc (.cells (boolL (noB n)).toArray 4)):=(Ext.refl _).alloc _;generalize w.alloc (.cells (boolL (noB n)).toArray 4)=w1 at *;obtain⟨g,hg⟩:∃g,w.heap.size=g:=⟨_,rfl⟩
 rw[hg] at BB ⊢;have HG:=AB hg;clear hg;go_wp2_with fail;go_loopw [8] (fun v8 wr=>∃(k:Nat) (bl:List Bool),v8=.int .i64 k∧k≤n∧bl.length=n∧Hid (AtSt fs y bl)∧Ext w wr∧Blk wr g 4 (boolL bl).toArray) (fun v8 _=>n-(intOf v8).toNat)
 case atStart=>exact⟨0,_,rfl,by omega,by simp[noB],AB (fun i f _ h=>(no_getB h).elim),E,BB⟩
 case round=>
  clear E BB;obtain⟨k,bl,rfl,hk,hbl,HX,E,BB⟩:=hrel;by_cases hkn:k<n
  ·have hkI:(0:Int)≤(k:Int)∧(k:Int)<(n:Int):=by omega
   obtain⟨f,hf⟩:∃f,fs[k]?=some f:=⟨_,AE (by omega)⟩
   obtain⟨b,off,rfl,lb,hm⟩:=(rf.ext E).rec_ flC_len hf (by omega);have c2:=hm 2 _ (show (flC f)[2]?=some (Value.int .i64 f.y) from rfl);have c4:=hm 4 _ (show (flC f)[4]?=some (Value.int .i64 f.h) from rfl);have HF:=AB hf;obtain⟨fy,hfy⟩:∃z,f.y=z:=⟨_,rfl⟩
   obtain⟨fh,hfh⟩:∃z,f.h=z:=⟨_,rfl⟩
   obtain⟨bt,hbt⟩:∃z,IntKind.i64.wrap (fy+fh)=z:=⟨_,rfl⟩
   obtain⟨yh,hyh⟩:∃z,IntKind.i64.wrap (y+h)=z:=⟨_,rfl⟩
   have HB:=AB (show botV f=bt by rw[botV,hfy,hfh,hbt]);rw[hfy] at c2;rw[hfh] at c4;clear hm hf hfy hfh;obtain⟨v,hv⟩:∃v,(boolL bl)[k]?=some v:=⟨_,AE (by rw[boolL,List.length_map];omega)⟩
   have cB:wr.cell? ⟨g,k,none⟩=some v:=by rw[BB.cell,List.getElem?_toArray];exact hv
   have fB:=BB.frozen k;have lB:=BB.lt;have hgs:=AA HG;have BF:=fun b'=>BB.set_ k (.bool b')
   have GE:=fun (u:Value)=>E.grownBlk (gsCell (w:=wr) g k (u:=u)) (by omega)
   simp only[boolL_set'] at BF;have HBF:=AB BF;have HGE:=AB GE;clear BF GE hv hgs;generalize wr=w0 at *;by_cases h1:0<fh
   ·by_cases h2:fy<yh
    ·by_cases h3:y<bt
     ·skip
      go_upto_region 5 with fail;go_region
      have E2:=((AA HGE) (.bool true)).drew;have B2:=((AA HBF) true).ext (Ext.refl _).drew;have K:=AB ((AA HX).put (AA HF) (b:=true) (fun _=>by rw[AA HB];exact h3));go_wp2_with fail;go_roundw
      case rel=>exact⟨k+1,bl.set k true,by go_num,by omega,by rw[List.length_set];exact hbl,K,E2,B2⟩
      case measure=>simp[intOf];omega
     ·skip
      go_upto_region 5 with fail;go_region
      have E2:=((AA HGE) (.bool false)).drew;have B2:=((AA HBF) false).ext (Ext.refl _).drew;have K:=AB ((AA HX).put (AA HF) (b:=false) (fun e=>by cases e));go_wp2_with fail;go_roundw
      case rel=>exact⟨k+1,bl.set k false,by go_num,by omega,by rw[List.length_set];exact hbl,K,E2,B2⟩
      case measure=>simp[intOf];omega
    ·skip
     go_upto_region 5 with fail;go_region
     have E2:=((AA HGE) (.bool false)).drew;have B2:=((AA HBF) false).ext (Ext.refl _).drew;have K:=AB ((AA HX).put (AA HF) (b:=false) (fun e=>by cases e));go_wp2_with fail;go_roundw
     case rel=>exact⟨k+1,bl.set k false,by go_num,by omega,by rw[List.length_set];exact hbl,K,E2,B2⟩
     case measure=>simp[intOf];omega
   ·skip
    go_upto_region 5 with fail;go_region
    have E2:=((AA HGE) (.bool false)).drew;have B2:=((AA HBF) false).ext (Ext.refl _).drew;have K:=AB ((AA HX).put (AA HF) (b:=false) (fun e=>by cases e));go_wp2_with fail;go_roundw
    case rel=>exact⟨k+1,bl.set k false,by go_num,by omega,by rw[List.length_set];exact hbl,K,E2,B2⟩
    case measure=>simp[intOf];omega
  ·have hkI:¬(k:Int)<(n:Int):=by omega
   go_wp2_with fail;go_ret;exact⟨_,_,rfl,hbl,BB.rd (by rw[boolL,List.size_toArray,List.length_map];omega),AA HX,E⟩
def FreeIs (w:World) (fs:List Fl) (y:Int) (e:Ending) (w':World):Prop:=∃b:Bool,e=.returned (.bool b)∧((∀f∈fs,botV f≤y)→b=true)∧Ext w w'
theorem free_any (A:Option Addr) (n c:Nat) (y:Int) (fs:List Fl) (w:World) (rf:Rd w 5 A n (recs flC fs)) (hn:n≤1000000) :
  Calls Tryz.prog 163 #[.slice A n c,.int .i64 y] w (FreeIs w fs y):=by
 have hN:=rf.recN flC_len (by omega);have cA:=fun w h=>AB (at15_any A n c y 1 fs w h hn)
 go_enter Tryz.func163,Tryz.ntmps163;go_wp2_with fail
 with_reducible refine (AA (cA _ rf)).mono ?_
 rintro e w1 ⟨g,bl,rfl,hl,rb,ha,E⟩;have HA:=AB ha;clear ha cA;go_wp2_with fail;go_loopw [6] (fun v6 wr=>∃(k:Nat),v6=.int .i64 k∧k≤n∧Ext w wr∧Ext w1 wr) (fun v6 _=>n-(intOf v6).toNat)
 case atStart=>exact⟨0,rfl,by omega,E,Ext.refl _⟩
 case round=>
  clear E;obtain⟨k,rfl,hk,E,E1⟩:=hrel;by_cases hkn:k<n
  ·have hkI:(0:Int)≤(k:Int)∧(k:Int)<(n:Int):=by omega
   obtain⟨f,hf⟩:∃f,fs[k]?=some f:=⟨_,AE (by omega)⟩
   obtain⟨bv,hbv⟩:∃f,bl[k]?=some f:=⟨_,AE (by omega)⟩
   have cl:=(rb.ext E1).cellAt hkn (boolL_get hbv);have cl2:=cl.2;have cl1:=cl.1;rw[Nat.zero_add] at cl2;clear cl;cases bv
   ·clear hbv hf;go_wp2_with fail;go_roundw
    case rel=>exact⟨k+1,by go_num,by omega,E,E1⟩
    case measure=>simp[intOf];omega
   ·have hlt:=AB ((AA HA) k f hf hbv);have hmem:=AB (List.mem_of_getElem? hf);clear hbv hf;go_wp2_with fail;go_ret;exact⟨false,rfl,fun h=>by have h1:=h f (AA hmem);have h2:=AA hlt;omega,E⟩
  ·have hkI:¬(k:Int)<(n:Int):=by omega
   go_wp2_with fail;go_ret;exact⟨true,rfl,fun _=>rfl,E⟩
theorem band_any (A:Option Addr) (n c:Nat) (y a b:Int) (fs:List Fl) (w:World) (rf:Rd w 5 A n (recs flC fs)) (hn:n≤1000000) :
  Calls Tryz.prog 162 #[.slice A n c,.int .i64 y,.int .i64 a,.int .i64 b] w (SomeI2 w):=by
 have cA:=fun w h=>AB (at15_any A n c y 1 fs w h hn)
 go_enter Tryz.func162,Tryz.ntmps162;go_wp2_with fail
 with_reducible refine (AA (cA _ rf)).mono ?_
 rintro e w1 ⟨g,bl,rfl,hl,rb,ha,E⟩;clear ha cA;go_wp2_with fail
 with_reducible refine (room_any A (some ⟨g,0,none⟩) n c n n a b fs bl _ (rf.ext E) rb hn (by omega)).mono ?_
 rintro e w2 ⟨z1,z2,rfl,hx⟩;go_wp2_with fail;go_ret2;exact⟨_,_,rfl,E.trans hx⟩
theorem tall15_any (A:Option Addr) (n c:Nat) (y h a b:Int) (fs:List Fl) (w:World) (rf:Rd w 5 A n (recs flC fs)) (hn:n≤1000000) :
  Calls Tryz.prog 166 #[.slice A n c,.int .i64 y,.int .i64 h,.int .i64 a,.int .i64 b] w (SomeI2 w):=by
 obtain⟨h1,hh1⟩:∃z,max h 1=z:=⟨_,rfl⟩
 have cA:=fun w h=>AB (at15_any A n c y h1 fs w h hn)
 go_enter Tryz.func166,Tryz.ntmps166;go_wp2_with fail
 with_reducible refine (AA (cA _ rf)).mono ?_
 rintro e w1 ⟨g,bl,rfl,hl,rb,ha,E⟩;clear ha cA;go_wp2_with fail
 with_reducible refine (room_any A (some ⟨g,0,none⟩) n c n n a b fs bl _ (rf.ext E) rb hn (by omega)).mono ?_
 rintro e w2 ⟨z1,z2,rfl,hx⟩;go_wp2_with fail;go_ret2;exact⟨_,_,rfl,E.trans hx⟩
theorem results_cellH {P:Program} {fn:Func} {p:Tmp} {ty:TypeId} (h:fn.results=#[.cell p ty]) (tmps:Array Value) (w:World) (g:Nat) (T:TypeId) (cs:Array Value) (d:TypeDesc)
  (hp:tmps.getD p undef=.pointer (some ⟨g,0,none⟩)) (hg:Blk w g T cs)
  (hu:P.underlying ty=some d) (hd:(match d with| .struct _| .array _ _=>true|_=>false)=true) (hi:(P.info? ty).map (·.size)=some cs.size) :
  (results fn tmps).run P w=.ok (.agg cs) w:=by
 have hp':tmps[p]?.getD undef=.pointer (some ⟨g,0,none⟩):=by simpa using hp
 simp[results,h,hp',asAddr,run_loadVar_row w g T ty cs (0,0) d hg hu hd hi]
def cntB (fs:List Fl) (y:Int):Nat:=(fs.filter fun f=>decide (y<botV f)).length
theorem cntB_less {fs:List Fl} {y z:Int} {f:Fl} (hf:f∈fs) (hz:botV f=z) (hy:y<z):cntB fs z<cntB fs y:=by
 have hsub:∀l:List Fl,(l.filter fun f=>decide (z<botV f)).length≤(l.filter fun f=>decide (y<botV f)).length:=by
  intro l
  induction l with
  |nil=>exact Nat.le_refl _
  |cons a l ih=>
   rw[List.filter_cons,List.filter_cons];by_cases h1:z<botV a
   ·rw[if_pos (decide_eq_true h1),if_pos (decide_eq_true (show y<botV a by omega))]
    simpa using ih
   ·rw[if_neg (by simpa using h1)]
    split
    ·rw[List.length_cons];omega
    ·exact ih
 obtain⟨l1,l2,rfl⟩:=List.append_of_mem hf;unfold cntB;rw[List.filter_append,List.filter_append,List.filter_cons,List.filter_cons,if_neg (by simp;omega),if_pos (decide_eq_true (by omega))];have a:=hsub l1;have b:=hsub l2;simp only[List.length_append,List.length_cons];omega
def FloatIs (w:World) (e:Ending) (w':World):Prop:=∃f:Fl,e=.returned (.agg (flC f).toArray)∧Ext w w'
theorem place15_any (A:Option Addr) (n c:Nat) (side x h a b y:Int) (fs:List Fl) (w:World) (rf:Rd w 5 A n (recs flC fs)) (hn:n≤1000000) :
  Calls Tryz.prog 157 #[.slice A n c,.int .u8 side,.int .i64 x,.int .i64 h,.int .i64 a,.int .i64 b,.int .i64 y] w (FloatIs w):=by
 have hN:=rf.recN flC_len (by omega);obtain⟨x1,hx1⟩:∃z,max x 0=z:=⟨_,rfl⟩
 obtain⟨h1,hh1⟩:∃z,max h 0=z:=⟨_,rfl⟩
 have cB:=fun y w h=>AB (band_any A n c y a b fs w h hn)
 have cF:=fun y w h=>AB (free_any A n c y fs w h hn)
 have cN:=fun y w h=>AB (next_any A n c y fs w h hn)
 go_enter Tryz.func157,Tryz.ntmps157;go_upto_region 1 with fail;have BR:Blk (w.alloc (.cells #[.int .u8 0,.int .i64 0,.int .i64 0,.int .i64 0,.int .i64 0] 229)) w.heap.size 229 #[.int .u8 0,.int .i64 0,.int .i64 0,.int .i64 0,.int .i64 0]:=Blk.new _ _ _;have E:Ext w (w.alloc (.cells #[.int .u8 0,.int .i64 0,.int .i64 0,.int .i64 0,.int .i64 0] 229)):=(Ext.refl _).alloc _;generalize w.alloc (.cells #[.int .u8 0,.int .i64 0,.int .i64 0,.int .i64 0,.int .i64 0] 229)=w1 at *;obtain⟨g,hg⟩:∃g,w.heap.size=g:=⟨_,rfl⟩
 rw[hg] at BR ⊢;have HG:=AB hg;clear hg;go_wp2_with fail;clear hx1 hh1;go_loopw [6,15] (fun v6 v15 wr=>∃(k:Nat) (z:Int),v15=.int .i64 k∧k≤n∧v6=.int .i64 z∧Ext w wr∧Blk wr g 229 #[.int .u8 0,.int .i64 0,.int .i64 0,.int .i64 0,.int .i64 0]) (fun _ v15 _=>n-(intOf v15).toNat)
 case atStart=>exact⟨0,y,rfl,by omega,rfl,E,BR⟩
 case round=>
  clear E BR;obtain⟨k,z,rfl,hk,rfl,E,BR⟩:=hrel;by_cases hkn:k<n
  ·have hkI:(0:Int)≤(k:Int)∧(k:Int)<(n:Int):=by omega
   obtain⟨f,hf⟩:∃f,fs[k]?=some f:=⟨_,AE (by omega)⟩
   have hrf:=rf.ext E;obtain⟨b1,off,hA,lb,hm⟩:=hrf.rec_ flC_len hf (by omega);have c2:=hm 2 _ (show (flC f)[2]?=some (Value.int .i64 f.y) from rfl);obtain⟨fy,hfy⟩:∃z,f.y=z:=⟨_,rfl⟩
   obtain⟨mx,hmx⟩:∃z2,max z fy=z2:=⟨_,rfl⟩
   rw[hfy] at c2;subst hA;clear hm hf hfy hrf;go_wp2_with fail;go_roundw
   case rel=>exact⟨k+1,_,by go_num,by omega,rfl,E,BR⟩
   case measure=>simp[intOf];omega
  ·have hkI:¬(k:Int)<(n:Int):=by omega
   go_wp2_with fail;clear hkI hkn hk;go_loopw [6,16,17] (fun v6 v16 v17 wr=>∃(z:Int),v6=.int .i64 z∧Ext w wr∧Blk wr g 229 #[.int .u8 0,.int .i64 0,.int .i64 0,.int .i64 0,.int .i64 0]) (fun v6 _ _ _=>cntB fs (intOf v6))
   case atStart=>exact⟨z,rfl,E,BR⟩
   case round=>
    clear E BR;obtain⟨z,rfl,E,BR⟩:=hrel;go_wp2_with fail
    with_reducible refine (AA (cB z _ (rf.ext E))).mono ?_
    rintro e w2 ⟨z1,z2,rfl,hx⟩;replace E:=E.trans hx;replace BR:=BR.ext hx;clear hx;go_wp2_with fail
    with_reducible refine (AA (cF z _ (rf.ext E))).mono ?_
    rintro e w3 ⟨fr,rfl,hfr,hx⟩;replace E:=E.trans hx;replace BR:=BR.ext hx;have HFR:=AB hfr;clear hx hfr;obtain⟨d,hd⟩:∃d,IntKind.i64.wrap (z2-z1)=d:=⟨_,rfl⟩
    obtain⟨d2,hd2⟩:∃d,IntKind.i64.wrap (z2-x1)=d:=⟨_,rfl⟩
    cases fr
    ·by_cases hw:x1≤d
     ·skip
      have cR:=BR.cell;have fR:=BR.frozen;have lR:=BR.lt;have hle:w.heap.size≤g:=Nat.le_of_eq (AA HG);by_cases h2:side=2
      ·skip
       subst h2;go_wp2_with fail;refine bodyPost_ret (results_cellH rfl _ _ g 229 _ _ rfl (((((BR.set_ 0 _).set_ 1 _).set_ 2 _).set_ 3 _).set_ 4 _) Tryz.underlying229 rfl (by kernel_rfl)) rfl ?_;exact⟨⟨_,_,_,_,_⟩,rfl,((((E.set hle _).set hle _).set hle _).set hle _).set hle _⟩
      ·skip
       have z2:(side==2)=false:=by simp;exact h2
       clear h2;go_wp2_with fail;refine bodyPost_ret (results_cellH rfl _ _ g 229 _ _ rfl (((((BR.set_ 0 _).set_ 1 _).set_ 2 _).set_ 3 _).set_ 4 _) Tryz.underlying229 rfl (by kernel_rfl)) rfl ?_;exact⟨⟨_,_,_,_,_⟩,rfl,((((E.set hle _).set hle _).set hle _).set hle _).set hle _⟩
     ·go_wp2_with fail
      with_reducible refine (AA (cN z _ (rf.ext E))).mono ?_
      rintro e w4 ⟨nb,is,rfl,hi1,hi2,hx⟩;replace E:=E.trans hx;replace BR:=BR.ext hx;clear hx;cases is
      ·exact absurd ((AA HFR) (hi2 rfl)) (by simp)
      ·obtain⟨f,hf,hb1,hb2⟩:=hi1 rfl;have HC:=AB (cntB_less hf hb1 hb2);clear hf hb1 hb2 hi1 hi2;go_wp2_with fail;go_roundw
       case rel=>exact⟨nb,rfl,E,BR⟩
       case measure=>simpa[intOf] using AA HC
    ·skip
     have cR:=BR.cell;have fR:=BR.frozen;have lR:=BR.lt;have hle:w.heap.size≤g:=Nat.le_of_eq (AA HG);by_cases h2:side=2
     ·skip
      subst h2;go_wp2_with fail;refine bodyPost_ret (results_cellH rfl _ _ g 229 _ _ rfl (((((BR.set_ 0 _).set_ 1 _).set_ 2 _).set_ 3 _).set_ 4 _) Tryz.underlying229 rfl (by kernel_rfl)) rfl ?_;exact⟨⟨_,_,_,_,_⟩,rfl,((((E.set hle _).set hle _).set hle _).set hle _).set hle _⟩
     ·skip
      have z2:(side==2)=false:=by simp;exact h2
      clear h2;go_wp2_with fail;refine bodyPost_ret (results_cellH rfl _ _ g 229 _ _ rfl (((((BR.set_ 0 _).set_ 1 _).set_ 2 _).set_ 3 _).set_ 4 _) Tryz.underlying229 rfl (by kernel_rfl)) rfl ?_;exact⟨⟨_,_,_,_,_⟩,rfl,((((E.set hle _).set hle _).set hle _).set hle _).set hle _⟩
def RowInfo (e size:Nat):Prop:=∃i z,Tryz.prog.info? e=some i∧i.zero=some z∧i.size=size∧z.cells.size=size∧i.bytes≤100000
theorem rowInfo {e:TypeId} {size:Nat} {z:Value} (h:(Tryz.prog.info? e).map (fun i=>(i.zero,i.size,decide (i.bytes≤100000)))=some (some z,size,true)) (hz:z.cells.size=size):RowInfo e size:=by
 obtain⟨i,h1,h2,h3,h4⟩:=info_bnd h;exact⟨i,z,h1,h2,h3,hz,h4⟩
theorem own_nil (w:World) (B e k:Nat):w.ownsRow B e k (.slice none 0 0) 0 []:=⟨by simp,.inl ⟨rfl,rfl⟩⟩
theorem wpList_push {ops:Array Oper} {rest:List Oper} {o:Oper} {a:Act} {Q:Exit→Act→World→Prop} {w W:World} (hgd:o.guard=none) (s x:Operand) (t:TypeId)
  (ho:o.op=.call { callee:=.builtin .append,args:=#[s,x],argTypes:=#[t,t] }) (B:Nat) (e:TypeId) (size:Nat) (ht:Tryz.prog.underlying t=some (.slice e)) (HI:Hid (RowInfo e size)) (hsz:0<size)
  (v:Value) (n:Nat) (xs:List Value) (hs:a.eval s=v) (hown:w.ownsRow B e size v n xs) (A:Option Addr) (m c:Nat) (news:List Value) (hx:a.eval x=.slice A m c) (hr:Rd w size A m news) (h1:∀u∈news,u.oneCell'=true)
  (hn:n+m≤1000000) (E:Ext W w) (hB:W.heap.size≤B) (hw:B≤w.heap.size)
  (h:∀A' cap w',w'.ownsRow B e size (.slice A' (n+m) cap) (n+m) (xs++news)→Ext W w'→w.grownBy w' v.ownBlock→(Value.ownBlock (.slice A' (n+m) cap)=v.ownBlock∨Value.ownBlock (.slice A' (n+m) cap)=some w.heap.size) →
   wpList Tryz.prog ops Q rest (a.put o.dst (.slice A' (n+m) cap)) w'):wpList Tryz.prog ops Q (o :: rest) a w:=by
 obtain⟨i,z,h1i,h2i,h3i,h4i,h5i⟩:=HI;have hby:(n+m)*i.bytes≤140737488355328:=Nat.le_trans (Nat.mul_le_mul hn h5i) (by omega);exact wpList_append_rd hgd s x t ho B e i z size i.bytes ht h1i h2i h3i rfl h4i hsz v n xs hs hown A m c news hx hr h1 (by unfold maxLen;omega) hby hw fun A' cap w' o' g' at'=>
  h A' cap w' o' (E.grown g' (fun q hq=>Nat.le_trans hB (hown.lt q hq).1)) g' at'
theorem wpList_var {P:Program} {ops:Array Oper} {rest:List Oper} {o1 o2:Oper} {a:Act} {Q:Exit→Act→World→Prop} {w:World} (hg1:o1.guard=none) (hg2:o2.guard=none) (t:TypeId) (ho1:o1.op=.alloc t) (d:Tmp) (hd:o1.dst=some d) (y:Operand) (ho2:o2.op=.store t (.tmp d) y) (hd2:o2.dst=none)
  (zs cells:Array Value) (hz:(P.info? t).bind (·.zero)=some (.agg zs)) (hp:(a.put (some d) (.pointer (some ⟨w.heap.size,0,none⟩))).eval (.tmp d)=.pointer (some ⟨w.heap.size,0,none⟩)) (hy:(a.put (some d) (.pointer (some ⟨w.heap.size,0,none⟩))).eval y=.agg cells) (hi:(P.info? t).map (·.size)=some cells.size) (hold:zs.size=cells.size) (h1:cells.all (·.oneCell')=true)
  (h:∀w1,Blk w1 w.heap.size t cells→Ext w w1→w1.heap.size=w.heap.size+1→wpList P ops Q rest (a.put (some d) (.pointer (some ⟨w.heap.size,0,none⟩))) w1):wpList P ops Q (o1 :: o2 :: rest) a w:=by
 refine wpList_alloc_var hg1 t ho1 zs hz ?_;intro w1 B1 E1 z1;rw[hd];refine wpList_store_blk hg2 t (.tmp d) y ho2 w.heap.size hp cells hy t zs B1 hi hold h1 ?_;intro w2 B2 g2 z2;rw[hd2];exact h w2 B2 (E1.grown g2 (fun q e=>by have:=Option.some.inj e;omega)) (by omega)
theorem wpList_pushL {ops:Array Oper} {rest:List Oper} {o:Oper} {a:Act} {Q:Exit→Act→World→Prop} {w W:World} (hgd:o.guard=none) (s x:Operand) (t:TypeId)
  (ho:o.op=.call { callee:=.builtin .append,args:=#[s,x],argTypes:=#[t,t] }) (B:Nat) (e:TypeId) (size:Nat) (ht:Tryz.prog.underlying t=some (.slice e)) (HI:Hid (RowInfo e size)) (hsz:0<size)
  (v:Value) (n:Nat) (xs:List Value) (hs:a.eval s=v) (hown:w.ownsRow B e size v n xs) (A:Option Addr) (m c:Nat) (news:List Value) (hx:a.eval x=.slice A m c) (hr:Rd w size A m news) (h1:∀u∈news,u.oneCell'=true)
  (hn:n+m≤1000000000) (E:Ext W w) (hB:W.heap.size≤B) (hw:B≤w.heap.size)
  (h:∀A' cap w',w'.ownsRow B e size (.slice A' (n+m) cap) (n+m) (xs++news)→Ext W w'→w.grownBy w' v.ownBlock→(Value.ownBlock (.slice A' (n+m) cap)=v.ownBlock∨Value.ownBlock (.slice A' (n+m) cap)=some w.heap.size) →
   wpList Tryz.prog ops Q rest (a.put o.dst (.slice A' (n+m) cap)) w'):wpList Tryz.prog ops Q (o :: rest) a w:=by
 obtain⟨i,z,h1i,h2i,h3i,h4i,h5i⟩:=HI;have hby:(n+m)*i.bytes≤140737488355328:=Nat.le_trans (Nat.mul_le_mul hn h5i) (by omega);exact wpList_append_rd hgd s x t ho B e i z size i.bytes ht h1i h2i h3i rfl h4i hsz v n xs hs hown A m c news hx hr h1 (by unfold maxLen;omega) hby hw fun A' cap w' o' g' at'=>
  h A' cap w' o' (E.grown g' (fun q hq=>Nat.le_trans hB (hown.lt q hq).1)) g' at'
theorem RdR.far {w w':World} {B:Nat} {A:Option Addr} {n:Nat} {L:Nat→List Int} {xs:List Nat} (h:RdR w B A n L) (hx:ExtX w w' xs) (hf:∀g∈xs,g<B):RdR w' B A n L:=
 ⟨fun i hi=>by
  obtain⟨b,off,Ai,ci,ha,hB,hb,hc,hr,hk⟩:=h.at_ i hi;refine⟨b,off,Ai,ci,ha,hB,Nat.lt_of_lt_of_le hb hx.size,?_,hx.rd hr (fun b' o' e hm=>?_),hk⟩
  ·rw[World.cell?_of_block (hx.block b hb (fun hm=>by have:=hf b hm;omega))];exact hc
  ·have:=hf b' hm;have:=hk b' o' e;omega⟩
def setMany (l:List Value):Nat→List Value→List Value
 |_,[]=>l
 |o,v :: vs=>setMany (l.set o v) (o+1) vs
theorem setMany_mid:∀(vs old pre post:List Value),old.length=vs.length→setMany (pre++old++post) pre.length vs=pre++vs++post
 |[],old,pre,post,h=>by
  have:old=[]:=List.eq_nil_of_length_eq_zero h;subst this;rfl
 |v :: vs,[],pre,post,h=>by simp at h
 |v :: vs,a :: old,pre,post,h=>by
  have h1:(pre++(a :: old)++post).set pre.length v=(pre++[v])++old++post:=by
   rw[List.append_assoc,List.set_append_right _ _ (Nat.le_refl _),Nat.sub_self];simp
  unfold setMany;rw[h1];have h2:=setMany_mid vs old (pre++[v]) post (by simpa using h);rw[List.length_append,List.length_singleton] at h2;rw[h2];simp
theorem recs_put {α:Type} {f:α→List Value} {k:Nat} (hk:∀x,(f x).length=k) {l:List α} {i:Nat} (hi:i<l.length) (x:α):setMany (recs f l) (i*k) (f x)=recs f (l.set i x):=by
 have h1:l=l.take i++[l[i]]++l.drop (i+1):=by simp
 have h2:recs f l=recs f (l.take i)++f l[i]++recs f (l.drop (i+1)):=by
  conv=>lhs;rw[h1]
  rw[recs_append,recs_append,recs_one]
 have h3:l.set i x=l.take i++[x]++l.drop (i+1):=by rw[List.set_eq_take_append_cons_drop,if_pos hi];simp
 have h4:(recs f (l.take i)).length=i*k:=by rw[recs_len hk,List.length_take,Nat.min_eq_left (by omega)]
 rw[h3,recs_append,recs_append,recs_one,h2,←h4];exact setMany_mid _ _ _ _ (by rw[hk,hk])
theorem Blk.many {g:Nat} {T:TypeId}:∀(vs:List Value) (o:Nat) (w:World) (l:List Value),Blk w g T l.toArray→Blk (w.setCells g o vs) g T (setMany l o vs).toArray
 |[],_,_,_,h=>h
 |v :: vs,o,w,l,h=>by
  have h1:=h.set_ o v;rw[List.setIfInBounds_toArray] at h1;exact Blk.many vs (o+1) _ _ h1
section
variable {α:Type} {f:α→List Value} {k:Nat} {w:World} {g:Nat} {T:TypeId} {l:List α}
theorem Blk.putRec (hk:∀x,(f x).length=k) (h:Blk w g T (recs f l).toArray) {i:Nat} (hi:i<l.length) (x:α):Blk (w.setCells g (i*k) (f x)) g T (recs f (l.set i x)).toArray:=by
 have h1:=Blk.many (f x) (i*k) w (recs f l) h;rw[recs_put hk hi] at h1;exact h1
theorem Blk.recAt (hk:∀x,(f x).length=k) (h:Blk w g T (recs f l).toArray) {i:Nat} {x:α} (hx:l[i]?=some x) {j:Nat} {v:Value} (hv:(f x)[j]?=some v):w.cell? ⟨g,i*k+j,none⟩=some v:=by
 rw[h.cell,List.getElem?_toArray,recs_get hk hx (by have:=(List.getElem?_eq_some_iff.1 hv).1;rwa [hk] at this)];exact hv
theorem Blk.recThere (hk:∀x,(f x).length=k) (h:Blk w g T (recs f l).toArray) {i:Nat} (hi:i<l.length):w.there g (i*k) k:=by
 intro j hj;refine⟨?_,h.frozen _⟩;obtain⟨v,hv⟩:∃v,(f l[i])[j]?=some v:=⟨_,AE (by rw[hk (l[i])];exact hj)⟩
 rw[h.recAt hk (AE hi) hv];rfl
theorem Blk.recRd (hk:∀x,(f x).length=k) (h:Blk w g T (recs f l).toArray):Rd w k (some ⟨g,0,none⟩) l.length (recs f l):=h.rdk (n:=l.length) (k:=k) (by rw[List.size_toArray,recs_len hk])
end
theorem made_recs {α:Type} {f:α→List Value} {k:Nat} (hk:∀x,(f x).length=k) (hk0:0<k) (z:α) (n:Nat):madeCells (f z).toArray (n*k)=(recs f (List.replicate n z)).toArray:=by
 apply Array.ext_getElem?;intro i;have hR:(recs f (List.replicate n z)).toArray[i]?=(recs f (List.replicate n z))[i]?:=by simp
 rw[hR,madeCells,Array.getElem?_map];by_cases hi:i<n*k
 ·have hq:i / k<n:=Nat.div_lt_of_lt_mul (by rw[Nat.mul_comm];exact hi);have he:i / k*k+i % k=i:=Nat.div_add_mod' i k;have hm:i % k<(f z).length:=by rw[hk];exact Nat.mod_lt _ hk0
  have hr:(recs f (List.replicate n z))[i]?=(f z)[i % k]?:=by
   conv=>lhs;rw[←he]
   exact recs_get hk (x:=z) (by rw[List.getElem?_replicate,if_pos hq]) (Nat.mod_lt _ hk0)
  rw[hr,Array.getElem?_range,if_pos hi,AE hm]
  show some ((f z).toArray[i % (f z).toArray.size]!)=_
  have hsz:(f z).toArray.size=k:=by rw[List.size_toArray,hk]
  rw[hsz,getElem!_pos (f z).toArray (i % k) (by rw[hsz];exact Nat.mod_lt _ hk0)];rfl
 ·rw[Array.getElem?_range,if_neg hi,List.getElem?_eq_none (by rw[recs_len hk,List.length_replicate];omega)];rfl
theorem make_recs {α:Type} {f:α→List Value} {k by_:Nat} (hk:∀x,(f x).length=k) (hk0:0<k) (z:α) {te e:TypeId} (hu:Tryz.prog.underlying te=some (.slice e)) (hi:(Tryz.prog.info? e).map (fun i=>(i.zero,i.size,i.bytes))=some (some (.agg (f z).toArray),k,by_)) (hb:by_≤1000) (n:Nat) (hn:n≤1000000) (w:World) :
  (Instr.makeSlice te (.int .i64 (n:Int)) (.int .i64 (n:Int))).run Tryz.prog w=.ok (.slice (some ⟨w.heap.size,0,none⟩) n n) (w.alloc (.cells (recs f (List.replicate n z)).toArray e)):=by
 obtain⟨i0,hi0,hz0,hz1,hz2⟩:=info_parts hi;have h1:i0.bytes*n≤1000*1000000:=Nat.mul_le_mul (by omega) hn;have hr:=run_make (P:=Tryz.prog) w te e i0 _ hu hi0 hz0 .i64 .i64 (n:Int) (n:Int) (by omega) (by omega) (by
  have:((i0.bytes*n:Nat):Int)≤1000000000:=by omega
  rw[Int.natCast_mul] at this;omega) (by omega)
 simp only[Int.toNat_natCast] at hr;rw[hr,hz1,←made_recs hk hk0];rfl
def tbC (a b c d:Value):List Value:=[a,b,c,d]
@[reducible] def sl0:Value:=.slice none 0 0
theorem tb_size (a b c d:Value):(Tryz.prog.info? 30).map (·.size)=some (tbC a b c d).toArray.size:=by kernel_rfl
theorem tb_zero:(Tryz.prog.info? 30).bind (·.zero)=some (.agg (tbC sl0 sl0 sl0 sl0).toArray):=by kernel_rfl
theorem built_tb0:Tryz.prog.built 30 []=some (tbC sl0 sl0 sl0 sl0).toArray:=by kernel_rfl
theorem built_tb (A1 A2 A3 A4:Option Addr) (n1 n2 n3 n4 c1 c2 c3 c4:Nat):Tryz.prog.built 30 [(0,.slice A1 n1 c1),(1,.slice A2 n2 c2),(2,.slice A3 n3 c3),(3,.slice A4 n4 c4)]=some (tbC (.slice A1 n1 c1) (.slice A2 n2 c2) (.slice A3 n3 c3) (.slice A4 n4 c4)).toArray:=by kernel_rfl
def SomeI3 (w:World) (e:Ending) (w':World):Prop:=∃x y z:Int,e=.returned (.tuple #[.int .i64 x,.int .i64 y,.int .i64 z])∧Ext w w'
theorem down16_any (A:Option Addr) (n c:Nat) (x h a b y:Int) (fs:List Fl) (w:World) (rf:Rd w 5 A n (recs flC fs)) (hn:n≤1000000) :
  Calls Tryz.prog 161 #[.int .i64 x,.int .i64 h,.int .i64 a,.int .i64 b,.int .i64 y,.slice A n c] w (SomeI3 w):=by
 have cT:=fun y w hh=>AB (tall15_any A n c y h a b fs w hh hn)
 have cN:=fun y w h=>AB (next_any A n c y fs w h hn)
 go_enter Tryz.func161,Tryz.ntmps161;go_wp2_with fail;go_loopw [4,15,16,17,18] (fun v4 v15 v16 v17 v18 wr=>∃(z:Int),v4=.int .i64 z∧Ext w wr) (fun v4 _ _ _ _ _=>cntB fs (intOf v4))
 case atStart=>exact⟨y,rfl,Ext.refl _⟩
 case round=>
  obtain⟨z,rfl,E⟩:=hrel;go_wp2_with fail
  with_reducible refine (AA (cT z _ (rf.ext E))).mono ?_
  rintro e w2 ⟨z1,z2,rfl,hx⟩;replace E:=E.trans hx;clear hx;go_wp2_with fail
  with_reducible refine (AA (cN z _ (rf.ext E))).mono ?_
  rintro e w3 ⟨nb,is,rfl,hi1,hi2,hx⟩;replace E:=E.trans hx;have HI:=AB hi1;clear hx hi1 hi2;obtain⟨d,hd⟩:∃d,IntKind.i64.wrap (z2-z1)=d:=⟨_,rfl⟩
  obtain⟨e1,he1⟩:∃t,(z1==a)=t:=⟨_,rfl⟩
  obtain⟨e2,he2⟩:∃t,(z2==b)=t:=⟨_,rfl⟩
  cases is
  ·skip
   cases e1
   ·skip
    by_cases hw:x≤d
    ·skip
     go_wp2_with fail;refine bodyPost_ret (v:=.tuple #[.int .i64 z,.int .i64 z1,.int .i64 z2]) (by simp[results,Tryz.results161,go_sem]) rfl ?_;exact⟨_,_,_,rfl,E⟩
    ·skip
     go_wp2_with fail;refine bodyPost_ret (v:=.tuple #[.int .i64 z,.int .i64 z1,.int .i64 z2]) (by simp[results,Tryz.results161,go_sem]) rfl ?_;exact⟨_,_,_,rfl,E⟩
   ·skip
    cases e2
    ·skip
     by_cases hw:x≤d
     ·skip
      go_wp2_with fail;refine bodyPost_ret (v:=.tuple #[.int .i64 z,.int .i64 z1,.int .i64 z2]) (by simp[results,Tryz.results161,go_sem]) rfl ?_;exact⟨_,_,_,rfl,E⟩
     ·skip
      go_wp2_with fail;refine bodyPost_ret (v:=.tuple #[.int .i64 z,.int .i64 z1,.int .i64 z2]) (by simp[results,Tryz.results161,go_sem]) rfl ?_;exact⟨_,_,_,rfl,E⟩
    ·skip
     go_wp2_with fail;refine bodyPost_ret (v:=.tuple #[.int .i64 z,.int .i64 z1,.int .i64 z2]) (by simp[results,Tryz.results161,go_sem]) rfl ?_;exact⟨_,_,_,rfl,E⟩
  ·skip
   cases e1
   ·skip
    by_cases hw:x≤d
    ·skip
     go_wp2_with fail;refine bodyPost_ret (v:=.tuple #[.int .i64 z,.int .i64 z1,.int .i64 z2]) (by simp[results,Tryz.results161,go_sem]) rfl ?_;exact⟨_,_,_,rfl,E⟩
    ·skip
     obtain⟨f,hf,hb1,hb2⟩:=(AA HI) rfl;have HC:=AB (cntB_less hf hb1 hb2);clear hf hb1 hb2;go_wp2_with fail;go_roundw
     case rel=>exact⟨nb,rfl,E⟩
     case measure=>simpa[intOf] using AA HC
   ·skip
    cases e2
    ·skip
     by_cases hw:x≤d
     ·skip
      go_wp2_with fail;refine bodyPost_ret (v:=.tuple #[.int .i64 z,.int .i64 z1,.int .i64 z2]) (by simp[results,Tryz.results161,go_sem]) rfl ?_;exact⟨_,_,_,rfl,E⟩
     ·skip
      obtain⟨f,hf,hb1,hb2⟩:=(AA HI) rfl;have HC:=AB (cntB_less hf hb1 hb2);clear hf hb1 hb2;go_wp2_with fail;go_roundw
      case rel=>exact⟨nb,rfl,E⟩
      case measure=>simpa[intOf] using AA HC
    ·skip
     go_wp2_with fail;refine bodyPost_ret (v:=.tuple #[.int .i64 z,.int .i64 z1,.int .i64 z2]) (by simp[results,Tryz.results161,go_sem]) rfl ?_;exact⟨_,_,_,rfl,E⟩
def StrutIs (w:World) (e:Ending) (w':World):Prop:=∃s:Su,e=.returned (.agg (suC s).toArray)∧Ext w w'
theorem of14_any (A:Option Addr) (n c:Nat) (xs:List Int) (w:World) (rx:Rd w 1 A n (ints xs)) (hn:n≤1000000) :
  Calls Tryz.prog 165 #[.slice A n c] w (StrutIs w):=by
 have hN:xs.length=n:=by have:=rx.len;rw[ints_len] at this;omega
 go_enter Tryz.func165,Tryz.ntmps165;go_upto_region 2 with fail;have B2:Blk ((w.alloc (.cells #[.int .i64 0,.int .i64 0] 187)).alloc (.cells #[.int .i64 0,.int .i64 0] 187)) w.heap.size 187 #[.int .i64 0,.int .i64 0]:=(Blk.new _ _ _).alloc _;have B3:Blk ((w.alloc (.cells #[.int .i64 0,.int .i64 0] 187)).alloc (.cells #[.int .i64 0,.int .i64 0] 187)) (w.heap.size+1) 187 #[.int .i64 0,.int .i64 0]:=Blk.new1 _ _ _ _;have E:Ext w ((w.alloc (.cells #[.int .i64 0,.int .i64 0] 187)).alloc (.cells #[.int .i64 0,.int .i64 0] 187)):=((Ext.refl _).alloc _).alloc _;generalize (w.alloc (.cells #[.int .i64 0,.int .i64 0] 187)).alloc (.cells #[.int .i64 0,.int .i64 0] 187)=w1 at *;obtain⟨g,hg⟩:∃g,w.heap.size=g:=⟨_,rfl⟩
 rw[hg] at B2 B3 ⊢;have HG:=AB hg;clear hg;go_wp2_with fail;go_loopw [4] (fun v4 wr=>∃(k:Nat) (m l:Int),v4=.int .i64 k∧k≤n∧Ext w wr∧Blk wr g 187 #[.int .i64 0,.int .i64 0]∧Blk wr (g+1) 187 #[.int .i64 m,.int .i64 l]) (fun v4 _=>n-(intOf v4).toNat)
 case atStart=>exact⟨0,0,0,rfl,by omega,E,B2,B3⟩
 case round=>
  clear E B2 B3;obtain⟨k,m,l,rfl,hk,E,B2,B3⟩:=hrel;by_cases hkn:k<n
  ·have hkI:(0:Int)≤(k:Int)∧(k:Int)<(n:Int):=by omega
   obtain⟨x,hx⟩:∃f,xs[k]?=some f:=⟨_,AE (by omega)⟩
   obtain⟨b,off,rfl,_,_⟩:=rx.intIn hx;have cl:=(rx.ext E).cellAt hkn (show (ints xs)[k]?=some (Value.int .i64 x) by rw[ints,List.getElem?_map,hx];rfl);have cl1:=cl.1;have cl2:=cl.2;clear cl;have c0:=(B3.cell 0).trans (rfl:_=some (Value.int .i64 m));have l3:=B3.lt;go_upto_region 5 with fail
   go_quiet (fail)
   clear c0 cl1 cl2 l3;replace E:=E.drewN nq;replace B2:=B2.drewN nq;replace B3:=B3.drewN nq;generalize wr.drewN nq=wq at *;by_cases h1:m<x
   ·skip
    have cl:=(rx.ext E).cellAt hkn (show (ints xs)[k]?=some (Value.int .i64 x) by rw[ints,List.getElem?_map,hx];rfl);have cl1:=cl.1;have cl2:=cl.2;clear cl;have c0:=(B3.cell 0).trans (rfl:_=some (Value.int .i64 m));have l3:=B3.lt;have f3:=B3.frozen;have hle:=AA HG;go_upto_region 7 with fail;clear c0 cl1 cl2 l3 f3;replace E:=E.set (p:=⟨g+1,0,none⟩) (by simp;omega) (.int .i64 x);replace B2:=B2.far (p:=⟨g+1,0,none⟩) (by simp) (.int .i64 x);have B3':Blk (wq.setCell ⟨g+1,0,none⟩ (.int .i64 x)) (g+1) 187 #[.int .i64 x,.int .i64 l]:=B3.set_ 0 _;clear B3;have B3:=B3';clear B3' hle;generalize wq.setCell ⟨g+1,0,none⟩ (.int .i64 x)=wq2 at *;have cl:=(rx.ext E).cellAt hkn (show (ints xs)[k]?=some (Value.int .i64 x) by rw[ints,List.getElem?_map,hx];rfl);have cl1:=cl.1;have cl2:=cl.2;clear cl;have c0:=(B3.cell 0).trans (rfl:_=some (Value.int .i64 x));have c1:=(B3.cell 1).trans (rfl:_=some (Value.int .i64 l));have l3:=B3.lt;have f3:=B3.frozen;have hle:=AA HG;go_upto_region 7 with fail
    go_quiet (fail)
    clear c0 c1 cl1 cl2 l3 f3;replace E:=E.drewN nq;replace B2:=B2.drewN nq;replace B3:=B3.drewN nq;generalize hwz:World.drewN _ nq=wz at *;clear hwz;by_cases h2:x<l
    ·skip
     have cl:=(rx.ext E).cellAt hkn (show (ints xs)[k]?=some (Value.int .i64 x) by rw[ints,List.getElem?_map,hx];rfl);have cl1:=cl.1;have cl2:=cl.2;clear cl;have c0:=(B3.cell 0).trans (rfl:_=some (Value.int .i64 x));have c1:=(B3.cell 1).trans (rfl:_=some (Value.int .i64 l));have l3:=B3.lt;have f3:=B3.frozen;clear hx;go_wp2_with fail;go_roundw
     case rel=>exact⟨k+1,x,x,by go_num,by omega,E.set (by simp;omega) _,B2.far (by simp) _,B3.set_ 1 _⟩
     case measure=>simp[intOf];omega
    ·skip
     clear hx;go_wp2_with fail;go_roundw
     case rel=>exact⟨k+1,x,l,by go_num,by omega,E,B2,B3⟩
     case measure=>simp[intOf];omega
   ·skip
    have cl:=(rx.ext E).cellAt hkn (show (ints xs)[k]?=some (Value.int .i64 x) by rw[ints,List.getElem?_map,hx];rfl);have cl1:=cl.1;have cl2:=cl.2;clear cl;have c0:=(B3.cell 0).trans (rfl:_=some (Value.int .i64 m));have c1:=(B3.cell 1).trans (rfl:_=some (Value.int .i64 l));have l3:=B3.lt;have f3:=B3.frozen;have hle:=AA HG;go_upto_region 7 with fail
    go_quiet (fail)
    clear c0 c1 cl1 cl2 l3 f3;replace E:=E.drewN nq;replace B2:=B2.drewN nq;replace B3:=B3.drewN nq;generalize hwz:World.drewN _ nq=wz at *;clear hwz;by_cases h2:x<l
    ·skip
     have cl:=(rx.ext E).cellAt hkn (show (ints xs)[k]?=some (Value.int .i64 x) by rw[ints,List.getElem?_map,hx];rfl);have cl1:=cl.1;have cl2:=cl.2;clear cl;have c0:=(B3.cell 0).trans (rfl:_=some (Value.int .i64 m));have c1:=(B3.cell 1).trans (rfl:_=some (Value.int .i64 l));have l3:=B3.lt;have f3:=B3.frozen;clear hx;go_wp2_with fail;go_roundw
     case rel=>exact⟨k+1,m,x,by go_num,by omega,E.set (by simp;omega) _,B2.far (by simp) _,B3.set_ 1 _⟩
     case measure=>simp[intOf];omega
    ·skip
     clear hx;go_wp2_with fail;go_roundw
     case rel=>exact⟨k+1,m,l,by go_num,by omega,E,B2,B3⟩
     case measure=>simp[intOf];omega
  ·have hkI:¬(k:Int)<(n:Int):=by omega
   have c3:=B3.cell;have l3:=B3.lt;have c2:=B2.cell;have l2:=B2.lt;have f2:=B2.frozen;have hle:=AA HG;go_wp2_with fail;refine bodyPost_ret (results_cellH rfl _ _ g 187 _ _ rfl ((B2.set_ 0 _).set_ 1 _) Tryz.underlying187 rfl (by kernel_rfl)) rfl ?_;exact⟨⟨_,_⟩,rfl,(E.set (by simp;omega) _).set (by simp;omega) _⟩
theorem sum14_any (s:Su) (w:World):Calls Tryz.prog 151 #[.agg (suC s).toArray] w (SomeI w):=by
 obtain⟨m,l⟩:=s;obtain⟨z,hz⟩:∃z,IntKind.i64.wrap (m+l)=z:=⟨_,rfl⟩
 show Calls Tryz.prog 151 #[.agg #[.int .i64 m,.int .i64 l]] w (SomeI w)
 go_enter Tryz.func151,Tryz.ntmps151;go_wp2_with fail;go_ret;exact⟨_,rfl,(Ext.refl _).alloc _⟩
theorem join14_any (s:Su) (x:Int) (w:World):Calls Tryz.prog 159 #[.agg (suC s).toArray,.int .i64 x] w (StrutIs w):=by
 obtain⟨m,l⟩:=s
 show Calls Tryz.prog 159 #[.agg #[.int .i64 m,.int .i64 l],.int .i64 x] w (StrutIs w)
 have cO:=fun w A h=>AB (of14_any A 3 3 [m,l,x] w h (by omega))
 go_enter Tryz.func159,Tryz.ntmps159;go_upto_region 1 with fail;have B2:Blk ((w.alloc (.cells #[.int .i64 m,.int .i64 l] 187)).alloc (.cells #[.int .i64 0,.int .i64 0] 187)) w.heap.size 187 #[.int .i64 m,.int .i64 l]:=(Blk.new _ _ _).alloc _;have B4:Blk ((w.alloc (.cells #[.int .i64 m,.int .i64 l] 187)).alloc (.cells #[.int .i64 0,.int .i64 0] 187)) (w.heap.size+1) 187 #[.int .i64 0,.int .i64 0]:=Blk.new1 _ _ _ _;have E:Ext w ((w.alloc (.cells #[.int .i64 m,.int .i64 l] 187)).alloc (.cells #[.int .i64 0,.int .i64 0] 187)):=((Ext.refl _).alloc _).alloc _;generalize (w.alloc (.cells #[.int .i64 m,.int .i64 l] 187)).alloc (.cells #[.int .i64 0,.int .i64 0] 187)=w1 at *;obtain⟨g,hg⟩:∃g,w.heap.size=g:=⟨_,rfl⟩
 rw[hg] at B2 B4 ⊢;have HG:=AB hg;clear hg;have c2:=B2.cell;have l2:=B2.lt;have RS:Rd (w1.alloc (.cells #[.int .i64 m,.int .i64 l,.int .i64 x] 2)) 1 (some ⟨w1.heap.size,0,none⟩) 3 (ints [m,l,x]):=(Blk.new _ _ _).rd rfl;have hx:Ext w1 (w1.alloc (.cells #[.int .i64 m,.int .i64 l,.int .i64 x] 2)):=(Ext.refl _).alloc _;go_wp2_with fail
 with_reducible refine (AA (cO _ _ RS)).mono ?_
 rintro e w3 ⟨⟨a,b⟩,rfl,hx3⟩;replace E:=(E.trans hx).trans hx3;replace B4:=(B4.ext hx).ext hx3;clear hx hx3 RS c2 l2 B2;have c4:=B4.cell;have f4:=B4.frozen;have l4:=B4.lt;simp only[suC];go_wp2_with fail;refine bodyPost_ret (results_cellH rfl _ _ (g+1) 187 _ _ rfl ((B4.set_ 0 _).set_ 1 _) Tryz.underlying187 rfl (by kernel_rfl)) rfl ?_;exact⟨⟨_,_⟩,rfl,(E.set (by have:=AA HG;simp;omega) _).set (by have:=AA HG;simp;omega) _⟩
theorem bare17_any (l:Ln) (w:World):Calls Tryz.prog 106 #[l.v] w (SomeI w):=by
 obtain⟨k,n⟩:=l;go_enter Tryz.func106,Tryz.ntmps106;go_wp2_with fail
 all_goals go_ret
 all_goals exact⟨_,rfl,(Ext.refl _).alloc _⟩
end Go.Proofs.YtamldoocjjdidaaGreat
