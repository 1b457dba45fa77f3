import Derived.Test.YtamldoocjjdidaaGreatMEdG
import Derived.Laws.BitsLemmas
namespace Go.Proofs.YtamldoocjjdidaaGreat
open Go.RowKit
set_option maxRecDepth 100000
set_option maxHeartbeats 64000000
theorem Blk.grow {w w':World} {g:Nat} {t:TypeId} {cs:Array Value} {row:Option Nat} (h:Blk w g t cs) (hb:w.grownBy w' row) (hg:row≠some g):Blk w' g t cs:=
 (hb.block g h.lt (fun e=>hg e.symm)).trans h
theorem results_cell1 {P:Program} {fn:Func} {p:Tmp} {ty:TypeId} (h:fn.results=#[.cell p ty]) (tmps:Array Value) (w:World) (g:Nat) (T:TypeId) (cs:Array Value) (d:TypeDesc)
  (hp:tmps.getD p undef=.pointer (some ⟨g,0,none⟩)) (hg:Blk w g T cs)
  (hu:P.underlying ty=some d) (hd:(match d with| .struct _| .array _ _=>true|_=>false)=true) (hi:(P.info? ty).map (·.size)=some cs.size) :
  (results fn tmps).run P w=.ok (.agg cs) w:=by
 have hp':tmps[p]?.getD undef=.pointer (some ⟨g,0,none⟩):=by simpa using hp
 simp[results,h,hp',asAddr,run_loadVar_row w g T ty cs (0,0) d hg hu hd hi]
structure OfRel (w:World) (m:Bool) (X y:Nat) (wr:World):Prop where
 (ext:Ext w wr) (size:w.heap.size+2≤wr.heap.size) (out:Blk wr w.heap.size 134 #[.bool false,.slice none 0 0])
 (o:∃A c o,Blk wr (w.heap.size+1) 134 #[.bool m,.slice A o.length c]∧wr.ownsRow (w.heap.size+2) 4 1 (.slice A o.length c) o.length (bools o)∧val o+2 ^ o.length*y=X∧o.length≤64)
def OfP (x:Int) (m:Bool) (l:List Bool):Prop:=val l=x.natAbs∧m=decide (x<0)∧l.length≤64
theorem of_step {o:List Bool} {X y:Nat} (h:val o+2 ^ o.length*y=X):val (o++[y % 2==1])+2 ^ (o++[y % 2==1]).length*(y / 2)=X:=by
 rw[val_snoc,List.length_append,List.length_singleton,Nat.pow_succ];have e:(y % 2==1).toNat=y % 2:=by
  rcases Nat.mod_two_eq_zero_or_one y with h|h<;>rw[h]<;>rfl
 rw[e];have hd:y=2*(y / 2)+y % 2:=by omega
 have:2 ^ o.length*y=2 ^ o.length*(2*(y / 2)+y % 2):=by rw[←hd]
 rw[Nat.mul_add,←Nat.mul_assoc] at this;rw[Nat.mul_comm (y % 2)];omega
theorem of_len {o:List Bool} {X y:Nat} (h:val o+2 ^ o.length*y=X) (hX:X<18446744073709551616) (hy:0<y):o.length<64:=by
 rcases Nat.lt_or_ge o.length 64 with h1|h1
 ·exact h1
 ·have h2:2 ^ 64≤2 ^ o.length:=Nat.pow_le_pow_right (by omega) h1;have h3:2 ^ o.length*1≤2 ^ o.length*y:=Nat.mul_le_mul_left _ hy;have:(2:Nat) ^ 64=18446744073709551616:=by decide
  omega
theorem of_any (x:Int) (h1:-9223372036854775808≤x) (h2:x≤9223372036854775807) (w:World) :
  Calls Tryz.prog 64 #[.int .i64 x] w (BigOut w (OfP x)):=by
 obtain⟨i0,hi0,hz0,hz1,hz2⟩:=info_parts bigb_info;have HI:=AB (And.intro hi0 (And.intro hz0 (And.intro hz1 hz2)));clear hi0 hz0 hz1 hz2;by_cases hneg:x<0
 ·obtain⟨X,hX⟩:∃X,x.natAbs=X:=⟨_,rfl⟩
  obtain⟨Y0,hY0⟩:∃Y:Int,IntKind.u64.wrap x=Y:=⟨_,rfl⟩
  have EX:IntKind.u64.wrap (-Y0)=(X:Int):=by rw[←hY0];simp only[IntKind.wrap_u64];omega
  have HXL:Hid (X<18446744073709551616):=by unfold Hid;omega
  have HXV:=AB hX.symm;have HXM:Hid (true=decide (x<0)):=by unfold Hid;simp[hneg]
  clear hX;go_enter Tryz.func64,Tryz.ntmps64
  go_wp2
  go_loopw [3] (fun v wr=>∃y:Nat,v=.int .u64 y∧OfRel w true X y wr) (fun v _=>(intOf v).toNat)
  case atStart=>exact⟨X,rfl,((Ext.refl _).alloc _).alloc _,by simp,(Blk.new _ _ _).alloc _,none,0,[],Blk.new1 _ _ _ _,World.ownsRow_nil _ _ _ _,by simp[val],by simp⟩
  case round=>
   obtain⟨y,rfl,hE,hS,hB0,A3,c3,o,hB1,hO,hV,hL⟩:=hrel;have hc0:=hB0.cell;have hc1:=hB1.cell;have hf0:=hB0.frozen;have hf1:=hB1.frozen;have l0:=hB0.lt;have l1:=hB1.lt;by_cases hy:y=0
   ·subst hy;have HV:=AB hV;have HLn:=AB hL;clear hV hL
    go_wp2
    refine bodyPost_ret (results_cell1 rfl _ _ w.heap.size 134 _ _ rfl ((hB0.set_ 0 _).set_ 1 _) Tryz.underlying134 rfl (by kernel_rfl)) rfl ?_;obtain⟨k1,k2⟩:=own_cap hO;have hv:=AA HV;have hR:Rd wr 1 A3 o.length (bools o):=Rd.of_own hO;refine⟨true,A3,c3,o,rfl,?_,k1,k2,⟨by rw[←AA HXV];simpa using hv,AA HXM,AA HLn⟩,?_⟩
    ·exact hR.grown (grown_set (grown_set (World.grownBy.refl wr (some w.heap.size)) _) _) (fun b off e=>by
      have:=(hO.lt b (by rw[e];rfl)).1;intro e2;injection e2;omega)
    ·exact (hE.set (Nat.le_refl _) _).set (Nat.le_refl _) _
   ·have hlen:=of_len hV (AA HXL) (by omega);have hst:=of_step hV;obtain⟨D,hD⟩:∃D,(y % 2==1)=D:=⟨_,rfl⟩
    obtain⟨T,hT⟩:∃T,y / 2=T:=⟨_,rfl⟩
    rw[hD,hT] at hst;have ED:((y:Int) % 2==1)=D:=by rw[←hD];rw[Bool.eq_iff_iff];simp;omega
    have ET:(y:Int) / 2=(T:Int):=by omega
    have hyI:0<(y:Int):=by omega
    have hyX:y≤X:=by
     have h:=Nat.le_mul_of_pos_left y (Nat.two_pow_pos o.length);have:=AA HXV;omega
    have hXl:=AA HXL;have ET2:IntKind.u64.wrap (T:Int)=(T:Int):=by rw[IntKind.wrap_u64];omega
    clear hXl hyX;have HST:=AB hst;have HD:=AB (And.intro hD hT);clear hst hV hL hD hT;go_wp2_with (first
     |(at_builtin
       refine wpList_append_rd rfl (.tmp 17) (.tmp 21) _ rfl (w.heap.size+2) 4 i0 _ 1 1 Tryz.underlying106 (AA HI).1 (AA HI).2.1 (AA HI).2.2.1 (AA HI).2.2.2 rfl (by omega) _ o.length (bools o) rfl (hO.alloc _) _ 1 1 [.bool D] rfl (Rd.one _ _) (by simp[Value.oneCell']) (by simp only[maxLen];omega) (by omega) (by simp;omega) ?_;intro A4 c4 w4 own4 g4 at4;have nb0:Value.ownBlock (.slice A3 o.length c3)≠some w.heap.size:=fun e=>by have:=(hO.lt _ e).1;omega
       have nb1:Value.ownBlock (.slice A3 o.length c3)≠some (w.heap.size+1):=fun e=>by have:=(hO.lt _ e).1;omega
       have hB04:=(hB0.alloc _).grow g4 nb0;have hB14:=(hB1.alloc _).grow g4 nb1;have hc04:=hB04.cell;have hc14:=hB14.cell;have hf04:=hB04.frozen;have hf14:=hB14.frozen;have hs4:wr.heap.size+1≤w4.heap.size:=by have h:=g4.size;simpa using h
       have hE4:Ext w w4:=(hE.alloc _).grown g4 (fun g e=>by have:=(hO.lt g e).1;omega)))
    go_roundw
    case rel=>
     have e:(o++[D]).length=o.length+1:=by simp
     have hO5:(w4.setCell ⟨w.heap.size+1,1,none⟩ (.slice A4 (o.length+1) c4)).ownsRow (w.heap.size+2) 4 1 (.slice A4 (o.length+1) c4) (o.length+1) (bools (o++[D])):=by
      rw[bools_append];refine own4.kept (grown_set (World.grownBy.refl w4 (some (w.heap.size+1))) _) ?_;by_cases h:Value.ownBlock (.slice A4 (o.length+1) c4)=none
      ·exact .inl h
      ·right;intro h2;have:=(own4.lt _ h2).1;omega
     refine⟨T,rfl,hE4.set (by simp) _,by simp[World.setCell];omega,hB04.far (by simp) _,A4,c4,o++[D],?_,?_,AA HST,by rw[e];omega⟩
     ·rw[e];exact hB14.set_ 1 _
     ·rw[e];exact hO5
    case measure=>simp[intOf];omega
 ·obtain⟨X,rfl⟩:=Int.eq_ofNat_of_zero_le (show 0≤x by omega);have HXL:Hid (X<18446744073709551616):=by unfold Hid;omega
  have HXV:Hid (X=(X:Int).natAbs):=by unfold Hid;simp
  have HXM:Hid (false=decide ((X:Int)<0)):=by unfold Hid;symm;simp
  go_enter Tryz.func64,Tryz.ntmps64
  go_wp2
  go_loopw [3] (fun v wr=>∃y:Nat,v=.int .u64 y∧OfRel w false X y wr) (fun v _=>(intOf v).toNat)
  case atStart=>exact⟨X,rfl,((Ext.refl _).alloc _).alloc _,by simp,(Blk.new _ _ _).alloc _,none,0,[],Blk.new1 _ _ _ _,World.ownsRow_nil _ _ _ _,by simp[val],by simp⟩
  case round=>
   obtain⟨y,rfl,hE,hS,hB0,A3,c3,o,hB1,hO,hV,hL⟩:=hrel;have hc0:=hB0.cell;have hc1:=hB1.cell;have hf0:=hB0.frozen;have hf1:=hB1.frozen;have l0:=hB0.lt;have l1:=hB1.lt;by_cases hy:y=0
   ·subst hy;have HV:=AB hV;have HLn:=AB hL;clear hV hL
    go_wp2
    refine bodyPost_ret (results_cell1 rfl _ _ w.heap.size 134 _ _ rfl ((hB0.set_ 0 _).set_ 1 _) Tryz.underlying134 rfl (by kernel_rfl)) rfl ?_;obtain⟨k1,k2⟩:=own_cap hO;have hv:=AA HV;have hR:Rd wr 1 A3 o.length (bools o):=Rd.of_own hO;refine⟨false,A3,c3,o,rfl,?_,k1,k2,⟨by rw[←AA HXV];simpa using hv,AA HXM,AA HLn⟩,?_⟩
    ·exact hR.grown (grown_set (grown_set (World.grownBy.refl wr (some w.heap.size)) _) _) (fun b off e=>by
      have:=(hO.lt b (by rw[e];rfl)).1;intro e2;injection e2;omega)
    ·exact (hE.set (Nat.le_refl _) _).set (Nat.le_refl _) _
   ·have hlen:=of_len hV (AA HXL) (by omega);have hst:=of_step hV;obtain⟨D,hD⟩:∃D,(y % 2==1)=D:=⟨_,rfl⟩
    obtain⟨T,hT⟩:∃T,y / 2=T:=⟨_,rfl⟩
    rw[hD,hT] at hst;have ED:((y:Int) % 2==1)=D:=by rw[←hD];rw[Bool.eq_iff_iff];simp;omega
    have ET:(y:Int) / 2=(T:Int):=by omega
    have hyI:0<(y:Int):=by omega
    have hyX:y≤X:=by
     have h:=Nat.le_mul_of_pos_left y (Nat.two_pow_pos o.length);have:=AA HXV;omega
    have hXl:=AA HXL;have ET2:IntKind.u64.wrap (T:Int)=(T:Int):=by rw[IntKind.wrap_u64];omega
    clear hXl hyX;have HST:=AB hst;have HD:=AB (And.intro hD hT);clear hst hV hL hD hT;go_wp2_with (first
     |(at_builtin
       refine wpList_append_rd rfl (.tmp 17) (.tmp 21) _ rfl (w.heap.size+2) 4 i0 _ 1 1 Tryz.underlying106 (AA HI).1 (AA HI).2.1 (AA HI).2.2.1 (AA HI).2.2.2 rfl (by omega) _ o.length (bools o) rfl (hO.alloc _) _ 1 1 [.bool D] rfl (Rd.one _ _) (by simp[Value.oneCell']) (by simp only[maxLen];omega) (by omega) (by simp;omega) ?_;intro A4 c4 w4 own4 g4 at4;have nb0:Value.ownBlock (.slice A3 o.length c3)≠some w.heap.size:=fun e=>by have:=(hO.lt _ e).1;omega
       have nb1:Value.ownBlock (.slice A3 o.length c3)≠some (w.heap.size+1):=fun e=>by have:=(hO.lt _ e).1;omega
       have hB04:=(hB0.alloc _).grow g4 nb0;have hB14:=(hB1.alloc _).grow g4 nb1;have hc04:=hB04.cell;have hc14:=hB14.cell;have hf04:=hB04.frozen;have hf14:=hB14.frozen;have hs4:wr.heap.size+1≤w4.heap.size:=by have h:=g4.size;simpa using h
       have hE4:Ext w w4:=(hE.alloc _).grown g4 (fun g e=>by have:=(hO.lt g e).1;omega)))
    go_roundw
    case rel=>
     have e:(o++[D]).length=o.length+1:=by simp
     have hO5:(w4.setCell ⟨w.heap.size+1,1,none⟩ (.slice A4 (o.length+1) c4)).ownsRow (w.heap.size+2) 4 1 (.slice A4 (o.length+1) c4) (o.length+1) (bools (o++[D])):=by
      rw[bools_append];refine own4.kept (grown_set (World.grownBy.refl w4 (some (w.heap.size+1))) _) ?_;by_cases h:Value.ownBlock (.slice A4 (o.length+1) c4)=none
      ·exact .inl h
      ·right;intro h2;have:=(own4.lt _ h2).1;omega
     refine⟨T,rfl,hE4.set (by simp) _,by simp[World.setCell];omega,hB04.far (by simp) _,A4,c4,o++[D],?_,?_,AA HST,by rw[e];omega⟩
     ·rw[e];exact hB14.set_ 1 _
     ·rw[e];exact hO5
    case measure=>simp[intOf];omega
end Go.Proofs.YtamldoocjjdidaaGreat
