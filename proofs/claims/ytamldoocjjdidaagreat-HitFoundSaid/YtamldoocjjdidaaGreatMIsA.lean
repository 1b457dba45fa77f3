import Derived.Test.YtamldoocjjdidaaGreatMRow
import Derived.Test.YtamldoocjjdidaaGreatMTrN
namespace Go.Proofs.YtamldoocjjdidaaGreat
open Go.RowKit
set_option maxRecDepth 100000
set_option maxHeartbeats 64000000
def kidsN (ns:List Nd) (k p:Nat):List Int:=((List.range k).filter fun i=>parN ns i==(p:Int)).map (fun i:Nat=>(i:Int))
theorem kidsN_0 (ns:List Nd):kidsN ns 0=fun _=>[]:=by funext p;simp[kidsN]
theorem kidsN_succ (ns:List Nd) (k p:Nat):kidsN ns (k+1) p=if parN ns k=p then kidsN ns k p++[(k:Int)] else kidsN ns k p:=by
 unfold kidsN;rw[List.range_succ,List.filter_append,List.map_append];by_cases h:parN ns k=p
 ·simp[h]
 ·simp[h]
theorem kidsN_len (ns:List Nd) (k p:Nat):(kidsN ns k p).length≤k:=by
 unfold kidsN;rw[List.length_map];have:=List.length_filter_le (fun i=>parN ns i==(p:Int)) (List.range k)
 simpa using this
theorem kids_own {w:World} {B:Nat} {v:Value} {n:Nat} {l:List Int} (h:w.ownsRow B 3 1 v n (ints l)):∃A c,v=.slice A n c:=by
 rcases h.2 with ⟨rfl,h0⟩|⟨g',cap,cur,rfl,_⟩
 ·exact⟨none,0,by rw[h0]⟩
 ·exact⟨_,_,rfl⟩
section
variable (t:Tr) (ns:List Nd)
theorem kids_any (w:World) (h:Rd w 44 t.na t.nl (nds ns)) (hm:t.nl≤1000000) :
  Calls Tryz.prog 24 #[.agg t.cs] w (RowsOut w t.nl (kidsN ns t.nl)):=by
 have hl:=h.nlen;have hm':t.nl≤maxLen:=by unfold maxLen;omega
 have hmk:=make_rows t.nl hm;obtain⟨i0,hi0,hz0,hz1,hz2⟩:=info_parts int_info;have HI:=AB (And.intro hi0 (And.intro hz0 (And.intro hz1 hz2)));have HL:=AB hl;clear hi0 hz0 hz1 hz2;go_enter Tryz.func24,Tryz.ntmps24;go_wp2_with fail;have BT:Blk ((w.alloc (.cells t.cs 25)).alloc (.cells (Array.replicate t.nl (.slice none 0 0)) 52)) w.heap.size 25 t.cs:=(Blk.new _ _ _).alloc _;have R0:=Rws.start (w.alloc (.cells t.cs 25)) (w.heap.size+1) t.nl (by simp);rw[World.size_alloc] at R0;have E0:Ext w ((w.alloc (.cells t.cs 25)).alloc (.cells (Array.replicate t.nl (.slice none 0 0)) 52)):=((Ext.refl _).alloc _).alloc _;generalize (w.alloc (.cells t.cs 25)).alloc (.cells (Array.replicate t.nl (.slice none 0 0)) 52)=w0 at *;clear hmk hl;go_loopw [12] (fun i wr=>∃(k:Nat) (vs:List Value),i=.int .i64 k∧k≤t.nl∧Rws wr (w.heap.size+1) (w.heap.size+1) t.nl (kidsN ns k) vs∧Ext w wr∧Blk wr w.heap.size 25 t.cs) (fun i _=>t.nl-(intOf i).toNat)
 case atStart=>exact⟨0,_,rfl,by omega,by rw[kidsN_0];exact R0,E0,BT⟩
 case round=>
  clear R0 E0 BT;obtain⟨k,vs,rfl,q1,R1,E1,BT⟩:=hrel;have c1:=BT.cell;have l1:=BT.lt;by_cases hk:k<t.nl
  ·have hp:=parN_lt ns k;have HS:=AB (kidsN_succ ns k);have cu:=fun w h=>AB (up_any t ns k (by have:=AA HL;omega) w h hm')
   by_cases h0:0≤parN ns k
   ·obtain⟨p,hpk⟩:∃p:Nat,parN ns k=p:=⟨(parN ns k).toNat,by omega⟩
    rw[hpk] at hp h0 cu HS;have hpl:(0:Int)≤(p:Int)∧(p:Int)<(t.nl:Int):=by omega
    have hlen:=kidsN_len ns k p;clear hpk;go_wp2_with fail;refine (AA (cu _ (h.ext E1))).mono ?_;rintro e w2 ⟨rfl,hx⟩;have R2:=R1.ext hx;have E2:=E1.trans hx;have BT2:=BT.ext hx;obtain⟨v,hv,hc,hf,ho⟩:=R2.get (p:=p) (by omega);obtain⟨A,c,rfl⟩:=kids_own ho;have lg:=R2.blk.lt;have HV:=AB hv;clear hx c1 l1 R1 E1 BT hv;go_wp2_with (first
     |(at_builtin
       refine wpList_append_rd rfl (.tmp 25) (.tmp 27) _ rfl (w.heap.size+1) 3 i0 _ 1 8 Tryz.underlying52 (AA HI).1 (AA HI).2.1 (AA HI).2.2.1 (AA HI).2.2.2 rfl (by omega) _ (kidsN ns k p).length (ints (kidsN ns k p)) rfl (ho.alloc _) _ 1 1 [.int .i64 k] rfl (Rd.one _ _) (by simp[Value.oneCell']) (by simp only[maxLen];omega) (by omega) (by simp;omega) ?_;intro A4 c4 w4 own4 g4 at4;have R4:=(R2.alloc _).step (AA HV) g4 (by simp) own4 at4;have hc4:w4.cell? ⟨w.heap.size+1,p,none⟩=some (.slice A (kidsN ns k p).length c):=(World.cell?_of_block (a:=⟨w.heap.size+1,p,none⟩) (g4.block _ (by simp;omega) (fun e=>R2.off p _ (AA HV) e.symm))).trans (((Ext.refl w2).alloc _).cells.1 _ _ lg |>.trans hc);have hf4:w4.frozen? ⟨w.heap.size+1,p,none⟩=false:=(World.frozen?_of_block (a:=⟨w.heap.size+1,p,none⟩) (g4.block _ (by simp;omega) (fun e=>R2.off p _ (AA HV) e.symm))).trans (((Ext.refl w2).alloc _).cells.2 _ _ lg |>.trans hf)))
    go_roundw
    case rel=>
     refine⟨k+1,_,by go_num,by omega,R4.congr (fun i hi=>?_),(((E2.alloc _).grown g4 (fun g e=>by have:=(ho.lt g e).1;omega))).set (by simp) _,((BT2.alloc _).grown g4 (fun e=>?_)).far (by simp) _⟩
     ·rw[AA HS i];by_cases hip:i=p
      ·subst hip;simp
      ·rw[if_neg hip,if_neg (by omega)]
     ·have:=(ho.lt _ e).1;omega
    case measure=>simp[intOf];omega
   ·have hpk:parN ns k=-1:=by omega
    rw[hpk] at hp h0 cu HS;clear hpk;go_wp2_with fail;refine (AA (cu _ (h.ext E1))).mono ?_;rintro e w2 ⟨rfl,hx⟩;go_wp2_with fail;go_roundw
    case rel=>exact⟨k+1,_,by go_num,by omega,(R1.ext hx).congr (fun i hi=>by rw[AA HS i,if_neg (by omega)]),E1.trans hx,BT.ext hx⟩
    case measure=>simp[intOf];omega
  ·obtain hkn:k=t.nl:=by omega
   have HK:=AB hkn;clear hkn;go_wp2_with fail;go_ret;exact⟨_,rfl,by have:=R1.rdr.mono (Nat.le_succ _);rw[AA HK] at this;exact this,E1⟩
theorem refkids_any (w:World) (h:Rd w 44 t.na t.nl (nds ns)) (hm:t.nl≤1000000) :
  Calls Tryz.prog 51 #[.agg t.cs] w (RowsOut w t.nl (kidsN ns t.nl)):=by
 have hl:=h.nlen;have hm':t.nl≤maxLen:=by unfold maxLen;omega
 have hmk:=make_rows t.nl hm;obtain⟨i0,hi0,hz0,hz1,hz2⟩:=info_parts int_info;have HI:=AB (And.intro hi0 (And.intro hz0 (And.intro hz1 hz2)));have HL:=AB hl;clear hi0 hz0 hz1 hz2;go_enter Tryz.func51,Tryz.ntmps51;go_wp2_with fail;have BT:Blk ((w.alloc (.cells t.cs 25)).alloc (.cells (Array.replicate t.nl (.slice none 0 0)) 52)) w.heap.size 25 t.cs:=(Blk.new _ _ _).alloc _;have R0:=Rws.start (w.alloc (.cells t.cs 25)) (w.heap.size+1) t.nl (by simp);rw[World.size_alloc] at R0;have E0:Ext w ((w.alloc (.cells t.cs 25)).alloc (.cells (Array.replicate t.nl (.slice none 0 0)) 52)):=((Ext.refl _).alloc _).alloc _;generalize (w.alloc (.cells t.cs 25)).alloc (.cells (Array.replicate t.nl (.slice none 0 0)) 52)=w0 at *;clear hmk hl;go_loopw [4] (fun i wr=>∃(k:Nat) (vs:List Value),i=.int .i64 k∧k≤t.nl∧Rws wr (w.heap.size+1) (w.heap.size+1) t.nl (kidsN ns k) vs∧Ext w wr∧Blk wr w.heap.size 25 t.cs) (fun i _=>t.nl-(intOf i).toNat)
 case atStart=>exact⟨0,_,rfl,by omega,by rw[kidsN_0];exact R0,E0,BT⟩
 case round=>
  clear R0 E0 BT;obtain⟨k,vs,rfl,q1,R1,E1,BT⟩:=hrel;have c1:=BT.cell;have l1:=BT.lt;by_cases hk:k<t.nl
  ·have hp:=parN_lt ns k;have HS:=AB (kidsN_succ ns k);have cu:=fun w h=>AB (parent_any t ns k (by have:=AA HL;omega) w h hm')
   by_cases h0:0≤parN ns k
   ·obtain⟨p,hpk⟩:∃p:Nat,parN ns k=p:=⟨(parN ns k).toNat,by omega⟩
    rw[hpk] at hp h0 cu HS;have hpl:(0:Int)≤(p:Int)∧(p:Int)<(t.nl:Int):=by omega
    have hlen:=kidsN_len ns k p;clear hpk;go_wp2_with fail;refine (AA (cu _ (h.ext E1))).mono ?_;rintro e w2 ⟨rfl,hx⟩;have R2:=R1.ext hx;have E2:=E1.trans hx;have BT2:=BT.ext hx;obtain⟨v,hv,hc,hf,ho⟩:=R2.get (p:=p) (by omega);obtain⟨A,c,rfl⟩:=kids_own ho;have lg:=R2.blk.lt;have HV:=AB hv;clear hx c1 l1 R1 E1 BT hv;go_wp2_with (first
     |(at_builtin
       refine wpList_append_rd rfl (.tmp 27) (.tmp 29) _ rfl (w.heap.size+1) 3 i0 _ 1 8 Tryz.underlying52 (AA HI).1 (AA HI).2.1 (AA HI).2.2.1 (AA HI).2.2.2 rfl (by omega) _ (kidsN ns k p).length (ints (kidsN ns k p)) rfl (ho.alloc _) _ 1 1 [.int .i64 k] rfl (Rd.one _ _) (by simp[Value.oneCell']) (by simp only[maxLen];omega) (by omega) (by simp;omega) ?_;intro A4 c4 w4 own4 g4 at4;have R4:=(R2.alloc _).step (AA HV) g4 (by simp) own4 at4;have hc4:w4.cell? ⟨w.heap.size+1,p,none⟩=some (.slice A (kidsN ns k p).length c):=(World.cell?_of_block (a:=⟨w.heap.size+1,p,none⟩) (g4.block _ (by simp;omega) (fun e=>R2.off p _ (AA HV) e.symm))).trans (((Ext.refl w2).alloc _).cells.1 _ _ lg |>.trans hc);have hf4:w4.frozen? ⟨w.heap.size+1,p,none⟩=false:=(World.frozen?_of_block (a:=⟨w.heap.size+1,p,none⟩) (g4.block _ (by simp;omega) (fun e=>R2.off p _ (AA HV) e.symm))).trans (((Ext.refl w2).alloc _).cells.2 _ _ lg |>.trans hf)))
    go_roundw
    case rel=>
     refine⟨k+1,_,by go_num,by omega,R4.congr (fun i hi=>?_),(((E2.alloc _).grown g4 (fun g e=>by have:=(ho.lt g e).1;omega))).set (by simp) _,((BT2.alloc _).grown g4 (fun e=>?_)).far (by simp) _⟩
     ·rw[AA HS i];by_cases hip:i=p
      ·subst hip;simp
      ·rw[if_neg hip,if_neg (by omega)]
     ·have:=(ho.lt _ e).1;omega
    case measure=>simp[intOf];omega
   ·have hpk:parN ns k=-1:=by omega
    rw[hpk] at hp h0 cu HS;clear hpk;go_wp2_with fail;refine (AA (cu _ (h.ext E1))).mono ?_;rintro e w2 ⟨rfl,hx⟩;go_wp2_with fail;go_roundw
    case rel=>exact⟨k+1,_,by go_num,by omega,(R1.ext hx).congr (fun i hi=>by rw[AA HS i,if_neg (by omega)]),E1.trans hx,BT.ext hx⟩
    case measure=>simp[intOf];omega
  ·obtain hkn:k=t.nl:=by omega
   have HK:=AB hkn;clear hkn;go_wp2_with fail;go_ret;exact⟨_,rfl,by have:=R1.rdr.mono (Nat.le_succ _);rw[AA HK] at this;exact this,E1⟩
end
theorem own_extI {w w':World} {base e:Nat} {u:Value} {m:Nat} {zs:List Value} (h:w.ownsRow base e 1 u m zs) (hx:Ext w w'):w'.ownsRow base e 1 u m zs:=
 h.kept (row:=none) ⟨hx.os,hx.tape,hx.output,hx.size,fun i hi _=>hx.block i hi⟩ (by
  cases hu:u.ownBlock with
  |none=>exact .inl rfl
  |some b=>exact .inr (by simp))
def rootsN (ns:List Nd) (k:Nat):List Int:=((List.range k).filter (rootN ns ·)).map (fun i:Nat=>(i:Int))
theorem rootsN_succ (ns:List Nd) (k:Nat):rootsN ns (k+1)=if rootN ns k=true then rootsN ns k++[(k:Int)] else rootsN ns k:=by
 unfold rootsN;rw[List.range_succ,List.filter_append,List.map_append];by_cases h:rootN ns k=true
 ·simp[h]
 ·simp[h]
theorem rootsN_len (ns:List Nd) (k:Nat):(rootsN ns k).length≤k:=by
 unfold rootsN;rw[List.length_map];have:=List.length_filter_le (rootN ns ·) (List.range k)
 simpa using this
def IntsNew (w:World) (l:List Int) (e:Ending) (w':World):Prop:=∃A c,e=.returned (.slice A l.length c)∧Rd w' 1 A l.length (ints l)∧Ext w w'∧∀b off,A=some ⟨b,off,none⟩→w.heap.size≤b
theorem IntsNew.out {w w':World} {l:List Int} {e:Ending} (h:IntsNew w l e w'):IntsOut w l e w':=by
 obtain⟨A,c,h1,h2,h3,_⟩:=h;exact⟨A,c,h1,h2,h3⟩
theorem own_fresh {w:World} {B E n c:Nat} {A:Option Addr} {xs:List Value} (h:w.ownsRow B E 1 (.slice A n c) n xs):∀b off,A=some ⟨b,off,none⟩→B≤b:=by
 intro b off ha;subst ha;exact (h.lt b rfl).1
theorem own_none (w:World) (B e:Nat):w.ownsRow B e 1 (.slice none 0 0) 0 []:=⟨by simp,.inl ⟨rfl,rfl⟩⟩
section
variable (t:Tr) (ns:List Nd)
theorem refroots_new (w:World) (h:Rd w 44 t.na t.nl (nds ns)) (hm:t.nl≤1000000) :
  Calls Tryz.prog 55 #[.agg t.cs] w (IntsNew w (rootsN ns ns.length)):=by
 have hl:=h.nlen;have hm':t.nl≤maxLen:=by unfold maxLen;omega
 obtain⟨i0,hi0,hz0,hz1,hz2⟩:=info_parts int_info;have HI:=AB (And.intro hi0 (And.intro hz0 (And.intro hz1 hz2)));have HL:=AB hl;clear hi0 hz0 hz1 hz2 hl;go_enter Tryz.func55,Tryz.ntmps55;go_wp2_with fail;have BT:Blk (w.alloc (.cells t.cs 25)) w.heap.size 25 t.cs:=Blk.new _ _ _;have E0:Ext w (w.alloc (.cells t.cs 25)):=(Ext.refl _).alloc _;generalize w.alloc (.cells t.cs 25)=w0 at *;go_loopw [3,4] (fun v i wr=>∃(k:Nat) (A:Option Addr) (c:Nat) (l:List Int),i=.int .i64 k∧v=.slice A l.length c∧k≤t.nl∧Hid (rootsN ns k=l)∧Ext w wr∧Blk wr w.heap.size 25 t.cs∧wr.ownsRow (w.heap.size+1) 3 1 (.slice A l.length c) l.length (ints l)) (fun _ i _=>t.nl-(intOf i).toNat)
 case atStart=>exact⟨0,none,0,[],rfl,rfl,by omega,AB rfl,E0,BT,own_none _ _ _⟩
 case round=>
  clear E0 BT;obtain⟨k,A,c,l,rfl,rfl,q1,HR,E1,BT,O1⟩:=hrel;have c1:=BT.cell;have l1:=BT.lt;have hll:l.length≤k:=by rw[←AA HR];exact rootsN_len ns k
  by_cases hk:k<t.nl
  ·have cu:=fun w h=>AB (refroot_in t ns k (by have:=AA HL;omega) w h hm')
   have HS:=AB (rootsN_succ ns k);generalize rootN ns k=r at *;cases r
   ·go_wp2_with fail;refine (AA (cu _ (h.ext E1))).mono ?_;rintro e w2 ⟨rfl,hx⟩;have E2:=E1.trans hx;have BT2:=BT.ext hx;have O2:=own_extI O1 hx;go_wp2_with fail;go_roundw
    case rel=>exact⟨k+1,A,c,l,by go_num,rfl,by omega,AB ((AA HS).trans (by simp[AA HR])),E2,BT2,O2⟩
    case measure=>simp[intOf];omega
   ·go_wp2_with fail;refine (AA (cu _ (h.ext E1))).mono ?_;rintro e w2 ⟨rfl,hx⟩;have E2:=E1.trans hx;have BT2:=BT.ext hx;have O2:=own_extI O1 hx;have l2:=BT2.lt;clear hx c1 l1 E1 BT O1;go_wp2_with (first
     |(at_builtin
       refine wpList_append_rd rfl (.tmp 15) (.tmp 17) _ rfl (w.heap.size+1) 3 i0 _ 1 8 Tryz.underlying52 (AA HI).1 (AA HI).2.1 (AA HI).2.2.1 (AA HI).2.2.2 rfl (by omega) _ l.length (ints l) rfl (own_extI O2 ((Ext.refl _).alloc _)) _ 1 1 [.int .i64 (k:Int)] rfl (Rd.one _ _) (by simp[Value.oneCell']) (by simp only[maxLen];omega) (by omega) (by simp;omega) ?_;intro A4 c4 w4 own4 g4 at4;have E4:=(E2.alloc (.cells #[.int .i64 (k:Int)] 3)).grown g4 (fun j e=>by have:=(O2.lt j e).1;omega);have BT4:=(BT2.alloc (.cells #[.int .i64 (k:Int)] 3)).grown g4 (fun e=>by have:=(O2.lt _ e).1;omega)))
    go_roundw
    case rel=>exact⟨k+1,A4,c4,l++[(k:Int)],by go_num,by simp,by omega,AB ((AA HS).trans (by simp[AA HR])),E4,BT4,by simpa[ints_append,ints] using own4⟩
    case measure=>simp[intOf];omega
  ·have hkl:k=ns.length:=by have:=AA HL;omega
   have HR2:=AB (show rootsN ns ns.length=l by rw[←hkl];exact AA HR);generalize rootsN ns ns.length=L at *;clear hkl;go_wp2_with fail;go_ret;obtain rfl:=AA HR2;exact⟨A,c,rfl,Rd.of_own O1,E1,fun b off e=>by have:=own_fresh O1 b off e;omega⟩
end
end Go.Proofs.YtamldoocjjdidaaGreat
