import Derived.Test.YtamldoocjjdidaaGreatMHvK
import Derived.Test.YtamldoocjjdidaaGreatMHvIp
import Derived.Test.YtamldoocjjdidaaGreatMEdK1p
namespace Go.Proofs.YtamldoocjjdidaaGreat
open Go.RowKit
set_option maxRecDepth 100000
set_option maxHeartbeats 64000000
section
variable (t:Tr) (ns:List Nd)
theorem refunder_any (a b:Int) (v1 v2 v3:Value) (A:Option Addr) (n c:Nat) (fs:List FV) (r:Rc) (hr:r.Ok) (w:World) (hck:∀w',Ext w w'→Calls Tryz.prog 35 #[.agg t.cs] w' (fun e w2=>e=.returned (.tuple #[.int .i64 a,.int .i64 b])∧Ext w' w2))
  (hf:FrsIn w A n fs) (hn:n≤1000) (hm:t.nl≤1000) (h:Rd w 44 t.na t.nl (nds ns)) (hT:b=0→TOk ns):Calls Tryz.prog 18 #[.agg t.cs,.agg (tbC v1 v2 v3 (.slice A n c)).toArray,.agg r.cs] w (IntsOut w (undV (togB b n t.nl fs) ns fs r)):=by
 have HCK:=AB hck;have HF:=AB hf;have HH:=AB h;have HT:=AB hT;have hl:=h.nlen;obtain⟨v,hv⟩:∃v,togB b n t.nl fs=v:=⟨_,rfl⟩
 have HV:=AB hv;have HM:=AB hm;have HN:=AB hn;have HL:=AB hl;rw[hv];clear hck hf h hT hl hv hm hn;obtain⟨rx,ry,rw_,rh⟩:=r;have HRO:=AB hr;have HI:=AB int_row29;clear hr;go_enter Tryz.func18,Tryz.ntmps18;go_upto_region 1 with fail;generalize hw1:World.alloc (World.alloc (World.alloc w _) _) _=w1;obtain⟨gT,hgT⟩:∃g,w.heap.size=g:=⟨_,rfl⟩
 have BT:Blk w1 gT 25 t.cs:=by rw[←hw1,←hgT];exact ((Blk.new _ _ _).alloc _).alloc _
 have BX:Blk w1 (gT+1) 30 (tbC v1 v2 v3 (.slice A n c)).toArray:=by rw[←hw1,←hgT];exact (Blk.new1 _ _ _ _).alloc _
 have BR:Blk w1 (gT+1+1) 33 (rcC ⟨rx,ry,rw_,rh⟩).toArray:=by rw[←hw1,←hgT];exact Blk.new2 _ _ _ _ _
 have E1:=AB (show Ext w w1 by rw[←hw1];exact (((Ext.refl _).alloc _).alloc _).alloc _);rw[hgT];clear hgT hw1;have cG:=AB (rplaces_any t ns a b v1 v2 v3 A n c fs w1 (fun w' hx=>(AA HCK) w' ((AA E1).trans hx)) ((AA HF).ext (AA E1)) (AA HN) (AA HM) ((AA HH).ext (AA E1)) (AA HT));rw[AA HV] at cG;go_step;refine wpList_load_blk rfl 25 (.tmp 3) rfl gT rfl 25 t.cs _ BT Tryz.underlying25 rfl (info_tree _) ?_;simp only[AC];refine wpList_load_blk rfl 30 (.tmp 4) rfl (gT+1) rfl 30 (tbC v1 v2 v3 (.slice A n c)).toArray _ BX Tryz.underlying30 rfl (tb_size _ _ _ _) ?_;simp only[AC];go_wp2_with fail
 with_reducible refine (AA cG).mono ?_
 rintro e w2 ⟨A9,c9,rfl,RP,hx⟩;replace BT:=BT.ext hx;replace BR:=BR.ext hx;replace E1:=AB ((AA E1).trans hx);clear hx cG HCK BX;have HRP:=AB RP;have HBR:=AB BR;have HBT:=AB BT;clear RP BR BT;obtain⟨U,hU⟩:∃U,undV v ns fs ⟨rx,ry,rw_,rh⟩=U:=⟨_,rfl⟩
 have HU0:=AB hU;have hUm:=AB (show undK ns fs ⟨rx,ry,rw_,rh⟩ (plV v ns fs).length=U from hU);obtain⟨m,hm⟩:∃m,(plV v ns fs).length=m:=⟨_,rfl⟩
 have hvm:=AB (show ∀k,k<m→v=true by
  intro k hk;rw[←hm] at hk;cases v
  ·simp[plV] at hk
  ·rfl)
 have HMM:=AB hm;have hm1:m≤1000:=by
  rw[←hm];cases v
  ·simp[plV]
  ·have:(plV true ns fs).length=ns.length:=by simp[plV,plL_len]
   have:=AA HL;have:=AA HM;omega
 rw[hm] at HRP hUm;rw[hm];clear hm hU;obtain⟨er,her⟩:∃er:Int,(if v=true then (0:Int) else 1)=er:=⟨_,rfl⟩
 rw[her];clear her;go_upto_region 3 with fail;go_wp2_with fail;go_loopw [9,10] (fun v9 v10 wq=>∃(k c6 q:Nat) (A6:Option Addr),v10=.int .i64 k∧v9=.slice A6 q c6∧k≤m∧Hid (q=(undK ns fs ⟨rx,ry,rw_,rh⟩ k).length)∧Hid (Ext w2 wq)∧Hid (wq.ownsRow w2.heap.size 3 1 (.slice A6 q c6) q (ints (undK ns fs ⟨rx,ry,rw_,rh⟩ k)))) (fun _ v10 _=>m-(intOf v10).toNat)
 case atStart=>exact⟨0,0,0,none,rfl,rfl,by omega,AB rfl,AB (Ext.refl _),AB (own_nil _ _ _ _)⟩
 case round=>
  obtain⟨k,c6,q,A6,rfl,rfl,hk,HQ,E,O⟩:=hrel;by_cases hkm:k<m
  ·as_aux_lemma=>
   have hyes:=(AA hvm) k hkm;subst hyes;obtain⟨hb0,hnm,hall⟩:=tog_yes (AA HV);have hML:=AB (show ns.length=m by have:=AA HMM;simpa[plV,plL_len] using this);have hkI:(0:Int)≤(k:Int)∧(k:Int)<(m:Int):=by omega
   have hkl:k<ns.length:=by rw[AA hML];exact hkm
   have hkt:k<t.nl:=by have:=AA HL;omega
   have hkT:(k:Int)<(t.nl:Int):=by omega
   have hq1:q≤k:=by rw[AA HQ];exact undK_len _ _ _ _
   obtain⟨bp,op_,hA9,lp,hmp⟩:=((AA HRP).ext (AA E)).rec_ rcC_len (show (plV true ns fs)[k]?=some (plN ns fs k) from plL_get (fs:=fs) hkl) (by omega);subst hA9;have hbd:=plN_bd ns (fun i=>fgN_bd hall i) (i:=k) (by omega);have cM:=fun w=>AB (refmeet_any (plN ns fs k) ⟨rx,ry,rw_,rh⟩ hbd.ok (AA HRO) w)
   have hund:undB ns fs ⟨rx,ry,rw_,rh⟩ k=(decide (nK ns k≠3)&&meetB (plN ns fs k) ⟨rx,ry,rw_,rh⟩):=rfl;obtain⟨p,hp⟩:∃p,plN ns fs k=p:=⟨_,rfl⟩
   rw[hp] at cM hmp hund;obtain⟨q2,hq2⟩:∃q2,meetB p ⟨rx,ry,rw_,rh⟩=q2:=⟨_,rfl⟩
   rw[hq2] at cM hund;obtain⟨kk,hkk⟩:∃kk,nK ns k=kk:=⟨_,rfl⟩
   obtain⟨q1,hq1b⟩:∃q,(kk != 3)=q:=⟨_,rfl⟩
   rw[hkk,show decide (kk≠3)=q1 by rw[←hq1b];by_cases h3:kk=3<;>simp[h3]] at hund;have HUND:=AB hund;obtain⟨bn,on,hna,lbn,_⟩:=(AA HH).at_ (show 0<t.nl by omega);have ckb:=AB (((AA HH).ext ((AA E1).trans (AA E))).same hna hkl);rw[hkk] at ckb;have HNA:=AB hna;have HLB:=AB lbn;clear hp hq2 hkk hund hbd hb0 hnm hall hna lbn;obtain⟨px,py,pw,ph⟩:=p;have E7:=E;have O7:=O;have ckq:=AA ckb;clear ckb;have s0:=hmp 0 _ (rfl:_=some (Value.int .i64 px));rw[Nat.add_zero] at s0;have s1:=hmp 1 _ (rfl:_=some (Value.int .i64 py));have s2:=hmp 2 _ (rfl:_=some (Value.int .i64 pw));have s3:=hmp 3 _ (rfl:_=some (Value.int .i64 ph));clear hmp;have BT:=(AA HBT).ext (AA E7);have c0:=(BT.cell 0).trans (rfl:_=some (Value.slice t.na t.nl t.nc));rw[AA HNA] at c0;have lT:=BT.lt;have lb3:=Nat.lt_of_lt_of_le (AA HLB) ((AA E1).trans (AA E7)).size;have BR:=(AA HBR).ext (AA E7);have r0:=(BR.cell 0).trans (rfl:_=some (Value.int .i64 rx));have r1:=(BR.cell 1).trans (rfl:_=some (Value.int .i64 ry));have r2:=(BR.cell 2).trans (rfl:_=some (Value.int .i64 rw_));have r3:=(BR.cell 3).trans (rfl:_=some (Value.int .i64 rh));have lR:=BR.lt;clear BT BR;go_upto_region 6 with fail;go_cut [38] from 23 to 38 (fun vc wx=>vc=.bool (undB ns fs ⟨rx,ry,rw_,rh⟩ k)∧Hid (Ext wr wx))
   case first=>
    as_aux_lemma=>
    cases q1
    ·refine wp_region_ord [(1,0),(0,1),(1,2),(1,3),(1,4),(1,5),(0,6),(1,7),(1,8),(1,9),(1,10),(1,11),(0,12),(0,13),(3,14),(1,15)] 14 (fun w'=>Ext wr w') (by kernel_rfl) (by kernel_rfl) rfl (by kernel_rfl) ((Ext.refl _).drew) ?_;simp only[AD]
     iterate 14 ((first|refine ordQE ?_|refine ordQF ?_|refine ordQC ?_|refine ordQD ?_);simp only[AC])
     refine ord_last ?_;go_wp2_with fail
     iterate 1 ((first|refine ordQE ?_|refine ordQF ?_|refine ordQC ?_|refine ordQD ?_);simp only[AC])
     refine ord_nil ?_;go_wp2_with fail;go_meet
     case rel=>exact⟨by rw[AA HUND];rfl,AB (Ext.refl wr).drew⟩
    ·refine wp_region_ord [(1,0),(0,1),(1,2),(1,3),(1,4),(1,5),(0,6),(1,7),(1,8),(1,9),(1,10),(1,11),(0,12),(0,13),(3,14),(1,15)] 14 (fun w'=>Ext wr w') (by kernel_rfl) (by kernel_rfl) rfl (by kernel_rfl) ((Ext.refl _).drew) ?_;simp only[AD]
     iterate 14 ((first|refine ordQE ?_|refine ordQF ?_|refine ordQC ?_|refine ordQD ?_);simp only[AC])
     refine ord_last ?_;go_wp2_with fail
     with_reducible refine (AA (cM _)).mono ?_
     rintro e w8 ⟨rfl,hx8⟩;have HX8:=AB ((Ext.refl wr).drew.trans hx8);clear hx8;go_wp2_with fail
     iterate 1 ((first|refine ordQE ?_|refine ordQF ?_|refine ordQC ?_|refine ordQD ?_);simp only[AC])
     refine ord_nil ?_;go_wp2_with fail;go_meet
     case rel=>exact⟨by rw[AA HUND];rfl,HX8⟩
   case rest=>
    clear s0 s1 s2 s3 r0 r1 r2 r3 lR c0 lT lb3 ckq cM hq1b lp;obtain⟨hc,E8⟩:=hcut;subst hc;have O8:=AB (own_ext (AA O7) (AA E8));replace E8:=AB ((AA E7).trans (AA E8));clear O7 E7 O E HUND;obtain⟨qq,hqq⟩:∃qq,undB ns fs ⟨rx,ry,rw_,rh⟩ k=qq:=⟨_,rfl⟩
    rw[hqq];have HQQ:=AB hqq;clear hqq;go_upto_if 38 with (fail);cases qq
    ·have HK:=AB (show undK ns fs ⟨rx,ry,rw_,rh⟩ (k+1)=undK ns fs ⟨rx,ry,rw_,rh⟩ k by rw[undK_succ,if_neg (by simp[AA HQQ])]);go_wp2_with fail;go_roundw
     case rel=>exact⟨k+1,c6,q,A6,by go_num,rfl,by omega,AB (by rw[AA HK];exact AA HQ),E8,AB (by rw[AA HK];exact AA O8)⟩
     case measure=>simp[intOf];omega
    ·have HK:=AB (show undK ns fs ⟨rx,ry,rw_,rh⟩ (k+1)=undK ns fs ⟨rx,ry,rw_,rh⟩ k++[(k:Int)] by rw[undK_succ,if_pos (AA HQQ)]);go_upto_region 7 with fail
     iterate 7 go_step
     refine Go.Great.wpList_buildSliceTo rfl 52 3 1 _ rfl _ rfl _ rfl Tryz.underlying52 ([Value.int .i64 (k:Int)]).toArray (by kernel_rfl) ?_;simp only[AC];have hx:Ext wc (wc.alloc (.cells ([Value.int .i64 (k:Int)]).toArray 3)):=(Ext.refl _).alloc _;have R5:Rd (wc.alloc (.cells ([Value.int .i64 (k:Int)]).toArray 3)) 1 (some ⟨wc.heap.size,0,none⟩) 1 ([Value.int .i64 (k:Int)]):=(Blk.new wc 3 ([Value.int .i64 (k:Int)]).toArray).rdk (n:=1) (k:=1) rfl;have E8':=(AA E8).trans hx;have O8':=own_ext (AA O8) hx;clear hx E8 O8;generalize wc.alloc (.cells ([Value.int .i64 (k:Int)]).toArray 3)=w8 at *;generalize wc.heap.size=gqw8 at *;refine wpList_push (W:=w2) rfl (.tmp 39) (.tmp 41) 52 rfl w2.heap.size 3 1 Tryz.underlying52 HI (by omega) _ q (ints (undK ns fs ⟨rx,ry,rw_,rh⟩ k)) rfl O8' _ 1 1 [Value.int .i64 (k:Int)] rfl R5 (by simp[Value.oneCell']) (by omega) E8' (Nat.le_refl _) E8'.size ?_;intro A8 c8 w9 O9 E9 g9 at9;simp only[AC];have HO9:=AB (show w9.ownsRow w2.heap.size 3 1 (.slice A8 (q+1) c8) (q+1) (ints (undK ns fs ⟨rx,ry,rw_,rh⟩ (k+1))) by rw[AA HK,ints_append];exact O9);have HQ2:=AB (show q+1=(undK ns fs ⟨rx,ry,rw_,rh⟩ (k+1)).length by rw[AA HK,List.length_append,←AA HQ];rfl);have HE9:=AB E9;clear O9 g9 at9 R5 O8' E8' E9;go_wp2_with fail;go_roundw
     case rel=>exact⟨k+1,c8,q+1,A8,by go_num,rfl,by omega,HQ2,HE9,HO9⟩
     case measure=>simp[intOf];omega
  ·
   have hkI:¬(k:Int)<(m:Int):=by omega
   have hkm2:k=m:=by omega
   have HU:=AB (show undK ns fs ⟨rx,ry,rw_,rh⟩ k=U by rw[hkm2];exact AA hUm);have HQU:=AB (show q=U.length by rw[←AA HU];exact AA HQ);have HO:=AB (Rd.of_own (AA O));clear hkm2 O;go_wp2_with fail;go_ret;refine⟨A6,c6,by rw[AA HU0,←AA HQU];rfl,?_,(AA E1).trans (AA E)⟩;rw[AA HU0,←AA HQU,←AA HU];exact AA HO
end
theorem i64_row29:RowInfo 2 1:=rowInfo (z:=.int .i64 0) (by kernel_rfl) rfl
section
variable {w w':World} {base m0 m1 m2 m3:Nat} {v0 v1 v2 v3:Value} {z0 z1 z2 z3:List Int}
theorem R4.rot (h:R4 w base m0 m1 m2 m3 v0 v1 v2 v3 z0 z1 z2 z3):R4 w base m1 m2 m3 m0 v1 v2 v3 v0 z1 z2 z3 z0:=
 ⟨h.o1,h.o2,h.o3,h.o0,h.d12,h.d13,h.d01.symm,h.d23,h.d02.symm,h.d03.symm⟩
end
theorem some_take (l:List Rc) (k:Nat) (r:Rc) (h:l[k]?=some r):someL (l.take (k+1))=if r.some then someL (l.take k)++[r] else someL (l.take k):=by
 unfold someL;rw[List.take_add_one,h,List.filter_append];cases hr:r.some<;>simp[hr]
theorem map_i64 {ms:List Rc} (h:∀r∈ms,r.Ok):I64s (ms.map (·.x))∧I64s (ms.map (·.y))∧I64s (ms.map (·.w))∧I64s (ms.map (·.h)):=by
 refine⟨?_,?_,?_,?_⟩
 all_goals
  intro z hz;obtain⟨r,hr,rfl⟩:=List.mem_map.1 hz;obtain⟨x1,x2,y1,y2,w1,w2,h1,h2⟩:=h r hr;omega
theorem refCover_any (A:Option Addr) (n c:Nat) (l:List Rc) (w:World) (hr:Rd w 4 A n (rcs l)) (hok:∀r∈l,r.Ok) (hn:n≤1000) :
  Calls Tryz.prog 31 #[.slice A n c] w fun e w'=>e=.returned (.tuple #[.agg (coverR l).cs,.bool (coverB l)])∧Ext w w':=by
 rw[←(refCov_eq l).1,←(refCov_eq l).2];obtain⟨i0,hi0,hz0,hz1,hz2⟩:=info_parts i64_info;have HI:=AB i64_row29;have hl:l.length=n:=by have:=hr.len;rw[rcs_len] at this;omega
 have HL:=AB hl;have hmsok:∀r∈someL l,r.Ok:=fun r hr=>hok r (List.mem_filter.1 hr).1
 have HMO:=AB (map_i64 hmsok);clear hl hi0 hz0 hz1 hz2 hmsok hok;go_enter Tryz.func31,Tryz.ntmps31;go_wp2_with fail;have B0:Blk (w.alloc (.cells #[.int .i64 0,.int .i64 0,.int .i64 0,.int .i64 0] 33)) w.heap.size 33 #[.int .i64 0,.int .i64 0,.int .i64 0,.int .i64 0]:=Blk.new _ _ _;have E0:Ext w (w.alloc (.cells #[.int .i64 0,.int .i64 0,.int .i64 0,.int .i64 0] 33)):=(Ext.refl _).alloc _;generalize w.alloc (.cells #[.int .i64 0,.int .i64 0,.int .i64 0,.int .i64 0] 33)=wa at *;obtain⟨ga,hga⟩:∃ga,ga=w.heap.size:=⟨_,rfl⟩
 rw[←hga] at B0 ⊢;have HGA:=AB hga;clear hga;go_loopw [4,5,6,7,8] (fun v4 v5 v6 v7 i wr=>∃k:Nat,k≤n∧i=.int .i64 k∧Ext w wr∧Blk wr ga 33 #[.int .i64 0,.int .i64 0,.int .i64 0,.int .i64 0] ∧
  ∃(m:Nat) (A4 A5 A6 A7:Option Addr) (c4 c5 c6 c7:Nat),m=(someL (l.take k)).length∧m≤k∧v4=.slice A4 m c4∧v5=.slice A5 m c5∧v6=.slice A6 m c6∧v7=.slice A7 m c7 ∧
   R4 wr (ga+1) m m m m (.slice A4 m c4) (.slice A5 m c5) (.slice A6 m c6) (.slice A7 m c7) ((someL (l.take k)).map (·.x)) ((someL (l.take k)).map (·.y)) ((someL (l.take k)).map (·.w)) ((someL (l.take k)).map (·.h))) (fun _ _ _ _ i _=>n-(intOf i).toNat)
 case atStart=>
  refine⟨0,Nat.zero_le _,rfl,E0,B0,0,none,none,none,none,0,0,0,0,rfl,Nat.le_refl _,rfl,rfl,rfl,rfl,World.ownsRow_nil _ _ _ _,World.ownsRow_nil _ _ _ _,World.ownsRow_nil _ _ _ _,World.ownsRow_nil _ _ _ _,?_,?_,?_,?_,?_,?_⟩
  all_goals (intro g hg;cases hg)
 case round=>
  clear B0 E0 wa;obtain⟨k,hk,rfl,E0,B0,m,A4,A5,A6,A7,c4,c5,c6,c7,hm,hmk,rfl,rfl,rfl,rfl,Q0⟩:=hrel;have HM:=AB hm;clear hm;by_cases hlt:k<n
  ·have hltI:(k:Int)<(n:Int):=by omega
   obtain⟨b,off,r,rfl,hb,hrk,-⟩:=hr.rc hlt;have hcW:∀W:World,Ext w W→W.cell? ⟨b,off+k*4,none⟩=some (.int .i64 r.x)∧W.cell? ⟨b,off+k*4+1,none⟩=some (.int .i64 r.y)∧W.cell? ⟨b,off+k*4+2,none⟩=some (.int .i64 r.w)∧W.cell? ⟨b,off+k*4+3,none⟩=some (.int .i64 r.h):=fun W h=>by
    obtain⟨b',off',r',e,-,hrk',q0,q1,q2,q3⟩:=(hr.ext h).rc hlt;injection e with e;injection e with e1 e2 _;subst e1 e2;have:=hrk.symm.trans hrk';injection this with this;subst this;exact⟨q0,q1,q2,q3⟩
   have HC:=AB hcW;have HBB:=AB hb;have hst:=some_take l k r hrk;have cs:=fun w=>AB (refsome_any r w)
   obtain⟨qx,qy,qw,qh⟩:=AA HC wr E0;have zb:b<wr.heap.size:=Nat.lt_of_lt_of_le hb E0.size;generalize someL (l.take k)=ms at *;generalize r.some=s at *;have HST:=AB hst;obtain⟨rx,ry,rw,rh⟩:=r;clear hrk hr hcW hb hst;go_wp2_with fail;refine (AA (cs _)).mono ?_;rintro e w1 ⟨rfl,hx⟩;replace B0:=B0.ext hx;replace Q0:=Q0.ext hx;replace E0:=E0.trans hx;clear qx qy qw qh zb hx cs;obtain⟨qx,qy,qw,qh⟩:=AA HC w1 E0;have zb:b<w1.heap.size:=Nat.lt_of_lt_of_le (AA HBB) E0.size;cases s
   ·have HS:=AB (by rw[AA HST];simp:someL (l.take (k+1))=ms);clear qx qy qw qh zb;go_wp2_with fail;go_roundw
    case rel=>exact⟨k+1,by omega,by go_num,E0,B0,m,A4,A5,A6,A7,c4,c5,c6,c7,by rw[AA HS];exact AA HM,by omega,rfl,rfl,rfl,rfl,by rw[AA HS];exact Q0⟩
    case measure=>simp[intOf];omega
   ·have HS:=AB (by rw[AA HST];simp:someL (l.take (k+1))=ms++[⟨rx,ry,rw,rh⟩]);have hgs:ga+1≤w1.heap.size:=by have:=B0.lt;omega
    have HB:=AB B0;clear B0;go_upto_region 6 with fail
    iterate 19 go_step
    refine Go.Great.wpList_buildSliceTo rfl 23 2 1 _ rfl _ rfl _ rfl Tryz.underlying23 ([Value.int .i64 rx]).toArray (by kernel_rfl) ?_;simp only[AC];have hx:Ext w1 (w1.alloc (.cells ([Value.int .i64 rx]).toArray 2)):=(Ext.refl _).alloc _;have R5:Rd (w1.alloc (.cells ([Value.int .i64 rx]).toArray 2)) 1 (some ⟨w1.heap.size,0,none⟩) 1 ([Value.int .i64 rx]):=(Blk.new w1 2 ([Value.int .i64 rx]).toArray).rdk (n:=1) (k:=1) rfl;have Q11a:=Q0.ext hx;have E11a:=E0.trans hx;have HB11a:=AB ((AA HB).ext hx);have hgs11a:=Nat.le_trans hgs hx.size;clear hx Q0 E0 HB hgs qx qy qw qh zb;generalize w1.alloc (.cells ([Value.int .i64 rx]).toArray 2)=u11 at *;generalize w1.heap.size=gqu11 at *;refine wpList_push (W:=w) rfl (.tmp 26) (.tmp 32) 23 rfl (ga+1) 2 1 Tryz.underlying23 HI (by omega) _ m (ints (ms.map (fun z:Rc=>z.x))) rfl Q11a.o0 _ 1 1 [Value.int .i64 rx] rfl R5 (by simp[Value.oneCell']) (by omega) E11a (by have:=AA HGA;omega) (by omega) ?_;intro A11 c11 v11 own11 E11 g11 at11;simp only[AC];have Q11:=(Q11a.step (z:=ms.map (fun z:Rc=>z.x)++[rx]) g11 own11 at11 (ints_append _ [rx]).symm).rot;obtain⟨qx,qy,qw,qh⟩:=AA HC v11 E11;have zb:b<v11.heap.size:=Nat.lt_of_lt_of_le (AA HBB) E11.size;have hgs11:ga+1≤v11.heap.size:=Nat.le_trans hgs11a g11.size;have HB11:=AB ((AA HB11a).keep g11 (fun e=>by have:=(Q11a.o0.lt _ e).1;omega));clear own11 g11 at11 Q11a E11a HB11a hgs11a R5;go_upto_region 7 with fail
    iterate 19 go_step
    refine Go.Great.wpList_buildSliceTo rfl 23 2 1 _ rfl _ rfl _ rfl Tryz.underlying23 ([Value.int .i64 ry]).toArray (by kernel_rfl) ?_;simp only[AC];have hx:Ext v11 (v11.alloc (.cells ([Value.int .i64 ry]).toArray 2)):=(Ext.refl _).alloc _;have R5:Rd (v11.alloc (.cells ([Value.int .i64 ry]).toArray 2)) 1 (some ⟨v11.heap.size,0,none⟩) 1 ([Value.int .i64 ry]):=(Blk.new v11 2 ([Value.int .i64 ry]).toArray).rdk (n:=1) (k:=1) rfl;have Q12a:=Q11.ext hx;have E12a:=E11.trans hx;have HB12a:=AB ((AA HB11).ext hx);have hgs12a:=Nat.le_trans hgs11 hx.size;clear hx Q11 E11 HB11 hgs11 qx qy qw qh zb;generalize v11.alloc (.cells ([Value.int .i64 ry]).toArray 2)=u12 at *;generalize v11.heap.size=gqu12 at *;refine wpList_push (W:=w) rfl (.tmp 34) (.tmp 40) 23 rfl (ga+1) 2 1 Tryz.underlying23 HI (by omega) _ m (ints (ms.map (fun z:Rc=>z.y))) rfl Q12a.o0 _ 1 1 [Value.int .i64 ry] rfl R5 (by simp[Value.oneCell']) (by omega) E12a (by have:=AA HGA;omega) (by omega) ?_;intro A12 c12 v12 own12 E12 g12 at12;simp only[AC];have Q12:=(Q12a.step (z:=ms.map (fun z:Rc=>z.y)++[ry]) g12 own12 at12 (ints_append _ [ry]).symm).rot;obtain⟨qx,qy,qw,qh⟩:=AA HC v12 E12;have zb:b<v12.heap.size:=Nat.lt_of_lt_of_le (AA HBB) E12.size;have hgs12:ga+1≤v12.heap.size:=Nat.le_trans hgs12a g12.size;have HB12:=AB ((AA HB12a).keep g12 (fun e=>by have:=(Q12a.o0.lt _ e).1;omega));clear own12 g12 at12 Q12a E12a HB12a hgs12a R5;go_upto_region 8 with fail
    iterate 19 go_step
    refine Go.Great.wpList_buildSliceTo rfl 23 2 1 _ rfl _ rfl _ rfl Tryz.underlying23 ([Value.int .i64 rw]).toArray (by kernel_rfl) ?_;simp only[AC];have hx:Ext v12 (v12.alloc (.cells ([Value.int .i64 rw]).toArray 2)):=(Ext.refl _).alloc _;have R5:Rd (v12.alloc (.cells ([Value.int .i64 rw]).toArray 2)) 1 (some ⟨v12.heap.size,0,none⟩) 1 ([Value.int .i64 rw]):=(Blk.new v12 2 ([Value.int .i64 rw]).toArray).rdk (n:=1) (k:=1) rfl;have Q13a:=Q12.ext hx;have E13a:=E12.trans hx;have HB13a:=AB ((AA HB12).ext hx);have hgs13a:=Nat.le_trans hgs12 hx.size;clear hx Q12 E12 HB12 hgs12 qx qy qw qh zb;generalize v12.alloc (.cells ([Value.int .i64 rw]).toArray 2)=u13 at *;generalize v12.heap.size=gqu13 at *;refine wpList_push (W:=w) rfl (.tmp 42) (.tmp 48) 23 rfl (ga+1) 2 1 Tryz.underlying23 HI (by omega) _ m (ints (ms.map (fun z:Rc=>z.w))) rfl Q13a.o0 _ 1 1 [Value.int .i64 rw] rfl R5 (by simp[Value.oneCell']) (by omega) E13a (by have:=AA HGA;omega) (by omega) ?_;intro A13 c13 v13 own13 E13 g13 at13;simp only[AC];have Q13:=(Q13a.step (z:=ms.map (fun z:Rc=>z.w)++[rw]) g13 own13 at13 (ints_append _ [rw]).symm).rot;obtain⟨qx,qy,qw,qh⟩:=AA HC v13 E13;have zb:b<v13.heap.size:=Nat.lt_of_lt_of_le (AA HBB) E13.size;have hgs13:ga+1≤v13.heap.size:=Nat.le_trans hgs13a g13.size;have HB13:=AB ((AA HB13a).keep g13 (fun e=>by have:=(Q13a.o0.lt _ e).1;omega));clear own13 g13 at13 Q13a E13a HB13a hgs13a R5;go_upto_region 9 with fail
    iterate 19 go_step
    refine Go.Great.wpList_buildSliceTo rfl 23 2 1 _ rfl _ rfl _ rfl Tryz.underlying23 ([Value.int .i64 rh]).toArray (by kernel_rfl) ?_;simp only[AC];have hx:Ext v13 (v13.alloc (.cells ([Value.int .i64 rh]).toArray 2)):=(Ext.refl _).alloc _;have R5:Rd (v13.alloc (.cells ([Value.int .i64 rh]).toArray 2)) 1 (some ⟨v13.heap.size,0,none⟩) 1 ([Value.int .i64 rh]):=(Blk.new v13 2 ([Value.int .i64 rh]).toArray).rdk (n:=1) (k:=1) rfl;have Q14a:=Q13.ext hx;have E14a:=E13.trans hx;have HB14a:=AB ((AA HB13).ext hx);have hgs14a:=Nat.le_trans hgs13 hx.size;clear hx Q13 E13 HB13 hgs13 qx qy qw qh zb;generalize v13.alloc (.cells ([Value.int .i64 rh]).toArray 2)=u14 at *;generalize v13.heap.size=gqu14 at *;refine wpList_push (W:=w) rfl (.tmp 50) (.tmp 56) 23 rfl (ga+1) 2 1 Tryz.underlying23 HI (by omega) _ m (ints (ms.map (fun z:Rc=>z.h))) rfl Q14a.o0 _ 1 1 [Value.int .i64 rh] rfl R5 (by simp[Value.oneCell']) (by omega) E14a (by have:=AA HGA;omega) (by omega) ?_;intro A14 c14 v14 own14 E14 g14 at14;simp only[AC];have Q14:=(Q14a.step (z:=ms.map (fun z:Rc=>z.h)++[rh]) g14 own14 at14 (ints_append _ [rh]).symm).rot;obtain⟨qx,qy,qw,qh⟩:=AA HC v14 E14;have zb:b<v14.heap.size:=Nat.lt_of_lt_of_le (AA HBB) E14.size;have hgs14:ga+1≤v14.heap.size:=Nat.le_trans hgs14a g14.size;have HB14:=AB ((AA HB14a).keep g14 (fun e=>by have:=(Q14a.o0.lt _ e).1;omega));clear own14 g14 at14 Q14a E14a HB14a hgs14a R5;clear qx qy qw qh zb;go_wp2_with fail;go_roundw
    case rel=>
     have E4:=E14;refine⟨k+1,by omega,by go_num,E14,?_,m+1,A11,A12,A13,A14,c11,c12,c13,c14,by rw[AA HS,AA HM];simp,by omega,rfl,rfl,rfl,rfl,?_⟩
     ·exact AA HB14
     ·rw[AA HS];simp only[List.map_append,List.map_cons,List.map_nil];exact Q14
    case measure=>simp[intOf];omega
  ·obtain rfl:k=n:=by omega
   have hS:l.take k=l:=List.take_of_length_le (by have:=AA HL;omega);rw[hS] at Q0 HM;obtain⟨ms,hms⟩:∃ms,someL l=ms:=⟨_,rfl⟩
   rw[hms] at Q0 HM HMO;obtain⟨iX,iY,iW,iH⟩:=AA HMO;have HE:=AB hms;clear hms hS hr;have d0:=B0.cell;have f0:=B0.frozen;have z0:=B0.lt;cases ms with
   |nil=>
    obtain rfl:m=0:=AA HM;clear Q0;go_wp2_with fail;refine bodyPost_ret (results_cell_tmp rfl _ _ ga 33 _ _ rfl ((((B0.set_ 0 _).set_ 1 _).set_ 2 _).set_ 3 _) Tryz.underlying33 rfl (by kernel_rfl)) rfl ⟨?_,?_⟩
    ·unfold refCovR refCovB;rw[AA HE];rfl
    ·have hga:=AA HGA;exact (((E0.set (by simp<;>omega) _).set (by simp<;>omega) _).set (by simp<;>omega) _).set (by simp<;>omega) _
   |cons r t=>
    have hm0:m≠0:=by have:=AA HM;simp at this;omega
    have hmI:((m:Int)==0)=false:=by simp;omega
    have hm1:m≤1000:=by omega
    have cx:=fun W (h:Ext wr W)=>AB (refcover_any A4 A6 m c4 c6 r.x _ _ W ((Rd.of_own Q0.o0).ext h) ((Rd.of_own Q0.o2).ext h) iX iW rfl hm1)
    have cy:=fun W (h:Ext wr W)=>AB (refcover_any A5 A7 m c5 c7 r.y _ _ W ((Rd.of_own Q0.o1).ext h) ((Rd.of_own Q0.o3).ext h) iY iH rfl hm1)
    obtain⟨X0,hX0⟩:∃X,cutV (minL r.x ((r :: t).map (·.x)))=X:=⟨_,rfl⟩
    obtain⟨X1,hX1⟩:∃X,cutV (minL r.y ((r :: t).map (·.y)))=X:=⟨_,rfl⟩
    obtain⟨X2,hX2⟩:∃X,cutV (covM (minL r.x ((r :: t).map (·.x))) (((r :: t).map (·.x)).zip ((r :: t).map (·.w))))=X:=⟨_,rfl⟩
    obtain⟨X3,hX3⟩:∃X,cutV (covM (minL r.y ((r :: t).map (·.y))) (((r :: t).map (·.y)).zip ((r :: t).map (·.h))))=X:=⟨_,rfl⟩
    obtain⟨p,hp⟩:∃X,(cutB (minL r.x ((r :: t).map (·.x)))||cutB (covM (minL r.x ((r :: t).map (·.x))) (((r :: t).map (·.x)).zip ((r :: t).map (·.w)))))=X:=⟨_,rfl⟩
    obtain⟨q,hq⟩:∃X,(cutB (minL r.y ((r :: t).map (·.y)))||cutB (covM (minL r.y ((r :: t).map (·.y))) (((r :: t).map (·.y)).zip ((r :: t).map (·.h)))))=X:=⟨_,rfl⟩
    simp only[hX0,hX2,hp] at cx;simp only[hX1,hX3,hq] at cy;have HQ:=AB (And.intro hX0 (And.intro hX1 (And.intro hX2 (And.intro hX3 (And.intro hp hq)))));clear hX0 hX1 hX2 hX3 hp hq;have HB:=AB B0;clear Q0 iX iY iW iH d0 f0 z0 hm0 B0;go_wp2_with fail;refine (AA (cx _ (Ext.refl _))).mono ?_;rintro e w2 ⟨rfl,hx⟩;have HB2:=AB ((AA HB).ext hx);have E1:=E0.trans hx;go_wp2_with fail;refine (AA (cy _ hx)).mono ?_;rintro e w3 ⟨rfl,hx2⟩;have B3:=(AA HB2).ext hx2;have E3:=E1.trans hx2;have d0:=B3.cell;have f0:=B3.frozen;have z0:=B3.lt;clear cx cy hx hx2 HB HB2 E0 E1;cases p
    all_goals
     go_wp2_with fail;refine bodyPost_ret (results_cell_tmp rfl _ _ ga 33 _ _ rfl ((((B3.set_ 0 _).set_ 1 _).set_ 2 _).set_ 3 _) Tryz.underlying33 rfl (by kernel_rfl)) rfl ⟨?_,?_⟩
     ·obtain⟨e0,e1,e2,e3,e4,e5⟩:=AA HQ;unfold refCovR refCovB;rw[AA HE];simp only[e0,e1,e2,e3,e4,e5];rfl
     ·have hga:=AA HGA;exact (((E3.set (by simp<;>omega) _).set (by simp<;>omega) _).set (by simp<;>omega) _).set (by simp<;>omega) _
section
variable (t:Tr) (ns:List Nd)
theorem refbounds_any (a b:Int) (v1 v2 v3:Value) (A:Option Addr) (n c:Nat) (fs:List FV) (w:World) (hck:∀w',Ext w w'→Calls Tryz.prog 35 #[.agg t.cs] w' (fun e w2=>e=.returned (.tuple #[.int .i64 a,.int .i64 b])∧Ext w' w2))
  (hf:FrsIn w A n fs) (hn:n≤1000) (hm:t.nl≤1000) (h:Rd w 44 t.na t.nl (nds ns)) (hT:b=0→TOk ns):Calls Tryz.prog 15 #[.agg t.cs,.agg (tbC v1 v2 v3 (.slice A n c)).toArray] w (BndIs w (bndR (togB b n t.nl fs) ns fs) (bndB (togB b n t.nl fs) ns fs)):=by
 have HCK:=AB hck;have HF:=AB hf;have HH:=AB h;have HT:=AB hT;have hl:=h.nlen;obtain⟨v,hv⟩:∃v,togB b n t.nl fs=v:=⟨_,rfl⟩
 have HV:=AB hv;have HM:=AB hm;have HN:=AB hn;have HL:=AB hl;rw[hv];clear hck hf h hT hl hv hm hn;go_enter Tryz.func15,Tryz.ntmps15;go_upto_region 1 with fail;generalize hw1:World.alloc (World.alloc (World.alloc w _) _) _=w1;obtain⟨gT,hgT⟩:∃g,w.heap.size=g:=⟨_,rfl⟩
 have BT:Blk w1 gT 25 t.cs:=by rw[←hw1,←hgT];exact ((Blk.new _ _ _).alloc _).alloc _
 have BX:Blk w1 (gT+1) 30 (tbC v1 v2 v3 (.slice A n c)).toArray:=by rw[←hw1,←hgT];exact (Blk.new1 _ _ _ _).alloc _
 have BR:Blk w1 (gT+1+1) 33 (rcC zRc).toArray:=by rw[←hw1,←hgT];exact Blk.new2 _ _ _ _ _
 have E1:=AB (show Ext w w1 by rw[←hw1];exact (((Ext.refl _).alloc _).alloc _).alloc _);have HGT:=AB hgT;rw[hgT];clear hgT hw1;have cG:=AB (rplaces_any t ns a b v1 v2 v3 A n c fs w1 (fun w' hx=>(AA HCK) w' ((AA E1).trans hx)) ((AA HF).ext (AA E1)) (AA HN) (AA HM) ((AA HH).ext (AA E1)) (AA HT));rw[AA HV] at cG;go_step;refine wpList_load_blk rfl 25 (.tmp 2) rfl gT rfl 25 t.cs _ BT Tryz.underlying25 rfl (info_tree _) ?_;simp only[AC];refine wpList_load_blk rfl 30 (.tmp 3) rfl (gT+1) rfl 30 (tbC v1 v2 v3 (.slice A n c)).toArray _ BX Tryz.underlying30 rfl (tb_size _ _ _ _) ?_;simp only[AC];go_wp2_with fail
 with_reducible refine (AA cG).mono ?_
 rintro e w2 ⟨A9,c9,rfl,RP,hx⟩;replace BR:=BR.ext hx;replace E1:=AB ((AA E1).trans hx);clear hx cG HCK BX BT;cases v
 ·
  go_upto_region 3 with fail;go_step;refine wpList_buildTo rfl 33 _ rfl _ rfl (rcC zRc).toArray (by rw[Array.map_empty];exact built_rc0) ?_;simp only[AC];refine wpList_store_blk rfl 33 (.tmp 4) (.tmp 16) rfl (gT+1+1) rfl (rcC zRc).toArray rfl 33 (rcC zRc).toArray BR (rcC_size _) rfl (by kernel_rfl) ?_;intro wz Bz gz zz;simp only[Act.put];go_wp2_with fail;refine bodyPost_ret (results_cell_tmp rfl _ _ (gT+1+1) 33 _ _ rfl Bz Tryz.underlying33 rfl (rcC_size _)) rfl ?_;exact⟨rfl,(AA E1).grown gz (fun q e=>by have:=Option.some.inj e;have:=AA HGT;omega)⟩
 ·
  obtain⟨hb0,hnm,hall⟩:=tog_yes (AA HV);have hml:ns.length≤1000:=by have:=AA HL;have:=AA HM;omega
  have hpl:plV true ns fs=plL ns fs:=rfl;rw[hpl] at RP;have cC:=AB (refCover_any A9 (plL ns fs).length c9 (plL ns fs) w2 (by rw[rcs_recs];exact RP) (plL_ok hall hml) (by rw[plL_len];omega));have HR:=AB (show bndR true ns fs=coverR (plL ns fs) from rfl);have HB:=AB (show bndB true ns fs=coverB (plL ns fs) from rfl);generalize bndR true ns fs=R at *;generalize bndB true ns fs=B at *;rw[←AA HR,←AA HB] at cC;rw[hpl];generalize plL ns fs=L at *;clear RP hb0 hnm hall hml hpl;go_upto_region 4 with fail;go_wp2_with fail
  with_reducible refine (AA cC).mono ?_
  rintro e w3 ⟨rfl,hx⟩;dsimp only
  iterate 7 go_step
  refine wpList_store_blk rfl 33 (.tmp 4) (.tmp 19) rfl (gT+1+1) rfl (rcC R).toArray rfl 33 (rcC zRc).toArray (BR.ext hx) (rcC_size _) rfl (by kernel_rfl) ?_;intro wz Bz gz zz;simp only[Act.put];go_wp2_with fail;refine bodyPost_ret (results_cell_tmp rfl _ _ (gT+1+1) 33 _ _ rfl Bz Tryz.underlying33 rfl (rcC_size _)) rfl ?_;exact⟨rfl,((AA E1).trans hx).grown gz (fun q e=>by have:=Option.some.inj e;have:=AA HGT;omega)⟩
end
def sameB (xs ys:List Int):Bool:=decide (xs=ys)
theorem numbers_any (A B:Option Addr) (n m c d:Nat) (xs ys:List Int) (w:World) (hx:Rd w 1 A n (ints xs)) (hy:Rd w 1 B m (ints ys)) (hn:n≤1000000) (hm:m≤1000000) :
  Calls Tryz.prog 16 #[.slice A n c,.slice B m d] w (fun e w'=>e=.returned (.bool (sameB xs ys))∧Ext w w'):=by
 have hxl:xs.length=n:=by have:=hx.len;rw[ints_len] at this;omega
 have hyl:ys.length=m:=by have:=hy.len;rw[ints_len] at this;omega
 have HX:=AB hx;have HY:=AB hy;clear hx hy;by_cases hnm:n=m
 ·subst hnm;go_enter Tryz.func16,Tryz.ntmps16;go_upto_region 4 with fail;have HE0:=AB (show sameB xs ys=sameB (xs.drop 0) (ys.drop 0) from rfl);go_wp2_with fail;go_loopw [5] (fun v5 wq=>∃i:Nat,v5=.int .i64 i∧i≤n∧Hid (sameB (xs.drop i) (ys.drop i)=sameB xs ys)∧Hid (Ext w wq)) (fun v5 _=>n-(intOf v5).toNat)
  case atStart=>exact⟨0,rfl,by omega,AB rfl,AB (Ext.refl _)⟩
  case round=>
   obtain⟨i,rfl,hi,HS,E⟩:=hrel;by_cases hin:i<n
   ·have hiI:(0:Int)≤(i:Int)∧(i:Int)<(n:Int):=by omega
    obtain⟨b,off,u,rfl,lb,hu,q1⟩:=((AA HX).ext (AA E)).get hin;obtain⟨b2,off2,u2,rfl,lb2,hu2,q2⟩:=((AA HY).ext (AA E)).get hin;rw[ints_get (show i<xs.length by omega)] at hu;rw[ints_get (show i<ys.length by omega)] at hu2;obtain rfl:_=u:=Option.some.inj hu;obtain rfl:_=u2:=Option.some.inj hu2;have HD:=AB (show sameB (xs.drop i) (ys.drop i)=(decide (xs[i]=ys[i])&&sameB (xs.drop (i+1)) (ys.drop (i+1))) by
     rw[List.drop_eq_getElem_cons (show i<xs.length by omega),List.drop_eq_getElem_cons (show i<ys.length by omega)];unfold sameB;rw[Bool.eq_iff_iff];simp only[Bool.and_eq_true,decide_eq_true_eq,List.cons.injEq])
    rw[AA HD] at HS;generalize xs[i]=x at *;generalize ys[i]=y at *;clear hu hu2 HD;by_cases hxy:x=y
    ·have hb:(x != y)=false:=by simp[hxy]
     have HS2:=AB (show sameB (xs.drop (i+1)) (ys.drop (i+1))=sameB xs ys by rw[←AA HS,decide_eq_true hxy,Bool.true_and]);clear hxy;go_upto_region 6 with fail;refine wp_region_ord [(1,0),(1,1),(1,2),(0,3),(1,4),(1,5),(1,6),(0,7),(1,8)] 9 (fun w'=>Ext wr w') (by kernel_rfl) (by kernel_rfl) rfl (by kernel_rfl) ((Ext.refl _).drew) ?_;simp only[AD]
     iterate 9 ((first|refine ordQA ?_|refine ordQB ?_);simp only[AC])
     refine ord_nil ?_;clear q1 q2 lb lb2;have E2:=AB ((AA E).drew);go_wp2_with fail;go_roundw
     case rel=>exact⟨i+1,by go_num,by omega,HS2,E2⟩
     case measure=>simp[intOf]<;>omega
    ·have hb:(x != y)=true:=by simpa using hxy
     have HS2:=AB (show sameB xs ys=false by rw[←AA HS,decide_eq_false hxy,Bool.false_and]);clear hxy;go_upto_region 6 with fail;refine wp_region_ord [(1,0),(1,1),(1,2),(0,3),(1,4),(1,5),(1,6),(0,7),(1,8)] 9 (fun w'=>Ext wr w') (by kernel_rfl) (by kernel_rfl) rfl (by kernel_rfl) ((Ext.refl _).drew) ?_;simp only[AD]
     iterate 9 ((first|refine ordQA ?_|refine ordQB ?_);simp only[AC])
     refine ord_nil ?_;go_wp2_with fail;go_ret;exact⟨by rw[AA HS2];rfl,(AA E).drew⟩
   ·have hiI:¬(i:Int)<(n:Int):=by omega
    have HS2:=AB (show sameB xs ys=true by rw[←AA HS,List.drop_eq_nil_of_le (by omega),List.drop_eq_nil_of_le (by omega)];rfl);go_wp2_with fail;go_ret;exact⟨by rw[AA HS2];rfl,AA E⟩
 ·have hb:((n:Int) != (m:Int))=true:=by simpa using (show ¬(n:Int)=(m:Int) by omega)
  have HS:=AB (show sameB xs ys=false by unfold sameB;rw[decide_eq_false];intro e;rw[e] at hxl;omega);clear hnm;go_enter Tryz.func16,Tryz.ntmps16;go_wp2_with fail;go_ret;exact⟨by rw[AA HS];rfl,Ext.refl _⟩
end Go.Proofs.YtamldoocjjdidaaGreat
