import Derived.Test.YtamldoocjjdidaaGreatMHvCp
import Derived.Test.YtamldoocjjdidaaGreatMHvN
namespace Go.Proofs.YtamldoocjjdidaaGreat
open Go.RowKit
set_option maxRecDepth 100000
set_option maxHeartbeats 64000000
theorem rcC_info:(Tryz.prog.info? 33).map (fun i=>(i.zero,i.size,decide (i.bytes≤100000)))=some (some (.agg (rcC zRc).toArray),4,true):=by kernel_rfl
theorem rect_row:RowInfo 33 4:=rowInfo (z:=.agg (rcC zRc).toArray) rcC_info rfl
theorem built_rc2 (c d:Int):Tryz.prog.built 33 [(2,.int .i64 c),(3,.int .i64 d)]=some (rcC ⟨0,0,c,d⟩).toArray:=by kernel_rfl
def restN (ns:List Nd) (g:Nat→Int) (k:Int):Int:=if k<0 then 0 else posN ns g k.toNat
theorem rest_nat (ns:List Nd) (g:Nat→Int) (k:Nat):restN ns g (k:Int)=g k+restN ns g (parN ns k):=by
 unfold restN;rw[if_neg (by omega),Int.toNat_natCast];exact posN_up ns g k
def RectIs (w:World) (r:Rc) (e:Ending) (w':World):Prop:=e=.returned (.agg (rcC r).toArray)∧Ext w w'
section
variable (t:Tr) (ns:List Nd) (fs:List FV) (v1 v2 v3:Value) (A:Option Addr) (n c:Nat)
theorem rplace_any (i:Nat) (w:World) (hT:TOk ns) (h:Rd w 44 t.na t.nl (nds ns)) (hm:t.nl≤1000) (hf:Rd w 5 A n (recs fgC (fs.map FV.f))) (hn:n=t.nl) (hb:∀i,FgM (fgN fs i)) (hi:i<ns.length) :
  Calls Tryz.prog 27 #[.agg t.cs,.agg (tbC v1 v2 v3 (.slice A n c)).toArray,.int .i64 (i:Int)] w (RectIs w (boxN ns fs i)):=by
 have hl:=h.nlen;have hfl:fs.length=n:=by have:=hf.recN fgC_len (by omega);simpa using this
 obtain⟨na,nl,nc,aa,al,ac,view⟩:=t;simp only at hm hl h hn;obtain⟨bn,on,hna,lbn,_⟩:=h.at_ (by omega);subst hna;subst hn;obtain⟨x,hx⟩:∃x,fs[i]?=some x:=⟨_,AE (by omega)⟩
 obtain⟨bf,of_,hA,lf,hmf⟩:=hf.rec_ fgC_len (show (fs.map FV.f)[i]?=some (fgN fs i) by rw[List.getElem?_map,hx,fgN_of hx];rfl) (by omega);subst hA;have HBD:=AB (fun i=>And.intro (posX_bd ns hb i) (posY_bd ns hb i));obtain⟨F,hF⟩:∃F,fgN fs i=F:=⟨_,rfl⟩
 have hFb:=hb i;have HR:=AB (show boxN ns fs i=⟨posN ns (fX fs) i,posN ns (fY fs) i,F.w,F.h⟩ by rw[←hF];rfl);rw[hF] at hmf hFb;obtain⟨fx,fy,fw,fh,lA,ln,lc⟩:=F;have HMF:=AB hmf;have HF:=AB hf;have HH:=AB h;have HT:=AB hT;have HB:=AB hb;have HL:=AB hl;have hiI:(0:Int)≤(i:Int)∧(i:Int)<(n:Int):=by omega
 have HX:=AB hfl;clear hx hF hmf hf h hT hb hl hFb hfl;go_enter Tryz.func27,Tryz.ntmps27;go_upto_region 1 with fail;generalize hw1:World.alloc (World.alloc (World.alloc w _) _) _=w1;obtain⟨gT,hgT⟩:∃g,w.heap.size=g:=⟨_,rfl⟩
 have BT:Blk w1 gT 25 (Tr.cs ⟨some ⟨bn,on,none⟩,n,nc,aa,al,ac,view⟩):=by rw[←hw1,←hgT];exact ((Blk.new _ _ _).alloc _).alloc _
 have BX:Blk w1 (gT+1) 30 (tbC v1 v2 v3 (.slice (some ⟨bf,of_,none⟩) n c)).toArray:=by rw[←hw1,←hgT];exact (Blk.new1 _ _ _ _).alloc _
 have BR:Blk w1 (gT+1+1) 33 (rcC zRc).toArray:=by rw[←hw1,←hgT];exact Blk.new2 _ _ _ _ _
 have E1:=AB (show Ext w w1 by rw[←hw1];exact (((Ext.refl _).alloc _).alloc _).alloc _);have HGT:=AB hgT;rw[hgT];clear hgT hw1;have x3:=(BX.cell 3).trans (rfl:_=some (Value.slice (some ⟨bf,of_,none⟩) n c));have lX:=BX.lt;go_upto_region 1 with fail
 iterate 13 go_step
 refine wpList_load_midg 58 (.tmp 13) rfl bf (of_+i*5) rfl rfl (fgC ⟨fx,fy,fw,fh,lA,ln,lc⟩) _ (fun y v hv=>by rw[(AA E1).cells.1 _ _ lf];exact (AA HMF) y v hv) Tryz.underlying58 rfl (fgC_size _) ?_;simp only[AC];refine wpList_var rfl rfl 58 rfl 7 rfl (.tmp 14) rfl rfl (fgC zFg).toArray (fgC ⟨fx,fy,fw,fh,lA,ln,lc⟩).toArray fgC_zero rfl rfl (fgC_size _) rfl (by kernel_rfl) ?_;intro w2 BV hx z2;simp only[AC];have l1:gT+1+1<w1.heap.size:=BR.lt;replace BT:=BT.ext hx;replace BX:=BX.ext hx;replace BR:=BR.ext hx;replace E1:=AB ((AA E1).trans hx);generalize w1.heap.size=gV at *;clear hx x3 lX;have k2:=(BV.cell 2).trans (rfl:_=some (Value.int .i64 fw));have k3:=(BV.cell 3).trans (rfl:_=some (Value.int .i64 fh));have lV:=BV.lt;clear BV;go_upto_region 2 with fail
 iterate 13 go_step
 refine wpList_buildTo rfl 33 _ rfl _ rfl (rcC ⟨0,0,fw,fh⟩).toArray (by simp only[List.map_toArray,List.map_cons,List.map_nil];exact built_rc2 _ _) ?_;simp only[AC];refine wpList_var rfl rfl 33 rfl 8 rfl (.tmp 19) rfl rfl (rcC zRc).toArray (rcC ⟨0,0,fw,fh⟩).toArray rcC_zero rfl rfl (rcC_size _) rfl (by kernel_rfl) ?_;intro w3 BQ hx z3;simp only[AC];have S:RpS w w3 (Tr.cs ⟨some ⟨bn,on,none⟩,n,nc,aa,al,ac,view⟩) (tbC v1 v2 v3 (.slice (some ⟨bf,of_,none⟩) n c)).toArray gT w2.heap.size ⟨0,0,fw,fh⟩:=
  ⟨(AA E1).trans hx,BT.ext hx,BX.ext hx,BR.ext hx,BQ,(AA HGT),by omega⟩
 generalize w2.heap.size=gQ at *;clear hx z3 z2 l1 BT BX BR BQ k2 k3 lV E1;go_wp2_with fail;go_loopw [9] (fun v9 wq=>∃k x y:Int,v9=.int .i64 k∧-1≤k∧k≤(i:Int)∧Hid (x+restN ns (fX fs) k=posN ns (fX fs) i∧y+restN ns (fY fs) k=posN ns (fY fs) i)∧RpS w wq (Tr.cs ⟨some ⟨bn,on,none⟩,n,nc,aa,al,ac,view⟩) (tbC v1 v2 v3 (.slice (some ⟨bf,of_,none⟩) n c)).toArray gT gQ ⟨x,y,fw,fh⟩) (fun v9 _=>(intOf v9+1).toNat)
 case atStart=>exact⟨i,0,0,rfl,by omega,by omega,AB ⟨by unfold restN;rw[if_neg (by omega),Int.toNat_natCast];omega,by unfold restN;rw[if_neg (by omega),Int.toNat_natCast];omega⟩,S⟩
 case round=>
  clear S;obtain⟨k,x,y,rfl,hk1,hki,HS,S⟩:=hrel;by_cases hk:0≤k
  ·
   obtain⟨k,rfl⟩:∃m:Nat,k=(m:Int):=⟨k.toNat,by omega⟩
   have hkn:k<n:=by omega
   have hkI:(0:Int)≤(k:Int)∧(k:Int)<(n:Int):=by omega
   have hkl:k<ns.length:=by rw[AA HL];exact hkn
   have hxk:=rest_nat ns (fX fs) k;have hyk:=rest_nat ns (fY fs) k;obtain⟨hp1,hpl⟩:=parN_lt ns k;have bx:=((AA HBD) i).1;have by_:=((AA HBD) i).2;have hrx:-1099511627776*((i:Int)+1)≤restN ns (fX fs) (parN ns k)∧restN ns (fX fs) (parN ns k)≤1099511627776*((i:Int)+1):=by
    unfold restN
    split
    ·omega
    ·have:=((AA HBD) (parN ns k).toNat).1;omega
   have hry:-1099511627776*((i:Int)+1)≤restN ns (fY fs) (parN ns k)∧restN ns (fY fs) (parN ns k)≤1099511627776*((i:Int)+1):=by
    unfold restN
    split
    ·omega
    ·have:=((AA HBD) (parN ns k).toNat).2;omega
   have hFk:=(AA HB) k;obtain⟨z,hz⟩:∃z,fs[k]?=some z:=⟨_,AE (by rw[AA HX];exact hkn)⟩
   obtain⟨bf2,of2,hA2,_,hmk⟩:=(AA HF).rec_ fgC_len (show (fs.map FV.f)[k]?=some (fgN fs k) by rw[List.getElem?_map,hz,fgN_of hz];rfl) (by omega);injection hA2 with hA2;injection hA2 with hA2 hA3;subst hA2 hA3;have HPX:=AB (show (x+fX fs k)+restN ns (fX fs) (parN ns k)=posN ns (fX fs) i∧(y+fY fs k)+restN ns (fY fs) (parN ns k)=posN ns (fY fs) i by have:=AA HS;omega);have hXe:fX fs k=(fgN fs k).x:=rfl;have hYe:fY fs k=(fgN fs k).y:=rfl;obtain⟨X,hX⟩:∃X,(fgN fs k).x=X:=⟨_,rfl⟩
   obtain⟨Y,hY⟩:∃Y,(fgN fs k).y=Y:=⟨_,rfl⟩
   have f0:=hmk 0 _ (rfl:_=some (Value.int .i64 (fgN fs k).x));have f1:=hmk 1 _ (rfl:_=some (Value.int .i64 (fgN fs k).y));rw[Nat.add_zero,hX] at f0;rw[hY] at f1;rw[hXe,hX,hYe,hY] at HPX;have hm2:=(AA HPX)
   have hbx:-9000000000000000000≤x+X∧x+X≤9000000000000000000:=by omega
   have hby:-9000000000000000000≤y+Y∧y+Y≤9000000000000000000:=by omega
   have cp:=((AA HH).par rfl hkl)
   rw[←(AA HT).parN hkl] at cp;have HP2:=AB (show -1≤parN ns k∧parN ns k≤(i:Int)∧parN ns k<(k:Int) from ⟨hp1,by omega,hpl⟩);generalize parN ns k=pk at *;clear hxk hyk hpl hp1 bx by_ hrx hry hFk hz hmk hXe hYe hX hY hm2 HS hkl;have HLF:=AB lf;have HLN:=AB lbn;have HF0:=AB f0;have HF1:=AB f1;have HCP:=AB cp;have hk0:(0:Int)≤(k:Int):=by omega
   clear f0 f1 cp lf lbn;go_upto_region 6 with fail;go_cut [] from 29 to 38 (fun wx=>RpS w wx (Tr.cs ⟨some ⟨bn,on,none⟩,n,nc,aa,al,ac,view⟩) (tbC v1 v2 v3 (.slice (some ⟨bf,of_,none⟩) n c)).toArray gT gQ ⟨x+X,y,fw,fh⟩)
   case first=>
    have lf2:=Nat.lt_of_lt_of_le (AA HLF) S.ext.size;have g0:=(S.ext.cells.1 _ _ (AA HLF)).trans (AA HF0);have q0:=(S.bq.cell 0).trans (rfl:_=some (Value.int .i64 x));have lQ:=S.bq.lt;have fQ:=S.bq.frozen 0;have x3:=(S.bx.cell 3).trans (rfl:_=some (Value.slice (some ⟨bf,of_,none⟩) n c));have lX:=S.bx.lt;refine wp_region_ord [(1,0),(0,1),(1,2),(0,3),(1,4),(1,5),(1,6),(0,7),(1,8),(1,9),(3,10)] 10 (fun w'=>Ext wr w') (by kernel_rfl) (by kernel_rfl) rfl (by kernel_rfl) ((Ext.refl _).drew) ?_;simp only[AD]
    iterate 10 ((first|refine ordQA ?_|refine ordQB ?_);simp only[AC])
    refine ord_last ?_;go_wp2_with fail;refine ord_nil ?_;clear q0 lQ fQ x3 lX;go_wp2_with fail;go_meet
    case rel=>exact (S.put 0 (.int .i64 (x+X)) rfl).step (Ext.refl _).drew
   case rest=>
    clear S;have S:=hcut;clear hcut;have lf2:=Nat.lt_of_lt_of_le (AA HLF) S.ext.size;have g1:=(S.ext.cells.1 _ _ (AA HLF)).trans (AA HF1);have q1:=(S.bq.cell 1).trans (rfl:_=some (Value.int .i64 y));have lQ:=S.bq.lt;have fQ:=S.bq.frozen 1;have x3:=(S.bx.cell 3).trans (rfl:_=some (Value.slice (some ⟨bf,of_,none⟩) n c));have lX:=S.bx.lt;go_upto_region 7 with fail;refine wp_region_ord [(1,0),(0,1),(1,2),(0,3),(1,4),(1,5),(1,6),(0,7),(1,8),(1,9),(3,10)] 10 (fun w'=>Ext wc w') (by kernel_rfl) (by kernel_rfl) rfl (by kernel_rfl) ((Ext.refl _).drew) ?_;simp only[AD]
    iterate 10 ((first|refine ordQA ?_|refine ordQB ?_);simp only[AC])
    refine ord_last ?_;go_wp2_with fail;refine ord_nil ?_;clear q1 lQ fQ x3 lX lf2 g1;have S2:=(S.put 1 (.int .i64 (y+Y)) (r':=⟨x+X,y+Y,fw,fh⟩) rfl).step (Ext.refl _).drew;clear S;generalize World.drew (World.setCell _ _ _)=w5 at *;have c0:=(S2.bt.cell 0).trans (rfl:_=some (Value.slice (some ⟨bn,on,none⟩) n nc));have lT:=S2.bt.lt;have ln2:=Nat.lt_of_lt_of_le (AA HLN) S2.ext.size;have gp:=(S2.ext.cells.1 _ _ (AA HLN)).trans (AA HCP);go_wp2_with fail;clear c0 lT ln2 gp;go_roundw
    case rel=>exact⟨pk,x+X,y+Y,rfl,(AA HP2).1,(AA HP2).2.1,HPX,S2⟩
    case measure=>have:=AA HP2;simp[intOf];omega
  ·
   have hke:k=-1:=by omega
   have HS2:=AB (show x=posN ns (fX fs) i∧y=posN ns (fY fs) i by
    have h1:=AA HS;unfold restN at h1;rw[if_pos (by omega),if_pos (by omega)] at h1;omega)
   clear hke HS;go_upto_region 8 with fail;go_step;refine wpList_load_blk rfl 33 (.tmp 8) rfl gQ rfl 33 (rcC ⟨x,y,fw,fh⟩).toArray _ S.bq Tryz.underlying33 rfl (rcC_size _) ?_;simp only[AC];refine wpList_store_blk rfl 33 (.tmp 6) (.tmp 49) rfl (gT+1+1) rfl (rcC ⟨x,y,fw,fh⟩).toArray rfl 33 (rcC zRc).toArray S.br (rcC_size _) rfl (by kernel_rfl) ?_;intro wz Bz gz zz;simp only[Act.put];go_wp2_with fail;refine bodyPost_ret (results_cellH rfl _ _ (gT+1+1) 33 _ _ rfl Bz Tryz.underlying33 rfl (rcC_size _)) rfl ?_;exact⟨by rw[AA HR,(AA HS2).1,(AA HS2).2],S.ext.grown gz (fun q e=>by have:=Option.some.inj e;have:=S.lo;omega)⟩
end
section
variable (t:Tr) (ns:List Nd)
theorem rplaces_any (a b:Int) (v1 v2 v3:Value) (A:Option Addr) (n c:Nat) (fs:List FV) (w:World) (hck:∀w',Ext w w'→Calls Tryz.prog 35 #[.agg t.cs] w' (fun e w2=>e=.returned (.tuple #[.int .i64 a,.int .i64 b])∧Ext w' w2))
  (hf:FrsIn w A n fs) (hn:n≤1000) (hm:t.nl≤1000) (h:Rd w 44 t.na t.nl (nds ns)) (hT:b=0→TOk ns):Calls Tryz.prog 10 #[.agg t.cs,.agg (tbC v1 v2 v3 (.slice A n c)).toArray] w (PlsIs w (togB b n t.nl fs) ns fs):=by
 have HCK:=AB hck;have HF:=AB hf;have HH:=AB h;have HT:=AB hT;have hl:=h.nlen;obtain⟨v,hv⟩:∃v,togB b n t.nl fs=v:=⟨_,rfl⟩
 have HV:=AB hv;have HM:=AB hm;have HN:=AB hn;have HL:=AB hl;have HI:=AB rect_row;rw[hv];clear hck hf h hT hl hv hm hn;go_enter Tryz.func10,Tryz.ntmps10;go_upto_region 1 with fail;generalize hw1:World.alloc (World.alloc w _) _=w1;obtain⟨gT,hgT⟩:∃g,w.heap.size=g:=⟨_,rfl⟩
 have BT:Blk w1 gT 25 t.cs:=by rw[←hw1,←hgT];exact (Blk.new _ _ _).alloc _
 have BX:Blk w1 (gT+1) 30 (tbC v1 v2 v3 (.slice A n c)).toArray:=by rw[←hw1,←hgT];exact Blk.new1 _ _ _ _
 have E1:=AB (show Ext w w1 by rw[←hw1];exact ((Ext.refl _).alloc _).alloc _);rw[hgT];clear hgT hw1;have cG:=AB (go29_any t a b v1 v2 v3 A n c fs w1 (fun w' hx=>(AA HCK) w' ((AA E1).trans hx)) ((AA HF).ext (AA E1)) (by have:=AA HN;omega) (by have:=AA HM;omega));rw[AA HV] at cG;go_step;refine wpList_load_blk rfl 25 (.tmp 2) rfl gT rfl 25 t.cs _ BT Tryz.underlying25 rfl (info_tree _) ?_;simp only[AC];refine wpList_load_blk rfl 30 (.tmp 3) rfl (gT+1) rfl 30 (tbC v1 v2 v3 (.slice A n c)).toArray _ BX Tryz.underlying30 rfl (tb_size _ _ _ _) ?_;simp only[AC];go_wp2_with fail
 with_reducible refine (AA cG).mono ?_
 rintro e w2 ⟨rfl,hx⟩;replace BT:=BT.ext hx;replace BX:=BX.ext hx;replace E1:=AB ((AA E1).trans hx);clear hx cG HCK;cases v
 ·go_wp2_with fail;go_ret2;exact⟨none,0,rfl,Rd.nil _ _ _,AA E1⟩
 ·obtain⟨hb0,hnm,hall⟩:=tog_yes (AA HV);have hFB:=AB (fun i=>fgN_bd hall i);have HTK:=AB ((AA HT) hb0);have HNM:=AB hnm;clear hb0 hnm hall HT HV;have HBT:=AB BT;have HBX:=AB BX;clear BT BX;go_upto_region 4 with fail;go_wp2_with fail;go_loopw [6,7,8] (fun v6 v7 _ wq=>∃(i c6:Nat) (A6:Option Addr),v7=.int .i64 i∧v6=.slice A6 i c6∧i≤t.nl∧Ext w2 wq∧wq.ownsRow w2.heap.size 33 4 (.slice A6 i c6) i (recs rcC ((plL ns fs).take i))) (fun _ v7 _ _=>t.nl-(intOf v7).toNat)
  case atStart=>exact⟨0,0,none,rfl,rfl,by omega,Ext.refl _,by simpa[recs] using own_nil _ _ _ _⟩
  case round=>
   obtain⟨i,c6,A6,rfl,rfl,hi,E,O⟩:=hrel;have BT:=(AA HBT).ext E;have c0:=(BT.cell 0).trans (rfl:_=some (Value.slice t.na t.nl t.nc));have lT:=BT.lt;clear BT;have HE:=AB E;clear E;by_cases hin:i<t.nl
   ·
    have hinI:(i:Int)<(t.nl:Int):=by omega
    have hiI:(0:Int)≤(i:Int)∧(i:Int)≤1000:=by have:=AA HM;omega
    have hin2:i<ns.length:=by rw[AA HL];exact hin
    obtain⟨bn,on,hna,lbn,_⟩:=(AA HH).at_ (by omega);rw[hna] at c0;have HNA:=AB hna;have HLB:=AB lbn;clear hna lbn;obtain⟨R,hR⟩:∃R,plN ns fs i=R:=⟨_,rfl⟩
    have HR:=AB hR;clear hR;go_upto_region 7 with fail;clear c0 lT;go_step;refine wpList_buildTo rfl 33 _ rfl _ rfl (rcC zRc).toArray (by rw[Array.map_empty];exact built_rc0) ?_;simp only[AC];refine wpList_var rfl rfl 33 rfl 8 rfl (.tmp 20) rfl rfl (rcC zRc).toArray (rcC zRc).toArray rcC_zero rfl rfl (rcC_size _) rfl (by kernel_rfl) ?_;intro w3 BV hx z3;simp only[AC];have HE3:=AB ((AA HE).trans hx);have hgO:=AB (show ∀q,Value.ownBlock (.slice A6 i c6)=some q→q≠wr.heap.size from fun q hq=>by have:=(O.lt q hq).2;omega);replace O:=own_ext O hx;have hgV:=AB (show w2.heap.size≤wr.heap.size from (AA HE).size);generalize wr.heap.size=gV at *;clear hx z3;have HBV:=AB BV;clear BV;have BT:=(AA HBT).ext (AA HE3);have c0:=(BT.cell 0).trans (rfl:_=some (Value.slice t.na t.nl t.nc));rw[AA HNA] at c0;have lT:=BT.lt;have ck:=((AA HH).ext ((AA E1).trans (AA HE3))).same (AA HNA) hin2;have lb3:=Nat.lt_of_lt_of_le (AA HLB) ((AA E1).trans (AA HE3)).size;obtain⟨kk,hkk⟩:∃kk,nK ns i=kk:=⟨_,rfl⟩
    obtain⟨q,hq⟩:∃q,(kk != 3)=q:=⟨_,rfl⟩
    rw[hkk] at ck;have HQ:=AB (show R=if q=true then boxN ns fs i else zRc by
     rw[←AA HR,plN,hkk,←hq];by_cases h3:kk=3
     ·rw[if_pos h3,if_neg (by simp[h3])]
     ·rw[if_neg h3,if_pos (by simpa using h3)])
    clear hkk BT;go_upto_if 28 with (fail);clear hq ck c0 lT lb3;go_cut [] from 29 to 32 (fun wx=>Ext w2 wx∧wx.ownsRow w2.heap.size 33 4 (.slice A6 i c6) i (recs rcC ((plL ns fs).take i))∧Blk wx gV 33 (rcC R).toArray)
    case first=>
     cases q
     ·go_wp2_with fail;go_meet
      case rel=>exact⟨AA HE3,O,by rw[AA HQ];exact AA HBV⟩
     ·have BT:=(AA HBT).ext (AA HE3);have BX:=(AA HBX).ext (AA HE3);have H3:=(AA HH).ext ((AA E1).trans (AA HE3));have BV:=AA HBV;have cP:=AB (rplace_any t ns fs v1 v2 v3 A n c i w3 (AA HTK) H3 (AA HM) ((AA HF).rd.ext ((AA E1).trans (AA HE3))) (AA HNM) (AA hFB) hin2);clear H3;go_upto_region 9 with fail;go_step;refine wpList_load_blk rfl 25 (.tmp 2) rfl gT rfl 25 t.cs _ BT Tryz.underlying25 rfl (info_tree _) ?_;simp only[AC];refine wpList_load_blk rfl 30 (.tmp 3) rfl (gT+1) rfl 30 (tbC v1 v2 v3 (.slice A n c)).toArray _ BX Tryz.underlying30 rfl (tb_size _ _ _ _) ?_;simp only[AC];go_wp2_with fail
      with_reducible refine (AA cP).mono ?_
      rintro e w4 ⟨rfl,hx⟩;dsimp only;go_step;refine wpList_store_blk rfl 33 (.tmp 8) (.tmp 32) rfl gV rfl (rcC (boxN ns fs i)).toArray rfl 33 (rcC zRc).toArray (BV.ext hx) (rcC_size _) rfl (by kernel_rfl) ?_;intro w5 B5 g5 z5;simp only[Act.put];go_wp2_with fail;go_meet
      case rel=>exact⟨((AA HE3).trans hx).grownBlk g5 (AA hgV),own_grown (own_ext O hx) g5 (AA hgO),by rw[AA HQ];exact B5⟩
    case rest=>
     clear O HBV;obtain⟨E4,O,BV⟩:=hcut;go_upto_region 10 with fail
     iterate 4 go_step
     refine wpList_load_blk rfl 33 (.tmp 8) rfl gV rfl 33 (rcC R).toArray _ BV Tryz.underlying33 rfl (rcC_size _) ?_;simp only[AC];refine Go.Great.wpList_buildSliceTo rfl 40 33 1 _ rfl _ rfl _ rfl Tryz.underlying40 (rcC R).toArray (by kernel_rfl) ?_;simp only[AC];have hx:Ext wc (wc.alloc (.cells (rcC R).toArray 33)):=(Ext.refl _).alloc _;have R5:Rd (wc.alloc (.cells (rcC R).toArray 33)) 4 (some ⟨wc.heap.size,0,none⟩) 1 (rcC R):=(Blk.new wc 33 (rcC R).toArray).rdk (n:=1) (k:=4) rfl;replace E4:=E4.trans hx;replace O:=own_ext O hx;clear hx BV;generalize wc.alloc (.cells (rcC R).toArray 33)=w8 at *;generalize wc.heap.size=gqw8 at *;refine wpList_push (W:=w2) rfl (.tmp 33) (.tmp 35) 40 rfl w2.heap.size 33 4 Tryz.underlying40 HI (by omega) _ i (recs rcC ((plL ns fs).take i)) rfl O _ 1 1 (rcC R) rfl R5 (rcC_one _) (by have:=AA HM;omega) E4 (Nat.le_refl _) E4.size ?_;intro A9 c9 w9 O9 E9 g9 at9;simp only[AC];have O10:w9.ownsRow w2.heap.size 33 4 (.slice A9 (i+1) c9) (i+1) (recs rcC ((plL ns fs).take (i+1))):=by
      rw[List.take_add_one,plL_get hin2,AA HR];rw[Option.toList_some,recs_append,recs_one];exact O9
     clear O9 g9 at9 R5 O;go_wp2_with fail;go_roundw
     case rel=>exact⟨i+1,c9,A9,by go_num,rfl,by omega,E9,O10⟩
     case measure=>simp[intOf];omega
   ·
    have hinI:¬(i:Int)<(t.nl:Int):=by omega
    have hie:i=t.nl:=by omega
    have hpl:(plL ns fs).length=t.nl:=by rw[plL_len];exact AA HL
    rw[List.take_of_length_le (by omega)] at O;have HO:=AB (Rd.of_own O);have Hpl:=AB (show i=(plV true ns fs).length from hie.trans hpl.symm);clear O hie hpl;go_wp2_with fail;go_ret2;refine⟨A6,c6,by rw[←AA Hpl];rfl,?_,(AA E1).trans (AA HE)⟩;rw[←AA Hpl];exact AA HO
end
end Go.Proofs.YtamldoocjjdidaaGreat
namespace Go.Proofs.YtamldoocjjdidaaGreat
open Go.ChangeShapes Go.WideShapes Go.ChangeAt Go.RowKit
set_option maxRecDepth 100000
set_option maxHeartbeats 64000000
theorem recs_map {α β:Type} (f:α→List Value) (g:β→α) (l:List β):recs f (l.map g)=recs (fun x=>f (g x)) l:=by simp[recs,Function.comp_def]
theorem flat_piece:flat Tryz.prog 5 75=some [.int .i64,.int .i64,.int .i64,.int .i64,.int .i64]:=by kernel_rfl
theorem flat_line:flat Tryz.prog 5 73=some [.int .i64,.int .i64,.slice 75]:=by kernel_rfl
theorem flat_frag:flat Tryz.prog 5 58=some [.int .i64,.int .i64,.int .i64,.int .i64,.slice 73]:=by kernel_rfl
theorem flat_table:flat Tryz.prog 5 30=some [.slice 108,.slice 120,.slice 2,.slice 58]:=by kernel_rfl
theorem cells_piece:Tryz.prog.cellsOf 75=5:=by kernel_rfl
theorem cells_line:Tryz.prog.cellsOf 73=3:=by kernel_rfl
theorem cells_frag:Tryz.prog.cellsOf 58=5:=by kernel_rfl
section
variable {H:Type} {enc:TypeId×Value→H} {w:World} {spare:Nat→Bool} {held:Bool}
theorem pieces_rd {A:Option Addr} {n c:Nat} (h:SliceOk enc Tryz.prog w 0 spare held 75 A n c):∃ps:List Pc,Rd w 5 A n (recs pcC ps):=by
 obtain⟨xss,_,_,hr,hx⟩:=h.rd cells_piece (by omega);obtain⟨ps,hu,_⟩:=recs_of (f:=pcC) (P:=fun _=>True) xss (fun xs hm=>by
  obtain⟨x,fuel,ht⟩:=hx xs hm;have hl:=flat_ok 5 75 _ fuel xs x flat_piece ht;obtain⟨v0,t0,rfl,k0,h0⟩:=hl.cons;obtain⟨v1,t1,rfl,k1,h1⟩:=h0.cons;obtain⟨v2,t2,rfl,k2,h2⟩:=h1.cons;obtain⟨v3,t3,rfl,k3,h3⟩:=h2.cons;obtain⟨v4,t4,rfl,k4,h4⟩:=h3.cons;obtain rfl:=h4.nil;obtain⟨z0,rfl,_⟩:=k0;obtain⟨z1,rfl,_⟩:=k1;obtain⟨z2,rfl,_⟩:=k2;obtain⟨z3,rfl,_⟩:=k3;obtain⟨z4,rfl,_⟩:=k4;exact⟨⟨z0,z1,z2,z3,z4⟩,rfl,trivial⟩)
 exact⟨ps,hu▸hr⟩
theorem lines_rd {A:Option Addr} {n c:Nat} (h:SliceOk enc Tryz.prog w 0 spare held 73 A n c):∃ls:List LV,Rd w 3 A n (recs llC (ls.map LV.l))∧∀y∈ls,Rd w 5 y.l.pA y.l.pn (recs pcC y.ps)∧y.l.pn≤maxLen:=by
 obtain⟨xss,_,_,hr,hx⟩:=h.rd cells_line (by omega);obtain⟨ls,hu,hp⟩:=recs_of (f:=fun y:LV=>llC y.l) (P:=fun y=>Rd w 5 y.l.pA y.l.pn (recs pcC y.ps)∧y.l.pn≤maxLen) xss (fun xs hm=>by
  obtain⟨x,fuel,ht⟩:=hx xs hm;have hl:=flat_ok 5 73 _ fuel xs x flat_line ht;obtain⟨v0,t0,rfl,k0,h0⟩:=hl.cons;obtain⟨v1,t1,rfl,k1,h1⟩:=h0.cons;obtain⟨v2,t2,rfl,k2,h2⟩:=h1.cons;obtain rfl:=h2.nil;obtain⟨z0,rfl,_⟩:=k0;obtain⟨z1,rfl,_⟩:=k1;obtain⟨pA,pn,pc,rfl,hs⟩:=k2;obtain⟨ps,hps⟩:=pieces_rd hs;exact⟨⟨⟨z0,z1,pA,pn,pc⟩,ps⟩,rfl,hps,Nat.le_trans hs.1 hs.2.1⟩)
 refine⟨ls,?_,hp⟩;rw[recs_map,←hu];exact hr
theorem frags_rd {A:Option Addr} {n c:Nat} (h:SliceOk enc Tryz.prog w 0 spare held 58 A n c):∃fs:List FV,FrsIn w A n fs:=by
 obtain⟨xss,_,_,hr,hx⟩:=h.rd cells_frag (by omega);obtain⟨fs,hu,hp⟩:=recs_of (f:=fun y:FV=>fgC y.f) (P:=fun x=>(Rd w 3 x.f.lA x.f.ln (recs llC (x.ls.map LV.l))∧x.f.ln≤maxLen)∧∀y∈x.ls,Rd w 5 y.l.pA y.l.pn (recs pcC y.ps)∧y.l.pn≤maxLen) xss (fun xs hm=>by
  obtain⟨x,fuel,ht⟩:=hx xs hm;have hl:=flat_ok 5 58 _ fuel xs x flat_frag ht;obtain⟨v0,t0,rfl,k0,h0⟩:=hl.cons;obtain⟨v1,t1,rfl,k1,h1⟩:=h0.cons;obtain⟨v2,t2,rfl,k2,h2⟩:=h1.cons;obtain⟨v3,t3,rfl,k3,h3⟩:=h2.cons;obtain⟨v4,t4,rfl,k4,h4⟩:=h3.cons;obtain rfl:=h4.nil;obtain⟨z0,rfl,_⟩:=k0;obtain⟨z1,rfl,_⟩:=k1;obtain⟨z2,rfl,_⟩:=k2;obtain⟨z3,rfl,_⟩:=k3;obtain⟨lA,ln,lc,rfl,hs⟩:=k4;obtain⟨ls,hls,hps⟩:=lines_rd hs;exact⟨⟨⟨z0,z1,z2,z3,lA,ln,lc⟩,ls⟩,rfl,⟨hls,Nat.le_trans hs.1 hs.2.1⟩,hps⟩)
 refine⟨fs,?_,fun x hx=>(hp x hx).1,fun x hx=>(hp x hx).2⟩;rw[recs_map,←hu];exact hr
theorem open_table {r:Reach} {b0:Nat} {v:Value} {d:DataW H} {p:List MemPlace} (hv:Value.okWide Tryz.prog w r b0 30 v) (h:DataW.Trod enc Tryz.prog w 0 spare held 30 v d p) :
  ∃(A1 A2 A3 A:Option Addr) (n1 n2 n3 c1 c2 c3 n c:Nat) (fs:List FV),v=.agg (tbC (.slice A1 n1 c1) (.slice A2 n2 c2) (.slice A3 n3 c3) (.slice A n c)).toArray∧FrsIn w A n fs∧n≤maxLen:=by
 obtain⟨cs,rfl,_⟩:=okWide_struct Tryz.underlying30 hv;obtain⟨fuel,hf⟩:=h;have hl:=flat_ok 5 30 _ fuel _ _ flat_table hf;obtain⟨v0,t0,e0,k0,h0⟩:=hl.cons;obtain⟨v1,t1,e1,k1,h1⟩:=h0.cons;obtain⟨v2,t2,e2,k2,h2⟩:=h1.cons;obtain⟨v3,t3,e3,k3,h3⟩:=h2.cons;obtain rfl:=h3.nil;obtain⟨A1,n1,c1,rfl,_⟩:=k0;obtain⟨A2,n2,c2,rfl,_⟩:=k1;obtain⟨A3,n3,c3,rfl,_⟩:=k2;obtain⟨A,n,c,rfl,hs⟩:=k3;subst e3;subst e2;subst e1;have hcs:cs=(tbC (.slice A1 n1 c1) (.slice A2 n2 c2) (.slice A3 n3 c3) (.slice A n c)).toArray:=Array.toList_inj.1 e0;obtain⟨fs,hfs⟩:=frags_rd hs;exact⟨A1,A2,A3,A,n1,n2,n3,c1,c2,c3,n,c,fs,by rw[hcs],hfs,Nat.le_trans hs.1 hs.2.1⟩
end
end Go.Proofs.YtamldoocjjdidaaGreat
namespace Go.Proofs.YtamldoocjjdidaaGreat
open Go.RowKit
set_option maxRecDepth 100000
set_option maxHeartbeats 64000000
theorem span_any (f m x:Int) (h:-9000000000000000000≤f+m∧f+m≤9000000000000000000) (w:World):Calls Tryz.prog 29 #[.int .i64 f,.int .i64 m,.int .i64 x] w (fun e w'=>e=.returned (.bool (spanB f m x))∧w=w'):=by
 by_cases h1:f≤x
 ·by_cases h2:x<f+m
  ·go_enter Tryz.func29,Tryz.ntmps29;go_wp2_with fail;go_ret;exact⟨by rw[spanB,decide_eq_true h1,decide_eq_true h2];rfl,rfl⟩
  ·have e:spanB f m x=false:=by unfold spanB;rw[decide_eq_false h2,Bool.and_false]
   go_enter Tryz.func29,Tryz.ntmps29;go_wp2_with fail;go_ret;exact⟨rfl,rfl⟩
 ·have e:spanB f m x=false:=by unfold spanB;rw[decide_eq_false h1,Bool.false_and]
  go_enter Tryz.func29,Tryz.ntmps29;go_wp2_with fail;go_ret;exact⟨rfl,rfl⟩
section
variable (t:Tr) (ns:List Nd)
theorem refat_any (a b:Int) (v1 v2 v3:Value) (A:Option Addr) (n c:Nat) (fs:List FV) (px py:Int) (w:World) (hck:∀w',Ext w w'→Calls Tryz.prog 35 #[.agg t.cs] w' (fun e w2=>e=.returned (.tuple #[.int .i64 a,.int .i64 b])∧Ext w' w2))
  (hf:FrsIn w A n fs) (hn:n≤1000) (hm:t.nl≤1000) (h:Rd w 44 t.na t.nl (nds ns)) (hT:b=0→TOk ns):Calls Tryz.prog 13 #[.agg t.cs,.agg (tbC v1 v2 v3 (.slice A n c)).toArray,.int .i64 px,.int .i64 py] w (HitIs w (atV (togB b n t.nl fs) ns fs px py)):=by
 have HCK:=AB hck;have HF:=AB hf;have HH:=AB h;have HT:=AB hT;have hl:=h.nlen;have hfl:=AB hf.len;obtain⟨v,hv⟩:∃v,togB b n t.nl fs=v:=⟨_,rfl⟩
 have HV:=AB hv;have HM:=AB hm;have HN:=AB hn;have HL:=AB hl;rw[hv];obtain⟨R,hR⟩:∃R,atV v ns fs px py=R:=⟨_,rfl⟩
 have HR:=AB hR;rw[hR];clear hck hf h hT hl hv hm hn hR;go_enter Tryz.func13,Tryz.ntmps13;go_upto_region 1 with fail;generalize hw1:World.alloc (World.alloc w _) _=w1;obtain⟨gT,hgT⟩:∃g,w.heap.size=g:=⟨_,rfl⟩
 have BT:Blk w1 gT 25 t.cs:=by rw[←hw1,←hgT];exact (Blk.new _ _ _).alloc _
 have BX:Blk w1 (gT+1) 30 (tbC v1 v2 v3 (.slice A n c)).toArray:=by rw[←hw1,←hgT];exact Blk.new1 _ _ _ _
 have E1:=AB (show Ext w w1 by rw[←hw1];exact ((Ext.refl _).alloc _).alloc _);rw[hgT];clear hgT hw1;have cG:=AB (rplaces_any t ns a b v1 v2 v3 A n c fs w1 (fun w' hx=>(AA HCK) w' ((AA E1).trans hx)) ((AA HF).ext (AA E1)) (AA HN) (AA HM) ((AA HH).ext (AA E1)) (AA HT));rw[AA HV] at cG;go_step;refine wpList_load_blk rfl 25 (.tmp 4) rfl gT rfl 25 t.cs _ BT Tryz.underlying25 rfl (info_tree _) ?_;simp only[AC];refine wpList_load_blk rfl 30 (.tmp 5) rfl (gT+1) rfl 30 (tbC v1 v2 v3 (.slice A n c)).toArray _ BX Tryz.underlying30 rfl (tb_size _ _ _ _) ?_;simp only[AC];go_wp2_with fail
 with_reducible refine (AA cG).mono ?_
 rintro e w2 ⟨A9,c9,rfl,RP,hx⟩;replace BX:=BX.ext hx;replace BT:=BT.ext hx;replace E1:=AB ((AA E1).trans hx);clear hx cG HCK;have HRP:=AB RP;have HBX:=AB BX;have HBT:=AB BT;clear RP BX BT;obtain⟨m,hm⟩:∃m,(plV v ns fs).length=m:=⟨_,rfl⟩
 rw[hm] at HRP;rw[hm];have HMM:=AB hm;clear hm;obtain⟨er,her⟩:∃er:Int,(if v=true then (0:Int) else 1)=er:=⟨_,rfl⟩
 rw[her];have hev:=AB (show (er != 0)=!v by rw[←her];cases v<;>rfl);clear her;go_upto_region 2 with fail;go_cut [41] from 24 to 41 (fun v41 wx=>v41=.bool (farB v px py)∧wx=w2)
 case first=>
  as_aux_lemma=>
  have hev2:=AA hev;cases v
  ·simp only[Bool.not_false] at hev2;go_wp2_with fail;go_meet
   case rel=>exact⟨rfl,rfl⟩
  ·simp only[Bool.not_true] at hev2;by_cases h2:1152921504606846976<px
   ·go_wp2_with fail;go_meet
    case rel=>exact⟨by simp[farB,h2],rfl⟩
   ·by_cases h1:px < -1152921504606846976
    ·go_wp2_with fail;go_meet
     case rel=>exact⟨by simp[farB,h1],rfl⟩
    ·by_cases h4:1152921504606846976<py
     ·go_wp2_with fail;go_meet
      case rel=>exact⟨by simp[farB,h4],rfl⟩
     ·by_cases h3:py < -1152921504606846976
      ·go_wp2_with fail;go_meet
       case rel=>exact⟨by simp[farB,h3],rfl⟩
      ·go_wp2_with fail;go_meet
       case rel=>exact⟨by simp[farB,h1,h2,h3,h4],rfl⟩
 case rest=>
  obtain⟨hq,hwc⟩:=hcut;subst hq;subst hwc;clear hev;obtain⟨q,hq⟩:∃q,farB v px py=q:=⟨_,rfl⟩
  rw[hq];go_upto_if 41 with (fail);cases q
  ·as_aux_lemma=>
   have hyes:v=true:=by
    cases v
    ·simp[farB] at hq
    ·rfl
   subst hyes;have hfar:(-1152921504606846976≤px∧px≤1152921504606846976)∧(-1152921504606846976≤py∧py≤1152921504606846976):=by
    simp[farB] at hq;omega
   obtain⟨hb0,hnm,hall⟩:=tog_yes (AA HV);have hFB:=AB (fun i=>fgN_bd hall i);have hLB:=AB (fun i=>lsN_bd hall i);have hML:=AB (show ns.length=m by have:=AA HMM;simpa[plV,plL_len] using this);have hmn:=AB (show m=n by have:=AA hML;have:=AA HL;omega);have hml:=AB (show m=t.nl by have:=AA hML;have:=AA HL;omega);have hm1:m≤1000:=by have:=AA hmn;have:=AA HN;omega
   have HR2:=AB (show ∀k:Int,lastP (boxIn ns fs px py) ns.length=k→R=if k<0 then (-1,-1,-1) else (k,lineA (plN ns fs k.toNat) px py (lsN fs k.toNat) 0) from fun k hk=>by rw[←AA HR,atV,if_neg (by simp[hq]),hk]);replace HRP:Hid (Rd wc 4 A9 m (recs rcC (plL ns fs))):=HRP;clear hb0 hnm hall HR HV HT HMM hq;have HFAR:=AB hfar;clear hfar;go_upto_region 4 with fail;go_wp2_with fail;go_loopw [8,9,10,13,14,15,16,17] (fun _ _ _ v13 _ _ _ _ wq=>∃k:Int,v13=.int .i64 k∧-1≤k∧k<(m:Int)∧Hid (lastP (boxIn ns fs px py) (k+1).toNat=lastP (boxIn ns fs px py) ns.length)∧Hid (Ext wc wq)) (fun _ _ _ v13 _ _ _ _ _=>(intOf v13+1).toNat)
   case atStart=>exact⟨(m:Int)-1,by go_num,by omega,by omega,AB (by rw[AA hML];congr 1;omega),AB (Ext.refl _)⟩
   case round=>
    obtain⟨k,rfl,hk1,hkm,HK,E⟩:=hrel;by_cases hk0:0≤k
    ·
     obtain⟨k,rfl⟩:∃i:Nat,k=(i:Int):=⟨k.toNat,by omega⟩
     have hkm2:k<m:=by omega
     have hkt:k<t.nl:=by have:=AA hml;omega
     have hkI:(0:Int)≤(k:Int)∧(k:Int)<(m:Int):=by omega
     have hkT:(k:Int)<(t.nl:Int):=by omega
     obtain⟨bp,op_,hA9,lp,hmp⟩:=((AA HRP).ext (AA E)).rec_ rcC_len (plL_get (fs:=fs) (show k<ns.length by rw[AA hML];exact hkm2)) (by omega);subst hA9;have hbd:=plN_bd ns (AA hFB) (i:=k) (by omega);obtain⟨r,hr⟩:∃r,plN ns fs k=r:=⟨_,rfl⟩
     have HRE:=AB hr;have hbox:boxIn ns fs px py k=(decide (nK ns k≠3)&&(spanB r.x r.w px&&spanB r.y r.h py)):=by rw[←hr];rfl
     rw[hr] at hmp hbd;clear hr;obtain⟨rx,ry,rw_,rh⟩:=r;simp only at hbox;obtain⟨bx1,bx2⟩:=hbd.x;obtain⟨by1,by2⟩:=hbd.y;obtain⟨bw1,bw2⟩:=hbd.w;obtain⟨bh1,bh2⟩:=hbd.h;simp only at bx1 bx2 by1 by2 bw1 bw2 bh1 bh2;have hbd':=AB (And.intro bx1 bx2);have hbd2':=AB (And.intro by1 by2);have cS1:=fun w=>AB (span_any rx rw_ px (by omega) w)
     have cS2:=fun w=>AB (span_any ry rh py (by omega) w)
     have p0:=hmp 0 _ (rfl:_=some (Value.int .i64 rx));rw[Nat.add_zero] at p0;have p1:=hmp 1 _ (rfl:_=some (Value.int .i64 ry));have p2:=hmp 2 _ (rfl:_=some (Value.int .i64 rw_));have p3:=hmp 3 _ (rfl:_=some (Value.int .i64 rh));have HP0:=AB p0;have HP1:=AB p1;have BT:=(AA HBT).ext (AA E);have HLp:=AB lp;obtain⟨bn,on,hna,lbn,_⟩:=(AA HH).at_ (by omega);have c0:=(BT.cell 0).trans (rfl:_=some (Value.slice t.na t.nl t.nc));rw[hna] at c0;have lT:=BT.lt;have ck:=((AA HH).ext ((AA E1).trans (AA E))).same hna (show k<ns.length by rw[AA hML];exact hkm2);have lb3:=Nat.lt_of_lt_of_le lbn ((AA E1).trans (AA E)).size;obtain⟨kk,hkk⟩:∃kk,nK ns k=kk:=⟨_,rfl⟩
     rw[hkk] at ck hbox;obtain⟨q1,hq1⟩:∃q,(kk==3)=q:=⟨_,rfl⟩
     obtain⟨q2,hq2⟩:∃q,spanB rx rw_ px=q:=⟨_,rfl⟩
     obtain⟨q3,hq3⟩:∃q,spanB ry rh py=q:=⟨_,rfl⟩
     rw[hq2] at cS1;rw[hq3] at cS2;rw[hq2,hq3,show decide (kk≠3)=!q1 by rw[←hq1];by_cases h3:kk=3<;>simp[h3]] at hbox;have HBOX:=AB hbox;clear hmp BT hkk hq2 hq3 hbox hna bx1 bx2 by1 by2 bw1 bw2 bh1 bh2 hbd lbn;go_upto_region 7 with fail;go_cut [86] from 49 to 86 (fun v86 wx=>v86=.bool (!(boxIn ns fs px py k))∧Hid (Ext wr wx))
     case first=>
      as_aux_lemma=>
      cases q1
      ·cases q2
       ·refine wp_region_ord [(1,0),(0,1),(1,2),(1,3),(1,4),(1,5),(0,6),(1,7),(1,8),(1,9),(1,10),(1,11),(1,12),(0,13),(1,14),(1,15),(1,16),(1,17),(0,18),(1,19),(2,20),(1,21),(1,22),(1,23),(1,24),(1,25),(1,26),(1,27),(0,28),(1,29),(1,30),(1,31),(1,32),(0,33),(1,34),(3,35),(1,36),(1,37)] 35 (fun w'=>Ext wr w') (by kernel_rfl) (by kernel_rfl) rfl (by kernel_rfl) ((Ext.refl _).drew) ?_;simp only[AD]
        iterate 20 ((first|refine ordQE ?_|refine ordQF ?_|refine ordQC ?_|refine ordQD ?_);simp only[AC])
        refine ord_keep ?_;go_wp2_with fail
        with_reducible refine (AA (cS1 _)).mono ?_
        rintro e w4 ⟨rfl,hw4⟩;subst hw4;go_wp2_with fail;refine⟨(Ext.refl wr).drew,?_⟩
        iterate 14 ((first|refine ordQE ?_|refine ordQF ?_|refine ordQC ?_|refine ordQD ?_);simp only[AC])
        refine ord_last ?_;go_wp2_with fail
        iterate 2 ((first|refine ordQE ?_|refine ordQF ?_|refine ordQC ?_|refine ordQD ?_);simp only[AC])
        refine ord_nil ?_;go_wp2_with fail;go_meet
        case rel=>exact⟨by rw[AA HBOX];rfl,AB (Ext.refl wr).drew⟩
       ·refine wp_region_ord [(1,0),(0,1),(1,2),(1,3),(1,4),(1,5),(0,6),(1,7),(1,8),(1,9),(1,10),(1,11),(1,12),(0,13),(1,14),(1,15),(1,16),(1,17),(0,18),(1,19),(2,20),(1,21),(1,22),(1,23),(1,24),(1,25),(1,26),(1,27),(0,28),(1,29),(1,30),(1,31),(1,32),(0,33),(1,34),(3,35),(1,36),(1,37)] 35 (fun w'=>Ext wr w') (by kernel_rfl) (by kernel_rfl) rfl (by kernel_rfl) ((Ext.refl _).drew) ?_;simp only[AD]
        iterate 20 ((first|refine ordQE ?_|refine ordQF ?_|refine ordQC ?_|refine ordQD ?_);simp only[AC])
        refine ord_keep ?_;go_wp2_with fail
        with_reducible refine (AA (cS1 _)).mono ?_
        rintro e w4 ⟨rfl,hw4⟩;subst hw4;go_wp2_with fail;refine⟨(Ext.refl wr).drew,?_⟩
        iterate 14 ((first|refine ordQE ?_|refine ordQF ?_|refine ordQC ?_|refine ordQD ?_);simp only[AC])
        refine ord_last ?_;go_wp2_with fail
        with_reducible refine (AA (cS2 _)).mono ?_
        rintro e w4 ⟨rfl,hw4⟩;subst hw4;go_wp2_with fail
        iterate 2 ((first|refine ordQE ?_|refine ordQF ?_|refine ordQC ?_|refine ordQD ?_);simp only[AC])
        refine ord_nil ?_;go_wp2_with fail;go_meet
        case rel=>exact⟨by rw[AA HBOX];simp,AB (Ext.refl wr).drew⟩
      ·refine wp_region_ord [(1,0),(0,1),(1,2),(1,3),(1,4),(1,5),(0,6),(1,7),(1,8),(1,9),(1,10),(1,11),(1,12),(0,13),(1,14),(1,15),(1,16),(1,17),(0,18),(1,19),(2,20),(1,21),(1,22),(1,23),(1,24),(1,25),(1,26),(1,27),(0,28),(1,29),(1,30),(1,31),(1,32),(0,33),(1,34),(3,35),(1,36),(1,37)] 35 (fun w'=>Ext wr w') (by kernel_rfl) (by kernel_rfl) rfl (by kernel_rfl) ((Ext.refl _).drew) ?_;simp only[AD]
       iterate 20 ((first|refine ordQE ?_|refine ordQF ?_|refine ordQC ?_|refine ordQD ?_);simp only[AC])
       refine ord_keep ?_;go_wp2_with fail;refine⟨(Ext.refl wr).drew,?_⟩
       iterate 14 ((first|refine ordQE ?_|refine ordQF ?_|refine ordQC ?_|refine ordQD ?_);simp only[AC])
       refine ord_last ?_;go_wp2_with fail
       iterate 2 ((first|refine ordQE ?_|refine ordQF ?_|refine ordQC ?_|refine ordQD ?_);simp only[AC])
       refine ord_nil ?_;go_wp2_with fail;go_meet
       case rel=>exact⟨by rw[AA HBOX];rfl,AB (Ext.refl wr).drew⟩
     case rest=>
      clear p0 p1 p2 p3 cS1 cS2 c0 lT ck lb3 hq1 lp HBOX;obtain⟨hq,E2⟩:=hcut;have HE2:=E2;replace E2:=AB ((AA E).trans (AA E2));clear E;subst hq;obtain⟨q,hq⟩:∃q,boxIn ns fs px py k=q:=⟨_,rfl⟩
      rw[hq];have HQ:=AB hq;clear hq;go_upto_if 86 with (fail);cases q
      ·
       simp only[Bool.not_false];go_wp2_with fail;go_roundw
       case rel=>exact⟨(k:Int)-1,by go_num,by omega,by omega,AB (by rw[←AA HK,show ((k:Int)+1).toNat=k+1 by omega,last_no (AA HQ)];congr 1;omega),E2⟩
       case measure=>simp[intOf]<;>omega
      ·
       simp only[Bool.not_true];have HKK:=AB (show lastP (boxIn ns fs px py) ns.length=(k:Int) by rw[←AA HK,show ((k:Int)+1).toNat=k+1 by omega,last_yes (AA HQ)]);have HR3:=AB (show R=((k:Int),lineA ⟨rx,ry,rw_,rh⟩ px py (lsN fs k) 0) by rw[(AA HR2) k (AA HKK),if_neg (by omega),Int.toNat_natCast,AA HRE]);clear HKK HK HQ;have hkn2:k<n:=by have:=AA hmn;omega
       have hknI:(k:Int)<(n:Int):=by omega
       obtain⟨fv,hfv⟩:∃x,fs[k]?=some x:=⟨_,AE (by rw[AA hfl];exact hkn2)⟩
       have hfm:=List.mem_of_getElem? hfv;have hls:lsN fs k=fv.ls:=by unfold lsN;rw[hfv]
       have HLV:=AB (show ∀l∈fv.ls,LvM l from fun l hl=>(AA hLB) k l (by rw[hls];exact hl));rw[hls] at HR3;obtain⟨bf,of_,hA,lf,hmf⟩:=(AA HF).rd.rec_ fgC_len (show (fs.map FV.f)[k]?=some fv.f by rw[List.getElem?_map,hfv];rfl) (by omega);subst hA;have HLS:=AB ((AA HF).ls _ hfm);have HPS:=AB ((AA HF).ps _ hfm);have f4:=hmf 4 _ (rfl:_=some (Value.slice fv.f.lA fv.f.ln fv.f.lc));obtain⟨⟨fx,fy,fw,fh,lA,ln,lc⟩,xls⟩:=fv;simp only at HLV HR3 HLS HPS f4;have EW:=AB ((AA E1).trans (AA E2));have g4:=((AA EW).cells.1 _ _ lf).trans f4;have lf4:=Nat.lt_of_lt_of_le lf (AA EW).size;have BX:=(AA HBX).ext (AA E2);have x3:=(BX.cell 3).trans (rfl:_=some (Value.slice (some ⟨bf,of_,none⟩) n c));have lX:=BX.lt;obtain⟨RL,hln⟩:=AA HLS;replace hln:ln≤9223372036854775807:=hln;have hll:=AB (show xls.length=ln by have:=RL.recN llC_len (by omega);simpa using this);have HRL:=AB RL;have q0:=((AA HE2).cells.1 _ _ (AA HLp)).trans (AA HP0);have q1:=((AA HE2).cells.1 _ _ (AA HLp)).trans (AA HP1);have lpc:=Nat.lt_of_lt_of_le (AA HLp) (AA HE2).size;have HP0':=AB q0;have HP1':=AB q1;have HLp':=AB lpc;clear RL BX hmf hfv hfm hls lf f4 HRE q0 q1 lpc HP0 HP1 HLp HE2;go_upto_region 8 with fail;go_wp2_with fail;clear g4 lf4 x3 lX;go_loopw [8,9,10,15,16,17] (fun _ _ _ v15 _ _ wq=>∃j:Nat,v15=.int .i64 j∧j≤ln∧Hid (lineA ⟨rx,ry,rw_,rh⟩ px py (xls.drop j) j=lineA ⟨rx,ry,rw_,rh⟩ px py xls 0)∧Hid (Ext wc wq)) (fun _ _ _ v15 _ _ _=>ln-(intOf v15).toNat)
       case atStart=>exact⟨0,rfl,by omega,AB rfl,AB (Ext.refl _)⟩
       case round=>
        obtain⟨j,rfl,hj,HJ,E6⟩:=hrel;by_cases hjn:j<ln
        ·as_aux_lemma=>
         have hjI:(0:Int)≤(j:Int)∧(j:Int)<(ln:Int):=by omega
         obtain⟨y,hy⟩:∃y,xls[j]?=some y:=⟨_,AE (by have:=AA hll;omega)⟩
         have hym:=List.mem_of_getElem? hy;have hlv:=(AA HLV) y hym;obtain⟨⟨ly,lh,pA,pn,pc⟩,yps⟩:=y;obtain⟨bl,ol,hA,ll,hml⟩:=((AA HRL).ext ((AA EW).trans (AA E6))).rec_ llC_len (show (xls.map LV.l)[j]?=some (⟨ly,lh,pA,pn,pc⟩:Ll) by rw[List.getElem?_map,hy];rfl) (by omega);subst hA;have HYj:=AB hy;obtain⟨RPp,hpn⟩:=(AA HPS) _ hym;replace hpn:pn≤9223372036854775807:=hpn;have HRPp:=AB RPp;obtain⟨bly,blh,blp⟩:=hlv;simp only at bly blh blp HRPp hpn;unfold InM at bly blh;have HLP:=AB blp;have l0:=hml 0 _ (rfl:_=some (Value.int .i64 ly));rw[Nat.add_zero] at l0;have l1:=hml 1 _ (rfl:_=some (Value.int .i64 lh));have l2:=hml 2 _ (rfl:_=some (Value.slice pA pn pc));have HL2:=AB l2;have HLL:=AB ll;clear hml hy hym RPp blp l2;obtain⟨bx1,bx2⟩:=AA hbd';obtain⟨by1,by2⟩:=AA hbd2';have q1:=((AA E6).cells.1 _ _ (AA HLp')).trans (AA HP1');have lpc:=Nat.lt_of_lt_of_le (AA HLp') (AA E6).size;obtain⟨q,hq⟩:∃q,spanB (ry+ly) lh py=q:=⟨_,rfl⟩
         have HQ:=AB (show lnIn ⟨rx,ry,rw_,rh⟩ py ⟨⟨ly,lh,pA,pn,pc⟩,yps⟩=q from hq);have cS:=fun w=>AB (span_any (ry+ly) lh py (by omega) w)
         rw[hq] at cS;have hsum:-9000000000000000000≤ry+ly∧ry+ly≤9000000000000000000:=by omega
         clear hq bx1 bx2 by1 by2 bly blh;go_upto_region 12 with fail;refine wp_region_ord [(1,0),(1,1),(1,2),(1,3),(0,4),(1,5),(1,6),(1,7),(1,8),(0,9),(1,10),(1,11),(1,12),(1,13),(1,14),(0,15),(1,16),(3,17),(1,18)] 17 (fun w'=>Ext wr w') (by kernel_rfl) (by kernel_rfl) rfl (by kernel_rfl) ((Ext.refl _).drew) ?_;simp only[AD]
         iterate 17 ((first|refine ordQA ?_|refine ordQB ?_);simp only[AC])
         refine ord_last ?_;go_wp2_with fail
         with_reducible refine (AA (cS _)).mono ?_
         rintro e w4 ⟨rfl,hw4⟩;subst hw4;go_wp2_with fail
         iterate 1 ((first|refine ordQA ?_|refine ordQB ?_);simp only[AC])
         refine ord_nil ?_;clear q1 lpc l0 l1 cS hsum;have E7:=AB ((AA E6).drew);clear ll;cases q
         ·
          simp only[Bool.not_false];have HJ2:=AB (show lineA ⟨rx,ry,rw_,rh⟩ px py (xls.drop (j+1)) (j+1)=lineA ⟨rx,ry,rw_,rh⟩ px py xls 0 by rw[←AA HJ,line_no (AA HYj) (AA HQ)]);go_wp2_with fail;go_roundw
          case rel=>exact⟨j+1,by go_num,by omega,HJ2,E7⟩
          case measure=>simp[intOf]<;>omega
         ·
          simp only[Bool.not_true];have HL3:=AB (show lineA ⟨rx,ry,rw_,rh⟩ px py xls 0=((j:Int),firstA (pcIn ⟨rx,ry,rw_,rh⟩ px) yps 0) by rw[←AA HJ,line_yes (AA HYj) (AA HQ)]);rw[AA HL3] at HR3;clear HL3 HJ HYj HQ E6;have hpp:=AB (show yps.length=pn by have:=(AA HRPp).recN pcC_len (by omega);exact this);have EW7:=AB ((AA EW).trans (AA E7));have HL2':=AB (show (World.drew wr).cell? ⟨bl,ol+j*3+2,none⟩=some (Value.slice pA pn pc) from AA HL2);have HLL':=AB (show bl<(World.drew wr).heap.size from AA HLL);clear HL2 HLL;generalize World.drew wr=w7 at *;have hq0:=((AA E7).cells.1 _ _ (AA HLp')).trans (AA HP0');have hlp:=Nat.lt_of_lt_of_le (AA HLp') (AA E7).size;have HP7:=AB hq0;have HLp7:=AB hlp;clear hq0 hlp;go_wp2_with fail;go_loopw [8,9,10,16,17] (fun _ _ _ v16 _ wq=>∃i:Nat,v16=.int .i64 i∧i≤pn∧Hid (firstA (pcIn ⟨rx,ry,rw_,rh⟩ px) (yps.drop i) i=firstA (pcIn ⟨rx,ry,rw_,rh⟩ px) yps 0)∧Hid (Ext w7 wq)) (fun _ _ _ v16 _ _=>pn-(intOf v16).toNat)
          case atStart=>exact⟨0,rfl,by omega,AB rfl,AB (Ext.refl _)⟩
          case round=>
           obtain⟨i,rfl,hi,HI,E8⟩:=hrel;have l2:=((AA E8).cells.1 _ _ (AA HLL')).trans (AA HL2');have ll:=Nat.lt_of_lt_of_le (AA HLL') (AA E8).size;by_cases hin:i<pn
           ·as_aux_lemma=>
            have hiI:(0:Int)≤(i:Int)∧(i:Int)<(pn:Int):=by omega
            obtain⟨z,hz⟩:∃z,yps[i]?=some z:=⟨_,AE (by have:=AA hpp;omega)⟩
            obtain⟨bzx,bzw⟩:=(AA HLP) z (List.mem_of_getElem? hz);obtain⟨bq,oq,hA2,lq,hmq⟩:=((AA HRPp).ext ((AA EW7).trans (AA E8))).rec_ pcC_len hz (by omega);subst hA2;have HMQ:=AB hmq;have HZ:=AB hz;unfold InM at bzx bzw;clear hmq hz;go_upto_region 16 with fail
            iterate 22 go_step
            refine wpList_load_midg 75 (.tmp 134) rfl bq (oq+i*5) rfl rfl (pcC z) _ (fun q v hv=>(AA HMQ) q v hv) Tryz.underlying75 rfl (pcC_size _) ?_;simp only[AC];refine wpList_var rfl rfl 75 rfl 17 rfl (.tmp 135) rfl rfl (pcC zPc).toArray (pcC z).toArray pcC_zero rfl rfl (pcC_size _) rfl (by kernel_rfl) ?_;intro w9 BZ hx z9;simp only[AC];have E9:=AB ((AA E8).trans hx);have q0:=((AA E9).cells.1 _ _ (AA HLp7)).trans (AA HP7);have lpc:=Nat.lt_of_lt_of_le (AA HLp7) (AA E9).size;generalize wr.heap.size=gZ at *;clear hx z9 HMQ lq E8 l2 ll;have l3:=(BZ.cell 3).trans (rfl:_=some (Value.int .i64 z.x));have l4:=(BZ.cell 4).trans (rfl:_=some (Value.int .i64 z.w));have lZ:=BZ.lt;clear BZ;obtain⟨bx1,bx2⟩:=AA hbd';obtain⟨q,hq⟩:∃q,spanB (rx+z.x) z.w px=q:=⟨_,rfl⟩
            have HQ:=AB (show pcIn ⟨rx,ry,rw_,rh⟩ px z=q from hq);have cS:=fun w=>AB (span_any (rx+z.x) z.w px (by omega) w)
            rw[hq] at cS;have hsum:-9000000000000000000≤rx+z.x∧rx+z.x≤9000000000000000000:=by omega
            obtain⟨zx,hzx⟩:∃x,z.x=x:=⟨_,rfl⟩
            obtain⟨zw,hzw⟩:∃x,z.w=x:=⟨_,rfl⟩
            rw[hzx] at l3 cS hsum;rw[hzw] at l4 cS;clear hq bx1 bx2 bzx bzw hzx hzw;go_upto_region 17 with fail;refine wp_region_ord [(1,0),(1,1),(1,2),(1,3),(0,4),(1,5),(0,6),(1,7),(1,8),(0,9),(1,10),(3,11)] 11 (fun w'=>Ext w9 w') (by kernel_rfl) (by kernel_rfl) rfl (by kernel_rfl) ((Ext.refl _).drew) ?_;simp only[AD]
            iterate 11 ((first|refine ordQA ?_|refine ordQB ?_);simp only[AC])
            refine ord_last ?_;go_wp2_with fail
            with_reducible refine (AA (cS _)).mono ?_
            rintro e w4 ⟨rfl,hw4⟩;subst hw4;go_wp2_with fail;refine ord_nil ?_;clear q0 lpc l3 l4 lZ cS hsum;have EA:=AB ((AA E9).drew);cases q
            ·
             have HI2:=AB (show firstA (pcIn ⟨rx,ry,rw_,rh⟩ px) (yps.drop (i+1)) (i+1)=firstA (pcIn ⟨rx,ry,rw_,rh⟩ px) yps 0 by rw[←AA HI,first_no (AA HZ) (AA HQ)]);go_wp2_with fail;go_roundw
             case rel=>exact⟨i+1,by go_num,by omega,HI2,EA⟩
             case measure=>simp[intOf]<;>omega
            ·
             have HR4:=AB (show R=((k:Int),(j:Int),(i:Int)) by rw[AA HR3,←AA HI,first_yes (AA HZ) (AA HQ)]);go_wp2_with fail
             go_ret3
             exact⟨by rw[AA HR4];rfl,(AA EW7).trans (AA EA)⟩
           ·
            have hiI:¬(i:Int)<(pn:Int):=by omega
            have HR4:=AB (show R=((k:Int),(j:Int),-1) by rw[AA HR3,←AA HI,first_end (by rw[AA hpp];omega)]);go_wp2_with fail
            go_ret3
            exact⟨by rw[AA HR4];rfl,(AA EW7).trans (AA E8)⟩
        ·
         have hjI:¬(j:Int)<(ln:Int):=by omega
         have HR4:=AB (show R=((k:Int),-1,-1) by rw[AA HR3,←AA HJ,line_end (by rw[AA hll];omega)]);go_wp2_with fail
         go_ret3
         exact⟨by rw[AA HR4];rfl,(AA EW).trans (AA E6)⟩
    ·
     have hke:k=-1:=by omega
     subst hke;have HR3:=AB (show R=(-1,-1,-1) by rw[(AA HR2) (-1) (by rw[←AA HK];rfl),if_pos (by decide)]);clear hk0 hk1 hkm;go_wp2_with fail
     go_ret3
     exact⟨by rw[AA HR3];rfl,(AA E1).trans (AA E)⟩
  ·as_aux_lemma=>
   have HR2:=AB (show R=(-1,-1,-1) by rw[←AA HR,atV,if_pos hq]);clear hq;go_wp2_with fail
   go_ret3
   exact⟨by rw[AA HR2];rfl,AA E1⟩
end
end Go.Proofs.YtamldoocjjdidaaGreat
