import Derived.Test.YtamldoocjjdidaaGreatMTyQ
import Derived.WalkMore
namespace Go.Proofs.YtamldoocjjdidaaGreat
open Go.RowKit
set_option maxRecDepth 100000
set_option maxHeartbeats 64000000
theorem own_take {w:World} {B E n c:Nat} {A:Option Addr} {xs:List Int} (h:w.ownsRow B E 1 (.slice A n c) n (ints xs)) {m:Nat} (hm:m≤n) (h0:0<m):w.ownsRow B E 1 (.slice A m c) m (ints (xs.take m)):=by
 obtain⟨h1,h2⟩:=h;rw[ints_len] at h1;refine⟨by rw[ints_len,List.length_take];omega,?_⟩
 rcases h2 with ⟨hv,hn⟩|⟨g,cap,cur,hv,hb,hg,hnc,hm2,hs,hx⟩
 ·omega
 ·injection hv with e1 e2 e3;subst e1 e3;refine .inr ⟨g,c,cur,rfl,hb,hg,by omega,hm2,hs,?_⟩;rw[Nat.mul_one] at hx ⊢;have e:(cur.toList.take n).take m=cur.toList.take m:=by rw[List.take_take,Nat.min_eq_left hm]
  rw[←e,hx];simp[ints,List.map_take]
section
variable (ns:List Nd) (b off nl nc al ac:Nat) (aa:Option Addr) (view:Int) (av:List Int)
theorem check_in (w:World) (h:TrIn w ⟨some ⟨b,off,none⟩,nl,nc,aa,al,ac,view⟩ ns av) (hm:nl≤1000000) (ha:al≤maxLen) :
  Calls Tryz.prog 39 #[.agg (Tr.cs ⟨some ⟨b,off,none⟩,nl,nc,aa,al,ac,view⟩)] w fun e w'=>e=.returned (.tuple #[.int .i64 (checkV ns av view).1,.int .i64 (checkV ns av view).2])∧Ext w w':=by
 have hl:=h.nodes.nlen;have hm':nl≤maxLen:=by unfold maxLen;omega
 have cw:=fun w h=>AB (whole_any ⟨some ⟨b,off,none⟩,nl,nc,aa,al,ac,view⟩ ns av w h hm ha)
 have hN:=h.nodes;have HC:=AB (check_whole ns av view);generalize checkV ns av view=CV at *;have HL:=AB hl;clear hl;go_enter Tryz.func39,Tryz.ntmps39;go_wp2_with fail;refine (AA (cw _ (h.ext ((Ext.refl _).alloc _)))).mono ?_;rintro e w1 ⟨rfl,hx⟩;have BT:Blk w1 w.heap.size 25 (Tr.cs ⟨some ⟨b,off,none⟩,nl,nc,aa,al,ac,view⟩):=(Blk.new _ _ _).ext hx;have E1:Ext w w1:=((Ext.refl _).alloc _).trans hx;clear hx cw;simp only at *;obtain⟨wv,hwv⟩:∃wv,wholeV ns av view=wv:=⟨_,rfl⟩
 rw[hwv] at HC;rw[hwv];clear hwv;have c1:=BT.cell;have l1:=BT.lt;by_cases hw:wv=0
 rotate_left
 ·have hwb:(wv != 0)=true:=by simpa using hw
  have HV:=AB (show CV=(0,wv) by rw[AA HC,if_neg hw]);go_wp2_with fail;go_ret2;exact⟨ret2i (by rw[AA HV]) (by rw[AA HV]),E1⟩
 have hwb:(wv != 0)=false:=by simpa using hw
 have HM:=AB (show CV=badV ns 0 by rw[AA HC,if_pos hw]);have HW:=AB hw;clear hw HC;go_upto_region 5 with fail;clear hwb;go_wp2_with fail;generalize hgt:w.heap.size=g at *;have HG:=AB hgt;clear hgt c1 l1;obtain⟨i0,hi0,hz0,hz1,hz2⟩:=info_parts int_info;have HI:=AB (And.intro hi0 (And.intro hz0 (And.intro hz1 hz2)));clear hi0 hz0 hz1 hz2;go_loopw [5,19] (fun v x wr=>∃(k:Nat) (A:Option Addr) (c:Nat) (l:List Int),x=.int .i64 k∧v=.slice A l.length c∧k≤nl∧Hid (l=chainK ns k)∧Hid (badV ns k=badV ns 0)∧Hid (∀j,j<k→nodeV ns j=0)∧Ext w wr∧Blk wr g 25 (Tr.cs ⟨some ⟨b,off,none⟩,nl,nc,aa,al,ac,view⟩)∧wr.ownsRow (g+1) 3 1 (.slice A l.length c) l.length (ints l)) (fun _ x _=>nl-(intOf x).toNat)
 case atStart=>exact⟨0,none,0,[],rfl,rfl,by omega,AB rfl,AB rfl,AB (fun j hj=>absurd hj (by omega)),E1,BT,own_none _ _ _⟩
 case round=>
  clear E1 BT;obtain⟨k,A,c,l,rfl,rfl,q1,HCH,HQ,HB,E1,BT,O1⟩:=hrel;have c1:=BT.cell;have l1:=BT.lt;by_cases hk:k<nl
  rotate_left
  ·have HV:=AB (show CV=(0,0) by rw[AA HM,←AA HQ,badV,if_neg (by rw[AA HL];exact hk)]);have hkI:¬(k:Int)<(nl:Int):=by omega
   go_wp2_with fail;go_ret2;exact⟨ret2i (by rw[AA HV]) (by rw[AA HV]),E1⟩
  have hkn:k<ns.length:=by rw[AA HL];exact hk
  have hkI:(0:Int)≤(k:Int)∧(k:Int)<(nl:Int):=by omega
  have hl6:ns.length≤1000000:=by rw[AA HL];exact hm
  have HBAD:=AB (show nodeV ns k≠0→CV=((k:Int),nodeV ns k) from fun hf=>by rw[AA HM,←AA HQ,badV,if_pos hkn,if_neg hf]);have HGOOD:=AB (show nodeV ns k=0→badV ns (k+1)=badV ns 0∧∀j,j<k+1→nodeV ns j=0 from fun hf=>⟨by rw[←AA HQ,badV.eq_def ns k,if_pos hkn,if_pos hf],fun j hj=>by
   by_cases hjk:j=k
   ·rw[hjk];exact hf
   ·exact AA HB j (by omega)⟩)
  have HNO:=AB (found_no hkn);have HYES:=AB (found_yes hkn hl6 (AA HB));have hg:=AE hkn;have hPk:=nP_of hkn;have hmid:w.rangeAt b (off+k*44) (ns[k]).cells:=by
   obtain⟨b',off',ha',hb',hc'⟩:=hN.node hg;injection ha' with e;injection e with e1 e2;subst e1 e2;exact hc'
  obtain⟨b',off',ha',hb,-⟩:=hN.node hg;have hb:b<w.heap.size:=by injection ha' with e;injection e with e1 e2;subst e1;exact hb
  clear ha';have cst:=fun hp w h=>AB (stands_any ⟨some ⟨b,off,none⟩,nl,nc,aa,al,ac,view⟩ ns k hkn hp w h hm)
  have HST:=AB (show ∀hp:(k=0∨∃p:Nat,nP ns k=p∧p<k),∃z,stB ns k=z from fun _=>⟨_,rfl⟩);have HFOUND:=AB (show foundB ns k↔(k=0∧nP ns k=-1)∨(0<k∧nP ns k∈l) by rw[foundB,AA HCH]);have HFP:=AB (found_par (ns:=ns) (k:=k));have HFC:=AB (found_chain (ns:=ns) (k:=k));have HCK:=AB (show 0<k→l=chainN ns (k-1) from fun h0=>by rw[AA HCH,chainK,if_neg (by omega)]);have HC0:=AB (show k=0→l=[] from fun h0=>by rw[AA HCH,chainK,if_pos h0]);rw[hPk] at HFOUND cst;have HPK:=AB hPk;generalize hnd:ns[k]=nd at *;obtain⟨P,S⟩:=nd;have HMID:=AB hmid;clear hg hPk hmid hkn hnd HST HQ HB HM;simp only at HFOUND cst HYES HPK;go_upto_region 7 with fail
  iterate 7 go_step
  refine wpList_load_mid rfl 67 _ rfl b (off+k*44) rfl (Nd.cells ⟨P,S⟩) _ (fun j v hv=>(E1.cells.1 b _ hb).trans ((AA HMID) j v hv)) Tryz.underlying67 rfl (info_nd ⟨P,S⟩) ?_;simp only[AC];refine wpList_alloc_var rfl 67 rfl znd.cells.toArray zero_nd ?_;intro wa Ba Ea za;simp only[AC]
  iterate 3 go_step
  refine wpList_store_blk rfl 67 _ _ rfl wr.heap.size rfl (Nd.cells ⟨P,S⟩).toArray rfl 67 znd.cells.toArray Ba (info_nd ⟨P,S⟩) rfl (by kernel_rfl) ?_;intro w3 BN hgr zs;simp only[Act.put];have lT:=BT.lt;have E3:Ext w w3:=Ext.grown (E1.trans Ea) hgr (fun q e=>by injection e with e;have:=E1.size;omega);have X3:Ext wr w3:=Ext.grown Ea hgr (fun q e=>by injection e with e;omega);have BT3:=BT.ext X3;have O3:=own_extI O1 X3;clear Ba Ea za hgr zs X3 E1 BT O1 c1 l1 lT;generalize hgn:wr.heap.size=gn at *;clear hgn wr wa;have dP:w3.cell? ⟨gn,0,none⟩=some (.int .i64 P):=(BN.cell 0).trans rfl;have dU:w3.cell? ⟨gn,43,none⟩=some (.slice S.ua S.ul S.uc):=(BN.cell 43).trans rfl;have lN:=BN.lt;have c1:=BT3.cell;have l1:=BT3.lt;by_cases k0:k=0
  ·have hl0:=AA HC0 k0;subst hl0;have k0b:((k:Int)==0)=true:=by simpa using k0
   by_cases hP:P=-1
   ·have hPb:(P==-1)=true:=by simpa using hP
    have hF:foundB ns k:=AA HFOUND |>.2 (.inl ⟨k0,hP⟩)
    obtain⟨l5,hcn,hdp,hor⟩:=AA HFC hF;have h5:l5=[]:=by
     rcases hor with ⟨_,h⟩|⟨p,_,h,_⟩
     ·exact h
     ·omega
    subst h5;have O5:=O3;have HK0:=AB k0;have HP0:=AB hP;clear hor k0 hP;go_wp2_with (go_step3)
    go_loop [5,8,33] (fun s5 s8 v=>s5=.slice A 0 c∧s8=.bool true∧v=.int .i64 0) (fun _ _ _=>0)
    case atStart=>exact⟨rfl,rfl,rfl⟩
    case round=>
     obtain⟨rfl,rfl,rfl⟩:=hrel;have hNV:=AA HYES hF;have hpar:=(AA HFP hF).imp id (fun⟨p,h1,h2,_⟩=>(⟨p,h1,h2⟩:∃p:Nat,nP ns k=p∧p<k));rw[AA HPK] at hpar;have cst:=cst hpar;clear hpar;obtain⟨zs,hzs⟩:∃zs,stB ns k=zs:=⟨_,rfl⟩
     rw[hzs] at cst hNV;obtain⟨zr,hzr⟩:∃zr,rightV S=zr:=⟨_,rfl⟩
     rw[hzr,hdp] at hNV;have cr:=fun w=>AB (pright_any S w)
     rw[right_eq,hzr] at cr;have HDP:=AB hdp;have HCN2:=AB hcn;clear hzs hzr hF hdp hcn HYES HNO HFOUND HFP HFC HCK HC0;by_cases hu:65536<S.ul
     ·have HV:=AB (AA HBAD (by rw[hNV,if_pos hu];decide));rw[hNV,if_pos hu] at HV;have hul:(65536:Int)<(S.ul:Int):=by omega
      clear hNV;go_wp2_with fail
      try simp only[Exit.noGoto_ret,Exit.inBlock,Exit.then]
      try change bodyPost Tryz.prog Tryz.f39 (fun e w'=>e=.returned (.tuple #[.int .i64 CV.1,.int .i64 CV.2])∧Ext w w') Exit.ret _ _
      go_ret2;exact⟨ret2i (by rw[AA HV]) (by rw[AA HV]),E3⟩
     rw[if_neg hu] at hNV;have hul:¬(65536:Int)<(S.ul:Int):=by omega
     have hd:¬512<([]:List Int).length+1:=by simp
     rw[if_neg hd] at hNV;have hdl:¬(512:Int)≤(([]:List Int).length:Int):=by omega
     have hlen5:([]:List Int).length≤512:=by omega
     go_upto_region 23 with fail;clear dP dU lN c1 l1 hul hdl hu hd
     iterate 4 go_step
     refine wpList_load_mid rfl 65 _ rfl gn 1 rfl S.cells.toList _ (fun j v hv=>by rw[BN.cell,Nat.add_comm];simpa using hv) Tryz.underlying65 rfl (info_style S) ?_;simp only[AC];go_wp2_with fail;refine (AA (cr _)).mono ?_;rintro e w5 ⟨rfl,hx⟩;replace E3:=E3.trans hx;replace BT3:=BT3.ext hx;replace O5:=own_extI O5 hx;clear hx BN O3;have c1:=BT3.cell;have l1:=BT3.lt;cases zr
     ·have HV:=AB (AA HBAD (by rw[hNV];simp));rw[hNV] at HV;simp only[if_true] at HV;clear hNV;go_wp2_with fail
      try simp only[Exit.noGoto_ret,Exit.inBlock,Exit.then]
      try change bodyPost Tryz.prog Tryz.f39 (fun e w'=>e=.returned (.tuple #[.int .i64 CV.1,.int .i64 CV.2])∧Ext w w') Exit.ret _ _
      go_ret2;exact⟨ret2i (by rw[AA HV]) (by rw[AA HV]),E3⟩
     go_wp2_with fail;refine (AA (cst _ (hN.ext E3))).mono ?_;rintro e w6 ⟨rfl,hx⟩;replace E3:=E3.trans hx;replace BT3:=BT3.ext hx;replace O5:=own_extI O5 hx;clear hx c1 l1;cases zs
     ·have HV:=AB (AA HBAD (by rw[hNV];simp));rw[hNV] at HV;simp only[Bool.false_eq_true,Bool.true_eq_false,if_false] at HV;clear hNV;go_wp2_with fail
      try simp only[Exit.noGoto_ret,Exit.inBlock,Exit.then]
      try change bodyPost Tryz.prog Tryz.f39 (fun e w'=>e=.returned (.tuple #[.int .i64 CV.1,.int .i64 CV.2])∧Ext w w') Exit.ret _ _
      go_ret2;exact⟨ret2i (by rw[AA HV]) (by rw[AA HV]),E3⟩
     have HGD:=AB (AA HGOOD (by rw[hNV];simp));clear hNV HBAD HGOOD;have lb6:=BT3.lt;go_wp2_with (first
      |(at_builtin
        refine wpList_append_rd rfl (.tmp 82) (.tmp 84) _ rfl (g+1) 3 i0 _ 1 8 Tryz.underlying52 (AA HI).1 (AA HI).2.1 (AA HI).2.2.1 (AA HI).2.2.2 rfl (by omega) _ ([]:List Int).length (ints ([]:List Int)) rfl (own_extI O5 ((Ext.refl _).alloc _)) _ 1 1 [.int .i64 (k:Int)] rfl (Rd.one _ _) (by simp[Value.oneCell']) (by simp only[maxLen];omega) (by omega) (by simp;omega) ?_;intro A4 c4 w4 own4 g4 at4;have E4:=(E3.alloc (.cells #[.int .i64 (k:Int)] 3)).grown g4 (fun j e=>by have:=(O5.lt j e).1;have:=AA HG;omega);have BT4:=(BT3.alloc (.cells #[.int .i64 (k:Int)] 3)).grown g4 (fun e=>by have:=(O5.lt _ e).1;omega)))
     try simp only[Exit.noGoto_normal]
     go_wp2_with fail;go_roundw
     case rel=>exact⟨k+1,A4,c4,([]:List Int)++[(k:Int)],by go_num,by simp,by omega,AB (by rw[chainK_succ];exact (AA HCN2).symm),AB (AA HGD).1,AB (AA HGD).2,E4,BT4,by simpa[ints_append,ints] using own4⟩
     case measure=>simp[intOf];omega
   ·have hPb:(P==-1)=false:=by simpa using hP
    have hNF:¬foundB ns k:=fun hf=>by
     rcases (AA HFOUND).1 hf with ⟨_,h2⟩|⟨h2,_⟩
     ·exact hP h2
     ·omega
    have hn6:=AA HNO hNF;have HV:=AB (AA HBAD (by rw[hn6];decide));rw[hn6] at HV;clear hNF hn6;have HK0:=AB k0;clear k0 hP;go_wp2_with (go_step3)
    go_loop [5,8,33] (fun s5 s8 v=>s5=.slice A 0 c∧s8=.bool false∧v=.int .i64 0) (fun _ _ _=>0)
    case atStart=>exact⟨rfl,rfl,rfl⟩
    case round=>
     obtain⟨rfl,rfl,rfl⟩:=hrel;go_wp2_with fail
     try simp only[Exit.noGoto_ret,Exit.inBlock,Exit.then]
     go_ret2;exact⟨ret2i (by rw[AA HV]) (by rw[AA HV]),E3⟩
  ·have k0b:((k:Int)==0)=false:=by simpa using k0
   have hl0:=AA HCK (by omega);have hllen:l.length≤1000000:=by rw[hl0,chainN_len];have:=dep_le ns (k-1);omega
   have hlpos:0<l.length:=by rw[hl0,chainN_len];have:=dep_le ns (k-1);omega
   have HL0:=AB hl0;have hkp:0<k:=by omega
   clear hl0 k0;go_wp2_with (go_step3)
   go_loop [5,8,33] (fun s5 s8 v=>s5=.slice A l.length c∧s8=.bool false∧∃m:Nat,v=.int .i64 m∧m≤l.length∧Hid (∀q,q<m→∀hq:l.length-1-q<l.length,l[l.length-1-q]≠P)) (fun _ _ v=>l.length-(intOf v).toNat)
   case atStart=>exact⟨rfl,rfl,0,rfl,by omega,AB (fun q hq=>absurd hq (by omega))⟩
   case round=>
    obtain⟨rfl,rfl,m,rfl,m1,HS⟩:=hrel;by_cases hml:m<l.length
    ·have hat:l.length-1-m<l.length:=by omega
     obtain⟨a,haa⟩:∃a,l.length-1-m=a:=⟨_,rfl⟩
     rw[haa] at hat;have hla:=AE hat;obtain⟨b2,o2,u2,hA2,hb2,hu2,hc2⟩:=(Rd.of_own O3).get hat;rw[ints_get hat] at hu2;obtain rfl:_=u2:=Option.some.inj hu2;obtain⟨y,hy⟩:∃y,l[a]=y:=⟨_,rfl⟩
     rw[hy] at hc2 hla;have haI:(l.length:Int)-1-(m:Int)=(a:Int):=by omega
     have haB:(0:Int)≤(a:Int)∧(a:Int)<(l.length:Int):=by omega
     have hmI:(m:Int)<(l.length:Int):=by omega
     by_cases hyP:y=P
     ·subst hyP;have hF:foundB ns k:=AA HFOUND |>.2 (.inr ⟨hkp,by rw[←hy];exact List.getElem_mem hat⟩)
      obtain⟨l5,hcn,hdp,hor⟩:=AA HFC hF;have h5:l5=l.take (a+1):=by
       rcases hor with ⟨h,_⟩|⟨p,h1,h2,h3⟩
       ·omega
       ·rw[AA HPK] at h1;rw[h3,AA HL0];refine (chainN_cut ns (k-1) a p ?_).symm;rw[←AA HL0,hla,h1]
      have hl5:l5.length=a+1:=by rw[h5,List.length_take];omega
      have O5:w3.ownsRow (g+1) 3 1 (.slice A l5.length c) l5.length (ints l5):=by
       rw[hl5,h5];exact own_take O3 (by omega) (by omega)
      have hcap:l.length≤c:=by
       rcases O3.2 with ⟨_,h0⟩|⟨g',cap,cur,hv,_,_,hnc,_⟩
       ·omega
       ·injection hv with e1 e2 e3;omega
      have hcI:(0:Int)≤(a:Int)+1∧(a:Int)+1≤(c:Int):=by omega
      have hcI2:¬(c:Int)<(a:Int)+1:=by omega
      have haN:(a:Int)+1=(l5.length:Int):=by omega
      subst hA2;have HH5:=AB h5;have HAA:=AB haa;have HLE:=AB hl5;have hrefl:(y==y)=true:=by simp
      clear hor h5 hu2 hla hy hml haa hl5;go_upto_region 17 with fail;have hNV:=AA HYES hF;have hpar:=(AA HFP hF).imp id (fun⟨p,h1,h2,_⟩=>(⟨p,h1,h2⟩:∃p:Nat,nP ns k=p∧p<k));rw[AA HPK] at hpar;have cst:=cst hpar;clear hpar;obtain⟨zs,hzs⟩:∃zs,stB ns k=zs:=⟨_,rfl⟩
      rw[hzs] at cst hNV;obtain⟨zr,hzr⟩:∃zr,rightV S=zr:=⟨_,rfl⟩
      rw[hzr,hdp] at hNV;have cr:=fun w=>AB (pright_any S w)
      rw[right_eq,hzr] at cr;have HDP:=AB hdp;have HCN2:=AB hcn;clear hzs hzr hF hdp hcn HYES HNO HFOUND HFP HFC HCK HC0;by_cases hu:65536<S.ul
      ·have HV:=AB (AA HBAD (by rw[hNV,if_pos hu];decide));rw[hNV,if_pos hu] at HV;have hul:(65536:Int)<(S.ul:Int):=by omega
       clear hNV;go_wp2_with fail
       try simp only[Exit.noGoto_ret,Exit.inBlock,Exit.then]
       try change bodyPost Tryz.prog Tryz.f39 (fun e w'=>e=.returned (.tuple #[.int .i64 CV.1,.int .i64 CV.2])∧Ext w w') Exit.ret _ _
       go_ret2;exact⟨ret2i (by rw[AA HV]) (by rw[AA HV]),E3⟩
      rw[if_neg hu] at hNV;have hul:¬(65536:Int)<(S.ul:Int):=by omega
      by_cases hd:512<l5.length+1
      ·have HV:=AB (AA HBAD (by rw[hNV,if_pos hd];decide));rw[hNV,if_pos hd] at HV;have hdl:(512:Int)≤(l5.length:Int):=by omega
       clear hNV;go_wp2_with fail
       try simp only[Exit.noGoto_ret,Exit.inBlock,Exit.then]
       try change bodyPost Tryz.prog Tryz.f39 (fun e w'=>e=.returned (.tuple #[.int .i64 CV.1,.int .i64 CV.2])∧Ext w w') Exit.ret _ _
       go_ret2;exact⟨ret2i (by rw[AA HV]) (by rw[AA HV]),E3⟩
      rw[if_neg hd] at hNV;have hdl:¬(512:Int)≤(l5.length:Int):=by omega
      have hlen5:l5.length≤512:=by omega
      go_upto_region 23 with fail;clear dP dU lN c1 l1 hul hdl hu hd
      iterate 4 go_step
      refine wpList_load_mid rfl 65 _ rfl gn 1 rfl S.cells.toList _ (fun j v hv=>by rw[BN.cell,Nat.add_comm];simpa using hv) Tryz.underlying65 rfl (info_style S) ?_;simp only[AC];go_wp2_with fail;refine (AA (cr _)).mono ?_;rintro e w5 ⟨rfl,hx⟩;replace E3:=E3.trans hx;replace BT3:=BT3.ext hx;replace O5:=own_extI O5 hx;clear hx BN O3;have c1:=BT3.cell;have l1:=BT3.lt;cases zr
      ·have HV:=AB (AA HBAD (by rw[hNV];simp));rw[hNV] at HV;simp only[if_true] at HV;clear hNV;go_wp2_with fail
       try simp only[Exit.noGoto_ret,Exit.inBlock,Exit.then]
       try change bodyPost Tryz.prog Tryz.f39 (fun e w'=>e=.returned (.tuple #[.int .i64 CV.1,.int .i64 CV.2])∧Ext w w') Exit.ret _ _
       go_ret2;exact⟨ret2i (by rw[AA HV]) (by rw[AA HV]),E3⟩
      go_wp2_with fail;refine (AA (cst _ (hN.ext E3))).mono ?_;rintro e w6 ⟨rfl,hx⟩;replace E3:=E3.trans hx;replace BT3:=BT3.ext hx;replace O5:=own_extI O5 hx;clear hx c1 l1;cases zs
      ·have HV:=AB (AA HBAD (by rw[hNV];simp));rw[hNV] at HV;simp only[Bool.false_eq_true,Bool.true_eq_false,if_false] at HV;clear hNV;go_wp2_with fail
       try simp only[Exit.noGoto_ret,Exit.inBlock,Exit.then]
       try change bodyPost Tryz.prog Tryz.f39 (fun e w'=>e=.returned (.tuple #[.int .i64 CV.1,.int .i64 CV.2])∧Ext w w') Exit.ret _ _
       go_ret2;exact⟨ret2i (by rw[AA HV]) (by rw[AA HV]),E3⟩
      have HGD:=AB (AA HGOOD (by rw[hNV];simp));clear hNV HBAD HGOOD;have lb6:=BT3.lt;go_wp2_with (first
       |(at_builtin
         refine wpList_append_rd rfl (.tmp 82) (.tmp 84) _ rfl (g+1) 3 i0 _ 1 8 Tryz.underlying52 (AA HI).1 (AA HI).2.1 (AA HI).2.2.1 (AA HI).2.2.2 rfl (by omega) _ l5.length (ints l5) rfl (own_extI O5 ((Ext.refl _).alloc _)) _ 1 1 [.int .i64 (k:Int)] rfl (Rd.one _ _) (by simp[Value.oneCell']) (by simp only[maxLen];omega) (by omega) (by simp;omega) ?_;intro A4 c4 w4 own4 g4 at4;have E4:=(E3.alloc (.cells #[.int .i64 (k:Int)] 3)).grown g4 (fun j e=>by have:=(O5.lt j e).1;have:=AA HG;omega);have BT4:=(BT3.alloc (.cells #[.int .i64 (k:Int)] 3)).grown g4 (fun e=>by have:=(O5.lt _ e).1;omega)))
      try simp only[Exit.noGoto_normal]
      go_wp2_with fail;go_roundw
      case rel=>exact⟨k+1,A4,c4,l5++[(k:Int)],by go_num,by simp,by omega,AB (by rw[chainK_succ];exact (AA HCN2).symm),AB (AA HGD).1,AB (AA HGD).2,E4,BT4,by simpa[ints_append,ints] using own4⟩
      case measure=>simp[intOf];omega
     ·have HS2:=AB (show ∀q,q<m+1→∀hq:l.length-1-q<l.length,l[l.length-1-q]≠P from fun q hq hql=>by
       by_cases hqm:q=m
       ·subst hqm;simp only[haa,hy];exact hyP
       ·exact AA HS q (by omega) hql)
      have hyb:(y==P)=false:=by simpa using hyP
      subst hA2;have HAA:=AB haa;clear hu2 hla hy haa HS hyP;go_wp2_with fail
      go_round
      case rel=>exact⟨rfl,rfl,m+1,by go_num,by omega,HS2⟩
      case measure=>simp[intOf];omega
    ·have hmI:¬(m:Int)<(l.length:Int):=by omega
     have hNF:¬foundB ns k:=fun hf=>by
      rcases (AA HFOUND).1 hf with ⟨h2,_⟩|⟨_,h2⟩
      ·omega
      ·obtain⟨j,hj,he⟩:=List.getElem_of_mem h2;refine AA HS (l.length-1-j) (by omega) (by omega) ?_;have e:l.length-1-(l.length-1-j)=j:=by omega
       simp only[e];exact he
     have hn6:=AA HNO hNF;have HV:=AB (AA HBAD (by rw[hn6];decide));rw[hn6] at HV;clear hNF HS hn6;go_wp2_with fail
     try simp only[Exit.noGoto_ret,Exit.inBlock,Exit.then]
     go_ret2;exact⟨ret2i (by rw[AA HV]) (by rw[AA HV]),E3⟩
end
section
variable (t:Tr) (ns:List Nd) (av:List Int)
theorem check_any (w:World) (h:TrIn w t ns av) (hm:t.nl≤1000000) (ha:t.al≤maxLen) :
  Calls Tryz.prog 39 #[.agg t.cs] w fun e w'=>e=.returned (.tuple #[.int .i64 (checkV ns av t.view).1,.int .i64 (checkV ns av t.view).2])∧Ext w w':=by
 by_cases h0:0<t.nl
 ·obtain⟨b,off,hna,_,_⟩:=h.nodes.at_ h0;obtain⟨na,nl,nc,aa,al,ac,view⟩:=t;simp only at hna;subst hna;exact check_in ns b off nl nc al ac aa view av w h hm ha
 ·have cw:=fun w h=>AB (whole_any t ns av w h hm ha)
  have hl:=h.nodes.nlen;have hw:wholeV ns av t.view≠0:=by
   unfold wholeV
   split
   ·decide
   ·rw[if_pos (.inl (by omega))];decide
  have HC:=AB (show checkV ns av t.view=(0,wholeV ns av t.view) by rw[check_whole,if_neg hw]);generalize checkV ns av t.view=CV at *;generalize wholeV ns av t.view=wv at *;have hwb:(wv != 0)=true:=by simpa using hw
  clear hl h0 hw;go_enter Tryz.func39,Tryz.ntmps39;go_wp2_with fail;refine (AA (cw _ (h.ext ((Ext.refl _).alloc _)))).mono ?_;rintro e w1 ⟨rfl,hx⟩;go_wp2_with fail;go_ret2;exact⟨ret2i (by rw[AA HC]) (by rw[AA HC]),((Ext.refl _).alloc _).trans hx⟩
end
end Go.Proofs.YtamldoocjjdidaaGreat
