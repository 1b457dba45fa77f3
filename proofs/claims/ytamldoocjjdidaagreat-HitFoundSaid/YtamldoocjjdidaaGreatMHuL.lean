import Derived.Test.YtamldoocjjdidaaGreatMHtU
import Derived.Test.YtamldoocjjdidaaGreatMHvJ
namespace Go.Proofs.YtamldoocjjdidaaGreat
open Go.RowKit
set_option maxRecDepth 100000
set_option maxHeartbeats 64000000
section
variable (t:Tr) (ns:List Nd)
theorem refkids2_any (w:World) (h:Rd w 44 t.na t.nl (nds ns)) (hm:t.nl≤1000000) :
  Calls Tryz.prog 51 #[.agg t.cs] w (fun e w'=>∃(g B:Nat) (vs:List Value),e=.returned (.slice (some ⟨g,0,none⟩) t.nl t.nl)∧Rws w' B g t.nl (kidsN ns t.nl) vs∧Ext w w'):=by
 have hl:=h.nlen;have hm':t.nl≤maxLen:=by unfold maxLen;omega
 have hmk:=make_rows t.nl hm;obtain⟨i0,hi0,hz0,hz1,hz2⟩:=info_parts int_info;have HI:=AB (And.intro hi0 (And.intro hz0 (And.intro hz1 hz2)));have HL:=AB hl;clear hi0 hz0 hz1 hz2;go_enter Tryz.func51,Tryz.ntmps51;go_wp2_with fail;have BT:Blk ((w.alloc (.cells t.cs 25)).alloc (.cells (Array.replicate t.nl (.slice none 0 0)) 52)) w.heap.size 25 t.cs:=(Blk.new _ _ _).alloc _;have R0:=Rws.start (w.alloc (.cells t.cs 25)) (w.heap.size+1) t.nl (by simp);rw[World.size_alloc] at R0;have E0:Ext w ((w.alloc (.cells t.cs 25)).alloc (.cells (Array.replicate t.nl (.slice none 0 0)) 52)):=((Ext.refl _).alloc _).alloc _;generalize (w.alloc (.cells t.cs 25)).alloc (.cells (Array.replicate t.nl (.slice none 0 0)) 52)=w0 at *;clear hmk hl;go_loopw [4] (fun i wr=>∃(k:Nat) (vs:List Value),i=.int .i64 k∧k≤t.nl∧Rws wr (w.heap.size+1) (w.heap.size+1) t.nl (kidsN ns k) vs∧Ext w wr∧Blk wr w.heap.size 25 t.cs) (fun i _=>t.nl-(intOf i).toNat)
 case atStart=>exact⟨0,_,rfl,by omega,by rw[kidsN_0];exact R0,E0,BT⟩
 case round=>
  clear R0 E0 BT;obtain⟨k,vs,rfl,q1,R1,E1,BT⟩:=hrel;have c1:=BT.cell;have l1:=BT.lt;by_cases hk:k<t.nl
  ·have hp:=parN_lt ns k;have HS:=AB (kidsN_succ ns k);have cu:=fun w h=>AB (parent_any t ns k (by have:=AA HL;omega) w h hm')
   by_cases h0:0≤parN ns k
   ·obtain⟨p,hpk⟩:∃p:Nat,parN ns k=p:=⟨(parN ns k).toNat,by omega⟩
    rw[hpk] at hp h0 cu HS;have hpl:(0:Int)≤(p:Int)∧(p:Int)<(t.nl:Int):=by omega
    have hlen:=kidsN_len ns k p;clear hpk;go_wp2_with fail;refine (AA (cu _ (h.ext E1))).mono ?_;rintro e w2 ⟨rfl,hx⟩;have R2:=R1.ext hx;have E2:=E1.trans hx;have BT2:=BT.ext hx;obtain⟨v,hv,hc,hf,ho⟩:=R2.get (p:=p) (by omega);obtain⟨A,c,rfl⟩:=kids_own ho;have lg:=R2.blk.lt;have HV:=AB hv;clear hx c1 l1 R1 E1 BT hv;go_wp2_with (first
     |(at_builtin
       refine wpList_append_rd rfl (.tmp 27) (.tmp 29) _ rfl (w.heap.size+1) 3 i0 _ 1 8 Tryz.underlying52 (AA HI).1 (AA HI).2.1 (AA HI).2.2.1 (AA HI).2.2.2 rfl (by omega) _ (kidsN ns k p).length (ints (kidsN ns k p)) rfl (ho.alloc _) _ 1 1 [.int .i64 k] rfl (Rd.one _ _) (by simp[Value.oneCell']) (by simp only[maxLen];omega) (by omega) (by simp;omega) ?_;intro A4 c4 w4 own4 g4 at4;have R4:=(R2.alloc _).step (AA HV) g4 (by simp) own4 at4;have hc4:w4.cell? ⟨w.heap.size+1,p,none⟩=some (.slice A (kidsN ns k p).length c):=(World.cell?_of_block (a:=⟨w.heap.size+1,p,none⟩) (g4.block _ (by simp;omega) (fun e=>R2.off p _ (AA HV) e.symm))).trans (((Ext.refl w2).alloc _).cells.1 _ _ lg |>.trans hc);have hf4:w4.frozen? ⟨w.heap.size+1,p,none⟩=false:=(World.frozen?_of_block (a:=⟨w.heap.size+1,p,none⟩) (g4.block _ (by simp;omega) (fun e=>R2.off p _ (AA HV) e.symm))).trans (((Ext.refl w2).alloc _).cells.2 _ _ lg |>.trans hf)))
    go_roundw
    case rel=>
     refine⟨k+1,_,by go_num,by omega,R4.congr (fun i hi=>?_),(((E2.alloc _).grown g4 (fun g e=>by have:=(ho.lt g e).1;omega))).set (by simp) _,((BT2.alloc _).grown g4 (fun e=>?_)).far (by simp) _⟩
     ·rw[AA HS i];by_cases hip:i=p
      ·subst hip;simp
      ·rw[if_neg hip,if_neg (by omega)]
     ·have:=(ho.lt _ e).1;omega
    case measure=>simp[intOf];omega
   ·have hpk:parN ns k=-1:=by omega
    rw[hpk] at hp h0 cu HS;clear hpk;go_wp2_with fail;refine (AA (cu _ (h.ext E1))).mono ?_;rintro e w2 ⟨rfl,hx⟩;go_wp2_with fail;go_roundw
    case rel=>exact⟨k+1,_,by go_num,by omega,(R1.ext hx).congr (fun i hi=>by rw[AA HS i,if_neg (by omega)]),E1.trans hx,BT.ext hx⟩
    case measure=>simp[intOf];omega
  ·obtain hkn:k=t.nl:=by omega
   have HK:=AB hkn;clear hkn;go_wp2_with fail;go_ret;exact⟨_,_,_,rfl,by rw[AA HK] at R1;exact R1,E1⟩
end
def tyJ (j:Nat):TypeId:=if j=7 then 4 else if j=15 then 225 else 2
def zvJ (j:Nat):Value:=if j=7 then .bool false else if j=15 then .slice none 0 0 else .int .i64 0
def RNew (w:World) (n:Nat) (j:Nat) (v:Value) (w':World):Prop:=∃g,v=.slice (some ⟨g,0,none⟩) n n∧w.heap.size≤g∧Blk w' g (tyJ j) (Array.replicate n (zvJ j))
theorem RNew.ext {W:World} {n j:Nat} {v:Value} {w w':World} (h:RNew W n j v w) (hx:Ext w w'):RNew W n j v w':=by
 obtain⟨g,h1,h2,h3⟩:=h;exact⟨g,h1,h2,h3.ext hx⟩
theorem bool_info':(Tryz.prog.info? 4).map (fun i=>(i.zero,i.size,i.bytes))=some (some (.bool false),1,1):=by kernel_rfl
theorem i64_info':(Tryz.prog.info? 2).map (fun i=>(i.zero,i.size,i.bytes))=some (some (.int .i64 0),1,8):=by kernel_rfl
theorem rows_info':(Tryz.prog.info? 225).map (fun i=>(i.zero,i.size,i.bytes))=some (some (.slice none 0 0),1,24):=by kernel_rfl
theorem make_b (n:Nat) (hn:n≤1000000) (w:World):(Instr.makeSlice 106 (.int .i64 (n:Int)) (.int .i64 (n:Int))).run Tryz.prog w=.ok (.slice (some ⟨w.heap.size,0,none⟩) n n) (w.alloc (.cells (Array.replicate n (zvJ 7)) (tyJ 7))):=by
 obtain⟨i0,hi0,hz0,hz1,hz2⟩:=info_parts bool_info';exact make_n _ _ i0 _ Tryz.underlying106 hi0 hz0 hz1 rfl n (by rw[hz2];omega) (by omega) w
theorem make_i (n:Nat) (hn:n≤1000000) (w:World):(Instr.makeSlice 23 (.int .i64 (n:Int)) (.int .i64 (n:Int))).run Tryz.prog w=.ok (.slice (some ⟨w.heap.size,0,none⟩) n n) (w.alloc (.cells (Array.replicate n (.int .i64 0)) 2)):=by
 obtain⟨i0,hi0,hz0,hz1,hz2⟩:=info_parts i64_info';exact make_n _ _ i0 _ Tryz.underlying23 hi0 hz0 hz1 rfl n (by rw[hz2];omega) (by omega) w
theorem make_r (n:Nat) (hn:n≤1000000) (w:World):(Instr.makeSlice 189 (.int .i64 (n:Int)) (.int .i64 (n:Int))).run Tryz.prog w=.ok (.slice (some ⟨w.heap.size,0,none⟩) n n) (w.alloc (.cells (Array.replicate n (zvJ 15)) (tyJ 15))):=by
 obtain⟨i0,hi0,hz0,hz1,hz2⟩:=info_parts rows_info';exact make_n _ _ i0 _ Tryz.underlying189 hi0 hz0 hz1 rfl n (by rw[hz2];omega) (by omega) w
def NewIs (w:World) (t:Tr) (ns:List Nd) (av:List Int) (un:Nat→List Int) (us:List Us) (hs:List Int) (e:Ending) (w':World):Prop:=
 ∃(K:Ck) (F:Nat),e=.returned (ptrV K.gW)∧K.t=t∧F≤ns.length∧WkIn w ns av un K us hs∧WkS w w' ns (fun b=>wordsK un (kidsN ns ns.length b)) K F
section
variable {w:World} {ns:List Nd} {av:List Int} {un:Nat→List Int} {us:List Us} {hs:List Int}
theorem new22_any (t:Tr) (root:Nat) (hr:root<ns.length) (uA hA:Option Addr) (nu uc nh hc:Nat) (h:LT w t ns av un) (ru:Rd w 3 uA nu (recs usC us)) (uok:∀u∈us,UsOk u) (rh:Rd w 1 hA nh (ints hs)) (few:nu≤1000000∧nh≤1000000) :
  Calls Tryz.prog 110 #[.agg t.cs,.int .i64 root,.slice uA nu uc,.slice hA nh hc] w (NewIs w t ns av un us hs):=by
 have hf:=h.few;have hnl:=h.tr.nodes.nlen;have H:=AB h;have hm:t.nl≤1000000:=by omega
 have cK:=fun w h=>AB (refkids2_any t ns w h hm)
 have mb:=make_b t.nl hm;have mi:=make_i t.nl hm;have mr:=make_r t.nl hm;have HNL:=AB hnl;clear h hnl;go_enter Tryz.func110,Tryz.ntmps110;go_upto_region 1 with fail;have BT:Blk (w.alloc (.cells t.cs 25)) w.heap.size 25 t.cs:=Blk.new _ _ _;have E1:=AB ((Ext.refl w).alloc (.cells t.cs 25));generalize w.alloc (.cells t.cs 25)=w1 at *;generalize w.heap.size=gT at *;have c0:=(BT.cell 0).trans (rfl:_=some (Value.slice t.na t.nl t.nc));have c1:=(BT.cell 1).trans (rfl:_=some (Value.slice t.aa t.al t.ac));have c2:=(BT.cell 2).trans (rfl:_=some (Value.int .i64 t.view));have lT:=BT.lt;go_upto_region 2 with fail;refine wp_region_flt [(0,0),(1,1),(0,2),(1,4),(1,5),(1,6),(1,8),(1,10),(1,12),(1,14)] [7,9,11,13,15] [(2,3)] [(1,16),(2,17),(1,18)] (RNew w1 t.nl) (by kernel_rfl) (by kernel_rfl) (by kernel_rfl) (fun j v w w' h hx=>h.ext hx) ?_;simp only[AD]
 iterate 10 ((first|refine ordQA ?_|refine ordQB ?_);simp only[AC])
 refine ord_nil ?_;clear c0 c1 c2 lT;refine⟨fun j hj=>?_,?_⟩
 ·simp only[List.mem_cons,List.not_mem_nil,or_false] at hj
  rcases hj with rfl|rfl|rfl|rfl|rfl
  all_goals
   refine⟨_,rfl,rfl,fun w' hx hW=>⟨.slice (some ⟨w'.heap.size,0,none⟩) t.nl t.nl,w'.alloc (.cells (Array.replicate t.nl (zvJ _)) (tyJ _)),?_,(Ext.refl _).alloc _,_,rfl,hW.size,Blk.new _ _ _⟩⟩;have mb':=mb w';have mi':=mi w';have mr':=mr w';clear mb mi mr
   first
    |(go_simp;done)
    |(go_simp;rfl)
    |(go_simp;exact mb')
    |(go_simp;exact mi')
    |(go_simp;exact mr')
 ·refine flt_keep (fun w3 hT hW=>?_);have HW:=AB hW;clear hT hW;go_wp2_with fail
  with_reducible refine (AA (cK _ (((AA H).ext (AA E1)).ext (AA HW)).tr.nodes)).mono ?_
  rintro e w4 ⟨gK,BK,vs,rfl,RK,hx⟩;have HX:=AB hx;clear hx;go_wp2_with fail;refine⟨AA HX,?_⟩;refine flt_nil ?_;intro w5 vj hT hR;have HW5:=AB (((AA HW).trans (AA HX)).trans hT);replace RK:=RK.ext hT;obtain⟨gO,v7,lO,BO⟩:=hR 7 (by simp);obtain⟨gX,v9,lX,BX⟩:=hR 9 (by simp);obtain⟨gY,v11,lY,BY⟩:=hR 11 (by simp);obtain⟨gH,v13,lH,BH⟩:=hR 13 (by simp);obtain⟨gR,v15,lR,BR⟩:=hR 15 (by simp);clear hT hR HX HW cK mb mi mr
  show wpOrdL _ _ _ _ _ (Act.put (Act.put (Act.put (Act.put (Act.put _ (some 21) (vj 7)) (some 23) (vj 9)) (some 25) (vj 11)) (some 27) (vj 13)) (some 29) (vj 15)) _
  rw[v7,v9,v11,v13,v15];clear v7 v9 v11 v13 v15 vj;simp only[AC]
  iterate 1 ((first|refine ordQA ?_|refine ordQB ?_);simp only[AC])
  refine ord_keep ?_;go_wp2_with fail;have HE:=AB ((AA E1).trans (AA HW5));clear BT;generalize hw6:World.alloc w5 _=w6;have E6:Ext w5 w6:=by rw[←hw6];exact (Ext.refl _).alloc _
  have hgW:=AB (show w5.heap.size+1=w6.heap.size by rw[←hw6];simp);obtain⟨K,kt,kr,kK,kB,kc,kv,kuA,khA,kun,kuc,khn,khc,kW,kO,kX,kY,kH,kR,kBB⟩:∃K:Ck,K.t=t∧K.root=(root:Int)∧K.gK=gK∧K.BK=BK∧K.kc=t.nl∧K.vs=vs∧K.uA=uA∧K.hA=hA∧K.un=nu∧K.uc=uc∧K.hn=nh∧K.hc=hc∧K.gW=w5.heap.size∧K.gO=gO∧K.gX=gX∧K.gY=gY∧K.gH=gH∧K.gR=gR∧K.B=w6.heap.size:=
   ⟨⟨t,root,gK,BK,t.nl,vs,uA,hA,nu,uc,nh,hc,w5.heap.size,gO,gX,gY,gH,gR,w6.heap.size⟩,rfl,rfl,rfl,rfl,rfl,rfl,rfl,rfl,rfl,rfl,rfl,rfl,rfl,rfl,rfl,rfl,rfl,rfl,rfl⟩
  have BW:Blk w6 K.gW 191 (wkC K ns.length 0 0 0 none 0 0).toArray:=by
   rw[kW,←hw6,AA HNL];unfold wkC;rw[kt,kr,kK,kc,kuA,khA,kun,kuc,khn,khc,kO,kX,kY,kH,kR];exact Blk.new _ _ _
  rw[←kW];have hsW:(AA E1).size=(AA E1).size:=rfl;have hw1:w.heap.size≤w1.heap.size:=(AA E1).size;have hk5:w.heap.size≤w5.heap.size:=(AA HE).size;have S:WkS w w6 ns (fun b=>wordsK un (kidsN ns ns.length b)) K 0:=by
   refine⟨(AA HE).trans E6,?_,?_,?_,?_,?_,?_,?_,?_,?_,?_⟩
   ·rw[kW,kO,kX,kY,kH,kR];omega
   ·have:=BO.lt;have:=BX.lt;have:=BY.lt;have:=BH.lt;have:=BR.lt;have:=AA hgW;rw[kW,kO,kX,kY,kH,kR,kBB];omega
   ·rw[kBB];exact Nat.le_refl _
   ·exact⟨0,0,0,none,0,[],BW,own_nil _ _ _ _⟩
   ·unfold KidsB;rw[kB,kK,kv,AA HNL];exact RK.ext E6
   ·exact⟨List.replicate ns.length false,by simp,by rw[kO,AA HNL];have:=BO.ext E6;simpa[boolL,zvJ,tyJ] using this⟩
   ·exact⟨List.replicate ns.length 0,by simp,by rw[kX,AA HNL];have:=BX.ext E6;simpa[ints,zvJ,tyJ] using this⟩
   ·exact⟨List.replicate ns.length 0,by simp,by rw[kY,AA HNL];have:=BY.ext E6;simpa[ints,zvJ,tyJ] using this⟩
   ·exact⟨List.replicate ns.length 0,by simp,by rw[kH,AA HNL];have:=BH.ext E6;simpa[ints,zvJ,tyJ] using this⟩
   ·refine⟨List.replicate ns.length (.slice none 0 0),by simp,by rw[kR,AA HNL];have:=BR.ext E6;simpa[zvJ,tyJ] using this,fun i v hv=>?_⟩;have hv':=(List.mem_replicate.1 (List.mem_of_getElem? hv)).2;rw[hv'];exact⟨none,0,0,[],rfl,own_nil _ _ _ _,by simp,by omega⟩
  have I:WkIn w ns av un K us hs:=⟨by rw[kt];exact AA H,by rw[kuA,kun];exact ru,uok,by rw[khA,khn];exact rh,by rw[kun,khn];exact few⟩
  have HKt:=AB kt;clear kr kK kB kc kv kuA khA kun kuc khn khc kO kX kY kH kR kBB BW RK BO BX BY BH BR lO lX lY lH lR hw1 hk5 hsW hw6 hgW kW;refine⟨(AA HW5).trans E6,?_⟩;clear HW5 HE E6
  iterate 1 ((first|refine ordQA ?_|refine ordQB ?_);simp only[AC])
  refine ord_nil ?_;have hr':=AB hr;have KS:=AB (KeepS.refl w6);have cSd:=fun e w S he=>AB (side22_any (w:=w) (NW:=fun b=>wordsK un (kidsN ns ns.length b)) (F:=0) I root (AA hr') S e he)
  have cCt:=fun w S=>AB (contents22_any I (NW:=fun b=>wordsK un (kidsN ns ns.length b)) (fun b=>rfl) ns.length root (by omega) (AA hr') 0 w 0 (Nat.zero_le _) S)
  obtain⟨n,hn2⟩:∃n,ns.length=n:=⟨_,rfl⟩
  have HN:=AB hn2;rw[hn2] at hr hf;have hiI:(0:Int)≤(root:Int)∧(root:Int)<(n:Int):=by omega
  clear hn2 kt HNL;have HS:=AB S;obtain⟨a,m,l,fA,fc,fs,BW,OF⟩:=S.st;rw[AA HN] at BW;have c12:=(BW.cell 12).trans (rfl:_=some (Value.slice (some ⟨K.gX,0,none⟩) n n));obtain⟨lX,hlX,BX⟩:=S.xs;rw[AA HN] at hlX;obtain⟨vX,hvX⟩:∃v,lX[root]?=some v:=⟨_,AE (by omega)⟩
  have kX:=(BX.cell root).trans (show _=some (Value.int .i64 vX) by rw[List.getElem?_toArray,ints,List.getElem?_map,hvX];rfl);have qX:=BX.lt;have zX:=BX.frozen root;have lW:=BW.lt;have fW:=BW.frozen;clear OF S BX hvX;go_upto_region 3 with fail;refine wp_region_ord [(1,0),(1,1),(1,2),(0,3),(1,4),(1,5),(1,6),(2,7),(1,8),(1,9),(3,10)] 10 (fun w'=>Ext w6 w') (by kernel_rfl) (by kernel_rfl) rfl (by kernel_rfl) ((Ext.refl _).drew) ?_;simp only[AD]
  iterate 7 ((first|refine ordQA ?_|refine ordQB ?_);simp only[AC])
  refine ord_keep ?_;go_wp2_with fail
  with_reducible refine (AA (cSd 3 _ ((AA HS).step (Ext.refl w6).drew) (by simp))).mono ?_
  rintro e w7 ⟨sd,rfl,hx⟩;have HX:=AB ((Ext.refl w6).drew.trans hx);clear hx;clear lW fW BW c12 kX qX zX hlX;have S:=(AA HS).step (AA HX);replace KS:=AB ((AA KS).trans (KeepS.of (AA HX)));clear HS;obtain⟨s1,hs1⟩:∃z,IntKind.i64.wrap (-sd)=z:=⟨_,rfl⟩
  have HS:=AB S;obtain⟨a,m,l,fA,fc,fs,BW,OF⟩:=S.st;rw[AA HN] at BW;have c12:=(BW.cell 12).trans (rfl:_=some (Value.slice (some ⟨K.gX,0,none⟩) n n));obtain⟨lX,hlX,BX⟩:=S.xs;rw[AA HN] at hlX;obtain⟨vX,hvX⟩:∃v,lX[root]?=some v:=⟨_,AE (by omega)⟩
  have kX:=(BX.cell root).trans (show _=some (Value.int .i64 vX) by rw[List.getElem?_toArray,ints,List.getElem?_map,hvX];rfl);have qX:=BX.lt;have zX:=BX.frozen root;have lW:=BW.lt;have fW:=BW.frozen;clear OF S BX hvX;go_wp2_with fail;refine⟨AA HX,?_⟩
  iterate 2 ((first|refine ordQA ?_|refine ordQB ?_);simp only[AC])
  refine ord_last ?_;go_wp2_with fail;refine ord_nil ?_;clear hs1;clear lW fW BW c12 kX qX zX hlX;have S:=(AA HS).setI (q:=K.gX) (i:=root) (v:=s1) (.inl rfl);replace KS:=AB ((AA KS).trans ((AA HS).keepI (.inl rfl) root (.int .i64 s1)));clear HS HX;generalize World.setCell w7 ⟨K.gX,root,none⟩ (.int .i64 s1)=w8 at *;have HS:=AB S;obtain⟨a,m,l,fA,fc,fs,BW,OF⟩:=S.st;rw[AA HN] at BW;have c13:=(BW.cell 13).trans (rfl:_=some (Value.slice (some ⟨K.gY,0,none⟩) n n));obtain⟨lY,hlY,BY⟩:=S.ys;rw[AA HN] at hlY;obtain⟨vY,hvY⟩:∃v,lY[root]?=some v:=⟨_,AE (by omega)⟩
  have kY:=(BY.cell root).trans (show _=some (Value.int .i64 vY) by rw[List.getElem?_toArray,ints,List.getElem?_map,hvY];rfl);have qY:=BY.lt;have zY:=BY.frozen root;have lW:=BW.lt;have fW:=BW.frozen;clear OF S BY hvY;go_upto_region 4 with fail;refine wp_region_ord [(1,0),(1,1),(1,2),(0,3),(1,4),(1,5),(1,6),(2,7),(1,8),(1,9),(3,10)] 10 (fun w'=>Ext w8 w') (by kernel_rfl) (by kernel_rfl) rfl (by kernel_rfl) ((Ext.refl _).drew) ?_;simp only[AD]
  iterate 7 ((first|refine ordQA ?_|refine ordQB ?_);simp only[AC])
  refine ord_keep ?_;go_wp2_with fail
  with_reducible refine (AA (cSd 0 _ ((AA HS).step (Ext.refl w8).drew) (by simp))).mono ?_
  rintro e w9 ⟨sd,rfl,hx⟩;have HX:=AB ((Ext.refl w8).drew.trans hx);clear hx;clear lW fW BW c13 kY qY zY hlY;have S:=(AA HS).step (AA HX);replace KS:=AB ((AA KS).trans (KeepS.of (AA HX)));clear HS;obtain⟨s1,hs1⟩:∃z,IntKind.i64.wrap (-sd)=z:=⟨_,rfl⟩
  have HS:=AB S;obtain⟨a,m,l,fA,fc,fs,BW,OF⟩:=S.st;rw[AA HN] at BW;have c13:=(BW.cell 13).trans (rfl:_=some (Value.slice (some ⟨K.gY,0,none⟩) n n));obtain⟨lY,hlY,BY⟩:=S.ys;rw[AA HN] at hlY;obtain⟨vY,hvY⟩:∃v,lY[root]?=some v:=⟨_,AE (by omega)⟩
  have kY:=(BY.cell root).trans (show _=some (Value.int .i64 vY) by rw[List.getElem?_toArray,ints,List.getElem?_map,hvY];rfl);have qY:=BY.lt;have zY:=BY.frozen root;have lW:=BW.lt;have fW:=BW.frozen;clear OF S BY hvY;go_wp2_with fail;refine⟨AA HX,?_⟩
  iterate 2 ((first|refine ordQA ?_|refine ordQB ?_);simp only[AC])
  refine ord_last ?_;go_wp2_with fail;refine ord_nil ?_;clear hs1;clear lW fW BW c13 kY qY zY hlY;have S:=(AA HS).setI (q:=K.gY) (i:=root) (v:=s1) (.inr (.inl rfl));replace KS:=AB ((AA KS).trans ((AA HS).keepI (.inr (.inl rfl)) root (.int .i64 s1)));clear HS HX;generalize World.setCell w9 ⟨K.gY,root,none⟩ (.int .i64 s1)=w10 at *;go_wp2_with fail
  with_reducible refine (AA (cCt _ S)).mono ?_
  rintro e w11 ⟨rfl,⟨F2,hF2,S⟩,-⟩;have hF3:=AB (Nat.le_trans hF2 (endN_le (ns:=ns) (AA hr')));clear hF2;go_wp2_with fail;go_ret;exact⟨K,F2,rfl,AA HKt,AA hF3,I,S⟩
end
theorem us_all3:(Tryz.prog.info? 120).map (fun i=>(i.zero,i.size,i.bytes))=some (some (.agg (usC ⟨0,0,0⟩).toArray),3,24):=by kernel_rfl
theorem ct_all4:(Tryz.prog.info? 108).map (fun i=>(i.zero,i.size,i.bytes))=some (some (.agg (ctC zCt).toArray),4,32):=by kernel_rfl
theorem fg_all5:(Tryz.prog.info? 58).map (fun i=>(i.zero,i.size,i.bytes))=some (some (.agg (fgC zFg).toArray),5,56):=by kernel_rfl
theorem bool_all:(Tryz.prog.info? 4).map (fun i=>(i.zero,i.size,i.bytes))=some (some (.bool false),1,1):=by kernel_rfl
theorem make_bo (n:Nat) (hn:n≤1000000) (w:World):(Instr.makeSlice 106 (.int .i64 (n:Int)) (.int .i64 (n:Int))).run Tryz.prog w=.ok (.slice (some ⟨w.heap.size,0,none⟩) n n) (w.alloc (.cells (boolL (List.replicate n false)).toArray 4)):=by
 obtain⟨i0,hi0,hz0,hz1,hz2⟩:=info_parts bool_all;have:=make_n (P:=Tryz.prog) 106 4 i0 _ Tryz.underlying106 hi0 hz0 hz1 rfl n (by rw[hz2];omega) (by omega) w
 simpa[boolL] using this
structure PsS {α:Type} (f:α→List Value) (T:TypeId) (ok:α→Prop) (w1 w:World) (gO gB n:Nat):Prop where
 ext:Ext w1 w
 bo:∃l:List α,l.length=n∧(∀x∈l,ok x)∧Blk w gO T (recs f l).toArray
 bb:∃bl:List Bool,bl.length=n∧Blk w gB 4 (boolL bl).toArray
 lo:w1.heap.size≤gO∧w1.heap.size≤gB∧gO≠gB
section
variable {α:Type} {f:α→List Value} {T:TypeId} {ok:α→Prop} {w1 w w':World} {gO gB n k:Nat}
theorem PsS.step (h:PsS f T ok w1 w gO gB n) (hx:Ext w w'):PsS f T ok w1 w' gO gB n:=
 ⟨h.ext.trans hx,h.bo.imp fun _ q=>⟨q.1,q.2.1,q.2.2.ext hx⟩,h.bb.imp fun _ q=>⟨q.1,q.2.ext hx⟩,h.lo⟩
theorem PsS.putO (hk:∀x,(f x).length=k) (h:PsS f T ok w1 w gO gB n) {i:Nat} (hi:i<n) {x:α} (hx:ok x):PsS f T ok w1 (w.setCells gO (i*k) (f x)) gO gB n:=
 ⟨h.ext.grownBlk (gsGrown gO _ _ w) h.lo.1,h.bo.elim fun l q=>⟨l.set i x,by rw[List.length_set];exact q.1,fun y hy=>by
  rcases List.mem_or_eq_of_mem_set hy with h1|h1
  ·exact q.2.1 y h1
  ·rw[h1];exact hx,q.2.2.putRec hk (by omega) x⟩,h.bb.imp fun _ q=>⟨q.1,blk_setCells q.2 (fun e=>h.lo.2.2 e.symm) _⟩,h.lo⟩
theorem PsS.putB (h:PsS f T ok w1 w gO gB n) (i:Nat) (b:Bool):PsS f T ok w1 (w.setCell ⟨gB,i,none⟩ (.bool b)) gO gB n:=
 ⟨h.ext.grownBlk (gsCell gB i) h.lo.2.1,h.bo.imp fun _ q=>⟨q.1,q.2.1,q.2.2.far h.lo.2.2 _⟩,h.bb.elim fun l q=>⟨l.set i b,by rw[List.length_set];exact q.1,by have:=q.2.set_ i (.bool b);rw[boolL_set'] at this;exact this⟩,h.lo⟩
end
section
variable (t:Tr) (ns:List Nd) (av:List Int) (un:Nat→List Int)
def DownIs (w:World) (n:Nat) (e:Ending) (w':World):Prop:=∃(gO gB:Nat),e=.returned (.tuple #[.slice (some ⟨gO,0,none⟩) n n,.slice (some ⟨gB,0,none⟩) n n])∧PsS usC 120 UsOk w w' gO gB n
theorem down21_any (Aa Ac:Option Addr) (ca cc Bk:Nat) (cs:List Ct) (w:World) (h:LT w t ns av un) (ra:RdR w Bk Aa t.nl (kidsN ns t.nl)) (rc:Rd w 4 Ac t.nl (recs ctC cs)) (hcs:CtsOk cs) :
  Calls Tryz.prog 54 #[.agg t.cs,.slice Aa t.nl ca,.slice Ac t.nl cc] w (DownIs w t.nl):=by
 have hnl:=h.tr.nodes.nlen;have few:=h.few;have hpos:=h.ok.pos;have H:=AB h;have HRA:=AB ra;have HRC:=AB rc;have HCS:=AB hcs;have hcl:=AB (rc.recN ctC_len (by omega));have HI:=AB ct_row;have cF:=fun w h=>AB (first21_any t ns av un w h)
 have mu:=make_recs usC_len (by omega) (⟨0,0,0⟩:Us) Tryz.underlying27 us_all3 (by omega) t.nl (by omega);have mb:=make_bo t.nl (by omega);have hn0:(0:Int)<(t.nl:Int)∧(t.nl:Int)≤300:=by omega
 clear h ra rc hcs;go_enter Tryz.func54,Tryz.ntmps54;go_upto_region 3 with fail;have E0:=AB ((Ext.refl w).alloc (.cells t.cs 25));have BT0:=AB (Blk.new w 25 t.cs);have hs0:=World.size_alloc w (.cells t.cs 25);generalize w.alloc (.cells t.cs 25)=w0 at *;have P:PsS usC 120 UsOk w0 ((w0.alloc (.cells (recs usC (List.replicate t.nl ⟨0,0,0⟩)).toArray 120)).alloc (.cells (boolL (List.replicate t.nl false)).toArray 4)) w0.heap.size (w0.heap.size+1) t.nl:=
  ⟨((Ext.refl _).alloc _).alloc _,⟨_,by simp,fun x hx=>by rw[(List.mem_replicate.1 hx).2];exact us_zero,(Blk.new _ _ _).alloc _⟩,⟨_,by simp,Blk.new1 _ _ _ _⟩,by omega⟩
 generalize (w0.alloc (.cells (recs usC (List.replicate t.nl ⟨0,0,0⟩)).toArray 120)).alloc (.cells (boolL (List.replicate t.nl false)).toArray 4)=w2 at *;rw[hs0] at P;have HS0:=AB hs0;obtain⟨gT,hgT⟩:∃g,w.heap.size=g:=⟨_,rfl⟩
 have HGT:=AB hgT;rw[hgT] at P BT0 ⊢;have HBT:=AB ((AA BT0).ext P.ext);obtain⟨gO,hgO⟩:∃g,gT+1=g:=⟨_,rfl⟩
 rw[hgO] at P ⊢;obtain⟨gB,hgB⟩:∃g,gO+1=g:=⟨_,rfl⟩
 rw[hgB] at P ⊢;have HLO:=AB (show gT<w0.heap.size∧w0.heap.size≤gO by have:=AA HGT;have:=AA HS0;omega);clear hgT hgO hgB mu mb hs0;have c0:=((AA HBT).cell 0).trans (rfl:_=some (Value.slice t.na t.nl t.nc));have c1:=((AA HBT).cell 1).trans (rfl:_=some (Value.slice t.aa t.al t.ac));have c2:=((AA HBT).cell 2).trans (rfl:_=some (Value.int .i64 t.view));have lT:=(AA HBT).lt;go_wp2_with fail;clear HBT
 with_reducible refine (AA (cF _ ((AA H).ext ((AA E0).trans P.ext)))).mono ?_
 rintro e w3 ⟨⟨uw,ul,ur⟩,b0,rfl,hu,hx⟩;replace P:=P.step hx;clear hx cF c0 c1 c2 lT;obtain⟨l0,hl0,-,B0⟩:=P.bo;have HT:=AB (B0.recThere usC_len (i:=0) (by omega));clear B0;dsimp only
 iterate 13 go_step
 refine wpList_store_mid rfl 120 (.tmp 31) (.tmp 29) rfl gO (0*3) (usC ⟨uw,ul,ur⟩).toArray rfl rfl (AA HT) (usC_sz _) (all_oneCell_toArray (usC_one _)) ?_;simp only[Act.put];replace P:=P.putO usC_len (i:=0) (by omega) hu;clear HT hl0 l0;generalize World.setCells w3 gO (0*3) _=w4 at *;obtain⟨bl0,hbl0,BB0⟩:=P.bb;obtain⟨v0,hv0⟩:∃v,bl0[0]?=some v:=⟨_,AE (by omega)⟩
 have kB:=BB0.bool hv0;have lB:=BB0.lt;have fB:=BB0.frozen 0;have P5:=P.putB 0 b0;clear hv0 BB0 hbl0 P;go_upto_region 4 with fail;generalize World.setCell w4 ⟨gB,0,none⟩ (.bool b0)=w5 at *;clear kB lB fB;have HW5:=AB P5.ext;have P:=P5;clear P5;go_wp2_with fail;go_loopw [10] (fun v10 wq=>∃i:Nat,v10=.int .i64 i∧i≤t.nl∧PsS usC 120 UsOk w0 wq gO gB t.nl) (fun v10 _=>t.nl-(intOf v10).toNat)
 case atStart=>exact⟨0,rfl,by omega,P⟩
 case round=>
  clear P;obtain⟨i,rfl,hi,P⟩:=hrel;have BTr:=(AA BT0).ext P.ext;have c0:=(BTr.cell 0).trans (rfl:_=some (Value.slice t.na t.nl t.nc));have lT:=BTr.lt;by_cases hin:i<t.nl
  ·as_aux_lemma=>
   have hinI:(0:Int)≤(i:Int)∧(i:Int)<(t.nl:Int):=by omega
   obtain⟨kl,hkl⟩:∃l,kidsN ns t.nl i=l:=⟨_,rfl⟩
   have HKI:=AB (show KidsIn ns kl by rw[←hkl,←hnl];exact kids_in i);have hk300:kl.length≤300:=by rw[←hkl,←hnl];exact Nat.le_trans (kidsN_len ns ns.length i) few
   have EW:=AB (((AA E0)).trans P.ext);obtain⟨ba,oa,Ak,ck,hAa,-,lba,ca0,rk,-⟩:=(AA HRA).at_ i hin;simp only[hkl] at ca0 rk;subst hAa;have HCA:=AB ca0;have HLA:=AB lba;have HRK:=AB rk;have HP:=AB P;clear rk hkl P BTr ca0 lba;have ca0:=((AA EW).cells.1 ba _ (AA HLA)).trans (AA HCA);have lba:=Nat.lt_of_lt_of_le (AA HLA) (AA EW).size;generalize hwq:wr=wp at *;clear hwq;go_wp2_with fail;go_loopw [11,12] (fun v11 v12 wq=>∃(q:Nat) (B:Option Addr) (d:Nat) (cs2:List Ct),v12=.int .i64 q∧v11=.slice B q d∧q≤kl.length∧Hid (CtsOk cs2)∧Hid (Ext wp wq)∧wq.ownsRow wp.heap.size 108 4 (.slice B q d) q (recs ctC cs2)) (fun _ v12 _=>kl.length-(intOf v12).toNat)
   case atStart=>exact⟨0,none,0,[],rfl,rfl,by omega,AB (fun x h=>by cases h),AB (Ext.refl _),own_nil _ _ _ _⟩
   case round=>
    clear c0 ca0 lT lba;obtain⟨q,B,d,cs2,rfl,rfl,hq,HCs2,E,OC⟩:=hrel;have ca0:=(((AA EW).trans (AA E)).cells.1 ba _ (AA HLA)).trans (AA HCA);have lba:=Nat.lt_of_lt_of_le (AA HLA) ((AA EW).trans (AA E)).size;by_cases hql:q<kl.length
    ·as_aux_lemma=>
     have hqI:(0:Int)≤(q:Int)∧(q:Int)<(kl.length:Int):=by omega
     obtain⟨z,hz⟩:∃z,kl[q]?=some z:=⟨_,AE hql⟩
     obtain⟨k,rfl⟩:∃k:Nat,z=(k:Int):=⟨z.toNat,by have:=(AA HKI) z (List.mem_of_getElem? hz);omega⟩
     have hk:k<t.nl:=by have:=(AA HKI) _ (List.mem_of_getElem? hz);omega
     have hkI:(0:Int)≤(k:Int)∧(k:Int)<(t.nl:Int):=by omega
     have rkq:=(AA HRK).ext ((AA EW).trans (AA E));obtain⟨bk,ok,hAk,lk,-⟩:=rkq.at_ (by omega);subst hAk;have q1:=(rkq.cellAt hql (show (ints kl)[q]?=some (Value.int .i64 (k:Int)) by rw[ints,List.getElem?_map,hz];rfl)).2;have rr:=(AA HRC).ext ((AA EW).trans (AA E));obtain⟨x,hx⟩:∃x,cs[k]?=some x:=⟨_,AE (by have:=AA hcl;omega)⟩
     have HX:=AB ((AA HCS) x (List.mem_of_getElem? hx));obtain⟨bg,og,hAg,lbg,hmg⟩:=rr.rec_ ctC_len hx (by omega);subst hAg;have HMG:=AB hmg;clear hmg hx rr hz rkq;go_upto_region 11 with fail
     iterate 31 go_step
     refine wpList_load_midg 108 (.tmp 58) rfl bg (og+k*4) rfl rfl (ctC x) _ (fun y v hv=>(AA HMG) y v hv) Tryz.underlying108 rfl (by kernel_rfl) ?_;simp only[AC];clear q1 lk lbg HMG ca0 lba;refine Go.Great.wpList_buildSliceTo rfl 26 108 1 _ rfl _ rfl _ rfl Tryz.underlying26 (ctC x).toArray (by simp only[List.map_toArray,List.map_cons,List.map_nil];exact built_ct _) ?_;simp only[AC];have hx:Ext wr (wr.alloc (.cells (ctC x).toArray 108)):=(Ext.refl _).alloc _;have R5:Rd (wr.alloc (.cells (ctC x).toArray 108)) 4 (some ⟨wr.heap.size,0,none⟩) 1 (ctC x):=(Blk.new wr 108 (ctC x).toArray).rdk (n:=1) (k:=4) rfl;have O8:=own_ext OC hx;have E8:=(AA E).trans hx;clear hx OC E;generalize wr.alloc (.cells (ctC x).toArray 108)=w6 at *;generalize wr.heap.size=gqw6 at *;refine wpList_push (W:=wp) rfl (.tmp 49) (.tmp 60) 26 rfl wp.heap.size 108 4 Tryz.underlying26 HI (by omega) _ q (recs ctC cs2) rfl O8 _ 1 1 (ctC x) rfl R5 (ctC_one _) (by omega) E8 (Nat.le_refl _) E8.size ?_;intro A5 c5 w7 O5 E5 g5 at5;have O9:w7.ownsRow wp.heap.size 108 4 (.slice A5 (q+1) c5) (q+1) (recs ctC (cs2++[x])):=by rw[recs_append,recs_one];exact O5
     have HE5:=AB E5;have HC2:=AB (show CtsOk (cs2++[x]) from fun y hy=>by
      rcases List.mem_append.1 hy with hy|hy
      ·exact (AA HCs2) y hy
      ·rw[List.mem_singleton.1 hy];exact AA HX)
     clear R5 O5 E5 g5 at5 O8 E8 HCs2 HX;simp only[AC];go_wp2_with fail;go_roundw
     case rel=>exact⟨q+1,A5,c5,_,by go_num,rfl,by omega,HC2,HE5,O9⟩
     case measure=>simp[intOf];omega
    ·as_aux_lemma=>
     have hqI:¬(q:Int)<(kl.length:Int):=by omega
     obtain rfl:q=kl.length:=by omega
     have P:=(AA HP).step (AA E);obtain⟨us,hul,huok,BO⟩:=P.bo;obtain⟨u,hu⟩:∃u,us[i]?=some u:=⟨_,AE (by omega)⟩
     have hUk:=huok u (List.mem_of_getElem? hu);have u0:=BO.recAt usC_len hu (j:=0) (show (usC u)[0]?=some (Value.int .i64 u.w) from rfl);have u1:=BO.recAt usC_len hu (j:=1) (show (usC u)[1]?=some (Value.int .i64 u.l) from rfl);have u2:=BO.recAt usC_len hu (j:=2) (show (usC u)[2]?=some (Value.int .i64 u.r) from rfl);rw[Nat.add_zero] at u0;have lO:=BO.lt;have BTr:=(AA BT0).ext P.ext;have c0:=(BTr.cell 0).trans (rfl:_=some (Value.slice t.na t.nl t.nc));have c1:=(BTr.cell 1).trans (rfl:_=some (Value.slice t.aa t.al t.ac));have c2:=(BTr.cell 2).trans (rfl:_=some (Value.int .i64 t.view));have lT:=BTr.lt;have EW2:=AB ((AA EW).trans (AA E));have HOC:=AB (Rd.of_own OC);have HRKr:=AB ((AA HRK).ext (AA EW2));have cK:=fun w h rk rg=>AB (show Calls Tryz.prog 82 #[.agg t.cs,.int .i64 i,.agg #[.int .i64 u.w,.int .i64 u.l,.int .i64 u.r],.slice Ak kl.length ck,.slice B kl.length d] w (MainsIs w kl.length) from kids21_any t ns av un i (by omega) u Ak B kl.length ck kl.length d kl cs2 w h rk (AA HKI) hk300 rg (AA HCs2) hk300 hUk)
     have HgO:=AB (show gO<wr.drew.heap.size∧gB<wr.drew.heap.size from ⟨lO,P.bb.elim fun _ q=>q.2.lt⟩);clear BTr BO hul huok hu OC;go_upto_region 12 with fail;refine wp_region_ord [(0,0),(1,1),(1,2),(1,3),(1,4),(0,5),(1,6),(1,7),(1,8),(0,9),(1,10),(3,11),(1,12),(1,13),(1,14),(1,15),(1,16)] 11 (fun w'=>Ext wr w') (by kernel_rfl) (by kernel_rfl) rfl (by kernel_rfl) ((Ext.refl _).drew) ?_;simp only[AD]
     iterate 11 ((first|refine ordQA ?_|refine ordQB ?_);simp only[AC])
     refine ord_last ?_;go_wp2_with fail
     with_reducible refine (AA (cK _ ((AA H).ext ((AA EW2).trans (Ext.refl wr).drew)) ((AA HRKr).ext (Ext.refl wr).drew) ((AA HOC).ext (Ext.refl wr).drew))).mono ?_
     rintro e w5 ⟨A5,c5,B5,d5,us5,bl5,rfl,OU,hus,OB,hx⟩;replace P:=P.step ((Ext.refl wr).drew.trans hx);have HUS:=AB hus;clear hx cK u0 u1 u2 lO c0 c1 c2 lT hus hUk EW2 HRKr HOC ca0 lba E;generalize hBz:wr.drew.heap.size=Bz at *;go_wp2_with fail
     iterate 5 ((first|refine ordQA ?_|refine ordQB ?_);simp only[AC])
     refine ord_nil ?_;go_wp2_with fail;go_loopw [15] (fun v15 wq=>∃q:Nat,v15=.int .i64 q∧q≤kl.length∧PsS usC 120 UsOk w0 wq gO gB t.nl∧wq.ownsRow Bz 120 3 (.slice A5 kl.length c5) kl.length (recs usC us5)∧wq.ownsRow Bz 4 1 (.slice B5 kl.length d5) kl.length (boolL bl5)) (fun v15 _=>kl.length-(intOf v15).toNat)
     case atStart=>exact⟨0,rfl,by omega,P,OU,OB⟩
     case round=>
      clear P OU OB hBz;obtain⟨q,rfl,hq,P,OU,OB⟩:=hrel;have EWq:=AB ((AA E0).trans P.ext);have ca0:=((AA EWq).cells.1 ba _ (AA HLA)).trans (AA HCA);have lba:=Nat.lt_of_lt_of_le (AA HLA) (AA EWq).size;by_cases hql:q<kl.length
      ·as_aux_lemma=>
       have hqI:(0:Int)≤(q:Int)∧(q:Int)<(kl.length:Int):=by omega
       obtain⟨z,hz⟩:∃z,kl[q]?=some z:=⟨_,AE hql⟩
       obtain⟨k,rfl⟩:∃k:Nat,z=(k:Int):=⟨z.toNat,by have:=(AA HKI) z (List.mem_of_getElem? hz);omega⟩
       have hk:k<t.nl:=by have:=(AA HKI) _ (List.mem_of_getElem? hz);omega
       have hkI:(0:Int)≤(k:Int)∧(k:Int)<(t.nl:Int):=by omega
       have rkq:=(AA HRK).ext (AA EWq);obtain⟨bk,ok,hAk,lk,-⟩:=rkq.at_ (by omega);subst hAk;have q1:=(rkq.cellAt hql (show (ints kl)[q]?=some (Value.int .i64 (k:Int)) by rw[ints,List.getElem?_map,hz];rfl)).2;have ru:=Rd.of_own OU;obtain⟨x,hx⟩:∃x,us5[q]?=some x:=⟨_,AE (by have:=ru.recN usC_len (by omega);omega)⟩
       have HX:=AB ((AA HUS) x (List.mem_of_getElem? hx));obtain⟨bg,og,hAg,lbg,hmg⟩:=ru.rec_ usC_len hx (by omega);subst hAg;have m0:=hmg 0 _ (show (usC x)[0]?=some (Value.int .i64 x.w) from rfl);have m1:=hmg 1 _ (show (usC x)[1]?=some (Value.int .i64 x.l) from rfl);have m2:=hmg 2 _ (show (usC x)[2]?=some (Value.int .i64 x.r) from rfl);rw[Nat.add_zero] at m0;have HZ:=AB hz;clear hmg hx ru hz rkq;go_upto_region 16 with fail;refine wp_region_ord [(1,0),(1,1),(1,2),(1,3),(0,4),(1,5),(1,6),(0,7),(1,8),(1,9),(1,10),(0,11),(1,12),(3,13)] 13 (fun w'=>Ext wr w') (by kernel_rfl) (by kernel_rfl) rfl (by kernel_rfl) ((Ext.refl _).drew) ?_;simp only[AD]
       iterate 13 ((first|refine ordQA ?_|refine ordQB ?_);simp only[AC])
       have hS:=(Ext.refl wr).drew;have P9:=P.step hS;have OU9:=own_ext OU hS;have OB9:=own_ext OB hS;have HRK9:=AB ((AA HRK).ext ((AA EWq).trans hS));clear q1 lk m0 m1 m2 lbg ca0 lba P OU OB hS EWq;generalize wr.drew=w9 at *;obtain⟨l0,hl0,-,B0⟩:=P9.bo;have HT:=AB (B0.recThere usC_len (i:=k) (by omega));clear B0;refine ord_last ?_;refine wpList_store_mid rfl 120 (.tmp 98) (.tmp 97) rfl gO (k*3) (usC x).toArray rfl rfl (AA HT) (usC_sz _) (all_oneCell_toArray (usC_one _)) ?_;simp only[Act.put];have PA:=P9.putO usC_len hk (AA HX);have OUA:=own_grown OU9 (gsGrown gO (usC x) (k*3) w9) (own_apart OU9 (AA HgO).1);have OBA:=own_grown OB9 (gsGrown gO (usC x) (k*3) w9) (own_apart OB9 (AA HgO).1);clear HT hl0 l0 P9 OU9 OB9 HX HRK9;generalize World.setCells w9 gO (k*3) _=wA at *;go_wp2_with fail;refine ord_nil ?_;have EWA:=AB ((AA E0).trans PA.ext);have ca0:=((AA EWA).cells.1 ba _ (AA HLA)).trans (AA HCA);have lba:=Nat.lt_of_lt_of_le (AA HLA) (AA EWA).size;have rkq:=(AA HRK).ext (AA EWA);obtain⟨bk',ok',hAk,lk,-⟩:=rkq.at_ (by omega);injection hAk with hAk;injection hAk with e1 e2;subst e1 e2;have q1:=(rkq.cellAt hql (show (ints kl)[q]?=some (Value.int .i64 (k:Int)) by rw[ints,List.getElem?_map,AA HZ];rfl)).2;have rb:=Rd.of_own OBA;obtain⟨vb,hvb⟩:∃v,bl5[q]?=some v:=⟨_,AE (by have:=rb.len;rw[boolL,List.length_map] at this;omega)⟩
       obtain⟨bb,ob,hAb,lb5,-⟩:=rb.at_ (by omega);subst hAb;have qb:=(rb.cellAt hql (show (boolL bl5)[q]?=some (Value.bool vb) by rw[boolL,List.getElem?_map,hvb];rfl)).2;obtain⟨bl0,hbl0,BB0⟩:=PA.bb;obtain⟨v0,hv0⟩:∃v,bl0[k]?=some v:=⟨_,AE (by omega)⟩
       have kB:=BB0.bool hv0;have lB:=BB0.lt;have fB:=BB0.frozen k;have PB:=(PA.putB k vb).step (Ext.refl _).drew;have OUB:=own_ext (own_grown OUA (gsCell (u:=.bool vb) gB k) (own_apart OUA (AA HgO).2)) (Ext.refl _).drew;have OBB:=own_ext (own_grown OBA (gsCell (u:=.bool vb) gB k) (own_apart OBA (AA HgO).2)) (Ext.refl _).drew;have HPB:=AB PB;have HOUB:=AB OUB;have HOBB:=AB OBB;clear rkq rb hvb hv0 BB0 hbl0 PA OUA OBA PB OUB OBB EWA HZ;go_upto_region 17 with fail;refine wp_region_ord [(1,0),(1,1),(1,2),(1,3),(0,4),(1,5),(1,6),(0,7),(1,8),(1,9),(1,10),(0,11),(1,12),(3,13)] 13 (fun w'=>Ext wA w') (by kernel_rfl) (by kernel_rfl) rfl (by kernel_rfl) ((Ext.refl _).drew) ?_;simp only[AD]
       iterate 13 ((first|refine ordQA ?_|refine ordQB ?_);simp only[AC])
       refine ord_last ?_;go_wp2_with fail;refine ord_nil ?_;clear ca0 lba lk q1 lb5 qb kB lB fB;go_wp2_with fail;go_roundw
       case rel=>exact⟨q+1,by go_num,by omega,AA HPB,AA HOUB,AA HOBB⟩
       case measure=>simp[intOf];omega
      ·as_aux_lemma=>
       have hqI:¬(q:Int)<(kl.length:Int):=by omega
       go_wp2_with fail;go_roundw
       case rel=>exact⟨i+1,by go_num,by omega,P⟩
       case measure=>simp[intOf];omega
  ·as_aux_lemma=>
   have hinI:¬(i:Int)<(t.nl:Int):=by omega
   have hE:=(AA E0).trans P.ext;have hL:=AA HLO;have hw0:=(AA E0).size;go_wp2_with fail;go_ret2;exact⟨gO,gB,rfl,⟨hE,P.bo,P.bb,by omega,by have:=P.lo;omega,P.lo.2.2⟩⟩
end
section
variable (t:Tr) (ns:List Nd) (av:List Int) (un:Nat→List Int)
def UpIs (w:World) (n:Nat) (e:Ending) (w':World):Prop:=∃(gO:Nat) (z:Int) (cs:List Ct),e=.returned (.tuple #[.slice (some ⟨gO,0,none⟩) n n,.int .i64 z])∧CtsOk cs∧Rd w' 4 (some ⟨gO,0,none⟩) n (recs ctC cs)∧w.heap.size≤gO∧Ext w w'
theorem up24_any (w:World) (h:LT w t ns av un):Calls Tryz.prog 36 #[.agg t.cs] w (UpIs w t.nl):=by
 have hnl:=h.tr.nodes.nlen;have few:=h.few;have hpos:=h.ok.pos;have hws:=fun i=>h.words i
 have H:=AB h;have HI:=AB ct_row;have cKd:=fun w h=>AB (refkids_any t ns w h (by omega))
 have mu:=make_recs ctC_len (by omega) zCt Tryz.underlying26 ct_all4 (by omega) t.nl (by omega);have mb:=make_bo t.nl (by omega);have hn0:(0:Int)<(t.nl:Int)∧(t.nl:Int)≤300:=by omega
 have HWS:=AB hws;clear h hws;go_enter Tryz.func36,Tryz.ntmps36;go_upto_region 1 with fail;have E0:=AB ((Ext.refl w).alloc (.cells t.cs 25));have BT:=Blk.new w 25 t.cs;generalize w.alloc (.cells t.cs 25)=w0 at *;obtain⟨gT,hgT⟩:∃g,w.heap.size=g:=⟨_,rfl⟩
 have HGT:=AB hgT;rw[hgT] at BT ⊢;clear hgT;have c0:=(BT.cell 0).trans (rfl:_=some (Value.slice t.na t.nl t.nc));have c1:=(BT.cell 1).trans (rfl:_=some (Value.slice t.aa t.al t.ac));have c2:=(BT.cell 2).trans (rfl:_=some (Value.int .i64 t.view));have lT:=BT.lt;go_wp2_with fail
 with_reducible refine (AA (cKd _ ((AA H).ext (AA E0)).tr.nodes)).mono ?_
 rintro e w1 ⟨Aa,rfl,ra,hx⟩;replace BT:=BT.ext hx;replace E0:=AB ((AA E0).trans hx);have HRA:=AB ra;clear hx cKd c0 c1 c2 lT ra;have HBT:=AB BT;have c0:=(BT.cell 0).trans (rfl:_=some (Value.slice t.na t.nl t.nc));have lT:=BT.lt;clear BT;go_upto_region 4 with fail;have P:PsS ctC 108 CtOk w1 ((w1.alloc (.cells (recs ctC (List.replicate t.nl zCt)).toArray 108)).alloc (.cells (boolL (List.replicate t.nl false)).toArray 4)) w1.heap.size (w1.heap.size+1) t.nl:=
  ⟨((Ext.refl _).alloc _).alloc _,⟨_,by simp,fun x hx=>by rw[(List.mem_replicate.1 hx).2];exact CtOk.zero,(Blk.new _ _ _).alloc _⟩,⟨_,by simp,Blk.new1 _ _ _ _⟩,by omega⟩
 generalize (w1.alloc (.cells (recs ctC (List.replicate t.nl zCt)).toArray 108)).alloc (.cells (boolL (List.replicate t.nl false)).toArray 4)=w2 at *;obtain⟨gO,hgO⟩:∃g,w1.heap.size=g:=⟨_,rfl⟩
 have HGO:=AB hgO;rw[hgO] at P ⊢;obtain⟨gB,hgB⟩:∃g,gO+1=g:=⟨_,rfl⟩
 rw[hgB] at P ⊢;clear hgO hgB mu mb c0 lT;have c0:=(((AA HBT).ext P.ext).cell 0).trans (rfl:_=some (Value.slice t.na t.nl t.nc));have lT:=((AA HBT).ext P.ext).lt;go_upto_region 5 with fail;clear c0 lT;go_wp2_with fail;go_loopw [7] (fun v7 wq=>∃d:Nat,v7=.int .i64 ((d:Int)-1)∧d≤t.nl∧PsS ctC 108 CtOk w1 wq gO gB t.nl) (fun v7 _=>(intOf v7+1).toNat)
 case atStart=>exact⟨t.nl,rfl,by omega,P⟩
 case round=>
  clear P;obtain⟨d,rfl,hd,P⟩:=hrel
  rcases Nat.eq_zero_or_pos d with h0|h0
  ·subst h0;obtain⟨cs,hcl,hok,BO⟩:=P.bo;obtain⟨bl,hbl,BB⟩:=P.bb;have cL:=fun w rb=>AB (least24_any (some ⟨gB,0,none⟩) t.nl t.nl bl w rb (by omega))
   have RB:Rd wr 1 (some ⟨gB,0,none⟩) t.nl (boolL bl):=BB.rdk (n:=t.nl) (k:=1) (by simp[boolL,hbl]);have hE:=AB ((AA E0).trans P.ext);have hG:=AB (show w.heap.size≤gO by have:=AA HGO;have:=(AA E0).size;omega);clear P BB hbl;go_wp2_with fail
   with_reducible refine (AA (cL _ RB)).mono ?_
   rintro e w5 ⟨z,rfl,hx⟩;have HX:=AB hx;clear hx;go_wp2_with fail;go_ret2;exact⟨gO,z,cs,rfl,hok,by rw[←hcl];exact (BO.recRd ctC_len).ext (AA HX),AA hG,(AA hE).trans (AA HX)⟩
  ·obtain⟨i,rfl⟩:∃k,d=k+1:=⟨d-1,by omega⟩
   have hdI:((i+1:Nat):Int)-1=(i:Int):=by omega
   rw[hdI];have hin:i<t.nl:=by omega
   have hinI:(0:Int)≤(i:Int)∧(i:Int)<(t.nl:Int):=by omega
   obtain⟨kl,hkl⟩:∃l,kidsN ns t.nl i=l:=⟨_,rfl⟩
   have HKI:=AB (show KidsIn ns kl by rw[←hkl,←hnl];exact kids_in i);have hk300:kl.length≤300:=by rw[←hkl,←hnl];exact Nat.le_trans (kidsN_len ns ns.length i) few
   have HWK:=AB (show wordsK un kl≤4000 by rw[←hkl,←hnl];exact (AA HWS) i);obtain⟨ba,oa,Ak,ck,hAa,-,lba,ca0,rk,-⟩:=(AA HRA).at_ i hin;simp only[hkl] at ca0 rk;subst hAa;have HCA:=AB ca0;have HLA:=AB lba;have HRK:=AB rk;have EW:=AB P.ext;have HP:=AB P;clear rk hkl P ca0 lba;have ca0:=((AA EW).cells.1 ba _ (AA HLA)).trans (AA HCA);have lba:=Nat.lt_of_lt_of_le (AA HLA) (AA EW).size;generalize hwq:wr=wp at *;clear hwq;go_wp2_with fail;go_loopw [8,9] (fun v8 v9 wq=>∃(q:Nat) (B:Option Addr) (d:Nat) (cs2:List Ct),v9=.int .i64 q∧v8=.slice B q d∧q≤kl.length∧Hid (CtsOk cs2)∧Hid (Ext wp wq)∧wq.ownsRow wp.heap.size 108 4 (.slice B q d) q (recs ctC cs2)) (fun _ v9 _=>kl.length-(intOf v9).toNat)
   case atStart=>exact⟨0,none,0,[],rfl,rfl,by omega,AB (fun x h=>by cases h),AB (Ext.refl _),own_nil _ _ _ _⟩
   case round=>
    clear ca0 lba;obtain⟨q,B,d,cs2,rfl,rfl,hq,HCs2,E,OC⟩:=hrel;have ca0:=(((AA EW).trans (AA E)).cells.1 ba _ (AA HLA)).trans (AA HCA);have lba:=Nat.lt_of_lt_of_le (AA HLA) ((AA EW).trans (AA E)).size;have P:=(AA HP).step (AA E);obtain⟨cs,hcl,hok,BO⟩:=P.bo;by_cases hql:q<kl.length
    ·as_aux_lemma=>
     have hqI:(0:Int)≤(q:Int)∧(q:Int)<(kl.length:Int):=by omega
     obtain⟨z,hz⟩:∃z,kl[q]?=some z:=⟨_,AE hql⟩
     obtain⟨k,rfl⟩:∃k:Nat,z=(k:Int):=⟨z.toNat,by have:=(AA HKI) z (List.mem_of_getElem? hz);omega⟩
     have hk:k<t.nl:=by have:=(AA HKI) _ (List.mem_of_getElem? hz);omega
     have hkI:(0:Int)≤(k:Int)∧(k:Int)<(t.nl:Int):=by omega
     have rkq:=(AA HRK).ext ((AA EW).trans (AA E));obtain⟨bk,ok,hAk,lk,-⟩:=rkq.at_ (by omega);subst hAk;have q1:=(rkq.cellAt hql (show (ints kl)[q]?=some (Value.int .i64 (k:Int)) by rw[ints,List.getElem?_map,hz];rfl)).2;obtain⟨x,hx⟩:∃x,cs[k]?=some x:=⟨_,AE (by omega)⟩
     have HX:=AB (hok x (List.mem_of_getElem? hx));have HMG:=AB (fun y v (hv:(ctC x)[y]?=some v)=>BO.recAt ctC_len hx hv);have lO:=BO.lt;clear hx hz rkq BO hok hcl P;go_upto_region 11 with fail
     iterate 31 go_step
     refine wpList_load_midg 108 (.tmp 46) rfl gO (k*4) rfl rfl (ctC x) _ (fun y v hv=>(AA HMG) y v hv) Tryz.underlying108 rfl (by kernel_rfl) ?_;simp only[AC];clear q1 lk lO HMG ca0 lba;refine Go.Great.wpList_buildSliceTo rfl 26 108 1 _ rfl _ rfl _ rfl Tryz.underlying26 (ctC x).toArray (by simp only[List.map_toArray,List.map_cons,List.map_nil];exact built_ct _) ?_;simp only[AC];have hx:Ext wr (wr.alloc (.cells (ctC x).toArray 108)):=(Ext.refl _).alloc _;have R5:Rd (wr.alloc (.cells (ctC x).toArray 108)) 4 (some ⟨wr.heap.size,0,none⟩) 1 (ctC x):=(Blk.new wr 108 (ctC x).toArray).rdk (n:=1) (k:=4) rfl;have O8:=own_ext OC hx;have E8:=(AA E).trans hx;clear hx OC E;generalize wr.alloc (.cells (ctC x).toArray 108)=w6 at *;generalize wr.heap.size=gqw6 at *;refine wpList_push (W:=wp) rfl (.tmp 37) (.tmp 48) 26 rfl wp.heap.size 108 4 Tryz.underlying26 HI (by omega) _ q (recs ctC cs2) rfl O8 _ 1 1 (ctC x) rfl R5 (ctC_one _) (by omega) E8 (Nat.le_refl _) E8.size ?_;intro A5 c5 w7 O5 E5 g5 at5;have O9:w7.ownsRow wp.heap.size 108 4 (.slice A5 (q+1) c5) (q+1) (recs ctC (cs2++[x])):=by rw[recs_append,recs_one];exact O5
     have HE5:=AB E5;have HC2:=AB (show CtsOk (cs2++[x]) from fun y hy=>by
      rcases List.mem_append.1 hy with hy|hy
      ·exact (AA HCs2) y hy
      ·rw[List.mem_singleton.1 hy];exact AA HX)
     clear R5 O5 E5 g5 at5 O8 E8 HCs2 HX;simp only[AC];go_wp2_with fail;go_roundw
     case rel=>exact⟨q+1,A5,c5,_,by go_num,rfl,by omega,HC2,HE5,O9⟩
     case measure=>simp[intOf];omega
    ·as_aux_lemma=>
     have hqI:¬(q:Int)<(kl.length:Int):=by omega
     obtain rfl:q=kl.length:=by omega
     clear BO hok hcl cs;have BTr:=(AA HBT).ext P.ext;have c0:=(BTr.cell 0).trans (rfl:_=some (Value.slice t.na t.nl t.nc));have c1:=(BTr.cell 1).trans (rfl:_=some (Value.slice t.aa t.al t.ac));have c2:=(BTr.cell 2).trans (rfl:_=some (Value.int .i64 t.view));have lT:=BTr.lt;have EW2:=AB (((AA E0).trans (AA EW)).trans (AA E));have HOC:=AB (Rd.of_own OC);have HRKr:=AB ((AA HRK).ext ((AA EW).trans (AA E)));have cN:=fun w h rk rg=>AB (node17_any t ns av un i (by omega) Ak B kl.length ck kl.length d kl cs2 w h rk (AA HKI) hk300 (AA HWK) rg (AA HCs2) hk300)
     clear BTr OC;go_upto_region 12 with fail;refine wp_region_ord [(1,0),(1,1),(1,2),(1,3),(0,4),(1,5),(1,6),(1,7),(1,8),(0,9),(1,10),(3,11),(1,12),(1,13),(1,14),(1,15),(3,16),(1,17),(3,18)] 11 (fun w'=>Ext wr w') (by kernel_rfl) (by kernel_rfl) rfl (by kernel_rfl) ((Ext.refl _).drew) ?_;simp only[AD]
     iterate 11 ((first|refine ordQA ?_|refine ordQB ?_);simp only[AC])
     refine ord_last ?_;go_wp2_with fail
     with_reducible refine (AA (cN _ ((AA H).ext ((AA EW2).trans (Ext.refl wr).drew)) ((AA HRKr).ext (Ext.refl wr).drew) ((AA HOC).ext (Ext.refl wr).drew))).mono ?_
     rintro e w5 ⟨x,b5,rfl,hxo,hx⟩;replace P:=P.step ((Ext.refl wr).drew.trans hx);clear hx cN c0 c1 c2 lT EW2 HRKr HOC ca0 lba E;go_wp2_with fail
     iterate 4 ((first|refine ordQA ?_|refine ordQB ?_);simp only[AC])
     obtain⟨l0,hl0,-,B0⟩:=P.bo;have HT:=AB (B0.recThere ctC_len (i:=i) (by omega));clear B0;refine ord_last ?_;refine wpList_store_mid rfl 108 (.tmp 65) (.tmp 63) rfl gO (i*4) (ctC x).toArray rfl rfl (AA HT) (ctC_size _) (all_oneCell_toArray (ctC_one _)) ?_;simp only[Act.put];replace P:=P.putO ctC_len hin hxo;clear HT hl0 l0;generalize World.setCells w5 gO (i*4) _=w8 at *;go_wp2_with fail
     iterate 1 ((first|refine ordQA ?_|refine ordQB ?_);simp only[AC])
     obtain⟨bl0,hbl0,BB0⟩:=P.bb;obtain⟨v0,hv0⟩:∃v,bl0[i]?=some v:=⟨_,AE (by omega)⟩
     have kB:=BB0.bool hv0;have lB:=BB0.lt;have fB:=BB0.frozen i;have HPB:=AB (P.putB i b5);clear hv0 BB0 hbl0 P;refine ord_last ?_;go_wp2_with fail;refine ord_nil ?_;clear kB lB fB;go_wp2_with fail;go_roundw
     case rel=>exact⟨i,by go_num,by omega,AA HPB⟩
     case measure=>simp[intOf]<;>omega
end
end Go.Proofs.YtamldoocjjdidaaGreat
