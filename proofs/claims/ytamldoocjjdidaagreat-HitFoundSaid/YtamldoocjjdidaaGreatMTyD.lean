import Derived.Test.YtamldoocjjdidaaGreatMIsA
import Derived.SizedLaws
import Derived.Deep.Strs
namespace Go.Proofs.YtamldoocjjdidaaGreat
open Go.RowKit
set_option maxRecDepth 100000
set_option maxHeartbeats 64000000
structure TrIn (w:World) (t:Tr) (ns:List Nd) (av:List Int):Prop where
 nodes:Rd w 44 t.na t.nl (nds ns)
 advs:Rd w 1 t.aa t.al (ints av)
theorem TrIn.ext {w w':World} {t:Tr} {ns:List Nd} {av:List Int} (h:TrIn w t ns av) (hx:Ext w w'):TrIn w' t ns av:=⟨h.nodes.ext hx,h.advs.ext hx⟩
theorem TrIn.alen {w:World} {t:Tr} {ns:List Nd} {av:List Int} (h:TrIn w t ns av):av.length=t.al:=by
 have:=h.advs.len;rw[ints_len] at this;omega
def advOk (a:Int):Bool:=decide (0≤a∧a≤1099511627776)
def advV (av:List Int) (k:Nat):Bool:=if k<av.length then (match av[k]? with|some a=>advOk a|none=>true)&&advV av (k+1) else true
termination_by av.length-k
def badV (ns:List Nd) (k:Nat):Int×Int:=if k<ns.length then (if nodeV ns k=0 then badV ns (k+1) else ((k:Int),nodeV ns k)) else (0,0)
termination_by ns.length-k
def checkV (ns:List Nd) (av:List Int) (view:Int):Int×Int:=
 if 65536<ns.length∨4096<av.length then (0,7)
 else if ns.length=0∨view<0∨1099511627776<view then (0,6)
 else if advV av 0=false then (0,6)
 else badV ns 0
section
variable (t:Tr) (ns:List Nd) (av:List Int)
theorem rcheck_any (w:World) (h:TrIn w t ns av) (hm:t.nl≤1000000) (ha:t.al≤maxLen) :
  Calls Tryz.prog 35 #[.agg t.cs] w fun e w'=>e=.returned (.tuple #[.int .i64 (checkV ns av t.view).1,.int .i64 (checkV ns av t.view).2])∧Ext w w':=by
 have cn:=fun (i:Nat) (hi:i<ns.length) w h=>AB (node_any t ns i hi w h hm)
 have hl:=h.nodes.nlen;have hal:=h.alen;obtain⟨na,nl,nc,aa,al,ac,view⟩:=t;simp only at hm ha hl hal cn;unfold maxLen at ha;have HC:=AB (checkV.eq_1 ns av view);rw[hl,hal] at HC;have HL:=AB hl;have HAL:=AB hal;generalize checkV ns av view=CV at *;clear hl hal;by_cases h1:65536<nl
 ·have HV:Hid (CV=(0,7)):=AB (by rw[AA HC,if_pos (.inl h1)]);have h1I:(65536:Int)<(nl:Int):=by omega
  go_enter Tryz.func35,Tryz.ntmps35;go_wp2_with fail;go_ret2;exact⟨ret2i (by rw[AA HV]) (by rw[AA HV]),(Ext.refl _).alloc _⟩
 have h1I:¬(65536:Int)<(nl:Int):=by omega
 by_cases h2:4096<al
 ·have HV:Hid (CV=(0,7)):=AB (by rw[AA HC,if_pos (.inr h2)]);have h2I:(4096:Int)<(al:Int):=by omega
  go_enter Tryz.func35,Tryz.ntmps35;go_wp2_with fail;go_ret2;exact⟨ret2i (by rw[AA HV]) (by rw[AA HV]),(Ext.refl _).alloc _⟩
 have h2I:¬(4096:Int)<(al:Int):=by omega
 by_cases h3:nl=0
 ·have HV:Hid (CV=(0,6)):=AB (by rw[AA HC,if_neg (by omega),if_pos (.inl h3)]);have h3I:((nl:Int)==0)=true:=by simpa using h3
  have H3:=AB h3;clear h3;go_enter Tryz.func35,Tryz.ntmps35;go_wp2_with fail;go_ret2;exact⟨ret2i (by rw[AA HV]) (by rw[AA HV]),(Ext.refl _).alloc _⟩
 have h3I:((nl:Int)==0)=false:=by simpa using h3
 by_cases h4:view<0
 ·have HV:Hid (CV=(0,6)):=AB (by rw[AA HC,if_neg (by omega),if_pos (.inr (.inl h4))]);go_enter Tryz.func35,Tryz.ntmps35;go_wp2_with fail;go_ret2;exact⟨ret2i (by rw[AA HV]) (by rw[AA HV]),(Ext.refl _).alloc _⟩
 by_cases h5:1099511627776<view
 ·have HV:Hid (CV=(0,6)):=AB (by rw[AA HC,if_neg (by omega),if_pos (.inr (.inr h5))]);go_enter Tryz.func35,Tryz.ntmps35;go_wp2_with fail;go_ret2;exact⟨ret2i (by rw[AA HV]) (by rw[AA HV]),(Ext.refl _).alloc _⟩
 have HC2:Hid (CV=if advV av 0=false then (0,6) else badV ns 0):=AB (by rw[AA HC,if_neg (by omega),if_neg (by omega)]);clear HC;go_enter Tryz.func35,Tryz.ntmps35;go_wp2_with fail;have BT:Blk (w.alloc (.cells (Tr.cs ⟨na,nl,nc,aa,al,ac,view⟩) 25)) w.heap.size 25 (Tr.cs ⟨na,nl,nc,aa,al,ac,view⟩):=Blk.new _ _ _;have E0:Ext w (w.alloc (.cells (Tr.cs ⟨na,nl,nc,aa,al,ac,view⟩) 25)):=(Ext.refl _).alloc _;generalize w.alloc (.cells (Tr.cs ⟨na,nl,nc,aa,al,ac,view⟩) 25)=w0 at *;have dT:=BT.cell;have lT:=BT.lt;have hA:=(h.ext E0).advs
 go_loop [4] (fun i=>∃k:Nat,i=.int .i64 k∧k≤al∧Hid (advV av k=advV av 0)) (fun i=>al-(intOf i).toNat)
 case atStart=>exact⟨0,rfl,by omega,AB rfl⟩
 case round=>
  obtain⟨k,rfl,q1,HQ⟩:=hrel;by_cases hk:k<al
  ·obtain⟨b,off,u,rfl,hb,hu,hc⟩:=hA.get hk;have hkl:k<av.length:=by rw[AA HAL];exact hk
   have hak:=AE hkl;rw[ints_get hkl] at hu;obtain rfl:_=u:=Option.some.inj hu;have HN:=AB (fun hf:advOk (av[k])=false=>(show CV=(0,6) by rw[AA HC2,if_pos (by rw[←AA HQ,advV,if_pos hkl,hak];simp only[hf];simp)]));have HY:=AB (fun hf:advOk (av[k])=true=>(show advV av (k+1)=advV av 0 by rw[←AA HQ,advV.eq_def av k,if_pos hkl,hak];simp only[hf,Bool.true_and]));generalize (av[k])=a at *;have hkI:(0:Int)≤(k:Int)∧(k:Int)<(al:Int):=by omega
   clear hak hu HQ hkl;by_cases a1:a<0
   ·have HV:=AB (AA HN (by simp[advOk];omega));go_wp2_with fail;go_ret2;exact⟨ret2i (by rw[AA HV]) (by rw[AA HV]),E0⟩
   by_cases a2:1099511627776<a
   ·have HV:=AB (AA HN (by simp[advOk];omega));go_wp2_with fail;go_ret2;exact⟨ret2i (by rw[AA HV]) (by rw[AA HV]),E0⟩
   have HV:=AB (AA HY (by simp[advOk];omega));go_wp2_with fail
   go_round
   case rel=>exact⟨k+1,by go_num,by omega,HV⟩
   case measure=>simp[intOf];omega
  ·have HM:Hid (CV=badV ns 0):=AB (by rw[AA HC2,if_neg (by rw[←AA HQ,advV,if_neg (by rw[AA HAL];exact hk)];simp)]);have hkI:¬((k:Int)<(al:Int)):=by omega
   clear HQ HC2 q1 hA;go_wp2_with fail;clear hk hkI dT lT;go_loopw [5] (fun i wr=>∃k:Nat,i=.int .i64 k∧k≤nl∧Hid (badV ns k=badV ns 0)∧Ext w wr∧Blk wr w.heap.size 25 (Tr.cs ⟨na,nl,nc,aa,al,ac,view⟩)) (fun i _=>nl-(intOf i).toNat)
   case atStart=>exact⟨0,rfl,by omega,AB rfl,E0,BT⟩
   case round=>
    clear E0 BT;obtain⟨k,rfl,q1,HQ,E1,BT⟩:=hrel;have dT:=BT.cell;have lT:=BT.lt;by_cases hk:k<nl
    ·have hkl:k<ns.length:=by rw[AA HL];exact hk
     have c1:=cn k hkl;have HN:=AB (fun hf:¬nodeV ns k=0=>(show CV=((k:Int),nodeV ns k) by rw[AA HM,←AA HQ,badV,if_pos hkl,if_neg hf]));have HY:=AB (fun hf:nodeV ns k=0=>(show badV ns (k+1)=badV ns 0 by rw[←AA HQ,badV.eq_def ns k,if_pos hkl,if_pos hf]));generalize nodeV ns k=V at *;clear HQ cn hkl;by_cases hv:V=0
     ·have HV:=AB (AA HY hv);have hvb:(V != 0)=false:=by simpa using hv
      have HV2:=AB hv;clear hv;go_wp2_with fail;refine (AA (c1 _ (h.nodes.ext E1))).mono ?_;rintro e w2 ⟨rfl,hx⟩;go_wp2_with fail;go_roundw
      case rel=>exact⟨k+1,by go_num,by omega,HV,E1.trans hx,BT.ext hx⟩
      case measure=>simp[intOf];omega
     ·have HV:=AB (AA HN hv);have hvb:(V != 0)=true:=by simpa using hv
      go_wp2_with fail;refine (AA (c1 _ (h.nodes.ext E1))).mono ?_;rintro e w2 ⟨rfl,hx⟩;go_wp2_with fail;go_ret2;exact⟨ret2i (by rw[AA HV]) (by rw[AA HV]),E1.trans hx⟩
    ·have HV:Hid (CV=(0,0)):=AB (by rw[AA HM,←AA HQ,badV,if_neg (by rw[AA HL];exact hk)]);have hkI:¬((k:Int)<(nl:Int)):=by omega
     go_wp2_with fail;go_ret2;exact⟨ret2i (by rw[AA HV]) (by rw[AA HV]),E1⟩
end
end Go.Proofs.YtamldoocjjdidaaGreat
namespace Go.Proofs.YtamldoocjjdidaaGreat
open Go.ChangeShapes Go.WideShapes Go.ChangeAt Go.RowKit
set_option maxRecDepth 100000
set_option maxHeartbeats 64000000
theorem flat_node:flat Tryz.prog 5 67=some [.int .i64,.int .u8,.bool,.int .u8,.int .u8,.int .u8,.int .i64,.int .u8,.int .i64,.int .u8,.int .i64,.int .u8,.int .i64,.int .u8,.int .i64,.int .u8,.int .i64,.int .u8,.int .i64,.int .u8,.int .i64,.int .u8,.int .i64,.int .u8,.int .i64,.int .i64,.int .i64,.int .i64,.int .i64,.int .i64,.int .i64,.int .i64,.int .i64,.int .u8,.int .i64,.bool,.int .u8,.int .u8,.int .i64,.int .i64,.int .i64,.int .u8,.int .i64,.slice 176]:=by kernel_rfl
theorem flat_int:flat Tryz.prog 3 2=some [.int .i64]:=by kernel_rfl
theorem flat_tree:flat Tryz.prog 3 25=some [.slice 67,.slice 2,.int .i64]:=by kernel_rfl
theorem cells_node:Tryz.prog.cellsOf 67=44:=by kernel_rfl
theorem cells_int:Tryz.prog.cellsOf 2=1:=by kernel_rfl
section
variable {H:Type} {enc:TypeId×Value→H} {w:World} {base:Nat} {spare:Nat→Bool} {held:Bool}
theorem leaves_style {cs:List Value} (hl:LeavesOk enc Tryz.prog w base spare held [.int .u8,.bool,.int .u8,.int .u8,.int .u8,.int .i64,.int .u8,.int .i64,.int .u8,.int .i64,.int .u8,.int .i64,.int .u8,.int .i64,.int .u8,.int .i64,.int .u8,.int .i64,.int .u8,.int .i64,.int .u8,.int .i64,.int .u8,.int .i64,.int .i64,.int .i64,.int .i64,.int .i64,.int .i64,.int .i64,.int .i64,.int .i64,.int .u8,.int .i64,.bool,.int .u8,.int .u8,.int .i64,.int .i64,.int .i64,.int .u8,.int .i64,.slice 176] cs) :
  ∃s:Sty,cs=s.cells.toList∧s.Wf∧SliceOk enc Tryz.prog w base spare held 176 s.ua s.ul s.uc:=by
 obtain⟨v0,t0,rfl,k0,h0⟩:=hl.cons;obtain⟨v1,t1,rfl,k1,h1⟩:=h0.cons;obtain⟨v2,t2,rfl,k2,h2⟩:=h1.cons;obtain⟨v3,t3,rfl,k3,h3⟩:=h2.cons;obtain⟨v4,t4,rfl,k4,h4⟩:=h3.cons;obtain⟨v5,t5,rfl,k5,h5⟩:=h4.cons;obtain⟨v6,t6,rfl,k6,h6⟩:=h5.cons;obtain⟨v7,t7,rfl,k7,h7⟩:=h6.cons;obtain⟨v8,t8,rfl,k8,h8⟩:=h7.cons;obtain⟨v9,t9,rfl,k9,h9⟩:=h8.cons;obtain⟨v10,t10,rfl,k10,h10⟩:=h9.cons;obtain⟨v11,t11,rfl,k11,h11⟩:=h10.cons;obtain⟨v12,t12,rfl,k12,h12⟩:=h11.cons;obtain⟨v13,t13,rfl,k13,h13⟩:=h12.cons;obtain⟨v14,t14,rfl,k14,h14⟩:=h13.cons;obtain⟨v15,t15,rfl,k15,h15⟩:=h14.cons;obtain⟨v16,t16,rfl,k16,h16⟩:=h15.cons;obtain⟨v17,t17,rfl,k17,h17⟩:=h16.cons;obtain⟨v18,t18,rfl,k18,h18⟩:=h17.cons;obtain⟨v19,t19,rfl,k19,h19⟩:=h18.cons;obtain⟨v20,t20,rfl,k20,h20⟩:=h19.cons;obtain⟨v21,t21,rfl,k21,h21⟩:=h20.cons;obtain⟨v22,t22,rfl,k22,h22⟩:=h21.cons;obtain⟨v23,t23,rfl,k23,h23⟩:=h22.cons;obtain⟨v24,t24,rfl,k24,h24⟩:=h23.cons;obtain⟨v25,t25,rfl,k25,h25⟩:=h24.cons;obtain⟨v26,t26,rfl,k26,h26⟩:=h25.cons;obtain⟨v27,t27,rfl,k27,h27⟩:=h26.cons;obtain⟨v28,t28,rfl,k28,h28⟩:=h27.cons;obtain⟨v29,t29,rfl,k29,h29⟩:=h28.cons;obtain⟨v30,t30,rfl,k30,h30⟩:=h29.cons;obtain⟨v31,t31,rfl,k31,h31⟩:=h30.cons;obtain⟨v32,t32,rfl,k32,h32⟩:=h31.cons;obtain⟨v33,t33,rfl,k33,h33⟩:=h32.cons;obtain⟨v34,t34,rfl,k34,h34⟩:=h33.cons;obtain⟨v35,t35,rfl,k35,h35⟩:=h34.cons;obtain⟨v36,t36,rfl,k36,h36⟩:=h35.cons;obtain⟨v37,t37,rfl,k37,h37⟩:=h36.cons;obtain⟨v38,t38,rfl,k38,h38⟩:=h37.cons;obtain⟨v39,t39,rfl,k39,h39⟩:=h38.cons;obtain⟨v40,t40,rfl,k40,h40⟩:=h39.cons;obtain⟨v41,t41,rfl,k41,h41⟩:=h40.cons;obtain⟨v42,t42,rfl,k42,h42⟩:=h41.cons;obtain rfl:=h42.nil;obtain⟨kind,rfl,w0⟩:=k0;obtain⟨flow,rfl⟩:=k1;obtain⟨float,rfl,w2⟩:=k2;obtain⟨clear,rfl,w3⟩:=k3;obtain⟨wk,rfl,w4⟩:=k4;obtain⟨wn,rfl,w5⟩:=k5;obtain⟨hk,rfl,w6⟩:=k6;obtain⟨hn,rfl,w7⟩:=k7;obtain⟨minwk,rfl,w8⟩:=k8;obtain⟨minwn,rfl,w9⟩:=k9;obtain⟨maxwk,rfl,w10⟩:=k10;obtain⟨maxwn,rfl,w11⟩:=k11;obtain⟨minhk,rfl,w12⟩:=k12;obtain⟨minhn,rfl,w13⟩:=k13;obtain⟨maxhk,rfl,w14⟩:=k14;obtain⟨maxhn,rfl,w15⟩:=k15;obtain⟨m0k,rfl,w16⟩:=k16;obtain⟨m0n,rfl,w17⟩:=k17;obtain⟨m1k,rfl,w18⟩:=k18;obtain⟨m1n,rfl,w19⟩:=k19;obtain⟨m2k,rfl,w20⟩:=k20;obtain⟨m2n,rfl,w21⟩:=k21;obtain⟨m3k,rfl,w22⟩:=k22;obtain⟨m3n,rfl,w23⟩:=k23;obtain⟨b0,rfl,w24⟩:=k24;obtain⟨b1,rfl,w25⟩:=k25;obtain⟨b2,rfl,w26⟩:=k26;obtain⟨b3,rfl,w27⟩:=k27;obtain⟨p0,rfl,w28⟩:=k28;obtain⟨p1,rfl,w29⟩:=k29;obtain⟨p2,rfl,w30⟩:=k30;obtain⟨p3,rfl,w31⟩:=k31;obtain⟨align,rfl,w32⟩:=k32;obtain⟨line,rfl,w33⟩:=k33;obtain⟨wrap,rfl⟩:=k34;obtain⟨justify,rfl,w35⟩:=k35;obtain⟨items,rfl,w36⟩:=k36;obtain⟨order,rfl,w37⟩:=k37;obtain⟨grow,rfl,w38⟩:=k38;obtain⟨shrink,rfl,w39⟩:=k39;obtain⟨basisk,rfl,w40⟩:=k40;obtain⟨basisn,rfl,w41⟩:=k41;obtain⟨ua,ul,uc,rfl,hs⟩:=k42;exact⟨⟨kind,flow,float,clear,⟨wk,wn⟩,⟨hk,hn⟩,⟨minwk,minwn⟩,⟨maxwk,maxwn⟩,⟨minhk,minhn⟩,⟨maxhk,maxhn⟩,⟨m0k,m0n⟩,⟨m1k,m1n⟩,⟨m2k,m2n⟩,⟨m3k,m3n⟩,b0,b1,b2,b3,p0,p1,p2,p3,align,line,wrap,justify,items,order,grow,shrink,⟨basisk,basisn⟩,ua,ul,uc⟩,rfl,⟨w0,w2,w3,⟨w4,w5⟩,⟨w6,w7⟩,⟨w8,w9⟩,⟨w10,w11⟩,⟨w12,w13⟩,⟨w14,w15⟩,⟨w16,w17⟩,⟨w18,w19⟩,⟨w20,w21⟩,⟨w22,w23⟩,w24,w25,w26,w27,w28,w29,w30,w31,w32,w33,w35,w36,w37,w38,w39,⟨w40,w41⟩⟩,hs⟩
theorem ints_of:∀(xss:List (List Value)),(∀xs∈xss,∃z:Int,xs=[.int .i64 z])→∃l:List Int,xss.flatten=ints l
 |[],_=>⟨[],rfl⟩
 |xs :: t,h=>by
  obtain⟨z,h1⟩:=h xs (List.mem_cons_self ..);obtain⟨l,h2⟩:=ints_of t (fun y hy=>h y (List.mem_cons_of_mem _ hy));exact⟨z :: l,by rw[List.flatten_cons,h1,h2];rfl⟩
end
end Go.Proofs.YtamldoocjjdidaaGreat
namespace Go.Proofs.YtamldoocjjdidaaGreat
open Go.RowKit
set_option maxRecDepth 100000
set_option maxHeartbeats 64000000
theorem bad_none {ns:List Nd}:∀(d k:Nat),ns.length-k=d→(badV ns k).2=0→∀i,k≤i→i<ns.length→nodeV ns i=0
 |0,k,hd,_,i,h1,h2=>by omega
 |d+1,k,hd,h,i,h1,h2=>by
  rw[badV,if_pos (by omega)] at h;by_cases h0:nodeV ns k=0
  ·rw[if_pos h0] at h;by_cases hik:i=k
   ·rw[hik];exact h0
   ·exact bad_none d (k+1) (by omega) h i (by omega) h2
  ·rw[if_neg h0] at h;exact absurd h h0
structure TOk (ns:List Nd):Prop where
 pos:0<ns.length
 few:ns.length≤1000000
 bad:∀i,i<ns.length→nodeV ns i=0
theorem TOk.of {ns:List Nd} {av:List Int} {view:Int} (hl:ns.length≤1000000) (h:(checkV ns av view).2=0):TOk ns:=by
 unfold checkV at h
 split at h
 ·cases h
 ·split at h
  ·cases h
  ·split at h
   ·cases h
   ·exact⟨by omega,hl,fun i hi=>bad_none _ 0 rfl h i (by omega) hi⟩
section
variable {ns:List Nd}
theorem TOk.node (h:TOk ns) {i:Nat} (hi:i<ns.length):nodeE ns i ns[i]=0:=by
 rw[←nodeV_of (AE hi)];exact h.bad i hi
theorem nP_of {i:Nat} (hi:i<ns.length):nP ns i=ns[i].p:=by simp[nP,AE hi]
theorem nK_of {i:Nat} (hi:i<ns.length):nK ns i=ns[i].s.kind:=by simp[nK,AE hi]
theorem TOk.par0 (h:TOk ns):nP ns 0=-1:=by
 have hp0:=h.pos;have h0:=h.node h.pos;rw[nP_of h.pos];by_cases hp:ns[0].p=-1
 ·exact hp
 ·rw[nodeE,if_pos (.inl ⟨rfl,hp⟩)] at h0;cases h0
theorem TOk.par (h:TOk ns) {i:Nat} (h0:0<i) (hi:i<ns.length):∃p:Nat,nP ns i=p∧p<i:=by
 have h1:=h.node hi;rw[nP_of hi];by_cases hp:0≤ns[i].p∧ns[i].p<i
 ·exact⟨ns[i].p.toNat,by omega,by omega⟩
 ·rw[nodeE,if_pos (.inr ⟨h0,by omega,by omega⟩)] at h1;cases h1
theorem TOk.parN (h:TOk ns) {i:Nat} (hi:i<ns.length):Go.Proofs.YtamldoocjjdidaaGreat.parN ns i=nP ns i:=by
 unfold Go.Proofs.YtamldoocjjdidaaGreat.parN Go.Proofs.YtamldoocjjdidaaGreat.par;by_cases h0:i=0
 ·subst h0;rw[h.par0];rfl
 ·obtain⟨p,hp,hlt⟩:=h.par (by omega) hi;rw[hp,if_pos (by omega)]
theorem TOk.right (h:TOk ns) {i:Nat} (hi:i<ns.length):rightV ns[i].s=true:=by
 have h1:=h.node hi;unfold nodeE at h1;by_cases hr:rightV ns[i].s=false
 ·rw[if_pos hr] at h1
  split at h1
  ·cases h1
  ·split at h1
   ·cases h1
   ·split at h1
    ·cases h1
    ·cases h1
 ·simpa using hr
theorem TOk.kind (h:TOk ns) {i:Nat} (hi:i<ns.length):nK ns i=1∨nK ns i=2∨nK ns i=3:=by
 have h1:=h.right hi;rw[nK_of hi];unfold rightV at h1
 split at h1
 ·omega
 ·split at h1
  ·omega
  ·cases h1
theorem TOk.stands (h:TOk ns) {i:Nat} (hi:i<ns.length) :
  (if i=0 then (if ns[i].s.kind≠1∨looseV ns[i].s=true then (6:Int) else 0)
   else if nK ns ns[i].p.toNat=3 then 6
   else if nK ns ns[i].p.toNat=2 then (if ns[i].s.kind=3∨looseV ns[i].s=true then 6 else 0)
   else if 0≤firstN ns ns[i].p i (ns[i].p.toNat+1)∧((nK ns (firstN ns ns[i].p i (ns[i].p.toNat+1)).toNat==3) != (ns[i].s.kind==3))=true then 6 else 0)=0:=by
 have h1:=h.node hi;have h2:=h.right hi;unfold nodeE at h1
 split at h1
 ·cases h1
 ·split at h1
  ·cases h1
  ·split at h1
   ·cases h1
   ·rw[if_neg (by rw[h2];decide)] at h1;exact h1
theorem TOk.kind0 (h:TOk ns):nK ns 0=1∧looseV (ns[0]'h.pos).s=false:=by
 have hp0:=h.pos;have h1:=h.stands h.pos;rw[if_pos rfl] at h1;rw[nK_of h.pos];by_cases hk:ns[0].s.kind≠1∨looseV ns[0].s=true
 ·rw[if_pos hk] at h1;cases h1
 ·refine⟨by omega,?_⟩;cases hl:looseV ns[0].s
  ·rfl
  ·exact absurd (.inr hl) hk
theorem TOk.parK (h:TOk ns) {i:Nat} (h0:0<i) (hi:i<ns.length):nK ns (nP ns i).toNat≠3:=by
 have h1:=h.stands hi;rw[if_neg (by omega)] at h1;rw[nP_of hi];intro hk;rw[if_pos hk] at h1;cases h1
theorem TOk.root0 (h:TOk ns):rootN ns 0=true:=by
 rw[root_val (AE h.pos)];have:=h.kind0.1;rw[nK_of h.pos] at this;rw[if_neg (by omega)];simp
end
theorem rootI_out {ns:List Nd} {z:Int} (h:z<0∨(ns.length:Int)≤z):rootI ns z=false:=by
 unfold rootI
 split
 ·rw[rootN,List.getElem?_eq_none (by omega)]
 ·rfl
theorem rootI_nat (ns:List Nd) (k:Nat):rootI ns (k:Int)=rootN ns k:=by rw[rootI,if_pos (by omega),Int.toNat_natCast]
theorem rootI_lt {ns:List Nd} {z:Int} (h:rootI ns z=true):0≤z∧z<ns.length:=by
 by_cases hz:z<0∨(ns.length:Int)≤z
 ·rw[rootI_out hz] at h;cases h
 ·omega
def boxI (ns:List Nd) (z:Int):Bool:=decide (0≤z∧z<ns.length)&&decide (nK ns z.toNat≠3)
def isl (ns:List Nd) (i:Nat):Nat:=if rootN ns i=true then i else if 0≤parN ns i then isl ns (parN ns i).toNat else i
termination_by i
decreasing_by
 have:=parN_lt ns i;omega
theorem isl_root {ns:List Nd} {i:Nat} (h:rootN ns i=true):isl ns i=i:=by rw[isl,if_pos h]
theorem isl_up {ns:List Nd} {i p:Nat} (h:rootN ns i=false) (hp:parN ns i=p):isl ns i=isl ns p:=by
 rw[isl,if_neg (by rw[h];decide),hp,if_pos (by omega),Int.toNat_natCast]
theorem Rd.par {w:World} {A:Option Addr} {n b off:Nat} {l:List Nd} (h:Rd w 44 A n (nds l)) (ha:A=some ⟨b,off,none⟩) {k:Nat} (hk:k<l.length):w.cell? ⟨b,off+k*44,none⟩=some (.int .i64 (nP l k)):=by
 have hk':=AE hk;obtain⟨b',off',ha',hb',hc'⟩:=h.node hk';rw[ha] at ha';injection ha' with e;injection e with e1 e2;subst e1 e2;rw[nP_of hk];exact hc' 0 _ rfl
section
variable (t:Tr) (ns:List Nd)
theorem refroot_all (z:Int) (w:World) (h:Rd w 44 t.na t.nl (nds ns)) (hm:t.nl≤maxLen) :
  Calls Tryz.prog 83 #[.agg t.cs,.int .i64 z] w fun e w'=>e=.returned (.bool (rootI ns z))∧Ext w w':=by
 have hl:=h.nlen;by_cases h0:z<0
 ·rw[rootI_out (.inl h0)];clear hl h;go_enter Tryz.func83,Tryz.ntmps83;go_wp2_with fail;go_ret;exact⟨rfl,(Ext.refl _).alloc _⟩
 by_cases h1:(ns.length:Int)≤z
 ·rw[rootI_out (.inr h1)];rw[hl] at h1;clear hl h;go_enter Tryz.func83,Tryz.ntmps83;go_wp2_with fail;go_ret;exact⟨rfl,(Ext.refl _).alloc _⟩
 obtain⟨k,rfl⟩:∃k:Nat,z=k:=⟨z.toNat,by omega⟩
 rw[rootI_nat];exact refroot_in t ns k (by omega) w h hm
theorem box_any (z:Int) (w:World) (h:Rd w 44 t.na t.nl (nds ns)) (hm:t.nl≤maxLen) :
  Calls Tryz.prog 115 #[.agg t.cs,.int .i64 z] w fun e w'=>e=.returned (.bool (boxI ns z))∧Ext w w':=by
 have hl:=h.nlen;unfold maxLen at hm;by_cases h0:z<0
 ·have HB:=AB (show boxI ns z=false by rw[boxI];simp;omega);clear hl h;go_enter Tryz.func115,Tryz.ntmps115;go_wp2_with fail;go_ret;exact⟨ret1b (AA HB).symm,(Ext.refl _).alloc _⟩
 by_cases h1:(ns.length:Int)≤z
 ·have HB:=AB (show boxI ns z=false by rw[boxI];simp;omega);rw[hl] at h1;clear hl h;go_enter Tryz.func115,Tryz.ntmps115;go_wp2_with fail;go_ret;exact⟨ret1b (AA HB).symm,(Ext.refl _).alloc _⟩
 obtain⟨k,rfl⟩:∃k:Nat,z=k:=⟨z.toNat,by omega⟩
 have hk:k<ns.length:=by omega
 obtain⟨b,off,ha,hb,_⟩:=h.at_ (by omega);have c1:=h.same ha hk;have hin:(0:Int)≤(k:Int)∧(k:Int)<(t.nl:Int):=by omega
 have HB:=AB (show boxI ns k=decide (nK ns k≠3) by rw[boxI,Int.toNat_natCast];simp;omega);obtain⟨na,nl,nc,aa,al,ac,view⟩:=t;simp only at ha hm hl h hin;subst ha;generalize nK ns k=K at *;clear hl h h0 h1;by_cases k3:K=3
 ·have k3b:(K != 3)=false:=by simpa using k3
  have HB2:=AB (show boxI ns (k:Int)=false by rw[AA HB];simp[k3]);clear HB;have HK:=AB k3;clear k3;go_enter Tryz.func115,Tryz.ntmps115;go_wp2_with fail;go_ret;exact⟨ret1b (AA HB2).symm,(Ext.refl _).alloc _⟩
 ·have k3b:(K != 3)=true:=by simpa using k3
  have HB2:=AB (show boxI ns (k:Int)=true by rw[AA HB];simp[k3]);clear HB;go_enter Tryz.func115,Tryz.ntmps115;go_wp2_with fail;go_ret;exact⟨ret1b (AA HB2).symm,(Ext.refl _).alloc _⟩
theorem island_any (hT:TOk ns) (i:Nat) (hi:i<ns.length) (w:World) (h:Rd w 44 t.na t.nl (nds ns)) (hm:t.nl≤maxLen) :
  Calls Tryz.prog 116 #[.agg t.cs,.int .i64 i] w fun e w'=>e=.returned (.int .i64 (isl ns i))∧Ext w w':=by
 have hl:=h.nlen;have hm':=hm;unfold maxLen at hm';obtain⟨b,off,ha,hb,_⟩:=h.at_ (by omega);have HP:=AB (fun (k:Nat) (hk:k<ns.length)=>h.par ha hk);have HT:=AB hT;have hh:=h;have cu:=fun (k:Nat) (hk:k<ns.length) w h=>AB (refroot_in t ns k hk w h hm)
 obtain⟨na,nl,nc,aa,al,ac,view⟩:=t;simp only at ha hm hm' hl h hh cu;subst ha;clear h hT hm;go_enter Tryz.func116,Tryz.ntmps116;go_wp2_with fail;have BT:Blk (w.alloc (.cells (Tr.cs ⟨some ⟨b,off,none⟩,nl,nc,aa,al,ac,view⟩) 25)) w.heap.size 25 (Tr.cs ⟨some ⟨b,off,none⟩,nl,nc,aa,al,ac,view⟩):=Blk.new _ _ _;have E0:Ext w (w.alloc (.cells (Tr.cs ⟨some ⟨b,off,none⟩,nl,nc,aa,al,ac,view⟩) 25)):=(Ext.refl _).alloc _;generalize w.alloc (.cells (Tr.cs ⟨some ⟨b,off,none⟩,nl,nc,aa,al,ac,view⟩) 25)=w0 at *;go_loopw [1] (fun v wr=>∃k:Nat,v=.int .i64 k∧k<ns.length∧Hid (isl ns k=isl ns i)∧Ext w wr∧Blk wr w.heap.size 25 (Tr.cs ⟨some ⟨b,off,none⟩,nl,nc,aa,al,ac,view⟩)) (fun v _=>(intOf v).toNat)
 case atStart=>exact⟨i,rfl,hi,AB rfl,E0,BT⟩
 case round=>
  clear E0 BT;obtain⟨k,rfl,q1,HI,E1,BT⟩:=hrel;have c1:=BT.cell;have l1:=BT.lt;obtain⟨r,hr⟩:∃r,rootN ns k=r:=⟨_,rfl⟩
  have ck:=cu k q1;rw[hr] at ck;have HR:=AB hr;clear hr;cases r
  ·obtain⟨p,hp,hpk⟩:∃p:Nat,nP ns k=p∧p<k:=(AA HT).par (by
    rcases Nat.eq_zero_or_pos k with h0|h0
    ·have:=AA HR;rw[h0,(AA HT).root0] at this;cases this
    ·exact h0) q1
   have HI2:=AB (show isl ns p=isl ns i by rw[←AA HI,isl_up (AA HR) (((AA HT).parN q1).trans hp)]);have cp:=(AA HP) k q1;rw[hp] at cp;clear hp;have hin:(0:Int)≤(k:Int)∧(k:Int)<(nl:Int):=by omega
   go_wp2_with fail;refine (AA (ck _ (hh.ext E1))).mono ?_;rintro e w2 ⟨rfl,hx⟩;replace E1:=E1.trans hx;replace BT:=BT.ext hx;clear hx c1 l1;have c1:=BT.cell;have l1:=BT.lt;have cp2:=(E1.cells.1 b _ hb).trans cp;clear cp;go_wp2_with fail;go_roundw
   case rel=>exact⟨p,rfl,by omega,HI2,E1,BT⟩
   case measure=>simp[intOf];omega
  ·have HI2:=AB ((isl_root (AA HR)).symm.trans (AA HI));go_wp2_with fail;refine (AA (ck _ (hh.ext E1))).mono ?_;rintro e w2 ⟨rfl,hx⟩;go_wp2_with fail;go_ret;exact⟨ret1 (by rw[AA HI2]),E1.trans hx⟩
end
def sub (ns:List Nd) (i j:Nat):Bool:=decide (j=i)||bel ns (i:Int) j
theorem sub_self (ns:List Nd) (i:Nat):sub ns i i=true:=by simp[sub]
theorem bel_par {ns:List Nd} {j p:Nat} (h:parN ns j=p) (o:Nat):bel ns (o:Int) j=sub ns o p:=by
 rw[bel,h,if_pos (by omega),Int.toNat_natCast,sub]
 congr 1
 rw[Bool.eq_iff_iff];simp;omega
theorem bel_no {ns:List Nd} {j:Nat} (h:¬0≤parN ns j) (o:Int):bel ns o j=false:=by
 rw[bel,if_neg h]
theorem bel_lt {ns:List Nd} {o:Nat}:∀(j:Nat),bel ns (o:Int) j=true→o<j:=by
 intro j
 induction j using Nat.strongRecOn with
 |_ j ih=>
  intro h;by_cases h0:0≤parN ns j
  ·obtain⟨p,hp⟩:∃p:Nat,parN ns j=p:=⟨(parN ns j).toNat,by omega⟩
   have hlt:=parN_lt ns j;rw[bel_par hp,sub,Bool.or_eq_true] at h
   rcases h with h|h
   ·have:p=o:=by simpa using h
    omega
   ·have:=ih p (by omega) h;omega
  ·rw[bel_no h0] at h;cases h
theorem sub_le {ns:List Nd} {i j:Nat} (h:sub ns i j=true):i≤j:=by
 rw[sub,Bool.or_eq_true] at h
 rcases h with h|h
 ·have:j=i:=by simpa using h
  omega
 ·have:=bel_lt j h;omega
theorem sub_trans {ns:List Nd} {a b:Nat}:∀(c:Nat),sub ns a b=true→sub ns b c=true→sub ns a c=true:=by
 intro c
 induction c using Nat.strongRecOn with
 |_ c ih=>
  intro h1 h2;rw[sub,Bool.or_eq_true] at h2
  rcases h2 with h2|h2
  ·have:c=b:=by simpa using h2
   rw[this];exact h1
  ·by_cases h0:0≤parN ns c
   ·obtain⟨p,hp⟩:∃p:Nat,parN ns c=p:=⟨(parN ns c).toNat,by omega⟩
    have hlt:=parN_lt ns c;rw[bel_par hp] at h2;rw[sub,bel_par hp,ih p (by omega) h1 h2,Bool.or_true]
   ·rw[bel_no h0] at h2;cases h2
section
variable {ns:List Nd}
theorem ok_pre (h:TOk ns) {i:Nat} (h0:0<i) (hi:i<ns.length):∃p:Nat,parN ns i=p∧p<i∧sub ns p (i-1)=true:=by
 obtain⟨p,hp,hlt⟩:=h.par h0 hi;refine⟨p,(h.parN hi).trans hp,hlt,?_⟩;have h1:=h.node hi;rw[nP_of hi] at hp;rw[nodeE,hp] at h1;by_cases hs:sub ns p (i-1)=true
 ·exact hs
 ·rw[sub,Bool.or_eq_true] at hs;have hb:bel ns (p:Int) (i-1)=false:=by
   cases hb:bel ns (p:Int) (i-1)
   ·rfl
   ·exact absurd (.inr hb) hs
  have hne:¬i-1=p:=fun e=>hs (.inl (by simp[e]))
  rw[if_pos] at h1
  ·cases h1
  ·right
   refine⟨h0,by omega,?_⟩;simp[hb]
theorem ok_gap (h:TOk ns) {i k:Nat} (hk:k+1<ns.length) (hik:i≤k) (hn:sub ns i k=false):sub ns i (k+1)=false:=by
 obtain⟨p,hp,hlt,hs⟩:=ok_pre h (by omega:0<k+1) hk;rw[Nat.add_sub_cancel] at hs;cases hq:sub ns i (k+1)
 ·rfl
 ·rw[sub,bel_par hp,Bool.or_eq_true] at hq
  rcases hq with hq|hq
  ·have:k+1=i:=by simpa using hq
   omega
  ·rw[sub_trans k hq hs] at hn;cases hn
def endF (ns:List Nd) (i k:Nat):Nat:=if k<ns.length then (if sub ns i k=true then endF ns i (k+1) else k) else k
termination_by ns.length-k
def endN (ns:List Nd) (i:Nat):Nat:=endF ns i (i+1)
theorem endF_ge (ns:List Nd) (i:Nat):∀(d k:Nat),ns.length-k=d→k≤endF ns i k∧(k≤ns.length→endF ns i k≤ns.length):=by
 intro d
 induction d with
 |zero=>intro k hd;rw[endF,if_neg (by omega)];exact⟨Nat.le_refl _,fun h=>h⟩
 |succ d ih=>
  intro k hd;rw[endF,if_pos (by omega)]
  split
  ·have:=ih (k+1) (by omega);exact⟨by omega,fun _=>this.2 (by omega)⟩
  ·exact⟨Nat.le_refl _,fun h=>h⟩
theorem endN_gt (ns:List Nd) (i:Nat):i<endN ns i:=by have:=(endF_ge ns i _ (i+1) rfl).1;unfold endN;omega
theorem endN_le {i:Nat} (hi:i<ns.length):endN ns i≤ns.length:=(endF_ge ns i _ (i+1) rfl).2 (by omega)
theorem endF_in (ns:List Nd) (i:Nat):∀(d k:Nat),ns.length-k=d→∀j,k≤j→j<endF ns i k→sub ns i j=true:=by
 intro d
 induction d with
 |zero=>intro k hd j h1 h2;rw[endF,if_neg (by omega)] at h2;omega
 |succ d ih=>
  intro k hd j h1 h2;rw[endF,if_pos (by omega)] at h2
  split at h2
  ·rename_i hs
   by_cases hjk:j=k
   ·rw[hjk];exact hs
   ·exact ih (k+1) (by omega) j (by omega) h2
  ·omega
theorem endF_out (ns:List Nd) (i:Nat):∀(d k:Nat),ns.length-k=d→endF ns i k<ns.length→sub ns i (endF ns i k)=false:=by
 intro d
 induction d with
 |zero=>intro k hd h;rw[endF,if_neg (by omega)] at h;omega
 |succ d ih=>
  intro k hd h;rw[endF,if_pos (by omega)] at h ⊢
  split at h
  ·rename_i hs;rw[if_pos hs];exact ih (k+1) (by omega) h
  ·rename_i hs;rw[if_neg hs];simpa using hs
theorem ok_stretch (h:TOk ns) {i j:Nat} (hj:j<ns.length):sub ns i j=decide (i≤j∧j<endN ns i):=by
 by_cases hij:i≤j
 ·by_cases hje:j<endN ns i
  ·rw[decide_eq_true (by exact⟨hij,hje⟩)];by_cases e:j=i
   ·rw[e];exact sub_self ns i
   ·exact endF_in ns i _ (i+1) rfl j (by omega) hje
  ·rw[decide_eq_false (by omega)];have key:∀d,endN ns i+d<ns.length→sub ns i (endN ns i+d)=false:=by
    intro d
    induction d with
    |zero=>intro hd;exact endF_out ns i _ (i+1) rfl hd
    |succ d ih=>
     intro hd;have hg:=endN_gt ns i;exact ok_gap h (k:=endN ns i+d) (by omega) (by omega) (ih (by omega))
   have:=key (j-endN ns i) (by omega)
   rwa [Nat.add_sub_cancel' (by omega:endN ns i≤j)] at this
 ·rw[decide_eq_false (by omega)];cases hq:sub ns i j
  ·rfl
  ·have:=sub_le hq;omega
theorem ok_below0 (h:TOk ns) {j:Nat} (hj:j<ns.length):sub ns 0 j=true:=by
 induction j using Nat.strongRecOn with
 |_ j ih=>
  by_cases h0:j=0
  ·rw[h0];exact sub_self ns 0
  ·obtain⟨p,hp,hlt,_⟩:=ok_pre h (by omega) hj;rw[sub,bel_par hp,ih p hlt (by omega),Bool.or_true]
theorem ok_leaf (h:TOk ns) {i j:Nat} (hj:j<ns.length) (hk:nK ns i=3):bel ns (i:Int) j=false:=by
 induction j using Nat.strongRecOn with
 |_ j ih=>
  by_cases h0:j=0
  ·subst h0;exact bel_no (by have:=parN_lt ns 0;omega) _
  ·obtain⟨p,hp,hlt,_⟩:=ok_pre h (by omega) hj;rw[bel_par hp,sub,ih p hlt (by omega),Bool.or_false];have hnk:=h.parK (by omega) hj;rw[←h.parN hj,hp,Int.toNat_natCast] at hnk;have:¬p=i:=by rintro rfl;exact hnk hk
   simpa using this
theorem ok_end_kid (h:TOk ns) {i k:Nat} (hk:k<ns.length) (hp:parN ns k=i):endN ns k≤endN ns i:=by
 have hs:sub ns i k=true:=by rw[sub,bel_par hp,sub_self];simp
 have hlt:=parN_lt ns k;have h1:=ok_stretch h (i:=i) hk;rw[hs] at h1;have h1:i≤k∧k<endN ns i:=of_decide_eq_true h1.symm
 rcases Nat.lt_or_ge (endN ns i) (endN ns k) with h2|h2
 ·have h3:=endN_le hk;have h4:=ok_stretch h (i:=k) (j:=endN ns i) (by omega);rw[decide_eq_true (by omega)] at h4;have h5:=sub_trans _ hs h4;rw[ok_stretch h (by omega)] at h5;have:i≤endN ns i∧endN ns i<endN ns i:=of_decide_eq_true h5;omega
 ·exact h2
end
theorem root_box {ns:List Nd} {z:Int} (h:rootI ns z=true):boxI ns z=true:=by
 have hz:=rootI_lt h;obtain⟨k,rfl⟩:∃k:Nat,z=k:=⟨z.toNat,by omega⟩
 have hk:k<ns.length:=by omega
 rw[rootI_nat,root_val (AE hk)] at h;rw[boxI,Int.toNat_natCast,nK_of hk];by_cases h3:ns[k].s.kind=3
 ·rw[if_pos h3] at h;cases h
 ·simp[h3];omega
section
variable {ns:List Nd}
def insR (ns:List Nd) (r a b:Nat):List Int:=((List.range b).filter fun j=>decide (a≤j)&&decide (nK ns j≠3)&&decide (isl ns (parN ns j).toNat=r)).map (fun j:Nat=>(j:Int))
theorem insR_nil (r a b:Nat) (h:b≤a):insR ns r a b=[]:=by
 unfold insR;rw[List.filter_eq_nil_iff.2,List.map_nil];intro j hj;have:=List.mem_range.1 hj;simp;omega
theorem insR_succ (r a b:Nat) (h:a≤b):insR ns r a (b+1)=if nK ns b≠3∧isl ns (parN ns b).toNat=r then insR ns r a b++[(b:Int)] else insR ns r a b:=by
 unfold insR;rw[List.range_succ,List.filter_append,List.map_append];by_cases hc:nK ns b≠3∧isl ns (parN ns b).toNat=r
 ·rw[if_pos hc,List.filter_cons_of_pos (by simp[h,hc.1,hc.2])];rfl
 ·rw[if_neg hc,List.filter_cons_of_neg]
  ·simp
  ·simp only[h,decide_true,Bool.true_and,Bool.and_eq_true,decide_eq_true_eq];exact hc
theorem insR_len (r a b:Nat):(insR ns r a b).length≤b:=by
 unfold insR;rw[List.length_map];exact Nat.le_trans (List.length_filter_le _ _) (by simp)
def insN (ns:List Nd) (z:Int):List Int:=if rootI ns z=true then insR ns z.toNat 1 ns.length else []
end
theorem insN_no {ns:List Nd} {z:Int} (h:rootI ns z=false):insN ns z=[]:=by rw[insN,h];rfl
theorem insN_step {ns:List Nd} {k:Nat} (m:Nat) (h1:1≤m):insR ns k 1 (m+1)=if (decide (nK ns m≠3)&&(((isl ns (parN ns m).toNat:Nat):Int)==(k:Int)))=true then insR ns k 1 m++[(m:Int)] else insR ns k 1 m:=by
 rw[insR_succ k 1 m h1];by_cases hc:nK ns m≠3∧isl ns (parN ns m).toNat=k
 ·rw[if_pos hc,if_pos (by simp[hc.1,hc.2])]
 ·rw[if_neg hc,if_neg (by simp only[Bool.and_eq_true,decide_eq_true_eq,beq_iff_eq];omega)]
theorem box_no {ns:List Nd} {z:Int} (h:boxI ns z=false):rootI ns z=false:=by
 cases hr:rootI ns z
 ·rfl
 ·rw[root_box hr] at h;cases h
section
variable (t:Tr) (ns:List Nd)
theorem refinside_any (hT:TOk ns) (z:Int) (w:World) (h:Rd w 44 t.na t.nl (nds ns)) (hm:t.nl≤1000000) :
  Calls Tryz.prog 85 #[.agg t.cs,.int .i64 z] w (IntsNew w (insN ns z)):=by
 have hm':t.nl≤maxLen:=by unfold maxLen;omega
 obtain⟨q,hq⟩:∃q,boxI ns z=q:=⟨_,rfl⟩
 have cb:=fun w h=>AB (box_any t ns z w h hm')
 rw[hq] at cb;obtain⟨r,hr⟩:∃r,rootI ns z=r:=⟨_,rfl⟩
 have cz:=fun w h=>AB (refroot_all t ns z w h hm')
 rw[hr] at cz;cases q
 ·rw[insN_no (box_no hq)];clear hq hr cz;go_enter Tryz.func85,Tryz.ntmps85;go_wp2_with fail;refine (AA (cb _ (h.alloc _))).mono ?_;rintro e w2 ⟨rfl,hx⟩;go_wp2_with fail;go_ret;exact⟨none,0,rfl,Rd.nil _ _ _,((Ext.refl _).alloc _).trans hx,fun _ _ e=>by cases e⟩
 clear hq;cases r
 ·rw[insN_no hr];clear hr;go_enter Tryz.func85,Tryz.ntmps85;go_wp2_with fail;refine (AA (cb _ (h.alloc _))).mono ?_;rintro e w2 ⟨rfl,hx⟩;have BT:Blk w2 w.heap.size 25 t.cs:=(Blk.new _ _ _).ext hx;have E1:Ext w w2:=((Ext.refl _).alloc _).trans hx;clear hx cb;have c1:=BT.cell;have l1:=BT.lt;go_wp2_with fail;refine (AA (cz _ (h.ext E1))).mono ?_;rintro e w3 ⟨rfl,hx⟩;go_wp2_with fail;go_ret;exact⟨none,0,rfl,Rd.nil _ _ _,E1.trans hx,fun _ _ e=>by cases e⟩
 have hz:=rootI_lt hr;obtain⟨k,rfl⟩:∃k:Nat,z=k:=⟨z.toNat,by omega⟩
 have hk:k<ns.length:=by omega
 rw[rootI_nat] at hr;have HV:=AB (show insN ns (k:Int)=insR ns k 1 ns.length by rw[insN,rootI_nat,if_pos hr,Int.toNat_natCast]);have HR:=AB hr;have hl:=h.nlen;have hm2:=hm';unfold maxLen at hm2;obtain⟨b,off,ha,hb,_⟩:=h.at_ (by omega);have CB:=fun (m:Nat) w h=>AB (box_any t ns (m:Int) w h hm')
 have CI:=fun (p:Nat) (hp:p<ns.length) w h=>AB (island_any t ns hT p hp w h hm')
 obtain⟨na,nl,nc,aa,al,ac,view⟩:=t;simp only at ha hm hm' hm2 hl h cz cb CB CI;subst ha;obtain⟨i0,hi0,hz0,hz1,hz2⟩:=info_parts int_info;have HI:=AB (And.intro hi0 (And.intro hz0 (And.intro hz1 hz2)));have HL:=AB hl;have HT:=AB hT;clear hi0 hz0 hz1 hz2 hl hT hz hk hr;go_enter Tryz.func85,Tryz.ntmps85;go_wp2_with fail;refine (AA (cb _ (h.alloc _))).mono ?_;rintro e w2 ⟨rfl,hx⟩;have BT:Blk w2 w.heap.size 25 (Tr.cs ⟨some ⟨b,off,none⟩,nl,nc,aa,al,ac,view⟩):=(Blk.new _ _ _).ext hx;have E1:Ext w w2:=((Ext.refl _).alloc _).trans hx;clear hx cb;have c1:=BT.cell;have l1:=BT.lt;go_wp2_with fail;refine (AA (cz _ (h.ext E1))).mono ?_;rintro e w3 ⟨rfl,hx⟩;replace E1:=E1.trans hx;replace BT:=BT.ext hx;clear hx cz c1 l1;go_wp2_with fail;generalize hg:w.heap.size=g at *;have HG:=AB hg;clear hg;go_loopw [5,6] (fun v x wr=>∃(m:Nat) (A:Option Addr) (c:Nat) (l:List Int),x=.int .i64 m∧v=.slice A l.length c∧1≤m∧m≤nl∧Hid (insR ns k 1 m=l)∧Ext w wr∧Blk wr g 25 (Tr.cs ⟨some ⟨b,off,none⟩,nl,nc,aa,al,ac,view⟩)∧wr.ownsRow (g+1) 3 1 (.slice A l.length c) l.length (ints l)) (fun _ x _=>nl-(intOf x).toNat)
 case atStart=>exact⟨1,none,0,[],rfl,rfl,by omega,by have:=(AA HT).pos;have:=AA HL;omega,AB (insR_nil k 1 1 (Nat.le_refl _)),E1,BT,own_none _ _ _⟩
 case round=>
  clear E1 BT;obtain⟨m,A,c,l,rfl,rfl,q0,q1,HRl,E1,BT,O1⟩:=hrel;have c1:=BT.cell;have l1:=BT.lt;have hll:l.length≤m:=by rw[←AA HRl];exact insR_len k 1 m
  by_cases hmn:m<nl
  ·have hmL:m<ns.length:=by rw[AA HL];exact hmn
   have hin:(0:Int)≤(m:Int)∧(m:Int)<(nl:Int):=by omega
   have HS:=AB (insN_step (ns:=ns) (k:=k) m q0);obtain⟨p,hp,hpm⟩:=(AA HT).par (by omega:0<m) hmL;have hpN:=((AA HT).parN hmL).trans hp;have cp2:=(h.ext E1).par rfl hmL;rw[hp] at cp2;rw[hpN,Int.toNat_natCast] at HS;have cb:=CB m;have ci:=CI p (by omega);have hq:boxI ns (m:Int)=decide (nK ns m≠3):=by rw[boxI,Int.toNat_natCast];simp;omega
   rw[hq] at cb;obtain⟨q,hq2⟩:∃q,decide (nK ns m≠3)=q:=⟨_,rfl⟩
   rw[hq2] at cb HS;have hb2:b<wr.heap.size:=by have:=E1.size;have:=AA HG;omega
   clear CB CI hq hq2 hp hpN hpm;go_upto_region 7 with fail;cases q
   ·refine wp_region_ord [(0,0),(1,1),(2,2),(1,3),(0,4),(1,5),(0,6),(1,7),(1,8),(1,9),(0,10),(1,12),(3,11),(1,13),(1,14)] 11 (fun w'=>Ext wr w') (by kernel_rfl) (by kernel_rfl) rfl (by kernel_rfl) ((Ext.refl _).drew) ?_;simp only[AD]
    iterate 2 ((first|refine ordQA ?_|refine ordQB ?_);simp only[AC])
    refine ord_keep ?_;go_wp2_with fail
    with_reducible refine (AA (cb _ (h.ext (E1.trans (Ext.refl wr).drew)))).mono ?_
    rintro e w2 ⟨rfl,hx⟩;have HX:=AB ((Ext.refl wr).drew.trans hx);clear hx;go_wp2_with fail;refine⟨AA HX,?_⟩
    iterate 9 ((first|refine ordQE ?_|refine ordQF ?_|refine ordQC ?_|refine ordQD ?_);simp only[AC])
    refine ord_last ?_;go_wp2_with fail
    iterate 2 ((first|refine ordQE ?_|refine ordQF ?_|refine ordQC ?_|refine ordQD ?_);simp only[AC])
    refine ord_nil ?_;replace E1:=E1.trans (AA HX);replace BT:=BT.ext (AA HX);have O2:=own_extI O1 (AA HX);clear HX O1 c1 l1 cp2;have c1:=BT.cell;have l1:=BT.lt;have HS2:=AB (show insR ns k 1 (m+1)=l by rw[AA HS];simpa using AA HRl);go_wp2_with fail;go_roundw
    case rel=>exact⟨m+1,A,c,l,by go_num,rfl,by omega,by omega,HS2,E1,BT,O2⟩
    case measure=>simp[intOf];omega
   ·obtain⟨p37,hp37⟩:∃x,(((isl ns p:Nat):Int)==(k:Int))=x:=⟨_,rfl⟩
    have Hp37:=AB hp37;refine wp_region_ord [(0,0),(1,1),(2,2),(1,3),(0,4),(1,5),(0,6),(1,7),(1,8),(1,9),(0,10),(1,12),(3,11),(1,13),(1,14)] 11 (fun w'=>Ext wr w') (by kernel_rfl) (by kernel_rfl) rfl (by kernel_rfl) ((Ext.refl _).drew) ?_;simp only[AD]
    iterate 2 ((first|refine ordQA ?_|refine ordQB ?_);simp only[AC])
    refine ord_keep ?_;go_wp2_with fail
    with_reducible refine (AA (cb _ (h.ext (E1.trans (Ext.refl wr).drew)))).mono ?_
    rintro e w2 ⟨rfl,hx⟩;have HX:=AB ((Ext.refl wr).drew.trans hx);clear hx;go_wp2_with fail;refine⟨AA HX,?_⟩
    iterate 9 ((first|refine ordQE ?_|refine ordQF ?_|refine ordQC ?_|refine ordQD ?_);simp only[AC])
    refine ord_last ?_;go_wp2_with fail
    with_reducible refine (AA (ci _ (h.ext (E1.trans (AA HX))))).mono ?_
    rintro e w3 ⟨rfl,hx⟩;replace HX:=AB ((AA HX).trans hx);clear hx;go_wp2_with fail
    iterate 2 ((first|refine ordQE ?_|refine ordQF ?_|refine ordQC ?_|refine ordQD ?_);simp only[AC])
    refine ord_nil ?_;clear hp37;replace E1:=E1.trans (AA HX);replace BT:=BT.ext (AA HX);have O2:=own_extI O1 (AA HX);clear HX O1 c1 l1 cp2;have c1:=BT.cell;have l1:=BT.lt;have HS0:Hid (insR ns k 1 (m+1)=if p37=true then l++[(m:Int)] else l):=AB (by rw[AA HS,AA HRl,←AA Hp37];simp);cases p37
    ·have HS2:=AB ((AA HS0).trans (if_neg (by simp)));go_wp2_with fail;go_roundw
     case rel=>exact⟨m+1,A,c,l,by go_num,rfl,by omega,by omega,HS2,E1,BT,O2⟩
     case measure=>simp[intOf];omega
    ·have HS2:=AB ((AA HS0).trans (if_pos rfl));go_wp2_with (first
      |(at_builtin
        refine wpList_append_rd rfl (.tmp 39) (.tmp 41) _ rfl (g+1) 3 i0 _ 1 8 Tryz.underlying52 (AA HI).1 (AA HI).2.1 (AA HI).2.2.1 (AA HI).2.2.2 rfl (by omega) _ l.length (ints l) rfl (own_extI O2 ((Ext.refl _).alloc _)) _ 1 1 [.int .i64 (m:Int)] rfl (Rd.one _ _) (by simp[Value.oneCell']) (by simp only[maxLen];omega) (by omega) (by simp;omega) ?_;intro A4 c4 w4 own4 g4 at4;have E4:=(E1.alloc (.cells #[.int .i64 (m:Int)] 3)).grown g4 (fun j e=>by have:=(O2.lt j e).1;have:=AA HG;omega);have BT4:=(BT.alloc (.cells #[.int .i64 (m:Int)] 3)).grown g4 (fun e=>by have:=(O2.lt _ e).1;omega)))
     go_roundw
     case rel=>exact⟨m+1,A4,c4,l++[(m:Int)],by go_num,by simp,by omega,by omega,HS2,E4,BT4,by simpa[ints_append,ints] using own4⟩
     case measure=>simp[intOf];omega
  ·have hmL:m=ns.length:=by have:=AA HL;omega
   have HR2:=AB (show insN ns (k:Int)=l by rw[AA HV,←hmL];exact AA HRl);have hmI:¬((m:Int)<(nl:Int)):=by omega
   clear hmL CB CI;go_wp2_with fail;go_ret;rw[AA HR2];exact⟨A,c,rfl,Rd.of_own O1,E1,fun b off e=>by have:=own_fresh O1 b off e;have:=AA HG;omega⟩
end
def ofV (ns:List Nd) (i:Nat):Int:=if nK ns i=3 then -1 else (isl ns i:Int)
def ofN (ns:List Nd):List Int:=(List.range ns.length).map (ofV ns)
theorem ofN_len (ns:List Nd):(ofN ns).length=ns.length:=by simp[ofN]
section
variable {ns:List Nd}
theorem kids_mem {n p:Nat} {x:Int}:x∈kidsN ns n p↔∃c:Nat,x=c∧c<n∧parN ns c=p:=by
 simp only[kidsN,List.mem_map,List.mem_filter,List.mem_range]
 constructor
 ·rintro⟨c,⟨h1,h2⟩,rfl⟩;exact⟨c,rfl,h1,by simpa using h2⟩
 ·rintro⟨c,rfl,h1,h2⟩;exact⟨c,⟨h1,by simpa using h2⟩,rfl⟩
theorem bel_kids {i:Nat}:∀(j:Nat),bel ns (i:Int) j=true→∃c:Nat,c≤j∧parN ns c=i∧sub ns c j=true:=by
 intro j
 induction j using Nat.strongRecOn with
 |_ j ih=>
  intro h;by_cases h0:0≤parN ns j
  ·obtain⟨p,hp⟩:∃p:Nat,parN ns j=p:=⟨(parN ns j).toNat,by omega⟩
   have hlt:=parN_lt ns j;rw[bel_par hp,sub,Bool.or_eq_true] at h
   rcases h with h|h
   ·have e:p=i:=by simpa using h
    exact⟨j,Nat.le_refl _,by omega,sub_self ns j⟩
   ·obtain⟨c,h1,h2,h3⟩:=ih p (by omega) h;exact⟨c,by omega,h2,by rw[sub,bel_par hp,h3,Bool.or_true]⟩
  ·rw[bel_no h0] at h;cases h
theorem kid_bel {c i j:Nat} (hc:parN ns c=i) (h:sub ns c j=true):bel ns (i:Int) j=true:=by
 rw[sub,Bool.or_eq_true] at h
 rcases h with h|h
 ·have e:j=c:=by simpa using h
  rw[e,bel_par hc,sub_self]
 ·have h1:sub ns i c=true:=by rw[sub,bel_par hc,sub_self,Bool.or_true]
  have h2:sub ns c j=true:=by rw[sub,h,Bool.or_true]
  have h3:=sub_trans j h1 h2;rw[sub,Bool.or_eq_true] at h3
  rcases h3 with h3|h3
  ·have e:j=i:=by simpa using h3
   have:=bel_lt j h;have:=parN_lt ns c;omega
  ·exact h3
def At (ns:List Nd) (L:List Int) (S:Nat→Bool) (L':List Int):Prop:=L'.length=L.length∧∀j,j<L.length→L'[j]?=if S j=true∧nK ns j≠3 then some (isl ns j:Int) else L[j]?
theorem At.none (L:List Int) {S:Nat→Bool} (hS:∀j,j<L.length→S j=true→nK ns j=3):At ns L S L:=⟨rfl,fun j hj=>by
 by_cases h:S j=true∧nK ns j≠3
 ·exact absurd (hS j hj h.1) h.2
 ·rw[if_neg h]⟩
theorem At.one {L:List Int} {i:Nat} (hi:i<L.length) (hk:nK ns i≠3):At ns L (fun j=>decide (j=i)) (L.set i (isl ns i:Int)):=by
 refine⟨by simp,fun j hj=>?_⟩;by_cases h:j=i
 ·subst h;simp[hk,hj]
 ·rw[if_neg (by simp[h]),List.getElem?_set_ne (fun e=>h e.symm)]
theorem At.then {L L' L'':List Int} {S S' S'':Nat→Bool} (h:At ns L S L') (h':At ns L' S' L'') (hS:∀j,j<L.length→S'' j=(S j||S' j)):At ns L S'' L'':=by
 refine⟨h'.1.trans h.1,fun j hj=>?_⟩;rw[h'.2 j (by rw[h.1];exact hj),h.2 j hj,hS j hj];by_cases h3:nK ns j=3
 ·simp[h3]
 ·cases S j<;>cases S' j<;>simp[h3]
theorem At.congr {L L':List Int} {S S':Nat→Bool} (h:At ns L S L') (hS:∀j,j<L.length→S' j=S j):At ns L S' L':=
 ⟨h.1,fun j hj=>by rw[h.2 j hj,hS j hj]⟩
def upTo (ns:List Nd) (i:Nat) (l:List Int) (j:Nat):Bool:=decide (j=i)||l.any (fun c=>sub ns c.toNat j)
theorem upTo_nil (i j:Nat):upTo ns i [] j=decide (j=i):=by simp[upTo]
theorem upTo_snoc (i j c:Nat) (l:List Int):upTo ns i (l++[(c:Int)]) j=(upTo ns i l j||sub ns c j):=by
 simp[upTo,Bool.or_assoc]
theorem upTo_all {i j:Nat} (hj:j<ns.length):upTo ns i (kidsN ns ns.length i) j=sub ns i j:=by
 rw[upTo,sub]
 congr 1
 rw[Bool.eq_iff_iff,List.any_eq_true]
 constructor
 ·rintro⟨x,hx,hs⟩;obtain⟨c,rfl,h1,h2⟩:=kids_mem.1 hx;rw[Int.toNat_natCast] at hs;exact kid_bel h2 hs
 ·intro h;obtain⟨c,h1,h2,h3⟩:=bel_kids j h;exact⟨c,kids_mem.2 ⟨c,rfl,by omega,h2⟩,by rw[Int.toNat_natCast];exact h3⟩
theorem At.all (h:TOk ns) {L:List Int} (hA:At ns (List.replicate ns.length (-1)) (sub ns 0) L):L=ofN ns:=by
 obtain⟨hl,hA⟩:=hA;rw[List.length_replicate] at hl hA;refine List.ext_getElem? fun j=>?_
 by_cases hj:j<ns.length
 ·rw[hA j hj,ok_below0 h hj,ofN,List.getElem?_map,List.getElem?_range hj];by_cases h3:nK ns j=3
  ·simp[h3,ofV,hj]
  ·simp[h3,ofV]
 ·rw[List.getElem?_eq_none (by omega),List.getElem?_eq_none (by rw[ofN_len];omega)]
end
def Agr (ns ms:List Nd) (m:Nat):Prop:=∀i,i<m→ns[i]?=ms[i]?
section
variable {ns ms:List Nd} {m:Nat}
theorem Agr.nP (h:Agr ns ms m) {i:Nat} (hi:i<m):nP ns i=nP ms i:=by unfold Go.Proofs.YtamldoocjjdidaaGreat.nP;rw[h i hi]
theorem Agr.nK (h:Agr ns ms m) {i:Nat} (hi:i<m):nK ns i=nK ms i:=by unfold Go.Proofs.YtamldoocjjdidaaGreat.nK;rw[h i hi]
theorem Agr.parN (h:Agr ns ms m) {i:Nat} (hi:i<m):parN ns i=parN ms i:=by unfold Go.Proofs.YtamldoocjjdidaaGreat.parN;rw[h.nP hi]
theorem Agr.dep (h:Agr ns ms m) {i:Nat} (hi:i<m):dep ns i=dep ms i:=by
 induction i using Nat.strongRecOn with
 |_ i ih=>
  rw[dep_eq,dep_eq,h.parN hi];unfold depI
  split
  ·rw[ih _ (by have:=parN_lt ms i;omega) (by have:=parN_lt ms i;omega)]
  ·rfl
theorem Agr.bel (h:Agr ns ms m) (o:Int) {i:Nat} (hi:i<m):bel ns o i=bel ms o i:=by
 induction i using Nat.strongRecOn with
 |_ i ih=>
  rw[bel_eq,bel_eq,h.parN hi];unfold belI
  split
  ·rw[ih _ (by have:=parN_lt ms i;omega) (by have:=parN_lt ms i;omega)]
  ·rfl
theorem Agr.first (h:Agr ns ms m) (p:Int) {i:Nat} (hi:i≤m):∀(d k:Nat),i-k=d→firstN ns p i k=firstN ms p i k:=by
 intro d
 induction d with
 |zero=>intro k hd;rw[firstN.eq_def ns p i k,if_neg (by omega),firstN.eq_def ms p i k,if_neg (by omega)]
 |succ d ih=>
  intro k hd;rw[firstN.eq_def ns p i k,if_pos (show k<i by omega),firstN.eq_def ms p i k,if_pos (show k<i by omega),h.parN (show k<m by omega),ih (k+1) (by omega)]
theorem Agr.nodeE (h:Agr ns ms m) {i:Nat} (hi:i<m) (n:Nd):nodeE ns i n=nodeE ms i n:=by
 unfold Go.Proofs.YtamldoocjjdidaaGreat.nodeE;rw[h.dep hi,h.bel n.p (show i-1<m by omega)]
 split
 ·rfl
 ·rename_i h1
  by_cases i0:i=0
  ·simp only[i0,if_true]
  ·have hp:0≤n.p∧n.p<i:=by omega
   rw[h.nK (show n.p.toNat<m by omega),h.first n.p (Nat.le_of_lt hi) _ _ rfl];have hf:=firstN_at ms n.p i (n.p.toNat+1);by_cases h0:0≤firstN ms n.p i (n.p.toNat+1)
   ·rw[h.nK (show (firstN ms n.p i (n.p.toNat+1)).toNat<m by
     rcases hf with hf|⟨q,hf,_,hq⟩<;>omega)]
   ·simp[h0]
theorem Agr.nodeV (h:Agr ns ms m) {i:Nat} (hi:i<m):nodeV ns i=nodeV ms i:=by
 unfold Go.Proofs.YtamldoocjjdidaaGreat.nodeV;rw[h i hi]
 split
 ·exact h.nodeE hi _
 ·rfl
theorem agr_take (ns:List Nd) (k:Nat):Agr (ns.take k) ns k:=fun i hi=>by rw[List.getElem?_take,if_pos hi]
theorem TOk.take (h:TOk ns) {k:Nat} (h0:0<k) (hk:k≤ns.length):TOk (ns.take k):=by
 have hl:(ns.take k).length=k:=by simp;omega
 exact⟨by omega,by have:=h.few;omega,fun i hi=>by rw[(agr_take ns k).nodeV (by omega)];exact h.bad i (by omega)⟩
end
def wholeV (ns:List Nd) (av:List Int) (view:Int):Int:=
 if 65536<ns.length∨4096<av.length then 7
 else if ns.length=0∨view<0∨1099511627776<view then 6
 else if advV av 0=false then 6 else 0
theorem check_whole (ns:List Nd) (av:List Int) (view:Int):checkV ns av view=if wholeV ns av view=0 then badV ns 0 else (0,wholeV ns av view):=by
 unfold checkV wholeV
 split
 ·rfl
 ·split
  ·rfl
  ·split
   ·rfl
   ·rfl
section
variable (t:Tr) (ns:List Nd) (av:List Int)
theorem whole_any (w:World) (h:TrIn w t ns av) (hm:t.nl≤1000000) (ha:t.al≤maxLen) :
  Calls Tryz.prog 58 #[.agg t.cs] w fun e w'=>e=.returned (.int .i64 (wholeV ns av t.view))∧Ext w w':=by
 have hl:=h.nodes.nlen;have hal:=h.alen;obtain⟨na,nl,nc,aa,al,ac,view⟩:=t;simp only at hm ha hl hal;unfold maxLen at ha;have HC:=AB (wholeV.eq_1 ns av view);rw[hl,hal] at HC;have HL:=AB hl;have HAL:=AB hal;generalize wholeV ns av view=CV at *;clear hl hal;by_cases h1:65536<nl
 ·have HV:Hid (CV=7):=AB (by rw[AA HC,if_pos (.inl h1)]);have h1I:(65536:Int)<(nl:Int):=by omega
  go_enter Tryz.func58,Tryz.ntmps58;go_wp2_with fail;go_ret;exact⟨ret1 (by rw[AA HV]),(Ext.refl _).alloc _⟩
 have h1I:¬(65536:Int)<(nl:Int):=by omega
 by_cases h2:4096<al
 ·have HV:Hid (CV=7):=AB (by rw[AA HC,if_pos (.inr h2)]);have h2I:(4096:Int)<(al:Int):=by omega
  go_enter Tryz.func58,Tryz.ntmps58;go_wp2_with fail;go_ret;exact⟨ret1 (by rw[AA HV]),(Ext.refl _).alloc _⟩
 have h2I:¬(4096:Int)<(al:Int):=by omega
 by_cases h3:nl=0
 ·have HV:Hid (CV=6):=AB (by rw[AA HC,if_neg (by omega),if_pos (.inl h3)]);have h3I:((nl:Int)==0)=true:=by simpa using h3
  have H3:=AB h3;clear h3;go_enter Tryz.func58,Tryz.ntmps58;go_wp2_with fail;go_ret;exact⟨ret1 (by rw[AA HV]),(Ext.refl _).alloc _⟩
 have h3I:((nl:Int)==0)=false:=by simpa using h3
 by_cases h4:view<0
 ·have HV:Hid (CV=6):=AB (by rw[AA HC,if_neg (by omega),if_pos (.inr (.inl h4))]);go_enter Tryz.func58,Tryz.ntmps58;go_wp2_with fail;go_ret;exact⟨ret1 (by rw[AA HV]),(Ext.refl _).alloc _⟩
 by_cases h5:1099511627776<view
 ·have HV:Hid (CV=6):=AB (by rw[AA HC,if_neg (by omega),if_pos (.inr (.inr h5))]);go_enter Tryz.func58,Tryz.ntmps58;go_wp2_with fail;go_ret;exact⟨ret1 (by rw[AA HV]),(Ext.refl _).alloc _⟩
 have HC2:Hid (CV=if advV av 0=false then 6 else 0):=AB (by rw[AA HC,if_neg (by omega),if_neg (by omega)]);clear HC;go_enter Tryz.func58,Tryz.ntmps58;go_wp2_with fail;have BT:Blk (w.alloc (.cells (Tr.cs ⟨na,nl,nc,aa,al,ac,view⟩) 25)) w.heap.size 25 (Tr.cs ⟨na,nl,nc,aa,al,ac,view⟩):=Blk.new _ _ _;have E0:Ext w (w.alloc (.cells (Tr.cs ⟨na,nl,nc,aa,al,ac,view⟩) 25)):=(Ext.refl _).alloc _;generalize w.alloc (.cells (Tr.cs ⟨na,nl,nc,aa,al,ac,view⟩) 25)=w0 at *;have dT:=BT.cell;have lT:=BT.lt;have hA:=(h.ext E0).advs
 go_loop [32] (fun i=>∃k:Nat,i=.int .i64 k∧k≤al∧Hid (advV av k=advV av 0)) (fun i=>al-(intOf i).toNat)
 case atStart=>exact⟨0,rfl,by omega,AB rfl⟩
 case round=>
  obtain⟨k,rfl,q1,HQ⟩:=hrel;by_cases hk:k<al
  ·obtain⟨b,off,u,rfl,hb,hu,hc⟩:=hA.get hk;have hkl:k<av.length:=by rw[AA HAL];exact hk
   have hak:=AE hkl;rw[ints_get hkl] at hu;obtain rfl:_=u:=Option.some.inj hu;have HN:=AB (fun hf:advOk (av[k])=false=>(show CV=6 by rw[AA HC2,if_pos (by rw[←AA HQ,advV,if_pos hkl,hak];simp only[hf];simp)]));have HY:=AB (fun hf:advOk (av[k])=true=>(show advV av (k+1)=advV av 0 by rw[←AA HQ,advV.eq_def av k,if_pos hkl,hak];simp only[hf,Bool.true_and]));generalize (av[k])=a at *;have hkI:(0:Int)≤(k:Int)∧(k:Int)<(al:Int):=by omega
   clear hak hu HQ hkl;by_cases a1:a<0
   ·have HV:=AB (AA HN (by simp[advOk];omega));go_wp2_with fail;go_ret;exact⟨ret1 (by rw[AA HV]),E0⟩
   by_cases a2:1099511627776<a
   ·have HV:=AB (AA HN (by simp[advOk];omega));go_wp2_with fail;go_ret;exact⟨ret1 (by rw[AA HV]),E0⟩
   have HV:=AB (AA HY (by simp[advOk];omega));go_wp2_with fail
   go_round
   case rel=>exact⟨k+1,by go_num,by omega,HV⟩
   case measure=>simp[intOf];omega
  ·have HM:Hid (CV=0):=AB (by rw[AA HC2,if_neg (by rw[←AA HQ,advV,if_neg (by rw[AA HAL];exact hk)];simp)]);have hkI:¬((k:Int)<(al:Int)):=by omega
   clear HQ HC2 q1 hA;go_wp2_with fail;go_ret;exact⟨ret1 (by rw[AA HM]),E0⟩
end
def stB (ns:List Nd) (i:Nat):Bool:=match ns[i]? with
 |none=>false
 |some n=>if i=0 then ((n.s.kind==1)&&!looseV n.s) else if nK ns n.p.toNat=2 then ((n.s.kind != 3)&&!looseV n.s) else if nK ns n.p.toNat=1 then ((n.s.kind==3)==(nK ns (n.p.toNat+1)==3)) else false
theorem stB_of {ns:List Nd} {i:Nat} {n:Nd} (h:ns[i]?=some n):stB ns i=if i=0 then ((n.s.kind==1)&&!looseV n.s) else if nK ns n.p.toNat=2 then ((n.s.kind != 3)&&!looseV n.s) else if nK ns n.p.toNat=1 then ((n.s.kind==3)==(nK ns (n.p.toNat+1)==3)) else false:=by rw[stB,h]
section
variable (t:Tr) (ns:List Nd)
theorem stands_any (i:Nat) (hi:i<ns.length) (hp:i=0∨∃p:Nat,nP ns i=p∧p<i) (w:World) (h:Rd w 44 t.na t.nl (nds ns)) (hm:t.nl≤1000000) :
  Calls Tryz.prog 60 #[.agg t.cs,.int .i64 i] w fun e w'=>e=.returned (.bool (stB ns i))∧Ext w w':=by
 have hl:=h.nlen;have hi':=AE hi;have HR:=stB_of hi';obtain⟨b,off,ha,hb,hc⟩:=h.node hi';have c0:=hc 1 _ rfl;have c2:=hc 3 _ rfl;have c3:=hc 4 _ rfl;have cP:=hc 0 _ rfl;have hkk:=fun (k:Nat) (hk:k<ns.length)=>h.same ha hk
 rw[nP_of hi] at hp;generalize ns[i]=N at *;obtain⟨P,S⟩:=N;obtain⟨K0,FT,CL,hK0,hFT,hCL⟩:∃K0 FT CL,S.kind=K0∧S.float=FT∧S.clear=CL:=⟨_,_,_,rfl,rfl,rfl⟩
 have hlo:looseV S=((FT != 0)||(CL != 0)):=by rw[looseV,hFT,hCL]
 simp only at HR c0 c2 c3 cP hp;rw[hK0,hlo] at HR;rw[hK0] at c0;rw[hFT] at c2;rw[hCL] at c3;obtain⟨na,nl,nc,aa,al,ac,view⟩:=t;simp only at ha hm hl h hc;subst ha;have hin:(0:Int)≤(i:Int)∧(i:Int)<(nl:Int):=by omega
 have HKK:=AB hkk;have HL:=AB hl;simp only[Nat.add_zero] at cP;clear hi' h hc hkk hK0 hFT hCL hlo hl;obtain⟨q0,hq0⟩:∃q0,(FT != 0)=q0:=⟨_,rfl⟩
 obtain⟨q1,hq1⟩:∃q1,(CL != 0)=q1:=⟨_,rfl⟩
 rw[hq0,hq1] at HR;by_cases i0:i=0
 ·rw[if_pos i0] at HR;have i0b:((i:Int)==0)=true:=by simpa using i0
  obtain⟨q2,hq2⟩:∃q2,(K0==1)=q2:=⟨_,rfl⟩
  rw[hq2] at HR;have H0:=AB i0;have HRR:=AB HR;clear i0 hp HR;cases q0<;>cases q1<;>cases q2
  all_goals
   go_enter Tryz.func60,Tryz.ntmps60;go_wp2_with fail;go_ret;exact⟨ret1b (AA HRR).symm,(Ext.refl _).alloc _⟩
 ·rw[if_neg i0] at HR;have i0b:((i:Int)==0)=false:=by simpa using i0
  obtain⟨p,rfl,hpi⟩:∃p:Nat,P=p∧p<i:=by
   rcases hp with hp|hp
   ·exact absurd hp i0
   ·exact hp
  have hpI:(0:Int)≤(p:Int)∧(p:Int)<(nl:Int):=by omega
  have hpI2:(0:Int)≤(p:Int)+1∧(p:Int)+1<(nl:Int):=by omega
  have ck:=AA HKK p (by omega);have ck1:=AA HKK (p+1) (by omega);rw[Int.toNat_natCast] at HR;obtain⟨kp,hkp⟩:∃kp,nK ns p=kp:=⟨_,rfl⟩
  obtain⟨k1,hk1⟩:∃k1,nK ns (p+1)=k1:=⟨_,rfl⟩
  rw[hkp] at ck;rw[hk1] at ck1;rw[hkp,hk1] at HR;clear hp hkp hk1 i0;obtain⟨q3,hq3⟩:∃q3,(K0==3)=q3:=⟨_,rfl⟩
  have hq3n:(K0 != 3)=!q3:=by rw[←hq3];rfl
  obtain⟨q4,hq4⟩:∃q4,(k1==3)=q4:=⟨_,rfl⟩
  rw[hq3,hq3n,hq4] at HR;by_cases h2:kp=2
  ·subst h2;rw[if_pos rfl] at HR;have HRR:=AB HR;clear HR;cases q0<;>cases q1<;>cases q3
   all_goals
    go_enter Tryz.func60,Tryz.ntmps60;go_wp2_with fail;go_ret;exact⟨ret1b (AA HRR).symm,(Ext.refl _).alloc _⟩
  ·rw[if_neg h2] at HR;have h2b:(kp==2)=false:=by simpa using h2
   by_cases h1:kp=1
   ·subst h1;rw[if_pos rfl] at HR;have HRR:=AB HR;clear HR;cases q0<;>cases q1<;>cases q3<;>cases q4
    all_goals
     go_enter Tryz.func60,Tryz.ntmps60;go_wp2_with fail;go_ret;exact⟨ret1b (AA HRR).symm,(Ext.refl _).alloc _⟩
   ·rw[if_neg h1] at HR;have h1b:(kp==1)=false:=by simpa using h1
    have HRR:=AB HR;clear HR h1 h2;cases q0<;>cases q1
    all_goals
     go_enter Tryz.func60,Tryz.ntmps60;go_wp2_with fail;go_ret;exact⟨ret1b (AA HRR).symm,(Ext.refl _).alloc _⟩
end
end Go.Proofs.YtamldoocjjdidaaGreat
