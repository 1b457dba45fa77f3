import Derived.Test.YtamldoocjjdidaaGreatMHvO
import Derived.Test.YtamldoocjjdidaaGreatMTyG
namespace Go.Proofs.YtamldoocjjdidaaGreat
open Go.RowKit
set_option maxRecDepth 100000
set_option maxHeartbeats 64000000
@[reducible] def st29:Sty:=⟨1,false,0,0,⟨0,0⟩,⟨0,0⟩,⟨0,0⟩,⟨0,0⟩,⟨0,0⟩,⟨0,0⟩,⟨0,0⟩,⟨0,0⟩,⟨0,0⟩,⟨0,0⟩,0,0,0,0,0,0,0,0,0,0,false,0,0,0,0,0,⟨0,0⟩,none,0,0⟩
@[reducible] def nd29 (p:Int):Nd:=⟨p,st29⟩
def ns29:List Nd:=[nd29 (-1),nd29 0]
@[reducible] def fg29a:Fg:=⟨5,5,10,10,none,0,0⟩
@[reducible] def fg29b:Fg:=⟨2,2,3,3,none,0,0⟩
def fs29:List FV:=[⟨fg29a,[]⟩,⟨fg29b,[]⟩]
theorem built29_ns:Tryz.prog.builtSlice 67 2 [(0,.agg (nd29 (-1)).cells.toArray),(1,.agg (nd29 0).cells.toArray)]=some (nds ns29).toArray:=by kernel_rfl
theorem built29_fs:Tryz.prog.builtSlice 58 2 [(0,.agg (fgC fg29a).toArray),(1,.agg (fgC fg29b).toArray)]=some (recs fgC (fs29.map FV.f)).toArray:=by kernel_rfl
theorem tr29_zero:(Tryz.prog.info? 25).bind (·.zero)=some (.agg #[.slice none 0 0,.slice none 0 0,.int .i64 0]):=by kernel_rfl
theorem tr29_check:checkV ns29 [] 100=(0,0):=by kernel_rfl
theorem ok29:TOk ns29:=TOk.of (av:=[]) (view:=100) (by decide) (by rw[tr29_check])
theorem tog29:togB 0 2 2 fs29=true:=by kernel_rfl
theorem pl29:plV true ns29 fs29=[⟨5,5,10,10⟩,⟨7,7,3,3⟩]:=by kernel_rfl
theorem at29a:atV true ns29 fs29 8 8=(1,-1,-1):=by kernel_rfl
theorem at29b:atV true ns29 fs29 11 11=(0,-1,-1):=by kernel_rfl
theorem at29c:atV true ns29 fs29 4 5=(-1,-1,-1):=by kernel_rfl
theorem bnd29:bndR true ns29 fs29=⟨5,5,10,10⟩:=by kernel_rfl
theorem bnd29b:bndB true ns29 fs29=false:=by kernel_rfl
theorem und29:undV true ns29 fs29 ⟨8,8,1,1⟩=[0,1]:=by kernel_rfl
theorem works29_any (w:World):Calls Tryz.prog 7 #[] w (fun e w'=>e=.returned (.bool true)∧Ext w w'):=by
 go_enter Tryz.func7,Tryz.ntmps7;go_upto_region 1 with fail;go_step;refine wpList_buildTo rfl 65 _ rfl _ rfl st29.cells (by kernel_rfl) ?_;simp only[AC];refine wpList_buildTo rfl 67 _ rfl _ rfl (nd29 (-1)).cells.toArray (by kernel_rfl) ?_;simp only[AC];refine wpList_buildTo rfl 65 _ rfl _ rfl st29.cells (by kernel_rfl) ?_;simp only[AC];refine wpList_buildTo rfl 67 _ rfl _ rfl (nd29 0).cells.toArray (by kernel_rfl) ?_;simp only[AC];refine Go.Great.wpList_buildSliceTo rfl 22 67 2 _ rfl _ rfl _ rfl Tryz.underlying22 (nds ns29).toArray (by simp only[List.map_toArray,List.map_cons,List.map_nil];exact built29_ns) ?_;simp only[AC];have BN:Blk (w.alloc (.cells (nds ns29).toArray 67)) w.heap.size 67 (nds ns29).toArray:=Blk.new _ _ _;have E1:Ext w (w.alloc (.cells (nds ns29).toArray 67)):=(Ext.refl _).alloc _;generalize w.alloc (.cells (nds ns29).toArray 67)=w1 at *;obtain⟨gN,hgN⟩:∃g,w.heap.size=g:=⟨_,rfl⟩
 rw[hgN] at BN ⊢;clear hgN;refine wpList_buildTo rfl 25 _ rfl _ rfl (Tr.cs ⟨some ⟨gN,0,none⟩,2,2,none,0,0,100⟩) (by kernel_rfl) ?_;simp only[AC];refine wpList_var rfl rfl 25 rfl 1 rfl (.tmp 21) rfl rfl #[.slice none 0 0,.slice none 0 0,.int .i64 0] (Tr.cs ⟨some ⟨gN,0,none⟩,2,2,none,0,0,100⟩) tr29_zero rfl rfl (info_tree _) rfl (by kernel_rfl) ?_;intro w2 BT hx z2;simp only[AC];replace BN:=BN.ext hx;replace E1:=E1.trans hx;obtain⟨gT,hgT⟩:∃g,w1.heap.size=g:=⟨_,rfl⟩
 rw[hgT] at BT ⊢;clear hx z2 hgT;go_upto_region 2 with fail;go_step;refine wpList_buildTo rfl 58 _ rfl _ rfl (fgC fg29a).toArray (by kernel_rfl) ?_;simp only[AC];refine wpList_buildTo rfl 58 _ rfl _ rfl (fgC fg29b).toArray (by kernel_rfl) ?_;simp only[AC];refine Go.Great.wpList_buildSliceTo rfl 28 58 2 _ rfl _ rfl _ rfl Tryz.underlying28 (recs fgC (fs29.map FV.f)).toArray (by simp only[List.map_toArray,List.map_cons,List.map_nil];exact built29_fs) ?_;simp only[AC];have BF:Blk (w2.alloc (.cells (recs fgC (fs29.map FV.f)).toArray 58)) w2.heap.size 58 (recs fgC (fs29.map FV.f)).toArray:=Blk.new _ _ _;have E2:Ext w2 (w2.alloc (.cells (recs fgC (fs29.map FV.f)).toArray 58)):=(Ext.refl _).alloc _;generalize w2.alloc (.cells (recs fgC (fs29.map FV.f)).toArray 58)=w3 at *;obtain⟨gF,hgF⟩:∃g,w2.heap.size=g:=⟨_,rfl⟩
 rw[hgF] at BF ⊢;clear hgF;replace BN:=BN.ext E2;replace BT:=BT.ext E2;replace E1:=E1.trans E2;clear E2;refine wpList_buildTo rfl 30 _ rfl _ rfl (tbC sl0 sl0 sl0 (.slice (some ⟨gF,0,none⟩) 2 2)).toArray (by kernel_rfl) ?_;simp only[AC];refine wpList_var rfl rfl 30 rfl 2 rfl (.tmp 25) rfl rfl (tbC sl0 sl0 sl0 sl0).toArray (tbC sl0 sl0 sl0 (.slice (some ⟨gF,0,none⟩) 2 2)).toArray tb_zero rfl rfl (tb_size _ _ _ _) rfl (by kernel_rfl) ?_;intro w4 BX hx z4;simp only[AC];replace BN:=BN.ext hx;replace BT:=BT.ext hx;replace BF:=BF.ext hx;replace E1:=E1.trans hx;obtain⟨gX,hgX⟩:∃g,w3.heap.size=g:=⟨_,rfl⟩
 rw[hgX] at BX ⊢;clear hx z4 hgX;have RN:=AB (show Rd w4 44 (some ⟨gN,0,none⟩) 2 (nds ns29) from BN.rdk (n:=2) (k:=44) (by rw[List.size_toArray,nds_len];rfl));have RF:=AB (show Rd w4 5 (some ⟨gF,0,none⟩) 2 (recs fgC (fs29.map FV.f)) from BF.rdk (n:=2) (k:=5) rfl);have HFr:=AB (show FrsIn w4 (some ⟨gF,0,none⟩) 2 fs29 from ⟨AA RF,fun x hx=>by
  have h1:x.f.lA=none∧x.f.ln=0∧x.ls=[]:=by
   simp only[fs29,List.mem_cons,List.not_mem_nil,or_false] at hx
   rcases hx with rfl|rfl<;>exact⟨rfl,rfl,rfl⟩
  obtain⟨e1,e2,e3⟩:=h1;rw[e1,e2,e3];exact⟨Rd.nil _ _ _,Nat.zero_le _⟩,fun x hx y hy=>by
  have h1:x.ls=[]:=by
   simp only[fs29,List.mem_cons,List.not_mem_nil,or_false] at hx
   rcases hx with rfl|rfl<;>rfl
  rw[h1] at hy;cases hy⟩)
 have HTr:=AB (show TrIn w4 ⟨some ⟨gN,0,none⟩,2,2,none,0,0,100⟩ ns29 [] from ⟨AA RN,Rd.nil _ _ _⟩);clear BN BF RF;have cK:∀w',Ext w4 w'→Calls Tryz.prog 39 #[.agg (Tr.cs ⟨some ⟨gN,0,none⟩,2,2,none,0,0,100⟩)] w' (fun e w2=>e=.returned (.tuple #[.int .i64 0,.int .i64 0])∧Ext w' w2):=fun w' hx=>by
  have h1:=check_any ⟨some ⟨gN,0,none⟩,2,2,none,0,0,100⟩ ns29 [] w' ((AA HTr).ext hx) (by simp only;omega) (by simp only[maxLen];omega);rw[tr29_check] at h1;exact h1
 have cP:=fun W (hx:Ext w4 W)=>AB (places_hit ⟨some ⟨gN,0,none⟩,2,2,none,0,0,100⟩ ns29 0 0 sl0 sl0 sl0 (some ⟨gF,0,none⟩) 2 2 fs29 W (fun w' h=>cK w' (hx.trans h)) ((AA HFr).ext hx) (by omega) (by simp only;omega) ((AA RN).ext hx) (fun _=>ok29))
 have cA:=fun px py W (hx:Ext w4 W)=>AB (hitat_any ⟨some ⟨gN,0,none⟩,2,2,none,0,0,100⟩ ns29 0 0 sl0 sl0 sl0 (some ⟨gF,0,none⟩) 2 2 fs29 px py W (fun w' h=>cK w' (hx.trans h)) ((AA HFr).ext hx) (by omega) (by simp only;omega) ((AA RN).ext hx) (fun _=>ok29))
 have cB:=fun W (hx:Ext w4 W)=>AB (bounds_any ⟨some ⟨gN,0,none⟩,2,2,none,0,0,100⟩ ns29 0 0 sl0 sl0 sl0 (some ⟨gF,0,none⟩) 2 2 fs29 W (fun w' h=>cK w' (hx.trans h)) ((AA HFr).ext hx) (by omega) (by simp only;omega) ((AA RN).ext hx) (fun _=>ok29))
 have cU:=fun W (hx:Ext w4 W)=>AB (under_any ⟨some ⟨gN,0,none⟩,2,2,none,0,0,100⟩ ns29 0 0 sl0 sl0 sl0 (some ⟨gF,0,none⟩) 2 2 fs29 ⟨8,8,1,1⟩ ⟨by decide,by decide,by decide,by decide,by decide,by decide,by decide,by decide⟩ W (fun w' h=>cK w' (hx.trans h)) ((AA HFr).ext hx) (by omega) (by simp only;omega) ((AA RN).ext hx) (fun _=>ok29))
 simp only[tog29,bnd29,bnd29b,und29] at cP cA cB cU;have cA1:=fun W hx=>cA 8 8 W hx
 have cA2:=fun W hx=>cA 11 11 W hx
 have cA3:=fun W hx=>cA 4 5 W hx
 simp only[at29a] at cA1;simp only[at29b] at cA2;simp only[at29c] at cA3;clear cK cA HFr HTr RN;have cP2:∀W,Ext w4 W→Hid (Calls Tryz.prog 9 #[.agg (Tr.cs ⟨some ⟨gN,0,none⟩,2,2,none,0,0,100⟩),.agg (tbC sl0 sl0 sl0 (.slice (some ⟨gF,0,none⟩) 2 2)).toArray] W (fun e w'=>∃A c,e=.returned (.tuple #[.slice A 2 c,.int .i64 0])∧Rd w' 4 A 2 (recs rcC [⟨5,5,10,10⟩,⟨7,7,3,3⟩])∧Ext W w')):=fun W hx=>AB ((AA (cP W hx)).mono (fun e w' h=>by
  obtain⟨A,c,h1,h2,h3⟩:=h;rw[pl29] at h1 h2;exact⟨A,c,h1,h2,h3⟩))
 have HE1:=AB E1;clear cP E1;have E:=Ext.refl w4;go_upto_region 3 with fail;go_step;refine wpList_load_blk rfl 25 (.tmp 1) rfl gT rfl 25 (Tr.cs ⟨some ⟨gN,0,none⟩,2,2,none,0,0,100⟩) _ BT Tryz.underlying25 rfl (info_tree _) ?_;simp only[AC];refine wpList_load_blk rfl 30 (.tmp 2) rfl gX rfl 30 (tbC sl0 sl0 sl0 (.slice (some ⟨gF,0,none⟩) 2 2)).toArray _ BX Tryz.underlying30 rfl (tb_size _ _ _ _) ?_;simp only[AC];go_wp2_with fail
 with_reducible refine (AA (cP2 _ E)).mono ?_
 rintro e w5 ⟨A3,c3,rfl,RP,hx⟩;replace BT:=BT.ext hx;replace BX:=BX.ext hx;replace E:=E.trans hx;have HRP:=AB RP;clear hx RP cP2;go_upto_region 4 with fail;go_step;refine wpList_load_blk rfl 25 (.tmp 1) rfl gT rfl 25 (Tr.cs ⟨some ⟨gN,0,none⟩,2,2,none,0,0,100⟩) _ BT Tryz.underlying25 rfl (info_tree _) ?_;simp only[AC];refine wpList_load_blk rfl 30 (.tmp 2) rfl gX rfl 30 (tbC sl0 sl0 sl0 (.slice (some ⟨gF,0,none⟩) 2 2)).toArray _ BX Tryz.underlying30 rfl (tb_size _ _ _ _) ?_;simp only[AC];go_wp2_with fail
 with_reducible refine (AA (cA1 _ E)).mono ?_
 rintro e w6 ⟨rfl,hx⟩;replace BT:=BT.ext hx;replace BX:=BX.ext hx;replace E:=E.trans hx;replace HRP:=AB ((AA HRP).ext hx);clear hx cA1;go_upto_region 5 with fail;go_step;refine wpList_load_blk rfl 25 (.tmp 1) rfl gT rfl 25 (Tr.cs ⟨some ⟨gN,0,none⟩,2,2,none,0,0,100⟩) _ BT Tryz.underlying25 rfl (info_tree _) ?_;simp only[AC];refine wpList_load_blk rfl 30 (.tmp 2) rfl gX rfl 30 (tbC sl0 sl0 sl0 (.slice (some ⟨gF,0,none⟩) 2 2)).toArray _ BX Tryz.underlying30 rfl (tb_size _ _ _ _) ?_;simp only[AC];go_wp2_with fail
 with_reducible refine (AA (cA2 _ E)).mono ?_
 rintro e w7 ⟨rfl,hx⟩;replace BT:=BT.ext hx;replace BX:=BX.ext hx;replace E:=E.trans hx;replace HRP:=AB ((AA HRP).ext hx);clear hx cA2;go_upto_region 6 with fail;go_step;refine wpList_load_blk rfl 25 (.tmp 1) rfl gT rfl 25 (Tr.cs ⟨some ⟨gN,0,none⟩,2,2,none,0,0,100⟩) _ BT Tryz.underlying25 rfl (info_tree _) ?_;simp only[AC];refine wpList_load_blk rfl 30 (.tmp 2) rfl gX rfl 30 (tbC sl0 sl0 sl0 (.slice (some ⟨gF,0,none⟩) 2 2)).toArray _ BX Tryz.underlying30 rfl (tb_size _ _ _ _) ?_;simp only[AC];go_wp2_with fail
 with_reducible refine (AA (cA3 _ E)).mono ?_
 rintro e w8 ⟨rfl,hx⟩;replace BT:=BT.ext hx;replace BX:=BX.ext hx;replace E:=E.trans hx;replace HRP:=AB ((AA HRP).ext hx);clear hx cA3;go_upto_region 7 with fail;go_step;refine wpList_load_blk rfl 25 (.tmp 1) rfl gT rfl 25 (Tr.cs ⟨some ⟨gN,0,none⟩,2,2,none,0,0,100⟩) _ BT Tryz.underlying25 rfl (info_tree _) ?_;simp only[AC];refine wpList_load_blk rfl 30 (.tmp 2) rfl gX rfl 30 (tbC sl0 sl0 sl0 (.slice (some ⟨gF,0,none⟩) 2 2)).toArray _ BX Tryz.underlying30 rfl (tb_size _ _ _ _) ?_;simp only[AC];go_wp2_with fail
 with_reducible refine (AA (cB _ E)).mono ?_
 rintro e w9 ⟨rfl,hx⟩;replace BT:=BT.ext hx;replace BX:=BX.ext hx;replace E:=E.trans hx;replace HRP:=AB ((AA HRP).ext hx);clear hx cB;dsimp only
 iterate 10 go_step
 refine wpList_var rfl rfl 33 rfl 14 rfl (.tmp 57) rfl rfl (rcC zRc).toArray (rcC ⟨5,5,10,10⟩).toArray rcC_zero rfl rfl (rcC_size _) rfl (by kernel_rfl) ?_;intro w10 BB hx z10;simp only[AC];replace BT:=BT.ext hx;replace BX:=BX.ext hx;replace E:=E.trans hx;replace HRP:=AB ((AA HRP).ext hx);generalize w9.heap.size=gB at *;clear hx z10;go_upto_region 8 with fail;obtain⟨b3,o3,hA3,l3,hm0⟩:=(AA HRP).rec_ rcC_len (i:=0) (x:=⟨5,5,10,10⟩) rfl (by omega);subst hA3;obtain⟨b3',o3',hA3,_,hm1⟩:=(AA HRP).rec_ rcC_len (i:=1) (x:=⟨7,7,3,3⟩) rfl (by omega);injection hA3 with hA3;injection hA3 with hA3 hA4;subst hA3 hA4;have p0:w10.cell? ⟨b3,o3,none⟩=some (.int .i64 5):=by have:=hm0 0 _ rfl;simpa using this
 have p1:w10.cell? ⟨b3,o3+1,none⟩=some (.int .i64 5):=by have:=hm0 1 _ rfl;simpa using this
 have p2:w10.cell? ⟨b3,o3+2,none⟩=some (.int .i64 10):=by have:=hm0 2 _ rfl;simpa using this
 have p3:w10.cell? ⟨b3,o3+3,none⟩=some (.int .i64 10):=by have:=hm0 3 _ rfl;simpa using this
 have q0:w10.cell? ⟨b3,o3+4,none⟩=some (.int .i64 7):=by have:=hm1 0 _ rfl;simpa using this
 have q1:w10.cell? ⟨b3,o3+4+1,none⟩=some (.int .i64 7):=by have:=hm1 1 _ rfl;simpa using this
 have q2:w10.cell? ⟨b3,o3+4+2,none⟩=some (.int .i64 3):=by have:=hm1 2 _ rfl;simpa using this
 have q3:w10.cell? ⟨b3,o3+4+3,none⟩=some (.int .i64 3):=by have:=hm1 3 _ rfl;simpa using this
 have bb0:=(BB.cell 0).trans (rfl:_=some (Value.int .i64 5));have bb1:=(BB.cell 1).trans (rfl:_=some (Value.int .i64 5));have bb2:=(BB.cell 2).trans (rfl:_=some (Value.int .i64 10));have bb3:=(BB.cell 3).trans (rfl:_=some (Value.int .i64 10));have lB:=BB.lt;have t0:=(BT.cell 0).trans (rfl:_=some (Value.slice (some ⟨gN,0,none⟩) 2 2));have t1:=(BT.cell 1).trans (rfl:_=some (Value.slice none 0 0));have t2:=(BT.cell 2).trans (rfl:_=some (Value.int .i64 100));have lT:=BT.lt;have x0:=(BX.cell 0).trans (show _=some sl0 from rfl);have x1:=(BX.cell 1).trans (show _=some sl0 from rfl);have x2:=(BX.cell 2).trans (show _=some sl0 from rfl);have x3:=(BX.cell 3).trans (rfl:_=some (Value.slice (some ⟨gF,0,none⟩) 2 2));have lX:=BX.lt;have C:=AB (AA (cU w10.drew (E.drew)));have HEN:=AB ((AA HE1).trans E);clear hm0 hm1 cU HRP BB BT BX E HE1
 as_aux_lemma=>
 refine wp_region_ord [(1,0),(1,1),(1,2),(1,3),(1,4),(1,5),(1,6),(1,7),(1,8),(1,9),(0,10),(1,11),(1,12),(1,13),(1,14),(1,15),(1,16),(1,17),(1,18),(1,19),(1,20),(1,21),(1,22),(1,23),(1,24),(1,25),(1,26),(1,27),(1,28),(1,29),(1,30),(1,31),(1,32),(1,33),(1,34),(0,35),(1,36),(1,37),(0,38),(1,39),(1,40),(1,41),(1,42),(1,43),(1,44),(1,45),(0,46),(0,47),(1,48),(2,49),(1,50),(1,51),(1,52),(1,53)] 54 (fun w'=>Ext w10 w') (by kernel_rfl) (by kernel_rfl) rfl (by kernel_rfl) ((Ext.refl _).drew) ?_;simp only[AD]
 iterate 49 ((first|refine ordQE ?_|refine ordQF ?_|refine ordQC ?_|refine ordQD ?_);simp only[AC])
 refine ord_keep ?_;go_wp2_with fail;refine (AA C).mono ?_;rintro e w11 ⟨A5,c5,rfl,R5,hx⟩;have HX:=AB ((Ext.refl w10).drew.trans hx);have HXS:=HX;clear hx C;go_wp2_with fail;refine⟨AA HX,?_⟩
 iterate 4 ((first|refine ordQE ?_|refine ordQF ?_|refine ordQC ?_|refine ordQD ?_);simp only[AC])
 refine ord_nil ?_;go_wp2_with fail;go_ret;exact⟨rfl,(AA HEN).trans (AA HXS)⟩
structure Tb where
 (A1 A2 A3 A:Option Addr) (n1 n2 n3 n c1 c2 c3 c:Nat)
def Tb.cs (T:Tb):List Value:=[.slice T.A1 T.n1 T.c1,.slice T.A2 T.n2 T.c2,.slice T.A3 T.n3 T.c3,.slice T.A T.n T.c]
theorem Tb.len (T:Tb):T.cs.length=4:=rfl
theorem eq_rc29 (x y p q:Int) (w:World):(Op.equalIn 10000 33 (.agg #[.int .i64 x,.int .i64 y,.int .i64 p,.int .i64 q]) (.agg #[.int .i64 x,.int .i64 y,.int .i64 p,.int .i64 q])).run Tryz.prog w=.ok true w:=by
 have hu:=Tryz.underlying2;have a3:=Tryz.isAgg2;have z3:=Tryz.sizeOf2;have hS:Tryz.prog.underlying 33=some (.struct (Tryz.prog.fieldsOf 33)):=by kernel_rfl
 have hp:Tryz.prog.stoodInHeld 33=false:=by kernel_rfl
 rw[show (10000:Nat)=9999+1 from rfl,run_equalIn_agg w 9999 33 _ _ hS hp];simp only[Program.fieldsOf,Tryz.underlying33];go_simp
def RRec (W:World) (_j:Nat) (v:Value) (w:World):Prop:=∃g,v=.pointer (some ⟨g,0,none⟩)∧W.heap.size≤g∧Blk w g 33 (rcC zRc).toArray
theorem RRec.ext {W:World} {j:Nat} {v:Value} {w w':World} (h:RRec W j v w) (hx:Ext w w'):RRec W j v w':=by
 obtain⟨g,h1,h2,h3⟩:=h;exact⟨g,h1,h2,h3.ext hx⟩
section
variable (t:Tr) (ns:List Nd) (av:List Int)
def goV (n:Nat) (fs:List FV):Bool:=togB (checkV ns av t.view).2 n t.nl fs
variable (A1 A2 A3 A:Option Addr) (n1 n2 n3 n c1 c2 c3 c:Nat) (fs:List FV) (W:World)
variable (h:TrIn W t ns av) (hm:t.nl≤1000) (ha:t.al≤1000) (hf:FrsIn W A n fs) (hn:n≤1000)
include h hm ha in
theorem chk_any:∀w',Ext W w'→Calls Tryz.prog 39 #[.agg t.cs] w' (fun e w2=>e=.returned (.tuple #[.int .i64 (checkV ns av t.view).1,.int .i64 (checkV ns av t.view).2])∧Ext w' w2):=
 fun w' hx=>check_any t ns av w' (h.ext hx) (by omega) (by unfold maxLen;omega)
include h hm in
theorem chk_ok:(checkV ns av t.view).2=0→TOk ns:=fun hb=>(check_yes (by have:=h.nodes.nlen;omega) hb).1
include h hm ha hf hn
theorem hPl:Calls Tryz.prog 9 #[.agg t.cs,.agg #[.slice A1 n1 c1,.slice A2 n2 c2,.slice A3 n3 c3,.slice A n c]] W (PlsIs W (goV t ns av n fs) ns fs):=
 places_hit t ns _ _ (.slice A1 n1 c1) (.slice A2 n2 c2) (.slice A3 n3 c3) A n c fs W (chk_any t ns av W h hm ha) hf hn hm h.nodes (chk_ok t ns av W h hm)
theorem hAt (px py:Int):Calls Tryz.prog 12 #[.agg t.cs,.agg #[.slice A1 n1 c1,.slice A2 n2 c2,.slice A3 n3 c3,.slice A n c],.int .i64 px,.int .i64 py] W (HitIs W (atV (goV t ns av n fs) ns fs px py)):=
 hitat_any t ns _ _ (.slice A1 n1 c1) (.slice A2 n2 c2) (.slice A3 n3 c3) A n c fs px py W (chk_any t ns av W h hm ha) hf hn hm h.nodes (chk_ok t ns av W h hm)
theorem hUn (r:Rc) (hr:r.Ok):Calls Tryz.prog 17 #[.agg t.cs,.agg #[.slice A1 n1 c1,.slice A2 n2 c2,.slice A3 n3 c3,.slice A n c],.agg #[.int .i64 r.x,.int .i64 r.y,.int .i64 r.w,.int .i64 r.h]] W (IntsOut W (undV (goV t ns av n fs) ns fs r)):=
 under_any t ns _ _ (.slice A1 n1 c1) (.slice A2 n2 c2) (.slice A3 n3 c3) A n c fs r hr W (chk_any t ns av W h hm ha) hf hn hm h.nodes (chk_ok t ns av W h hm)
theorem hBd:Calls Tryz.prog 14 #[.agg t.cs,.agg #[.slice A1 n1 c1,.slice A2 n2 c2,.slice A3 n3 c3,.slice A n c]] W (BndIs W (bndR (goV t ns av n fs) ns fs) (bndB (goV t ns av n fs) ns fs)):=
 bounds_any t ns _ _ (.slice A1 n1 c1) (.slice A2 n2 c2) (.slice A3 n3 c3) A n c fs W (chk_any t ns av W h hm ha) hf hn hm h.nodes (chk_ok t ns av W h hm)
omit hn
theorem hSm (hn':n≤maxLen) (hu:∀(i:Nat) (n:Nd),ns[i]?=some n→n.s.ul≤maxLen):Calls Tryz.prog 6 #[.agg t.cs,.agg #[.slice A1 n1 c1,.slice A2 n2 c2,.slice A3 n3 c3,.slice A n c]] W (SmIs t ns n W):=
 small_any t ns av W (.slice A1 n1 c1) (.slice A2 n2 c2) (.slice A3 n3 c3) A n c fs h (by unfold maxLen;omega) (by unfold maxLen;omega) hu hf hn'
end
end Go.Proofs.YtamldoocjjdidaaGreat
