import Derived.Test.YtamldoocjjdidaaGreatMHuF
import Derived.Test.YtamldoocjjdidaaGreatMEdKp
namespace Go.Proofs.YtamldoocjjdidaaGreat
open Go.RowKit
set_option maxRecDepth 100000
set_option maxHeartbeats 64000000
section
variable (t:Tr) (ns:List Nd) (av:List Int) (un:Nat→List Int)
def Down24Is (w:World) (n:Nat) (e:Ending) (w':World):Prop:=∃(gO:Nat) (z:Int) (us:List Us),e=.returned (.tuple #[.slice (some ⟨gO,0,none⟩) n n,.int .i64 z])∧(∀u∈us,UsOk u)∧Rd w' 3 (some ⟨gO,0,none⟩) n (recs usC us)∧w.heap.size≤gO∧Ext w w'
theorem down24_any (Ac:Option Addr) (cc:Nat) (cs:List Ct) (w:World) (h:LT w t ns av un) (rc:Rd w 4 Ac t.nl (recs ctC cs)) (hcs:CtsOk cs) :
  Calls Tryz.prog 37 #[.agg t.cs,.slice Ac t.nl cc] w (Down24Is w t.nl):=by
 have hnl:=h.tr.nodes.nlen;have few:=h.few;have hcl:=rc.recN ctC_len (by omega);have H:=AB h;have HCS:=AB hcs;have cKd:=fun w h=>AB (refkids_any t ns w h (by omega))
 have mu:=make_recs ctC_len (by omega) zCt Tryz.underlying26 ct_all4 (by omega) t.nl (by omega);have hn0:(t.nl:Int)≤300:=by omega
 clear h;go_enter Tryz.func37,Tryz.ntmps37;go_upto_region 2 with fail;have hx:=((Ext.refl w).alloc (.cells t.cs 25)).alloc (.cells (recs ctC (List.replicate t.nl zCt)).toArray 108);have BT:Blk ((w.alloc (.cells t.cs 25)).alloc (.cells (recs ctC (List.replicate t.nl zCt)).toArray 108)) w.heap.size 25 t.cs:=(Blk.new _ _ _).alloc _;have BC:Blk ((w.alloc (.cells t.cs 25)).alloc (.cells (recs ctC (List.replicate t.nl zCt)).toArray 108)) (w.heap.size+1) 108 (recs ctC (List.replicate t.nl zCt)).toArray:=Blk.new1 _ _ _ _;generalize (w.alloc (.cells t.cs 25)).alloc (.cells (recs ctC (List.replicate t.nl zCt)).toArray 108)=w1 at *;obtain⟨gT,hgT⟩:∃g,w.heap.size=g:=⟨_,rfl⟩
 have HGT:=AB hgT;rw[hgT] at BT BC ⊢;obtain⟨gC,hgC⟩:∃g,gT+1=g:=⟨_,rfl⟩
 have HGC:=AB hgC;rw[hgC] at BC ⊢;have E1:=AB hx;have rc1:=rc.ext hx;clear hx hgT hgC mu rc
 iterate 7 go_step
 refine wpList_copy_rd rfl (.tmp 13) (.tmp 14) 26 rfl 108 4 Tryz.underlying26 (by kernel_rfl) gC t.nl rfl Ac t.nl cc rfl (recs ctC (List.replicate t.nl zCt)) 108 BC (by rw[recs_len ctC_len,List.length_replicate]) (recs ctC cs) rc1 (recs_ones ctC_one cs) ?_;have BC0:=BC;clear BC;intro w2 BC g2 z2;have hm:(recs ctC cs).take (Nat.min t.nl t.nl*4)++(recs ctC (List.replicate t.nl zCt)).drop (Nat.min t.nl t.nl*4)=recs ctC cs:=by
  have h1:Nat.min t.nl t.nl=t.nl:=Nat.min_self _;rw[h1,List.take_of_length_le (by rw[recs_len ctC_len,hcl];exact Nat.le_refl _),List.drop_of_length_le (by rw[recs_len ctC_len,List.length_replicate];exact Nat.le_refl _),List.append_nil]
 rw[hm] at BC;have BT2:=AB (BT.grownNe g2 (blk_ne BT BC0 (by decide)));have E2:=AB ((AA E1).grown g2 (fun q e=>by have:=Option.some.inj e;have:=AA HGT;have:=AA HGC;omega));have HRC:=AB (show Rd w2 4 (some ⟨gC,0,none⟩) t.nl (recs ctC cs) by rw[←hcl];exact BC.recRd ctC_len);clear hm BC BC0 g2 z2 rc1 BT E1;simp only[AC];have c0:=((AA BT2).cell 0).trans (rfl:_=some (Value.slice t.na t.nl t.nc));have c1:=((AA BT2).cell 1).trans (rfl:_=some (Value.slice t.aa t.al t.ac));have c2:=((AA BT2).cell 2).trans (rfl:_=some (Value.int .i64 t.view));have lT:=(AA BT2).lt;go_upto_region 3 with fail;refine wp_region_ord [(0,0),(0,1),(1,3),(2,2),(3,4),(1,5),(1,6),(1,7),(1,8),(1,9)] 4 (fun w'=>Ext w2 w') (by kernel_rfl) (by kernel_rfl) rfl (by kernel_rfl) ((Ext.refl _).drew) ?_;simp only[AD]
 iterate 3 ((first|refine ordQA ?_|refine ordQB ?_);simp only[AC])
 refine ord_keep ?_;go_wp2_with fail
 with_reducible refine (AA (cKd _ ((AA H).ext ((AA E2).drew)).tr.nodes)).mono ?_
 rintro e w3 ⟨Aa,rfl,ra,hx⟩;have HX:=AB ((Ext.refl w2).drew.trans hx);clear hx cKd c0 c1 c2 lT;go_wp2_with fail;refine⟨AA HX,?_⟩;have cD:=AB (down21_any t ns av un Aa (some ⟨gC,0,none⟩) t.nl t.nl _ cs w3 ((AA H).ext ((AA E2).trans (AA HX))) ra ((AA HRC).ext (AA HX)) (AA HCS));refine ord_last ?_;go_wp2_with fail
 with_reducible refine (AA cD).mono ?_
 rintro e w4 ⟨gO,gB,rfl,P⟩;clear cD;go_wp2_with fail
 iterate 5 ((first|refine ordQA ?_|refine ordQB ?_);simp only[AC])
 refine ord_nil ?_;obtain⟨us,hul,huok,BO⟩:=P.bo;obtain⟨bl,hbl,BB⟩:=P.bb;have cL:=fun w rb=>AB (least24_any (some ⟨gB,0,none⟩) t.nl t.nl bl w rb (by omega))
 have RB:Rd w4 1 (some ⟨gB,0,none⟩) t.nl (boolL bl):=BB.rdk (n:=t.nl) (k:=1) (by simp[boolL,hbl]);have hE:=AB (((AA E2).trans (AA HX)).trans P.ext);have hG:=AB (show w.heap.size≤gO by have:=P.lo;have:=((AA E2).trans (AA HX)).size;omega);clear P BB hbl;go_wp2_with fail
 with_reducible refine (AA (cL _ RB)).mono ?_
 rintro e w5 ⟨z,rfl,hx⟩;have HX5:=AB hx;clear hx;go_wp2_with fail;go_ret2;exact⟨gO,z,us,rfl,huok,by rw[←hul];exact (BO.recRd usC_len).ext (AA HX5),AA hG,(AA hE).trans (AA HX5)⟩
def FragB (w:World) (e:Ending) (w':World):Prop:=∃(f0 f1 f2 f3:Int) (b:Bool),e=.returned (.tuple #[.agg (fgC ⟨f0,f1,f2,f3,none,0,0⟩).toArray,.bool b])∧(InM f0∧InM f1∧InM f2∧InM f3)∧Ext w w'
theorem built_fg4 (a b c d:Int):Tryz.prog.built 58 [(0,.int .i64 a),(1,.int .i64 b),(2,.int .i64 c),(3,.int .i64 d)]=some (fgC ⟨a,b,c,d,none,0,0⟩).toArray:=by kernel_rfl
theorem first24_any (u:Us) (z:Int) (w:World) (h:LT w t ns av un) :
  Calls Tryz.prog 57 #[.agg t.cs,.agg (usC u).toArray,.int .i64 z] w (FragB w):=by
 have hpos:=h.ok.pos;have hnl:=h.tr.nodes.nlen;have hv:=h.view;obtain⟨nd,hnd⟩:∃nd,ns[0]?=some nd:=⟨_,AE hpos⟩
 obtain⟨bn,on,hna,lbn,hcn⟩:=h.tr.nodes.node hnd;have hok:=h.ok.nd hnd;have HC:=AB hcn;have HOK:=AB hok;have HL:=AB lbn;have hiI:(0:Int)<(t.nl:Int):=by omega
 clear hcn hok h;go_enter Tryz.func57,Tryz.ntmps57;go_upto_region 1 with fail;generalize hw1:World.alloc (World.alloc (World.alloc w _) _) _=w1;obtain⟨gT,hgT⟩:∃g,w.heap.size=g:=⟨_,rfl⟩
 have BT:Blk w1 gT 25 t.cs:=by rw[←hw1,←hgT];exact ((Blk.new _ _ _).alloc _).alloc _
 have BU:Blk w1 (gT+1) 120 (usC u).toArray:=by rw[←hw1,←hgT];exact (Blk.new1 _ _ _ _).alloc _
 have BR:Blk w1 (gT+1+1) 58 (fgC zFg).toArray:=by rw[←hw1,←hgT];exact Blk.new2 _ _ _ _ _
 have E1:=AB (show Ext w w1 by rw[←hw1];exact (((Ext.refl _).alloc _).alloc _).alloc _);have HGT:=AB hgT;rw[hgT];clear hgT hw1;have hed:=(AA HOK).edges;have c0:=(BT.cell 0).trans (rfl:_=some (Value.slice t.na t.nl t.nc));rw[hna] at c0;have lT:=BT.lt
 iterate 13 go_step
 refine wpList_load_sty (.tmp 16) rfl bn (on+1) rfl rfl nd.s (fun x v hv=>(by
  have h1:=(AA HC) (1+x) v (by rw[Nat.add_comm];exact hv);rw[show on+0*44+(1+x)=on+1+x by omega] at h1;exact ((AA E1).cells.1 bn _ (AA HL)).trans h1)) ?_
 simp only[AC];refine wpList_var rfl rfl 65 rfl 8 rfl (.tmp 17) rfl rfl zsty.cells nd.s.cells zero_sty rfl rfl (info_style _) rfl (by kernel_rfl) ?_;intro w3 BS hx z3;simp only[AC];replace BT:=BT.ext hx;replace BU:=BU.ext hx;replace BR:=BR.ext hx;replace E1:=AB ((AA E1).trans hx);generalize w1.heap.size=gS at *;clear hx z3 c0 lT;have k1:=(BS.cell 16).trans (rfl:_=some (Value.int .u8 nd.s.m0.k));have k2:=(BS.cell 17).trans (rfl:_=some (Value.int .i64 nd.s.m0.n));have c2:=(BT.cell 2).trans (rfl:_=some (Value.int .i64 t.view));have lS:=BS.lt;have lT:=BT.lt;have r0:=fun w=>AB (ref_resolve nd.s.m0 t.view (may_part hed.m0) hv.2 w)
 have fr:=fun w=>AB (ref_frame nd.s hed.thin w)
 simp only[Ln.v] at r0;obtain⟨x0,hx0⟩:∃x,resV nd.s.m0 t.view=x:=⟨_,rfl⟩
 obtain⟨q0,hq0⟩:∃q,resB nd.s.m0=q:=⟨_,rfl⟩
 obtain⟨fx,hfx⟩:∃x,nd.s.b3+nd.s.b1+nd.s.p3+nd.s.p1=x:=⟨_,rfl⟩
 obtain⟨fy,hfy⟩:∃x,nd.s.b0+nd.s.b2+nd.s.p0+nd.s.p2=x:=⟨_,rfl⟩
 simp only[hx0,hq0] at r0;simp only[hfx,hfy] at fr;clear hx0 hq0 hfx hfy hed;go_wp2_with fail
 with_reducible refine (AA (r0 _)).mono ?_
 rintro e w4 ⟨rfl,hx⟩;replace BS:=BS.ext hx;replace BU:=BU.ext hx;replace BR:=BR.ext hx;replace E1:=AB ((AA E1).trans hx);clear hx r0 k1 k2 c2 lS lT BT;go_upto_region 3 with fail;go_step;refine wpList_load_blk rfl 65 (.tmp 8) rfl gS rfl 65 nd.s.cells _ BS Tryz.underlying65 rfl (info_style _) ?_;simp only[AC];go_wp2_with fail
 with_reducible refine (AA (fr _)).mono ?_
 rintro e w5 ⟨rfl,hx⟩;replace BU:=BU.ext hx;replace BR:=BR.ext hx;replace E1:=AB ((AA E1).trans hx);clear hx fr BS;have u0:=(BU.cell 0).trans (rfl:_=some (Value.int .i64 u.w));have u1:=(BU.cell 1).trans (rfl:_=some (Value.int .i64 u.l));have lU:=BU.lt;obtain⟨s1,hs1⟩:∃z,IntKind.i64.wrap (u.w+fx)=z:=⟨_,rfl⟩
 go_upto_region 4 with fail
 iterate 25 go_step
 refine wpList_buildTo rfl 58 _ rfl _ rfl (fgC ⟨u.l,x0,s1,z,none,0,0⟩).toArray (by simp only[List.map_toArray,List.map_cons,List.map_nil];exact built_fg4 _ _ _ _) ?_;simp only[AC];clear u0 u1 lU hs1;simp only[fgC];go_wp2_with fail
 with_reducible refine (cut_fg _ _ _ _ _ _ _ _).mono ?_
 rintro e w12 ⟨⟨g0,g1,g2,g3,fl,fm,fv⟩,cb,rfl,hfo,⟨rfl,rfl,rfl⟩,hx⟩;replace BR:=BR.ext hx;replace E1:=AB ((AA E1).trans hx);clear hx;dsimp only
 iterate 7 go_step
 refine wpList_store_blk rfl 58 (.tmp 6) (.tmp 42) rfl (gT+1+1) rfl (fgC ⟨g0,g1,g2,g3,none,0,0⟩).toArray rfl 58 (fgC zFg).toArray BR (fgC_size _) rfl (by kernel_rfl) ?_;intro w13 B13 g13 z13;simp only[Act.put];go_wp2_with fail;refine bodyPost_ret (results_cell_tmp rfl _ _ (gT+1+1) 58 _ _ rfl B13 Tryz.underlying58 rfl (fgC_size _)) rfl ?_;exact⟨g0,g1,g2,g3,cb,rfl,hfo,(AA E1).grown g13 (fun q e=>by have:=Option.some.inj e;have:=AA HGT;omega)⟩
end
def Apart (v u:Value):Prop:=∀g,v.ownBlock=some g→u.ownBlock≠some g
theorem Apart.symm {v u:Value} (h:Apart v u):Apart u v:=fun g h1 h2=>h g h2 h1
theorem Apart.step {v v' u:Value} {s:Nat} (h:Apart v u) (hat:v'.ownBlock=v.ownBlock∨v'.ownBlock=some s) (hu:∀g,u.ownBlock=some g→g<s):Apart v' u:=fun g hg h2=>by
 rcases hat with e|e
 ·exact h g (e▸hg) h2
 ·rw[e] at hg;cases hg;exact absurd (hu _ h2) (Nat.lt_irrefl _)
structure R4 (w:World) (base:Nat) (m0 m1 m2 m3:Nat) (v0 v1 v2 v3:Value) (z0 z1 z2 z3:List Int):Prop where
 o0:w.ownsRow base 2 1 v0 m0 (ints z0)
 o1:w.ownsRow base 2 1 v1 m1 (ints z1)
 o2:w.ownsRow base 2 1 v2 m2 (ints z2)
 o3:w.ownsRow base 2 1 v3 m3 (ints z3)
 d01:Apart v0 v1
 d02:Apart v0 v2
 d03:Apart v0 v3
 d12:Apart v1 v2
 d13:Apart v1 v3
 d23:Apart v2 v3
section
variable {w w':World} {base m0 m1 m2 m3:Nat} {v0 v1 v2 v3:Value} {z0 z1 z2 z3:List Int}
theorem R4.alloc (h:R4 w base m0 m1 m2 m3 v0 v1 v2 v3 z0 z1 z2 z3) (b:Obj):R4 (w.alloc b) base m0 m1 m2 m3 v0 v1 v2 v3 z0 z1 z2 z3:=
 ⟨h.o0.alloc b,h.o1.alloc b,h.o2.alloc b,h.o3.alloc b,h.d01,h.d02,h.d03,h.d12,h.d13,h.d23⟩
theorem own_kept {v u:Value} {m:Nat} {zs:List Value} (h:w.ownsRow base 2 1 u m zs) (hg:w.grownBy w' v.ownBlock) (hd:Apart v u):w'.ownsRow base 2 1 u m zs:=
 h.kept hg (by
  cases hu:u.ownBlock with
  |none=>exact .inl rfl
  |some g=>exact .inr (fun e=>hd g e.symm hu))
theorem R4.step {v0':Value} {a:List Value} {z:List Int} (h:R4 w base m0 m1 m2 m3 v0 v1 v2 v3 z0 z1 z2 z3) (hg:w.grownBy w' v0.ownBlock) (hown:w'.ownsRow base 2 1 v0' (m0+1) a) (hat:v0'.ownBlock=v0.ownBlock∨v0'.ownBlock=some w.heap.size) (ha:a=ints z):R4 w' base (m0+1) m1 m2 m3 v0' v1 v2 v3 z z1 z2 z3:=
 ⟨ha▸hown,own_kept h.o1 hg h.d01,own_kept h.o2 hg h.d02,own_kept h.o3 hg h.d03,h.d01.step hat (fun g e=>(h.o1.lt g e).2),h.d02.step hat (fun g e=>(h.o2.lt g e).2),h.d03.step hat (fun g e=>(h.o3.lt g e).2),h.d12,h.d13,h.d23⟩
theorem R4.ext (h:R4 w base m0 m1 m2 m3 v0 v1 v2 v3 z0 z1 z2 z3) (hx:Ext w w'):R4 w' base m0 m1 m2 m3 v0 v1 v2 v3 z0 z1 z2 z3:=
 ⟨own_ext h.o0 hx,own_ext h.o1 hx,own_ext h.o2 hx,own_ext h.o3 hx,h.d01,h.d02,h.d03,h.d12,h.d13,h.d23⟩
end
def bndR (v:Bool) (ns:List Nd) (fs:List FV):Rc:=if v=true then coverR (plL ns fs) else zRc
def bndB (v:Bool) (ns:List Nd) (fs:List FV):Bool:=if v=true then coverB (plL ns fs) else false
theorem plL_ok {ns:List Nd} {fs:List FV} (h:fs.all fOk=true) (hn:ns.length≤1000):∀r∈plL ns fs,r.Ok:=by
 intro r hr;obtain⟨i,hi,rfl⟩:=List.mem_map.1 hr;exact (plN_bd ns (fun i=>fgN_bd h i) (by have:=List.mem_range.1 hi;omega)).ok
section
variable (t:Tr) (ns:List Nd)
theorem bounds_any (a b:Int) (v1 v2 v3:Value) (A:Option Addr) (n c:Nat) (fs:List FV) (w:World) (hck:∀w',Ext w w'→Calls Tryz.prog 39 #[.agg t.cs] w' (fun e w2=>e=.returned (.tuple #[.int .i64 a,.int .i64 b])∧Ext w' w2))
  (hf:FrsIn w A n fs) (hn:n≤1000) (hm:t.nl≤1000) (h:Rd w 44 t.na t.nl (nds ns)) (hT:b=0→TOk ns):Calls Tryz.prog 14 #[.agg t.cs,.agg (tbC v1 v2 v3 (.slice A n c)).toArray] w (BndIs w (bndR (togB b n t.nl fs) ns fs) (bndB (togB b n t.nl fs) ns fs)):=by
 have HCK:=AB hck;have HF:=AB hf;have HH:=AB h;have HT:=AB hT;have hl:=h.nlen;obtain⟨v,hv⟩:∃v,togB b n t.nl fs=v:=⟨_,rfl⟩
 have HV:=AB hv;have HM:=AB hm;have HN:=AB hn;have HL:=AB hl;rw[hv];clear hck hf h hT hl hv hm hn;go_enter Tryz.func14,Tryz.ntmps14;go_upto_region 1 with fail;generalize hw1:World.alloc (World.alloc (World.alloc w _) _) _=w1;obtain⟨gT,hgT⟩:∃g,w.heap.size=g:=⟨_,rfl⟩
 have BT:Blk w1 gT 25 t.cs:=by rw[←hw1,←hgT];exact ((Blk.new _ _ _).alloc _).alloc _
 have BX:Blk w1 (gT+1) 30 (tbC v1 v2 v3 (.slice A n c)).toArray:=by rw[←hw1,←hgT];exact (Blk.new1 _ _ _ _).alloc _
 have BR:Blk w1 (gT+1+1) 33 (rcC zRc).toArray:=by rw[←hw1,←hgT];exact Blk.new2 _ _ _ _ _
 have E1:=AB (show Ext w w1 by rw[←hw1];exact (((Ext.refl _).alloc _).alloc _).alloc _);have HGT:=AB hgT;rw[hgT];clear hgT hw1;have cG:=AB (places_hit t ns a b v1 v2 v3 A n c fs w1 (fun w' hx=>(AA HCK) w' ((AA E1).trans hx)) ((AA HF).ext (AA E1)) (AA HN) (AA HM) ((AA HH).ext (AA E1)) (AA HT));rw[AA HV] at cG;go_step;refine wpList_load_blk rfl 25 (.tmp 2) rfl gT rfl 25 t.cs _ BT Tryz.underlying25 rfl (info_tree _) ?_;simp only[AC];refine wpList_load_blk rfl 30 (.tmp 3) rfl (gT+1) rfl 30 (tbC v1 v2 v3 (.slice A n c)).toArray _ BX Tryz.underlying30 rfl (tb_size _ _ _ _) ?_;simp only[AC];go_wp2_with fail
 with_reducible refine (AA cG).mono ?_
 rintro e w2 ⟨A9,c9,rfl,RP,hx⟩;replace BR:=BR.ext hx;replace E1:=AB ((AA E1).trans hx);clear hx cG HCK BX BT;cases v
 ·
  go_upto_region 3 with fail;go_step;refine wpList_buildTo rfl 33 _ rfl _ rfl (rcC zRc).toArray (by rw[Array.map_empty];exact built_rc0) ?_;simp only[AC];refine wpList_store_blk rfl 33 (.tmp 4) (.tmp 16) rfl (gT+1+1) rfl (rcC zRc).toArray rfl 33 (rcC zRc).toArray BR (rcC_size _) rfl (by kernel_rfl) ?_;intro wz Bz gz zz;simp only[Act.put];go_wp2_with fail;refine bodyPost_ret (results_cell_tmp rfl _ _ (gT+1+1) 33 _ _ rfl Bz Tryz.underlying33 rfl (rcC_size _)) rfl ?_;exact⟨rfl,(AA E1).grown gz (fun q e=>by have:=Option.some.inj e;have:=AA HGT;omega)⟩
 ·
  obtain⟨hb0,hnm,hall⟩:=tog_yes (AA HV);have hml:ns.length≤1000:=by have:=AA HL;have:=AA HM;omega
  have hpl:plV true ns fs=plL ns fs:=rfl;rw[hpl] at RP;have cC:=AB (cover_any A9 (plL ns fs).length c9 (plL ns fs) w2 (by rw[rcs_recs];exact RP) (plL_ok hall hml) (by rw[plL_len];omega));have HR:=AB (show bndR true ns fs=coverR (plL ns fs) from rfl);have HB:=AB (show bndB true ns fs=coverB (plL ns fs) from rfl);generalize bndR true ns fs=R at *;generalize bndB true ns fs=B at *;rw[←AA HR,←AA HB] at cC;rw[hpl];generalize plL ns fs=L at *;clear RP hb0 hnm hall hml hpl;go_upto_region 4 with fail;go_wp2_with fail
  with_reducible refine (AA cC).mono ?_
  rintro e w3 ⟨rfl,hx⟩;dsimp only
  iterate 7 go_step
  refine wpList_store_blk rfl 33 (.tmp 4) (.tmp 19) rfl (gT+1+1) rfl (rcC R).toArray rfl 33 (rcC zRc).toArray (BR.ext hx) (rcC_size _) rfl (by kernel_rfl) ?_;intro wz Bz gz zz;simp only[Act.put];go_wp2_with fail;refine bodyPost_ret (results_cell_tmp rfl _ _ (gT+1+1) 33 _ _ rfl Bz Tryz.underlying33 rfl (rcC_size _)) rfl ?_;exact⟨rfl,((AA E1).trans hx).grown gz (fun q e=>by have:=Option.some.inj e;have:=AA HGT;omega)⟩
end
end Go.Proofs.YtamldoocjjdidaaGreat
