import Derived.Test.YtamldoocjjdidaaGreatMCrE
import Derived.Test.YtamldoocjjdidaaGreatMEdG
namespace Go.Proofs.YtamldoocjjdidaaGreat
open Go.RowKit
set_option maxRecDepth 100000
set_option maxHeartbeats 64000000
def rcs (l:List Rc):List Value:=l.flatMap fun r=>r.cs.toList
theorem rcs_len (l:List Rc):(rcs l).length=l.length*4:=by
 unfold rcs
 induction l with
 |nil=>rfl
 |cons r t ih=>rw[List.flatMap_cons,List.length_append,ih];simp;omega
theorem rcs_get:∀(l:List Rc) (k:Nat) (r:Rc),l[k]?=some r→(rcs l)[k*4]?=some (.int .i64 r.x)∧(rcs l)[k*4+1]?=some (.int .i64 r.y)∧(rcs l)[k*4+2]?=some (.int .i64 r.w)∧(rcs l)[k*4+3]?=some (.int .i64 r.h)
 |[],k,r,h=>by simp at h
 |a :: t,0,r,h=>by
  simp at h;subst h;exact⟨rfl,rfl,rfl,rfl⟩
 |a :: t,k+1,r,h=>by
  have ih:=rcs_get t k r (by simpa using h);have e:rcs (a :: t)=.int .i64 a.x :: .int .i64 a.y :: .int .i64 a.w :: .int .i64 a.h :: rcs t:=rfl;rw[e];have q:∀j,(Value.int .i64 a.x :: .int .i64 a.y :: .int .i64 a.w :: .int .i64 a.h :: rcs t)[j+4]?=(rcs t)[j]?:=fun j=>rfl
  rw[show (k+1)*4=k*4+4 by omega,show k*4+4+1=(k*4+1)+4 by omega,show k*4+4+2=(k*4+2)+4 by omega,show k*4+4+3=(k*4+3)+4 by omega,q,q,q,q];exact ih
theorem Rd.rc {w:World} {A:Option Addr} {n:Nat} {l:List Rc} (h:Rd w 4 A n (rcs l)) {k:Nat} (hk:k<n):∃b off r,A=some ⟨b,off,none⟩∧b<w.heap.size∧l[k]?=some r ∧
  w.cell? ⟨b,off+k*4,none⟩=some (.int .i64 r.x)∧w.cell? ⟨b,off+k*4+1,none⟩=some (.int .i64 r.y)∧w.cell? ⟨b,off+k*4+2,none⟩=some (.int .i64 r.w)∧w.cell? ⟨b,off+k*4+3,none⟩=some (.int .i64 r.h):=by
 obtain⟨b,off,rfl,hb,hc⟩:=h.at_ (by omega);have hl:l.length=n:=by have:=h.len;rw[rcs_len] at this;omega
 have hr:l[k]?=some l[k]:=AE (by omega);obtain⟨q0,q1,q2,q3⟩:=rcs_get l k _ hr;exact⟨b,off,_,rfl,hb,hr,hc _ _ q0,hc _ _ q1,hc _ _ q2,hc _ _ q3⟩
theorem vint {k:IntKind} {a b:Int} (h:a=b):Value.int k a=.int k b:=by rw[h]
def stepA (s:Bool×Int×Int) (r:Rc):Bool×Int×Int:=if r.some then (true,if s.1 then min s.2.1 r.x else r.x,if s.1 then min s.2.2 r.y else r.y) else s
def stepB (x y:Int) (s:Int×Int×Bool×Bool) (r:Rc):Int×Int×Bool×Bool:=
 if r.some then (max s.1 (cutV (r.x+r.w-x)),max s.2.1 (cutV (r.y+r.h-y)),s.2.2.1||cutB (r.x+r.w-x),s.2.2.2||cutB (r.y+r.h-y)) else s
def covA (l:List Rc):Bool×Int×Int:=l.foldl stepA (false,0,0)
def covB (x y:Int) (l:List Rc):Int×Int×Bool×Bool:=l.foldl (stepB x y) (0,0,false,false)
theorem fold_take {α β:Type} (f:β→α→β) (b:β) (l:List α) (k:Nat) (r:α) (h:l[k]?=some r):(l.take (k+1)).foldl f b=f ((l.take k).foldl f b) r:=by
 rw[List.take_add_one,h];simp
def coverR (l:List Rc):Rc:=if (covA l).1 then ⟨cutV (covA l).2.1,cutV (covA l).2.2,(covB (covA l).2.1 (covA l).2.2 l).1,(covB (covA l).2.1 (covA l).2.2 l).2.1⟩ else ⟨0,0,0,0⟩
def coverB (l:List Rc):Bool:=(covA l).1&&(cutB (covA l).2.1||cutB (covA l).2.2||(covB (covA l).2.1 (covA l).2.2 l).2.2.1||(covB (covA l).2.1 (covA l).2.2 l).2.2.2)
theorem covA_bd (l:List Rc) (h:∀r∈l,r.Ok):(-9223372036854775808≤(covA l).2.1∧(covA l).2.1≤9223372036854775807)∧(-9223372036854775808≤(covA l).2.2∧(covA l).2.2≤9223372036854775807):=by
 have:∀(l:List Rc) (s:Bool×Int×Int),(∀r∈l,r.Ok)→((-9223372036854775808≤s.2.1∧s.2.1≤9223372036854775807)∧(-9223372036854775808≤s.2.2∧s.2.2≤9223372036854775807)) →
   ((-9223372036854775808≤(l.foldl stepA s).2.1∧(l.foldl stepA s).2.1≤9223372036854775807)∧(-9223372036854775808≤(l.foldl stepA s).2.2∧(l.foldl stepA s).2.2≤9223372036854775807)):=by
  intro l
  induction l with
  |nil=>intro s _ hs;exact hs
  |cons r t ih=>
   intro s hr hs;refine ih _ (fun r' h'=>hr r' (List.mem_cons_of_mem _ h')) ?_;obtain⟨q1,q2,q3,q4,-,-,-,-⟩:=hr r (List.mem_cons_self ..);unfold stepA;obtain⟨b,X,Y⟩:=s;simp only at hs
   split
   ·cases b<;>simp<;>omega
   ·exact hs
 exact this l _ h (by simp)
theorem cover_any (A:Option Addr) (n c:Nat) (l:List Rc) (w:World) (hr:Rd w 4 A n (rcs l)) (hok:∀r∈l,r.Ok) (hn:n≤100000) :
  Calls Tryz.prog 30 #[.slice A n c] w fun e w'=>e=.returned (.tuple #[.agg (coverR l).cs,.bool (coverB l)])∧Ext w w':=by
 have hl:l.length=n:=by have:=hr.len;rw[rcs_len] at this;omega
 go_enter Tryz.func30,Tryz.ntmps30;go_wp2_with fail;have B0:Blk (w.alloc (.cells #[.int .i64 0,.int .i64 0,.int .i64 0,.int .i64 0] 33)) w.heap.size 33 #[.int .i64 0,.int .i64 0,.int .i64 0,.int .i64 0]:=Blk.new _ _ _;have E0:Ext w (w.alloc (.cells #[.int .i64 0,.int .i64 0,.int .i64 0,.int .i64 0] 33)):=(Ext.refl _).alloc _;generalize w.alloc (.cells #[.int .i64 0,.int .i64 0,.int .i64 0,.int .i64 0] 33)=wa at *;go_loopw [4,5,6,19] (fun x y is i wr=>∃k:Nat,k≤n∧i=.int .i64 k∧x=.int .i64 (covA (l.take k)).2.1∧y=.int .i64 (covA (l.take k)).2.2∧is=.bool (covA (l.take k)).1∧Ext wa wr) (fun _ _ _ i _=>n-(intOf i).toNat)
 case atStart=>exact⟨0,Nat.zero_le _,rfl,rfl,rfl,rfl,Ext.refl _⟩
 case round=>
  obtain⟨k,hk,rfl,rfl,rfl,rfl,hE⟩:=hrel;by_cases hlt:k<n
  ·have hltI:(k:Int)<(n:Int):=by omega
   obtain⟨b,off,r,rfl,hb,hrk,q0,q1,q2,q3⟩:=(hr.ext (E0.trans hE)).rc hlt;have c1:=fun w=>AB (some_any r w)
   generalize hS:covA (l.take k)=S at *;have HS:=AB hS;have HR:=AB hrk;have HL:=AB hl;clear hS hrk hl hr hok;obtain⟨is,X,Y⟩:=S;obtain⟨rx,ry,rw,rh⟩:=r;go_wp2_with fail;have B1:Blk (wr.alloc (.cells #[.int .i64 rx,.int .i64 ry,.int .i64 rw,.int .i64 rh] 33)) wr.heap.size 33 #[.int .i64 rx,.int .i64 ry,.int .i64 rw,.int .i64 rh]:=Blk.new _ _ _;have E1:Ext wa (wr.alloc (.cells #[.int .i64 rx,.int .i64 ry,.int .i64 rw,.int .i64 rh] 33)):=hE.alloc _;generalize hg:wr.heap.size=g at *;have HG:=AB hg;generalize wr.alloc (.cells #[.int .i64 rx,.int .i64 ry,.int .i64 rw,.int .i64 rh] 33)=w1 at *;refine (AA (c1 _)).mono ?_;rintro e w2 ⟨rfl,hx⟩;have B2:=B1.ext hx;have E2:=E1.trans hx;have d2:=B2.cell;have hn1:Rc.some ⟨rx,ry,rw,rh⟩=false→covA (l.take (k+1))=(is,X,Y):=fun h=>by
    rw[covA,fold_take _ _ _ _ _ (AA HR)];show stepA (covA _) _=_;rw[AA HS];simp[stepA,h]
   have hn2:Rc.some ⟨rx,ry,rw,rh⟩=true→covA (l.take (k+1))=(true,if is then min X rx else rx,if is then min Y ry else ry):=fun h=>by
    rw[covA,fold_take _ _ _ _ _ (AA HR)];show stepA (covA _) _=_;rw[AA HS];simp[stepA,h]
   clear B1 E1 hx q0 q1 q2 q3 hE c1 hg HG;generalize Rc.some ⟨rx,ry,rw,rh⟩=s at *;cases s
   ·have HN:=AB (hn1 rfl);clear hn1 hn2;go_wp2_with fail;go_roundw
    case rel=>exact⟨k+1,by omega,by go_num,by rw[AA HN],by rw[AA HN],by rw[AA HN],E2⟩
    case measure=>simp[intOf];omega
   ·have HN:=AB (hn2 rfl);clear hn1 hn2;cases is
    ·go_wp2_with fail;go_region
     go_wp2_with fail;go_region
     go_wp2_with fail;go_roundw
     case rel=>exact⟨k+1,by omega,by go_num,by rw[AA HN];exact vint (by simp),by rw[AA HN];exact vint (by simp),by rw[AA HN],E2.drew.drew⟩
     case measure=>simp[intOf];omega
    ·go_wp2_with fail;go_region
     go_wp2_with fail;go_roundw
     case rel=>exact⟨k+1,by omega,by go_num,by rw[AA HN];exact vint (by simp<;>omega),by rw[AA HN];exact vint (by simp<;>omega),by rw[AA HN],E2.drew⟩
     case measure=>simp[intOf];omega
  ·obtain rfl:k=n:=by omega
   have hS:covA (l.take k)=covA l:=by rw[List.take_of_length_le (by omega)]
   rw[hS];have B1:=B0.ext hE;have E1:=E0.trans hE;have R1:=hr.ext E1;have hbd:=covA_bd l hok;clear hS hr B0 E0 hE;generalize hS:covA l=S at *;have HS:=AB hS;clear hS;obtain⟨is,X,Y⟩:=S;simp only at hbd;obtain⟨bX,bY⟩:=hbd;generalize hg0:w.heap.size=g0 at *;have zg:=B1.lt;cases is
   ·have c1:=B1.cell;have f1:=B1.frozen;clear hok R1;go_wp2_with fail;refine bodyPost_ret (results_cell_tmp rfl _ _ g0 33 _ _ rfl ((((B1.set_ 0 _).set_ 1 _).set_ 2 _).set_ 3 _) Tryz.underlying33 rfl (by kernel_rfl)) rfl ⟨?_,?_⟩
    ·have h1:coverR l=⟨0,0,0,0⟩:=by rw[coverR,AA HS];rfl
     have h2:coverB l=false:=by rw[coverB,AA HS];rfl
     rw[h1,h2];rfl
    exact (((E1.set (by simp;omega) _).set (by simp;omega) _).set (by simp;omega) _).set (by simp;omega) _
   ·have cx:=fun w=>AB (au_cut X w)
    have cy:=fun w=>AB (au_cut Y w)
    have HL:=AB (And.intro hl hok);clear hl hok;have hfin:coverR l=⟨cutV X,cutV Y,(covB X Y l).1,(covB X Y l).2.1⟩∧coverB l=(cutB X||cutB Y||(covB X Y l).2.2.1||(covB X Y l).2.2.2):=by rw[coverR,coverB,AA HS];exact⟨rfl,rfl⟩
    have HF:=AB hfin;clear hfin;generalize cutV X=cX at *;generalize cutV Y=cY at *;generalize cutB X=dX at *;generalize cutB Y=dY at *;go_wp2_with (first|(go_at_call 44;((first|(with_reducible refine (AA (cx _)).mono ?_)|(with_reducible refine (AA (cy _)).mono ?_));rintro e w' ⟨rfl,rfl⟩)));have G9:Blk ((wr.alloc (.cells #[.int .i64 cX,.int .i64 cY,.int .i64 0,.int .i64 0] 33)).alloc (.cells #[.bool dX,.bool dY,.bool false,.bool false] 97)) wr.heap.size 33 #[.int .i64 cX,.int .i64 cY,.int .i64 0,.int .i64 0]:=(Blk.new _ _ _).alloc _;have G10:Blk ((wr.alloc (.cells #[.int .i64 cX,.int .i64 cY,.int .i64 0,.int .i64 0] 33)).alloc (.cells #[.bool dX,.bool dY,.bool false,.bool false] 97)) (wr.heap.size+1) 97 #[.bool dX,.bool dY,.bool false,.bool false]:=Blk.new1 _ _ _ _;have GE:Ext wr ((wr.alloc (.cells #[.int .i64 cX,.int .i64 cY,.int .i64 0,.int .i64 0] 33)).alloc (.cells #[.bool dX,.bool dY,.bool false,.bool false] 97)):=((Ext.refl _).alloc _).alloc _;generalize ((wr.alloc (.cells #[.int .i64 cX,.int .i64 cY,.int .i64 0,.int .i64 0] 33)).alloc (.cells #[.bool dX,.bool dY,.bool false,.bool false] 97))=wl at *;generalize wr=wo at *;have HW:=AB hg0;clear hg0;obtain⟨N,hN⟩:∃N,N=wo.heap.size:=⟨_,rfl⟩
    rw[←hN] at G9 G10 ⊢;have zg':g0<N:=by omega
    have HN:=AB hN;clear hN zg cx cy hlt;go_loopw [60] (fun i wq=>∃j:Nat,j≤k∧i=.int .i64 j∧Ext wo wq∧Blk wq N 33 #[.int .i64 cX,.int .i64 cY,.int .i64 (covB X Y (l.take j)).1,.int .i64 (covB X Y (l.take j)).2.1]∧Blk wq (N+1) 97 #[.bool dX,.bool dY,.bool (covB X Y (l.take j)).2.2.1,.bool (covB X Y (l.take j)).2.2.2]) (fun i _=>k-(intOf i).toNat)
    case atStart=>exact⟨0,Nat.zero_le _,rfl,GE,G9,G10⟩
    case round=>
     clear G9 G10 GE;obtain⟨j,hj,rfl,H0,B9,B10⟩:=hrel;by_cases hlt:j<k
     ·have hltI:(j:Int)<(k:Int):=by omega
      obtain⟨b,off,r,rfl,hb,hrk,q0,q1,q2,q3⟩:=(R1.ext H0).rc hlt;have hrok:r.Ok:=(AA HL).2 r (List.mem_of_getElem? hrk);have c1:=fun w=>AB (some_any r w)
      generalize hS:covB X Y (l.take j)=S at *;have HSB:=AB hS;have HR:=AB hrk;clear hS hrk R1;obtain⟨VW,VH,V2,V3⟩:=S;obtain⟨rx,ry,rw,rh⟩:=r;obtain⟨x1,x2,y1,y2,w1,w2,h1,h2⟩:=hrok;simp only at x1 x2 y1 y2 w1 w2 h1 h2;go_wp2_with fail;have B3:Blk (wr.alloc (.cells #[.int .i64 rx,.int .i64 ry,.int .i64 rw,.int .i64 rh] 33)) wr.heap.size 33 #[.int .i64 rx,.int .i64 ry,.int .i64 rw,.int .i64 rh]:=Blk.new _ _ _;have hx1:Ext wr (wr.alloc (.cells #[.int .i64 rx,.int .i64 ry,.int .i64 rw,.int .i64 rh] 33)):=(Ext.refl _).alloc _;have H0s:=H0.size;generalize hg:wr.heap.size=g at *;generalize wr.alloc (.cells #[.int .i64 rx,.int .i64 ry,.int .i64 rw,.int .i64 rh] 33)=w1 at *;refine (AA (c1 _)).mono ?_;rintro e W0 ⟨rfl,hx⟩;have Br:=B3.ext hx;replace hx:=hx1.trans hx;replace H0:=H0.trans hx;replace B9:=B9.ext hx;replace B10:=B10.ext hx;have hn1:Rc.some ⟨rx,ry,rw,rh⟩=false→covB X Y (l.take (j+1))=(VW,VH,V2,V3):=fun h=>by
       rw[covB,fold_take _ _ _ _ _ (AA HR)];show stepB X Y (covB X Y _) _=_;rw[AA HSB];simp[stepB,h]
      have hn2:Rc.some ⟨rx,ry,rw,rh⟩=true→covB X Y (l.take (j+1))=(max VW (cutV (rx+rw-X)),max VH (cutV (ry+rh-Y)),V2||cutB (rx+rw-X),V3||cutB (ry+rh-Y)):=fun h=>by
       rw[covB,fold_take _ _ _ _ _ (AA HR)];show stepB X Y (covB X Y _) _=_;rw[AA HSB];simp[stepB,h]
      have cw:=fun A c w1 (h:Rd w1 1 A ((lessL X).length+2) (ints (lessL X++[rx,rw])))=>au_sum A _ c _ w1 h (lessL_ok bX.1 bX.2 (l:=[rx,rw]) (by unfold I64s;simp;omega)) (by have:=lessL_len X;omega)
      have ch:=fun A c w1 (h:Rd w1 1 A ((lessL Y).length+2) (ints (lessL Y++[ry,rh])))=>au_sum A _ c _ w1 h (lessL_ok bY.1 bY.2 (l:=[ry,rh]) (by unfold I64s;simp;omega)) (by have:=lessL_len Y;omega)
      have s0:lsum (lessL X++[rx,rw])=rx+rw-X:=by rw[lessL_sum];simp[lsum]
      have s1:lsum (lessL Y++[ry,rh])=ry+rh-Y:=by rw[lessL_sum];simp[lsum]
      rw[s0] at cw;rw[s1] at ch;clear B3 hx1 hx c1 hg q0 q1 q2 q3 s0 s1 x1 x2 y1 y2 w1 w2 h1 h2 hb;generalize Rc.some ⟨rx,ry,rw,rh⟩=s at *;cases s
      ·have HN1:=AB (hn1 rfl);clear hn1 hn2 cw ch;go_wp2_with fail;go_roundw
       case rel=>exact⟨j+1,by omega,by go_num,H0,by rw[AA HN1];exact B9,by rw[AA HN1];exact B10⟩
       case measure=>simp[intOf];omega
      ·have HN1:=AB (hn2 rfl);clear hn1 hn2;generalize cutV (rx+rw-X)=SW at *;generalize cutV (ry+rh-Y)=SH at *;generalize cutB (rx+rw-X)=sw at *;generalize cutB (ry+rh-Y)=sh at *;go_wp2_with fail;refine wp_region_lin (by kernel_rfl) (fun w'=>(ExtX W0 w' [])) (fun i vv ww=>match i with|0=>vv=.int .i64 X|1=>∃g,W0.heap.size≤g∧vv=.slice (some ⟨g,0,none⟩) (lessL X).length (lessL X).length∧Blk ww g 2 (ints (lessL X)).toArray|2=>vv=.pointer (some ⟨g,0,none⟩)|3=>vv=.int .i64 rx|4=>vv=.pointer (some ⟨g,2,none⟩)|5=>vv=.int .i64 rw|6=>∃g,vv=.slice (some ⟨g,0,none⟩) 2 2∧Blk ww g 2 #[.int .i64 rx,.int .i64 rw]|7=>∃A c,vv=.slice A ((lessL X).length+2) c∧Rd ww 1 A ((lessL X).length+2) (ints (lessL X++[rx,rw]))|8=>vv=.tuple #[.int .i64 SW,.bool sw]|9=>vv=.tuple #[.int .i64 SW,.bool sw]|10=>vv=.int .i64 SW|11=>vv=.bool sw|12=>vv=.int .i64 SW|13=>vv=.bool sw|_=>True) (fun i=>match i with|1=>[(0,68)]|3=>[(2,70)]|5=>[(4,72)]|6=>[(3,71),(5,73)]|7=>[(1,69),(6,74)]|8=>[(7,75)]|9=>[(8,76)]|10=>[(9,67)]|11=>[(9,67)]|12=>[(10,77)]|13=>[(11,78)]|_=>[]) (fun i=>match i with|0=>[4]|2=>[12]|4=>[12]|_=>[]) (fun i=>match i with|0=>[2,4,3,5,6]|1=>[2,4,3,5,6]|2=>[0,4,5,1]|3=>[0,4,5,1]|4=>[0,2,3,1]|5=>[0,2,3,1]|6=>[0,1]|10=>[9,11]|11=>[9,10,12]|12=>[9,11]|13=>[12]|_=>[]) [12,13] [0,1,0,4,0,16,60,127,255,511,1023,1023,2047,8191] 118 rfl (by kernel_rfl) (ExtX.start _ _) ?_ ?_
       ·rename_i hcont;clear hcont
        refine⟨?_,?_,?_,?_,?_,?_,?_,?_,?_,?_,?_,?_,?_,?_,trivial⟩
        ·refine stepL_plain rfl ?_;rintro F a w1 jE - ⟨t4,-⟩ K hK;have t4:a.tmps[4]?=some (.int .i64 X):=t4;go_simp;exact hK _ _ jE rfl (fun _ _ _ h=>h)
        ·refine stepL_plain rfl ?_;rintro F a w1 jE ⟨h0,t68,-⟩ - K hK;have h0:(F 0)=.int .i64 X:=h0;rw[h0] at t68;clear h0;go_simp
         with_reducible refine (less_l X bX.1 bX.2 _).mono ?_
         rintro e w2 ⟨rfl,rfl⟩;have hx:Ext w1 (w1.alloc (.cells (ints (lessL X)).toArray 2)):=(Ext.refl _).alloc _;exact hK _ _ (jE.trans hx) (⟨_,jE.size,rfl,Blk.new _ _ _⟩) (by intro j hj u h;have hj:j∈[2,4,3,5,6]:=hj;simp only[List.mem_cons,List.not_mem_nil,or_false] at hj;rcases hj with rfl|rfl|rfl|rfl|rfl;exact (have h:u=.pointer (some ⟨g,0,none⟩):=h;h);exact (have h:u=.pointer (some ⟨g,2,none⟩):=h;h);exact (have h:u=.int .i64 rx:=h;h);exact (have h:u=.int .i64 rw:=h;h);exact (have h:∃g,u=.slice (some ⟨g,0,none⟩) 2 2∧Blk w1 g 2 #[.int .i64 rx,.int .i64 rw]:=h;h.imp fun _ k=>⟨k.1,k.2.ext hx⟩))
        ·refine stepL_plain rfl ?_;rintro F a w1 jE - ⟨t12,-⟩ K hK;have t12:a.tmps[12]?=some (.pointer (some ⟨g,0,none⟩)):=t12;go_simp;exact hK _ _ jE rfl (fun _ _ _ h=>h)
        ·refine stepL_plain rfl ?_;rintro F a w1 jE ⟨h2,t70,-⟩ - K hK;have h2:(F 2)=.pointer (some ⟨g,0,none⟩):=h2;rw[h2] at t70;clear h2;have c:=(jE.blk Br (by simp)).cell;go_simp;exact hK _ _ jE rfl (fun _ _ _ h=>h)
        ·refine stepL_plain rfl ?_;rintro F a w1 jE - ⟨t12,-⟩ K hK;have t12:a.tmps[12]?=some (.pointer (some ⟨g,0,none⟩)):=t12;go_simp;exact hK _ _ jE rfl (fun _ _ _ h=>h)
        ·refine stepL_plain rfl ?_;rintro F a w1 jE ⟨h4,t72,-⟩ - K hK;have h4:(F 4)=.pointer (some ⟨g,2,none⟩):=h4;rw[h4] at t72;clear h4;have c:=(jE.blk Br (by simp)).cell;go_simp;exact hK _ _ jE rfl (fun _ _ _ h=>h)
        ·refine stepL_plain rfl ?_;rintro F a w1 jE ⟨h3,t71,h5,t73,-⟩ - K hK;have h3:(F 3)=.int .i64 rx:=h3;rw[h3] at t71;clear h3;have h5:(F 5)=.int .i64 rw:=h5;rw[h5] at t73;clear h5;go_simp;have hx:Ext w1 (w1.alloc (.cells #[.int .i64 rx,.int .i64 rw] 2)):=(Ext.refl _).alloc _;exact hK _ _ (jE.trans hx) (⟨_,rfl,Blk.new _ _ _⟩) (by intro j hj u h;have hj:j∈[0,1]:=hj;simp only[List.mem_cons,List.not_mem_nil,or_false] at hj;rcases hj with rfl|rfl;exact (have h:u=.int .i64 X:=h;h);exact (have h:∃g,W0.heap.size≤g∧u=.slice (some ⟨g,0,none⟩) (lessL X).length (lessL X).length∧Blk w1 g 2 (ints (lessL X)).toArray:=h;h.imp fun _ k=>⟨k.1,k.2.1,k.2.2.ext hx⟩))
        ·refine stepL_plain rfl ?_;rintro F a w1 jE ⟨h1,t69,h6,t74,-⟩ - K hK;have h1:∃g,W0.heap.size≤g∧(F 1)=.slice (some ⟨g,0,none⟩) (lessL X).length (lessL X).length∧Blk w1 g 2 (ints (lessL X)).toArray:=h1;have h6:∃g,(F 6)=.slice (some ⟨g,0,none⟩) 2 2∧Blk w1 g 2 #[.int .i64 rx,.int .i64 rw]:=h6;obtain⟨g1,hg1,e1,k1⟩:=h1;obtain⟨g2,e2,k2⟩:=h6;rw[e1] at t69;rw[e2] at t74;obtain⟨i0,hi0,hz0,hz1,hz2⟩:=info_parts i64_info;refine wp_append_rd (.tmp 69) (.tmp 74) _ rfl W0.heap.size 2 i0 _ 1 8 Tryz.underlying23 hi0 hz0 hz1 hz2 rfl (by omega) _ ((lessL X).length) (ints (lessL X)) (eval_tmp t69) (by have h:=k1.own (base:=W0.heap.size) (n:=(lessL X).length) hg1 (by simp[ints]) (by have:=lessL_len X;simp only[maxLen];omega);simpa using h) _ (2) 2 ([.int .i64 rx,.int .i64 rw]) (eval_tmp t74) (k2.rd rfl) (by simp[Value.oneCell']) (by have:=lessL_len X;simp only[maxLen];omega) (by have:=lessL_len X;omega) jE.size ?_;intro A' c' w2 own4 g4 at4;exact hK _ _ (jE.grown g4 (fun m e=>by have e:g1=m:=Option.some.inj e;omega)) (⟨A',c',rfl,by have h:=Rd.of_own own4;simpa[ints] using h⟩) (fun _ hj _ _=>(List.not_mem_nil hj).elim)
        ·refine stepL_plain rfl ?_;rintro F a w1 jE ⟨h7,t75,-⟩ - K hK;have h7:∃A c,(F 7)=.slice A ((lessL X).length+2) c∧Rd w1 1 A ((lessL X).length+2) (ints (lessL X++[rx,rw])):=h7;obtain⟨A6,c6,e6,k6⟩:=h7;rw[e6] at t75;go_simp
         with_reducible refine (cw _ c6 _ k6).mono ?_
         rintro e w2 ⟨rfl,hx⟩;exact hK _ _ (jE.trans hx) (rfl) (fun _ hj _ _=>(List.not_mem_nil hj).elim)
        ·refine stepL_plain rfl ?_;rintro F a w1 jE ⟨h8,t76,-⟩ - K hK;have h8:(F 8)=.tuple #[.int .i64 SW,.bool sw]:=h8;rw[h8] at t76;clear h8;go_simp;exact hK _ _ jE rfl (fun _ _ _ h=>h)
        ·refine stepL_plain rfl ?_;rintro F a w1 jE ⟨h9,t67,-⟩ - K hK;have h9:(F 9)=.tuple #[.int .i64 SW,.bool sw]:=h9;rw[h9] at t67;clear h9;go_simp;exact hK _ _ jE rfl (fun _ _ _ h=>h)
        ·refine stepL_plain rfl ?_;rintro F a w1 jE ⟨h9,t67,-⟩ - K hK;have h9:(F 9)=.tuple #[.int .i64 SW,.bool sw]:=h9;rw[h9] at t67;clear h9;go_simp;exact hK _ _ jE rfl (fun _ _ _ h=>h)
        ·refine stepL_plain rfl ?_;rintro F a w1 jE ⟨h10,t77,-⟩ - K hK;have h10:(F 10)=.int .i64 SW:=h10;rw[h10] at t77;clear h10;go_simp;exact hK _ _ jE rfl (fun _ _ _ h=>h)
        ·refine stepL_plain rfl ?_;rintro F a w1 jE ⟨h11,t78,-⟩ - K hK;have h11:(F 11)=.bool sw:=h11;rw[h11] at t78;clear h11;go_simp;exact hK _ _ jE rfl (fun _ _ _ h=>h)
       ·rintro F W1 jE ⟨h12,h13,-⟩;have h12:(F 12)=.int .i64 SW:=h12;have h13:(F 13)=.bool sw:=h13;replace Br:=jE.blk Br (by simp);replace B9:=jE.blk B9 (by simp);replace B10:=jE.blk B10 (by simp);have H1:Ext wo W1:=jE.ext H0 (by simp);clear H0 jE;simp only[putL,Act.put,Nat.reduceAdd,Nat.zero_add,List.setIfInBounds_toArray,List.set_cons_succ,List.set_cons_zero];rw[h12,h13];clear h12 h13;replace H0:=H1;clear H1;go_wp2_with fail;refine wp_region_lin (by kernel_rfl) (fun w'=>(ExtX W1 w' [])) (fun i vv ww=>match i with|0=>vv=.int .i64 Y|1=>∃g,W1.heap.size≤g∧vv=.slice (some ⟨g,0,none⟩) (lessL Y).length (lessL Y).length∧Blk ww g 2 (ints (lessL Y)).toArray|2=>vv=.pointer (some ⟨g,1,none⟩)|3=>vv=.int .i64 ry|4=>vv=.pointer (some ⟨g,3,none⟩)|5=>vv=.int .i64 rh|6=>∃g,vv=.slice (some ⟨g,0,none⟩) 2 2∧Blk ww g 2 #[.int .i64 ry,.int .i64 rh]|7=>∃A c,vv=.slice A ((lessL Y).length+2) c∧Rd ww 1 A ((lessL Y).length+2) (ints (lessL Y++[ry,rh]))|8=>vv=.tuple #[.int .i64 SH,.bool sh]|9=>vv=.tuple #[.int .i64 SH,.bool sh]|10=>vv=.int .i64 SH|11=>vv=.bool sh|12=>vv=.int .i64 SH|13=>vv=.bool sh|_=>True) (fun i=>match i with|1=>[(0,80)]|3=>[(2,82)]|5=>[(4,84)]|6=>[(3,83),(5,85)]|7=>[(1,81),(6,86)]|8=>[(7,87)]|9=>[(8,88)]|10=>[(9,79)]|11=>[(9,79)]|12=>[(10,89)]|13=>[(11,90)]|_=>[]) (fun i=>match i with|0=>[5]|2=>[12]|4=>[12]|_=>[]) (fun i=>match i with|0=>[2,4,3,5,6]|1=>[2,4,3,5,6]|2=>[0,4,5,1]|3=>[0,4,5,1]|4=>[0,2,3,1]|5=>[0,2,3,1]|6=>[0,1]|10=>[9,11]|11=>[9,10,12]|12=>[9,11]|13=>[12]|_=>[]) [12,13] [0,1,0,4,0,16,60,127,255,511,1023,1023,2047,8191] 118 rfl (by kernel_rfl) (ExtX.start _ _) ?_ ?_
        ·rename_i hcont;clear hcont
         refine⟨?_,?_,?_,?_,?_,?_,?_,?_,?_,?_,?_,?_,?_,?_,trivial⟩
         ·refine stepL_plain rfl ?_;rintro F a w1 jE - ⟨t5,-⟩ K hK;have t5:a.tmps[5]?=some (.int .i64 Y):=t5;go_simp;exact hK _ _ jE rfl (fun _ _ _ h=>h)
         ·refine stepL_plain rfl ?_;rintro F a w1 jE ⟨h0,t80,-⟩ - K hK;have h0:(F 0)=.int .i64 Y:=h0;rw[h0] at t80;clear h0;go_simp
          with_reducible refine (less_l Y bY.1 bY.2 _).mono ?_
          rintro e w2 ⟨rfl,rfl⟩;have hx:Ext w1 (w1.alloc (.cells (ints (lessL Y)).toArray 2)):=(Ext.refl _).alloc _;exact hK _ _ (jE.trans hx) (⟨_,jE.size,rfl,Blk.new _ _ _⟩) (by intro j hj u h;have hj:j∈[2,4,3,5,6]:=hj;simp only[List.mem_cons,List.not_mem_nil,or_false] at hj;rcases hj with rfl|rfl|rfl|rfl|rfl;exact (have h:u=.pointer (some ⟨g,1,none⟩):=h;h);exact (have h:u=.pointer (some ⟨g,3,none⟩):=h;h);exact (have h:u=.int .i64 ry:=h;h);exact (have h:u=.int .i64 rh:=h;h);exact (have h:∃g,u=.slice (some ⟨g,0,none⟩) 2 2∧Blk w1 g 2 #[.int .i64 ry,.int .i64 rh]:=h;h.imp fun _ k=>⟨k.1,k.2.ext hx⟩))
         ·refine stepL_plain rfl ?_;rintro F a w1 jE - ⟨t12,-⟩ K hK;have t12:a.tmps[12]?=some (.pointer (some ⟨g,0,none⟩)):=t12;go_simp;exact hK _ _ jE rfl (fun _ _ _ h=>h)
         ·refine stepL_plain rfl ?_;rintro F a w1 jE ⟨h2,t82,-⟩ - K hK;have h2:(F 2)=.pointer (some ⟨g,1,none⟩):=h2;rw[h2] at t82;clear h2;have c:=(jE.blk Br (by simp)).cell;go_simp;exact hK _ _ jE rfl (fun _ _ _ h=>h)
         ·refine stepL_plain rfl ?_;rintro F a w1 jE - ⟨t12,-⟩ K hK;have t12:a.tmps[12]?=some (.pointer (some ⟨g,0,none⟩)):=t12;go_simp;exact hK _ _ jE rfl (fun _ _ _ h=>h)
         ·refine stepL_plain rfl ?_;rintro F a w1 jE ⟨h4,t84,-⟩ - K hK;have h4:(F 4)=.pointer (some ⟨g,3,none⟩):=h4;rw[h4] at t84;clear h4;have c:=(jE.blk Br (by simp)).cell;go_simp;exact hK _ _ jE rfl (fun _ _ _ h=>h)
         ·refine stepL_plain rfl ?_;rintro F a w1 jE ⟨h3,t83,h5,t85,-⟩ - K hK;have h3:(F 3)=.int .i64 ry:=h3;rw[h3] at t83;clear h3;have h5:(F 5)=.int .i64 rh:=h5;rw[h5] at t85;clear h5;go_simp;have hx:Ext w1 (w1.alloc (.cells #[.int .i64 ry,.int .i64 rh] 2)):=(Ext.refl _).alloc _;exact hK _ _ (jE.trans hx) (⟨_,rfl,Blk.new _ _ _⟩) (by intro j hj u h;have hj:j∈[0,1]:=hj;simp only[List.mem_cons,List.not_mem_nil,or_false] at hj;rcases hj with rfl|rfl;exact (have h:u=.int .i64 Y:=h;h);exact (have h:∃g,W1.heap.size≤g∧u=.slice (some ⟨g,0,none⟩) (lessL Y).length (lessL Y).length∧Blk w1 g 2 (ints (lessL Y)).toArray:=h;h.imp fun _ k=>⟨k.1,k.2.1,k.2.2.ext hx⟩))
         ·refine stepL_plain rfl ?_;rintro F a w1 jE ⟨h1,t81,h6,t86,-⟩ - K hK;have h1:∃g,W1.heap.size≤g∧(F 1)=.slice (some ⟨g,0,none⟩) (lessL Y).length (lessL Y).length∧Blk w1 g 2 (ints (lessL Y)).toArray:=h1;have h6:∃g,(F 6)=.slice (some ⟨g,0,none⟩) 2 2∧Blk w1 g 2 #[.int .i64 ry,.int .i64 rh]:=h6;obtain⟨g1,hg1,e1,k1⟩:=h1;obtain⟨g2,e2,k2⟩:=h6;rw[e1] at t81;rw[e2] at t86;obtain⟨i0,hi0,hz0,hz1,hz2⟩:=info_parts i64_info;refine wp_append_rd (.tmp 81) (.tmp 86) _ rfl W1.heap.size 2 i0 _ 1 8 Tryz.underlying23 hi0 hz0 hz1 hz2 rfl (by omega) _ ((lessL Y).length) (ints (lessL Y)) (eval_tmp t81) (by have h:=k1.own (base:=W1.heap.size) (n:=(lessL Y).length) hg1 (by simp[ints]) (by have:=lessL_len Y;simp only[maxLen];omega);simpa using h) _ (2) 2 ([.int .i64 ry,.int .i64 rh]) (eval_tmp t86) (k2.rd rfl) (by simp[Value.oneCell']) (by have:=lessL_len Y;simp only[maxLen];omega) (by have:=lessL_len Y;omega) jE.size ?_;intro A' c' w2 own4 g4 at4;exact hK _ _ (jE.grown g4 (fun m e=>by have e:g1=m:=Option.some.inj e;omega)) (⟨A',c',rfl,by have h:=Rd.of_own own4;simpa[ints] using h⟩) (fun _ hj _ _=>(List.not_mem_nil hj).elim)
         ·refine stepL_plain rfl ?_;rintro F a w1 jE ⟨h7,t87,-⟩ - K hK;have h7:∃A c,(F 7)=.slice A ((lessL Y).length+2) c∧Rd w1 1 A ((lessL Y).length+2) (ints (lessL Y++[ry,rh])):=h7;obtain⟨A6,c6,e6,k6⟩:=h7;rw[e6] at t87;go_simp
          with_reducible refine (ch _ c6 _ k6).mono ?_
          rintro e w2 ⟨rfl,hx⟩;exact hK _ _ (jE.trans hx) (rfl) (fun _ hj _ _=>(List.not_mem_nil hj).elim)
         ·refine stepL_plain rfl ?_;rintro F a w1 jE ⟨h8,t88,-⟩ - K hK;have h8:(F 8)=.tuple #[.int .i64 SH,.bool sh]:=h8;rw[h8] at t88;clear h8;go_simp;exact hK _ _ jE rfl (fun _ _ _ h=>h)
         ·refine stepL_plain rfl ?_;rintro F a w1 jE ⟨h9,t79,-⟩ - K hK;have h9:(F 9)=.tuple #[.int .i64 SH,.bool sh]:=h9;rw[h9] at t79;clear h9;go_simp;exact hK _ _ jE rfl (fun _ _ _ h=>h)
         ·refine stepL_plain rfl ?_;rintro F a w1 jE ⟨h9,t79,-⟩ - K hK;have h9:(F 9)=.tuple #[.int .i64 SH,.bool sh]:=h9;rw[h9] at t79;clear h9;go_simp;exact hK _ _ jE rfl (fun _ _ _ h=>h)
         ·refine stepL_plain rfl ?_;rintro F a w1 jE ⟨h10,t89,-⟩ - K hK;have h10:(F 10)=.int .i64 SH:=h10;rw[h10] at t89;clear h10;go_simp;exact hK _ _ jE rfl (fun _ _ _ h=>h)
         ·refine stepL_plain rfl ?_;rintro F a w1 jE ⟨h11,t90,-⟩ - K hK;have h11:(F 11)=.bool sh:=h11;rw[h11] at t90;clear h11;go_simp;exact hK _ _ jE rfl (fun _ _ _ h=>h)
        ·rintro F W2 jE ⟨h12,h13,-⟩;have h12:(F 12)=.int .i64 SH:=h12;have h13:(F 13)=.bool sh:=h13;replace Br:=jE.blk Br (by simp);replace B9:=jE.blk B9 (by simp);replace B10:=jE.blk B10 (by simp);have H2:Ext wo W2:=jE.ext H0 (by simp);clear H0 jE;simp only[putL,Act.put,Nat.reduceAdd,Nat.zero_add,List.setIfInBounds_toArray,List.set_cons_succ,List.set_cons_zero];rw[h12,h13];clear h12 h13;have HM:max VW SW=(if VW<SW then SW else VW):=by split<;>omega
         have HM2:max VH SH=(if VH<SH then SH else VH):=by split<;>omega
         obtain⟨MW,hMW⟩:∃M,(if VW<SW then SW else VW)=M:=⟨_,rfl⟩
         obtain⟨MH,hMH⟩:∃M,(if VH<SH then SH else VH)=M:=⟨_,rfl⟩
         have HQ:=AB (And.intro (HM.trans hMW) (HM2.trans hMH));clear HM HM2;have e9:=B9.cell;have f9:=B9.frozen;have e10:=B10.cell;have f10:=B10.frozen;have H0s:=H2.size;have H0N:Hid (N=wo.heap.size):=HN;have zz:wo.heap.size≤N:=by have:=AA H0N;omega
         cases V2<;>cases V3
         all_goals
          go_wp2_with fail;go_roundw
          case rel=>
           refine⟨j+1,by omega,by go_num,((((H2.set (by simp;omega) _).set (by simp;omega) _).set (by simp;omega) _).set (by simp;omega) _),?_,?_⟩
           ·rw[AA HN1,(AA HQ).1,(AA HQ).2];exact (((B9.set_ 2 _).far (by simp) _).set_ 3 _).far (by simp) _
           ·rw[AA HN1];simp only[Bool.false_or,Bool.true_or];exact (((B10.far (by simp) _).set_ 2 _).far (by simp) _).set_ 3 _
          case measure=>simp[intOf];omega
     ·obtain rfl:j=k:=by omega
      have hS:covB X Y (l.take j)=covB X Y l:=by rw[List.take_of_length_le (by have:=(AA HL).1;omega)]
      rw[hS] at B9 B10;generalize covB X Y l=S at *;obtain⟨VW,VH,V2,V3⟩:=S;have B1':=B1.ext H0;have HF2:=HF;have e1:=B1'.cell;have f1:=B1'.frozen;have e9:=B9.cell;have f9:=B9.frozen;have e10:=B10.cell;have f10:=B10.frozen;have heq:=eq_bool4;have hne:g0≠N:=by omega
      have hne2:g0≠N+1:=by omega
      have ET:=E1.trans H0;clear R1 HL bX bY;go_wp2_with fail;go_region
      go_wp2
      refine bodyPost_ret (results_cell_tmp rfl _ _ g0 33 _ _ rfl ((((B1'.set_ 0 _).set_ 1 _).set_ 2 _).set_ 3 _) Tryz.underlying33 rfl (by kernel_rfl)) rfl ⟨?_,?_⟩
      ·rw[(AA HF2).1,(AA HF2).2];rfl
      ·have:=AA HW;exact ((((ET.set (by simp;omega) _).set (by simp;omega) _).set (by simp;omega) _).set (by simp;omega) _).drew
end Go.Proofs.YtamldoocjjdidaaGreat
