import Derived.Test.YtamldoocjjdidaaGreatMSp4
import Derived.Laws.EntriesVeiled
namespace Go.Proofs.YtamldoocjjdidaaGreat
open Go.RowKit
set_option maxRecDepth 100000
set_option maxHeartbeats 64000000
def ruleF:Nat→Nat
 |0=>122
 |1=>123
 |2=>124
 |3=>127
 |4=>129
 |5=>131
 |6=>134
 |7=>135
 |8=>136
 |9=>137
 |10=>138
 |11=>139
 |12=>140
 |13=>142
 |_=>143
@[reducible] def ruleC:Array Value:=#[fv 122,fv 123,fv 124,fv 127,fv 129,fv 131,fv 134,fv 135,fv 136,fv 137,fv 138,fv 139,fv 140,fv 142,fv 143]
theorem nat15 {k:Nat} (h:k<15):k=0∨k=1∨k=2∨k=3∨k=4∨k=5∨k=6∨k=7∨k=8∨k=9∨k=10∨k=11∨k=12∨k=13∨k=14:=by omega
theorem ruleC_at {k:Nat} (h:k<15):ruleC[k]?=some (fv (ruleF k)):=by
 rcases nat15 h with rfl|rfl|rfl|rfl|rfl|rfl|rfl|rfl|rfl|rfl|rfl|rfl|rfl|rfl|rfl<;>rfl
theorem rule_enter {k:Nat} (h:k<15) (args:Array Value) (w:World):(callFunc (ruleF k) args).run Tryz.prog w=.ok (.enter (ruleF k) args) w:=by
 rcases nat15 h with rfl|rfl|rfl|rfl|rfl|rfl|rfl|rfl|rfl|rfl|rfl|rfl|rfl|rfl|rfl
 ·exact (call_enter Tryz.func122 (by kernel_rfl) (by kernel_rfl)) args w
 ·exact (call_enter Tryz.func123 (by kernel_rfl) (by kernel_rfl)) args w
 ·exact (call_enter Tryz.func124 (by kernel_rfl) (by kernel_rfl)) args w
 ·exact (call_enter Tryz.func127 (by kernel_rfl) (by kernel_rfl)) args w
 ·exact (call_enter Tryz.func129 (by kernel_rfl) (by kernel_rfl)) args w
 ·exact (call_enter Tryz.func131 (by kernel_rfl) (by kernel_rfl)) args w
 ·exact (call_enter Tryz.func134 (by kernel_rfl) (by kernel_rfl)) args w
 ·exact (call_enter Tryz.func135 (by kernel_rfl) (by kernel_rfl)) args w
 ·exact (call_enter Tryz.func136 (by kernel_rfl) (by kernel_rfl)) args w
 ·exact (call_enter Tryz.func137 (by kernel_rfl) (by kernel_rfl)) args w
 ·exact (call_enter Tryz.func138 (by kernel_rfl) (by kernel_rfl)) args w
 ·exact (call_enter Tryz.func139 (by kernel_rfl) (by kernel_rfl)) args w
 ·exact (call_enter Tryz.func140 (by kernel_rfl) (by kernel_rfl)) args w
 ·exact (call_enter Tryz.func142 (by kernel_rfl) (by kernel_rfl)) args w
 ·exact (call_enter Tryz.func143 (by kernel_rfl) (by kernel_rfl)) args w
theorem rule_any {k:Nat} (h:k<15) (s:Sty) (g:Nat) (w:World) (B:Blk w g 65 s.cells):Calls Tryz.prog (ruleF k) #[.pointer (some ⟨g,0,none⟩)] w fun e w'=>e=.returned (.bool (ruleV s k))∧Ext w w':=by
 rcases nat15 h with rfl|rfl|rfl|rfl|rfl|rfl|rfl|rfl|rfl|rfl|rfl|rfl|rfl|rfl|rfl
 ·exact rule_0 s g w B
 ·exact rule_1 s g w B
 ·exact rule_2 s g w B
 ·exact rule_3 s g w B
 ·exact rule_4 s g w B
 ·exact rule_5 s g w B
 ·exact rule_6 s g w B
 ·exact rule_7 s g w B
 ·exact rule_8 s g w B
 ·exact rule_9 s g w B
 ·exact rule_10 s g w B
 ·exact rule_11 s g w B
 ·exact rule_12 s g w B
 ·exact rule_13 s g w B
 ·exact rule_14 s g w B
def rulesV (s:Sty) (k:Nat):Bool:=if k<15 then ruleV s k&&rulesV s (k+1) else true
termination_by 15-k
theorem rules_any (w:World):Calls Tryz.prog 92 #[] w fun e w'=>e=.returned (.slice (some ⟨w.heap.size,0,none⟩) 15 15)∧w'=w.alloc (.cells ruleC 167):=by
 go_enter Tryz.func92,Tryz.ntmps92
 go_wp2
 go_ret;exact⟨rfl,rfl⟩
def prightV (s:Sty):Bool:=if s.kind=1∨s.kind=2 then rulesV s 0 else if s.kind=3 then decide (s.ul≤65536)&&bareV s else false
theorem pright_any (s:Sty) (w:World):Calls Tryz.prog 59 #[.agg s.cells] w fun e w'=>e=.returned (.bool (prightV s))∧Ext w w':=by
 have B0:Blk (w.alloc (.cells s.cells 65)) w.heap.size 65 s.cells:=Blk.new _ _ _;have E0:Ext w (w.alloc (.cells s.cells 65)):=(Ext.refl _).alloc _;have HB:=AB (fun h:s.kind=1∨s.kind=2=>(show rulesV s 0=prightV s by rw[prightV,if_pos h]));have HT:=AB (fun h:s.kind=3=>(show (decide (s.ul≤65536)&&bareV s)=prightV s by rw[prightV,if_neg (by omega),if_pos h]));have HF:=AB (fun (h1:s.kind≠1) (h2:s.kind≠2) (h3:s.kind≠3)=>(show false=prightV s by rw[prightV,if_neg (by omega),if_neg h3]));have c0:∀i:Nat,(w.alloc (.cells s.cells 65)).cell? ⟨w.heap.size,i,none⟩=s.cells[i]?:=B0.cell;have hk0:(w.alloc (.cells s.cells 65)).cell? ⟨w.heap.size,0,none⟩=some (.int .u8 s.kind):=c0 0;have hul:(w.alloc (.cells s.cells 65)).cell? ⟨w.heap.size,42,none⟩=some (.slice s.ua s.ul s.uc):=c0 42;by_cases k1:s.kind=1
 ·have HV:=AB (AA HB (.inl k1));have e1:(s.kind==1)=true:=by simpa using k1
  clear k1 HB HT HF;go_enter Tryz.func59,Tryz.ntmps59;go_wp2_with fail;refine (rules_any _).mono ?_;rintro e w1 ⟨rfl,rfl⟩;have BR:=Blk.new (w.alloc (.cells s.cells 65)) 167 ruleC;rw[World.size_alloc] at BR;have B1:=B0.alloc (.cells ruleC 167);have E1:=E0.alloc (.cells ruleC 167);generalize (w.alloc (.cells s.cells 65)).alloc (.cells ruleC 167)=w1 at *;clear c0 hk0 hul B0 E0;go_wp2_with fail;go_loopw [12] (fun i wr=>∃k:Nat,i=.int .i64 k∧k≤15∧Hid (rulesV s k=rulesV s 0)∧Ext w wr∧Blk wr w.heap.size 65 s.cells∧Blk wr (w.heap.size+1) 167 ruleC) (fun i _=>15-(intOf i).toNat)
  case atStart=>exact⟨0,rfl,by omega,AB rfl,E1,B1,BR⟩
  case round=>
   clear E1 B1 BR w1;obtain⟨k,rfl,q1,HQ,E1,B1,BR⟩:=hrel;have l1:=BR.lt;by_cases hk:k<15
   ·have c1:=(BR.cell _).trans (ruleC_at hk);have hent:=rule_enter hk;have cr:=fun w1 B=>AB (rule_any hk s w.heap.size w1 B)
    have HN:=AB (fun h:ruleV s k=false=>(show false=rulesV s 0 by rw[←AA HQ,rulesV,if_pos hk,h];rfl));have HY:=AB (fun h:ruleV s k=true=>(show rulesV s (k+1)=rulesV s 0 by rw[←AA HQ,rulesV.eq_def s k,if_pos hk,h,Bool.true_and]));have hkI:(0:Int)≤(k:Int)∧(k:Int)<15:=by omega
    generalize ruleF k=N at *;generalize ruleV s k=r at *;clear HQ;cases r
    ·go_wp2_with fail;refine (AA (cr _ (B1.alloc _))).mono ?_;rintro e w2 ⟨rfl,hx⟩;go_wp2_with fail;go_ret;exact⟨ret1b ((AA HN (by first|rfl|trivial)).trans (AA HV)),(E1.alloc _).trans hx⟩
    ·go_wp2_with fail;refine (AA (cr _ (B1.alloc _))).mono ?_;rintro e w2 ⟨rfl,hx⟩;go_wp2_with fail;go_roundw
     case rel=>exact⟨k+1,by go_num,by omega,AB (AA HY (by first|rfl|trivial)),(E1.alloc _).trans hx,(B1.alloc _).ext hx,(BR.alloc _).ext hx⟩
     case measure=>simp[intOf];omega
   ·have HT:=AB (show true=rulesV s 0 by rw[←AA HQ,rulesV,if_neg hk]);have hkI:¬((k:Int)<15):=by omega
    go_wp2_with fail;go_ret;exact⟨ret1b ((AA HT).trans (AA HV)),E1⟩
 have e1:(s.kind==1)=false:=by simpa using k1
 by_cases k2:s.kind=2
 ·have HV:=AB (AA HB (.inr k2));have e2:(s.kind==2)=true:=by simpa using k2
  clear k1 k2 HB HT HF;go_enter Tryz.func59,Tryz.ntmps59;go_wp2_with fail;refine (rules_any _).mono ?_;rintro e w1 ⟨rfl,rfl⟩;have BR:=Blk.new (w.alloc (.cells s.cells 65)) 167 ruleC;rw[World.size_alloc] at BR;have B1:=B0.alloc (.cells ruleC 167);have E1:=E0.alloc (.cells ruleC 167);generalize (w.alloc (.cells s.cells 65)).alloc (.cells ruleC 167)=w1 at *;clear c0 hk0 hul B0 E0;go_wp2_with fail;go_loopw [12] (fun i wr=>∃k:Nat,i=.int .i64 k∧k≤15∧Hid (rulesV s k=rulesV s 0)∧Ext w wr∧Blk wr w.heap.size 65 s.cells∧Blk wr (w.heap.size+1) 167 ruleC) (fun i _=>15-(intOf i).toNat)
  case atStart=>exact⟨0,rfl,by omega,AB rfl,E1,B1,BR⟩
  case round=>
   clear E1 B1 BR w1;obtain⟨k,rfl,q1,HQ,E1,B1,BR⟩:=hrel;have l1:=BR.lt;by_cases hk:k<15
   ·have c1:=(BR.cell _).trans (ruleC_at hk);have hent:=rule_enter hk;have cr:=fun w1 B=>AB (rule_any hk s w.heap.size w1 B)
    have HN:=AB (fun h:ruleV s k=false=>(show false=rulesV s 0 by rw[←AA HQ,rulesV,if_pos hk,h];rfl));have HY:=AB (fun h:ruleV s k=true=>(show rulesV s (k+1)=rulesV s 0 by rw[←AA HQ,rulesV.eq_def s k,if_pos hk,h,Bool.true_and]));have hkI:(0:Int)≤(k:Int)∧(k:Int)<15:=by omega
    generalize ruleF k=N at *;generalize ruleV s k=r at *;clear HQ;cases r
    ·go_wp2_with fail;refine (AA (cr _ (B1.alloc _))).mono ?_;rintro e w2 ⟨rfl,hx⟩;go_wp2_with fail;go_ret;exact⟨ret1b ((AA HN (by first|rfl|trivial)).trans (AA HV)),(E1.alloc _).trans hx⟩
    ·go_wp2_with fail;refine (AA (cr _ (B1.alloc _))).mono ?_;rintro e w2 ⟨rfl,hx⟩;go_wp2_with fail;go_roundw
     case rel=>exact⟨k+1,by go_num,by omega,AB (AA HY (by first|rfl|trivial)),(E1.alloc _).trans hx,(B1.alloc _).ext hx,(BR.alloc _).ext hx⟩
     case measure=>simp[intOf];omega
   ·have HT:=AB (show true=rulesV s 0 by rw[←AA HQ,rulesV,if_neg hk]);have hkI:¬((k:Int)<15):=by omega
    go_wp2_with fail;go_ret;exact⟨ret1b ((AA HT).trans (AA HV)),E1⟩
 have e2:(s.kind==2)=false:=by simpa using k2
 by_cases k3:s.kind=3
 ·have HV:=AB (AA HT k3);have e3:(s.kind==3)=true:=by simpa using k3
  clear k1 k2 k3 c0;by_cases hu:s.ul≤65536
  ·have huI:(s.ul:Int)≤65536:=by omega
   have cb:=fun w1 B=>AB (bare_any s w.heap.size w1 B)
   generalize bareV s=bv at *;go_enter Tryz.func59,Tryz.ntmps59;go_wp2_with fail;refine (AA (cb _ B0)).mono ?_;rintro e w1 ⟨rfl,hx⟩;go_wp2_with fail;go_ret;exact⟨ret1b (by rw[←AA HV,decide_eq_true hu,Bool.true_and]),E0.trans hx⟩
  ·have huI:¬(s.ul:Int)≤65536:=by omega
   go_enter Tryz.func59,Tryz.ntmps59;go_wp2_with fail;go_ret;exact⟨ret1b (by rw[←AA HV,decide_eq_false hu,Bool.false_and]),E0⟩
 ·have e3:(s.kind==3)=false:=by simpa using k3
  have HV:=AB (AA HF k1 k2 k3);go_enter Tryz.func59,Tryz.ntmps59;go_wp2_with fail;go_ret;exact⟨ret1b (AA HV),E0⟩
end Go.Proofs.YtamldoocjjdidaaGreat
namespace Go.Proofs.YtamldoocjjdidaaGreat
set_option maxRecDepth 100000
set_option maxHeartbeats 64000000
theorem mgV_all (s:Sty):mgV s 0=(mgOk s 0&&(mgOk s 1&&(mgOk s 2&&mgOk s 3))):=by
 simp[mgV]
theorem wdV_all (s:Sty):wdV s 0=(mayV s.w false&&(mayV s.minw false&&(mayV s.maxw false&&mayV s.basis false))):=by
 simp[wdV,wdL]
theorem hgV_all (s:Sty):hgV s 0=(hgOk s 0&&(hgOk s 1&&hgOk s 2)):=by
 simp[hgV]
theorem rulesV_all (s:Sty):rulesV s 0=(ruleV s 0&&(ruleV s 1&&(ruleV s 2&&(ruleV s 3&&(ruleV s 4&&(ruleV s 5&&(ruleV s 6&&(ruleV s 7&&(ruleV s 8&&(ruleV s 9&&(ruleV s 10&&(ruleV s 11&&(ruleV s 12&&(ruleV s 13&&ruleV s 14)))))))))))))):=by
 simp[rulesV]
theorem allL3 (P:Ln→Bool) (a b c:Ln):allL P [a,b,c] 0=(P a&&(P b&&P c)):=by simp[allL]
theorem allL4 (P:Ln→Bool) (a b c d:Ln):allL P [a,b,c,d] 0=(P a&&(P b&&(P c&&P d))):=by simp[allL]
theorem allI4 (P:Int→Bool) (a b c d:Int):allI P [a,b,c,d] 0=(P a&&(P b&&(P c&&P d))):=by simp[allI]
theorem box_eq (s:Sty):rulesV s 0=boxV s:=by
 rw[boxV,mgV_all,wdV_all,hgV_all,rulesV_all];simp only[ruleV,allL3,allL4,allI4,mgOk,hgOk,mgL,bdN,pdN,hgL,tallS,thickP,flagsV];rw[Bool.eq_iff_iff];simp
 constructor
 ·rintro⟨h1,h2,⟨h3,h4,h5,h6⟩,⟨⟨h7,h8⟩,⟨h9,h10⟩,h11,h12⟩,⟨h13,h14,h15,h16⟩,⟨h17,h18,h19,h20⟩,⟨h21,h22,h23,h24⟩,h25,h26,h27,h28,h29,h30,h31,h32⟩
  simp_all
 ·intro h
  simp_all
theorem zbV_all (s:Sty):zbV s 0=(zbOk s 0&&(zbOk s 1&&(zbOk s 2&&zbOk s 3))):=by
 simp[zbV]
theorem zlV_all (s:Sty):zlV s 0=(zlOk s.w&&(zlOk s.h&&(zlOk s.minw&&(zlOk s.maxw&&(zlOk s.minh&&(zlOk s.maxh&&(zlOk s.basis&&(zlOk s.m0&&(zlOk s.m1&&(zlOk s.m2&&zlOk s.m3)))))))))):=by
 simp[zlV,lensL]
theorem empty_eq (s:Sty):bareV s=emptyV s:=by
 rw[emptyV,zbV_all,zlV_all];simp only[bareV,zbOk,zlOk,zlnB,bdN,pdN,flags0];rw[Bool.eq_iff_iff];simp
 constructor
 ·intro h
  simp_all
 ·intro h
  simp_all
theorem right_eq (s:Sty):prightV s=rightV s:=by
 unfold prightV rightV
 split
 ·exact box_eq s
 ·split
  ·rw[empty_eq,Bool.and_comm]
  ·rfl
end Go.Proofs.YtamldoocjjdidaaGreat
