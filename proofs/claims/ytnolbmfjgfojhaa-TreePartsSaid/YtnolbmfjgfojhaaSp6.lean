/- Styles: the program's answer is the document's (plain law). -/
import Derived.Test.YtnolbmfjgfojhaaSp5
namespace Go.Proofs.Ytnolbmfjgfojhaa
theorem mgV_all (s : Sty) : mgV s 0 = (mgOk s 0 && (mgOk s 1 && (mgOk s 2 && mgOk s 3))) := by
  simp [mgV]
theorem wdV_all (s : Sty) : wdV s 0 = (mayV s.w false && (mayV s.minw false && (mayV s.maxw false && mayV s.basis false))) := by
  simp [wdV, wdL]
theorem hgV_all (s : Sty) : hgV s 0 = (hgOk s 0 && (hgOk s 1 && hgOk s 2)) := by
  simp [hgV]
theorem rulesV_all (s : Sty) : rulesV s 0 = (ruleV s 0 && (ruleV s 1 && (ruleV s 2 && (ruleV s 3 && (ruleV s 4 && (ruleV s 5 && (ruleV s 6 && (ruleV s 7 && (ruleV s 8 && (ruleV s 9 && (ruleV s 10 && (ruleV s 11 && (ruleV s 12 && (ruleV s 13 && ruleV s 14)))))))))))))) := by
  simp [rulesV]
theorem allL3 (P : Ln → Bool) (a b c : Ln) : allL P [a, b, c] 0 = (P a && (P b && P c)) := by simp [allL]
theorem allL4 (P : Ln → Bool) (a b c d : Ln) : allL P [a, b, c, d] 0 = (P a && (P b && (P c && P d))) := by simp [allL]
theorem allI4 (P : Int → Bool) (a b c d : Int) : allI P [a, b, c, d] 0 = (P a && (P b && (P c && P d))) := by simp [allI]
theorem box_eq (s : Sty) : rulesV s 0 = boxV s := by
  rw [boxV, mgV_all, wdV_all, hgV_all, rulesV_all]
  simp only [ruleV, allL3, allL4, allI4, mgOk, hgOk, mgL, bdN, pdN, hgL, tallV, thickP, flagsV]
  rw [Bool.eq_iff_iff]
  simp
  constructor
  · rintro ⟨h1, h2, ⟨h3, h4, h5, h6⟩, ⟨⟨h7, h8⟩, ⟨h9, h10⟩, h11, h12⟩, ⟨h13, h14, h15, h16⟩, ⟨h17, h18, h19, h20⟩, ⟨h21, h22, h23, h24⟩, h25, h26, h27, h28, h29, h30, h31, h32⟩
    simp_all
  · intro h
    simp_all
theorem zbV_all (s : Sty) : zbV s 0 = (zbOk s 0 && (zbOk s 1 && (zbOk s 2 && zbOk s 3))) := by
  simp [zbV]
theorem zlV_all (s : Sty) : zlV s 0 = (zlOk s.w && (zlOk s.h && (zlOk s.minw && (zlOk s.maxw && (zlOk s.minh && (zlOk s.maxh && (zlOk s.basis && (zlOk s.m0 && (zlOk s.m1 && (zlOk s.m2 && zlOk s.m3)))))))))) := by
  simp [zlV, lensL]
theorem empty_eq (s : Sty) : bareV s = emptyV s := by
  rw [emptyV, zbV_all, zlV_all]
  simp only [bareV, zbOk, zlOk, zlnB, bdN, pdN, flags0]
  rw [Bool.eq_iff_iff]
  simp
  constructor
  · intro h
    simp_all
  · intro h
    simp_all
/-- the program's answer is the document's -/
theorem right_eq (s : Sty) : prightV s = rightV s := by
  unfold prightV rightV
  split
  · exact box_eq s
  · split
    · rw [empty_eq, Bool.and_comm]
    · rfl
end Go.Proofs.Ytnolbmfjgfojhaa
