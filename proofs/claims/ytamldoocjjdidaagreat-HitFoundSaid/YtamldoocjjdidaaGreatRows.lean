/-
  No cell of these rows narrows 'for every input' (looked for: loops, veiled, ifaces, maps, wideKeys, modest, calm, conditions, laid).
  DERIVED. THE GIVEN ROWS OF THIS SEAT. 3 by the template 'for every input the law returns true; each argument reads behind the call as it read before'; 0 by the template 'total and deterministic' (their statements: YtamldoocjjdidaaGreatTotals.lean).
  GIVEN WITH THE SEED: the statements are not yours to turn. If you find one false, say at which input.
  Laid BY PROGRAM, IN A SANDBOX (cutbox-rows.mjs): the forced cells as the released guide's own fill.sh prints them over the translation f118200842e1c1a1… (all of the seat's roots in one cut). By AI agents, Wed Nov 11 2026. No macro, syntax, notation, axiom, sorry.
-/
import Derived.Test.YtamldoocjjdidaaGreatChecked
import GoSem.Claim
import GoSem.ClaimJoined
import GoSem.ClaimMapViews
import Derived.JoinedTies
import Derived.KernelRfl
namespace Go.Proofs.YtamldoocjjdidaaGreat
/- THE CELL 'sum', in the pinned program and in every row, IS THE sha256 OF THE DUMP (.gsa) THAT YtamldoocjjdidaaGreatProg.lean LOADS. Nothing in Lean hashes anything: it is a label: what it is worth is what the hold of that sum in a sandbox is worth. -/
noncomputable def Tryz.pinned : Pinned := { name := "ytamldoocjjdidaagreat", sum := "f118200842e1c1a11f92fb58914dab82b43a5a0593d156483ece26778493e5ee", checked := Tryz.checked }
namespace Rows
def none {H : Type} : Left H := { results := [], args := [] }

/-- 'jamblaw29.HitPlays': WHATEVER THE INPUT: true; the input reads as it did. -/
def hitPlaysSpec : ChangeSpec := { name := "hitPlays", fn := fun _ => fun
  | [d1, d2, d3, d4] => { results := [.lit (.bool true)], args := [d1, d2, d3, d4] }
  | _ => none }
def hitPlaysRow : OpenClaim := { program := "ytamldoocjjdidaagreat", sum := "f118200842e1c1a11f92fb58914dab82b43a5a0593d156483ece26778493e5ee", func := "jamb/jamblaw29.HitPlays", spec := "hitPlays", inPlace := ["math/bits.Add64"], unfollowed := true, recurses := true, apart := false }
def HitPlaysSaid : Prop := hitPlaysRow.holds Tryz.pinned (OpenSpec.ofChange hitPlaysSpec)

/-- ITS FALSE NEIGHBOUR: 'it returns false'. Refute it at one input. -/
def hitPlaysWrong : ChangeSpec := { name := "hitPlays", fn := fun _ => fun
  | [d1, d2, d3, d4] => { results := [.lit (.bool false)], args := [d1, d2, d3, d4] }
  | _ => none }
def HitPlaysWrongFalsely : Prop := hitPlaysRow.holds Tryz.pinned (OpenSpec.ofChange hitPlaysWrong)

/-- 'jamblaw29.HitMoved': WHATEVER THE INPUT: true; the input reads as it did. -/
def hitMovedSpec : ChangeSpec := { name := "hitMoved", fn := fun _ => fun
  | [d1, d2, d3, d4, d5] => { results := [.lit (.bool true)], args := [d1, d2, d3, d4, d5] }
  | _ => none }
def hitMovedRow : OpenClaim := { program := "ytamldoocjjdidaagreat", sum := "f118200842e1c1a11f92fb58914dab82b43a5a0593d156483ece26778493e5ee", func := "jamb/jamblaw29.HitMoved", spec := "hitMoved", inPlace := ["math/bits.Add64"], unfollowed := true, recurses := true, apart := false }
def HitMovedSaid : Prop := hitMovedRow.holds Tryz.pinned (OpenSpec.ofChange hitMovedSpec)

/-- ITS FALSE NEIGHBOUR: 'it returns false'. Refute it at one input. -/
def hitMovedWrong : ChangeSpec := { name := "hitMoved", fn := fun _ => fun
  | [d1, d2, d3, d4, d5] => { results := [.lit (.bool false)], args := [d1, d2, d3, d4, d5] }
  | _ => none }
def HitMovedWrongFalsely : Prop := hitMovedRow.holds Tryz.pinned (OpenSpec.ofChange hitMovedWrong)

/-- 'jamblaw29.HitFound': WHATEVER THE INPUT: true; the input reads as it did. -/
def hitFoundSpec : ChangeSpec := { name := "hitFound", fn := fun _ => fun
  | [d1, d2] => { results := [.lit (.bool true)], args := [d1, d2] }
  | _ => none }
def hitFoundRow : OpenClaim := { program := "ytamldoocjjdidaagreat", sum := "f118200842e1c1a11f92fb58914dab82b43a5a0593d156483ece26778493e5ee", func := "jamb/jamblaw29.HitFound", spec := "hitFound", inPlace := ["math/bits.Add64"], unfollowed := true, recurses := true, apart := false }
def HitFoundSaid : Prop := hitFoundRow.holds Tryz.pinned (OpenSpec.ofChange hitFoundSpec)

/-- ITS FALSE NEIGHBOUR: 'it returns false'. Refute it at one input. -/
def hitFoundWrong : ChangeSpec := { name := "hitFound", fn := fun _ => fun
  | [d1, d2] => { results := [.lit (.bool false)], args := [d1, d2] }
  | _ => none }
def HitFoundWrongFalsely : Prop := hitFoundRow.holds Tryz.pinned (OpenSpec.ofChange hitFoundWrong)

/- THE SECOND FORM. 'bulk': how many values and letters a reading holds, each counted each time it is reached (what is shared counts as often as it is met; a slice's spare places count too). A statement '..UptoSaid' is the law's where the arguments, and the package variables that the reading takes, are together of bulk at most 1048576: NARROWER than '..Said'. Prove '..Said' where nothing that the law and all that it calls make is longer than what came in: it says more and counts as full. Else prove '..UptoSaid'. A law counts once. -/
mutual
def uptoBulk {H : Type} : DataW H → Nat
  | .lit (.string bytes) => bytes.length + 1
  | .lit _ => 1
  | .nil => 1
  | .ptr d => uptoBulk d + 1
  | .slice elems spare => uptoBulkAll elems + uptoBulkAll spare + 1
  | .agg parts => uptoBulkAll parts + 1
  | .iface _ d => uptoBulk d + 1
  | .map entries => uptoBulkEntries entries + 1
  | .held _ => 1
def uptoBulkAll {H : Type} : List (DataW H) → Nat
  | [] => 0
  | d :: r => uptoBulk d + uptoBulkAll r
def uptoBulkEntries {H : Type} : List (Lit × DataW H) → Nat
  | [] => 0
  | x :: r => uptoBulkEntry x + uptoBulkEntries r
def uptoBulkEntry {H : Type} : Lit × DataW H → Nat
  | (.string bytes, d) => bytes.length + uptoBulk d + 1
  | (_, d) => uptoBulk d + 1
 end
def uptoSmall : (H : Type) → List (DataW H) → Bool := fun _ ds => decide (uptoBulkAll ds ≤ 1048576)
def OpenSpec.upto (s : _root_.Go.ChangeSpec) : _root_.Go.OpenSpec := { _root_.Go.OpenSpec.ofChange s with cond := some uptoSmall }

/-- 'jamblaw29.HitPlays', WHERE WHAT IT READS IS OF BULK AT MOST 1048576: true; the input reads as it did. -/
def hitPlaysUptoRow : OpenClaim := { program := "ytamldoocjjdidaagreat", sum := "f118200842e1c1a11f92fb58914dab82b43a5a0593d156483ece26778493e5ee", func := "jamb/jamblaw29.HitPlays", spec := "hitPlays", inPlace := ["math/bits.Add64"], unfollowed := true, recurses := true, apart := false, narrowed := true }
def HitPlaysUptoSaid : Prop := hitPlaysUptoRow.holds Tryz.pinned (OpenSpec.upto hitPlaysSpec)

/-- 'jamblaw29.HitMoved', WHERE WHAT IT READS IS OF BULK AT MOST 1048576: true; the input reads as it did. -/
def hitMovedUptoRow : OpenClaim := { program := "ytamldoocjjdidaagreat", sum := "f118200842e1c1a11f92fb58914dab82b43a5a0593d156483ece26778493e5ee", func := "jamb/jamblaw29.HitMoved", spec := "hitMoved", inPlace := ["math/bits.Add64"], unfollowed := true, recurses := true, apart := false, narrowed := true }
def HitMovedUptoSaid : Prop := hitMovedUptoRow.holds Tryz.pinned (OpenSpec.upto hitMovedSpec)

/-- 'jamblaw29.HitFound', WHERE WHAT IT READS IS OF BULK AT MOST 1048576: true; the input reads as it did. -/
def hitFoundUptoRow : OpenClaim := { program := "ytamldoocjjdidaagreat", sum := "f118200842e1c1a11f92fb58914dab82b43a5a0593d156483ece26778493e5ee", func := "jamb/jamblaw29.HitFound", spec := "hitFound", inPlace := ["math/bits.Add64"], unfollowed := true, recurses := true, apart := false, narrowed := true }
def HitFoundUptoSaid : Prop := hitFoundUptoRow.holds Tryz.pinned (OpenSpec.upto hitFoundSpec)

end Rows
end Go.Proofs.YtamldoocjjdidaaGreat
