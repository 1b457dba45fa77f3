/-
  No cell of these rows narrows 'for every input' (looked for: loops, veiled, ifaces, maps, wideKeys, modest, calm, conditions, laid).
  DERIVED. THE GIVEN ROWS OF THIS SEAT. 5 by the template 'for every input the law returns true; each argument reads behind the call as it read before'; 0 by the template 'total and deterministic' (their statements: YtkajcipfmdpneaaTotals.lean).
  GIVEN WITH THE SEED: the statements are not yours to turn. If you find one false, say at which input.
  Laid BY PROGRAM, IN A SANDBOX (cutbox-rows.mjs): the forced cells as the released guide's own fill.sh prints them over the translation d993a8c512357bd7… (all of the seat's roots in one cut). By AI agents, Wed Nov 11 2026. No macro, syntax, notation, axiom, sorry.
-/
import Derived.Test.YtkajcipfmdpneaaChecked
import GoSem.Claim
import GoSem.ClaimJoined
import GoSem.ClaimMapViews
import Derived.JoinedTies
import Derived.KernelRfl
namespace Go.Proofs.Ytkajcipfmdpneaa
/- THE CELL 'sum', in the pinned program and in every row, IS THE sha256 OF THE DUMP (.gsa) THAT YtkajcipfmdpneaaProg.lean LOADS. Nothing in Lean hashes anything: it is a label: what it is worth is what the hold of that sum in a sandbox is worth. -/
noncomputable def Try.pinned : Pinned := { name := "ytkajcipfmdpneaa", sum := "d993a8c512357bd7b3c6d8974c013586be22b6e598ad19960e4c5a1ffd8ac9b6", checked := Try.checked }
namespace Rows
def none {H : Type} : Left H := { results := [], args := [] }

/-- 'jamblaw13.WidthsSum': WHATEVER THE INPUT: true; the input reads as it did. -/
def widthsSumSpec : ChangeSpec := { name := "widthsSum", fn := fun _ => fun
  | [d1, d2] => { results := [.lit (.bool true)], args := [d1, d2] }
  | _ => none }
def widthsSumRow : OpenClaim := { program := "ytkajcipfmdpneaa", sum := "d993a8c512357bd7b3c6d8974c013586be22b6e598ad19960e4c5a1ffd8ac9b6", func := "jamb/jamblaw13.WidthsSum", spec := "widthsSum", apart := false }
def WidthsSumSaid : Prop := widthsSumRow.holds Try.pinned (OpenSpec.ofChange widthsSumSpec)

/-- ITS FALSE NEIGHBOUR: 'it returns false'. Refute it at one input. -/
def widthsSumWrong : ChangeSpec := { name := "widthsSum", fn := fun _ => fun
  | [d1, d2] => { results := [.lit (.bool false)], args := [d1, d2] }
  | _ => none }
def WidthsSumWrongFalsely : Prop := widthsSumRow.holds Try.pinned (OpenSpec.ofChange widthsSumWrong)

/-- 'jamblaw13.WidthsMiddle': WHATEVER THE INPUT: true; the input reads as it did. -/
def widthsMiddleSpec : ChangeSpec := { name := "widthsMiddle", fn := fun _ => fun
  | [d1, d2, d3, d4] => { results := [.lit (.bool true)], args := [d1, d2, d3, d4] }
  | _ => none }
def widthsMiddleRow : OpenClaim := { program := "ytkajcipfmdpneaa", sum := "d993a8c512357bd7b3c6d8974c013586be22b6e598ad19960e4c5a1ffd8ac9b6", func := "jamb/jamblaw13.WidthsMiddle", spec := "widthsMiddle", apart := false }
def WidthsMiddleSaid : Prop := widthsMiddleRow.holds Try.pinned (OpenSpec.ofChange widthsMiddleSpec)

/-- ITS FALSE NEIGHBOUR: 'it returns false'. Refute it at one input. -/
def widthsMiddleWrong : ChangeSpec := { name := "widthsMiddle", fn := fun _ => fun
  | [d1, d2, d3, d4] => { results := [.lit (.bool false)], args := [d1, d2, d3, d4] }
  | _ => none }
def WidthsMiddleWrongFalsely : Prop := widthsMiddleRow.holds Try.pinned (OpenSpec.ofChange widthsMiddleWrong)

/-- 'jamblaw13.WidthsClamp': WHATEVER THE INPUT: true; the input reads as it did. -/
def widthsClampSpec : ChangeSpec := { name := "widthsClamp", fn := fun _ => fun
  | [d1, d2, d3, d4] => { results := [.lit (.bool true)], args := [d1, d2, d3, d4] }
  | _ => none }
def widthsClampRow : OpenClaim := { program := "ytkajcipfmdpneaa", sum := "d993a8c512357bd7b3c6d8974c013586be22b6e598ad19960e4c5a1ffd8ac9b6", func := "jamb/jamblaw13.WidthsClamp", spec := "widthsClamp", apart := false }
def WidthsClampSaid : Prop := widthsClampRow.holds Try.pinned (OpenSpec.ofChange widthsClampSpec)

/-- ITS FALSE NEIGHBOUR: 'it returns false'. Refute it at one input. -/
def widthsClampWrong : ChangeSpec := { name := "widthsClamp", fn := fun _ => fun
  | [d1, d2, d3, d4] => { results := [.lit (.bool false)], args := [d1, d2, d3, d4] }
  | _ => none }
def WidthsClampWrongFalsely : Prop := widthsClampRow.holds Try.pinned (OpenSpec.ofChange widthsClampWrong)

/-- 'jamblaw13.WidthsPlays': WHATEVER THE INPUT: true; the input reads as it did. -/
def widthsPlaysSpec : ChangeSpec := { name := "widthsPlays", fn := fun _ => fun
  | [d1, d2, d3, d4, d5] => { results := [.lit (.bool true)], args := [d1, d2, d3, d4, d5] }
  | _ => none }
def widthsPlaysRow : OpenClaim := { program := "ytkajcipfmdpneaa", sum := "d993a8c512357bd7b3c6d8974c013586be22b6e598ad19960e4c5a1ffd8ac9b6", func := "jamb/jamblaw13.WidthsPlays", spec := "widthsPlays", apart := false }
def WidthsPlaysSaid : Prop := widthsPlaysRow.holds Try.pinned (OpenSpec.ofChange widthsPlaysSpec)

/-- ITS FALSE NEIGHBOUR: 'it returns false'. Refute it at one input. -/
def widthsPlaysWrong : ChangeSpec := { name := "widthsPlays", fn := fun _ => fun
  | [d1, d2, d3, d4, d5] => { results := [.lit (.bool false)], args := [d1, d2, d3, d4, d5] }
  | _ => none }
def WidthsPlaysWrongFalsely : Prop := widthsPlaysRow.holds Try.pinned (OpenSpec.ofChange widthsPlaysWrong)

/-- 'jamblaw13.WidthsShrink': WHATEVER THE INPUT: true; the input reads as it did. -/
def widthsShrinkSpec : ChangeSpec := { name := "widthsShrink", fn := fun _ => fun
  | [d1, d2, d3, d4, d5] => { results := [.lit (.bool true)], args := [d1, d2, d3, d4, d5] }
  | _ => none }
def widthsShrinkRow : OpenClaim := { program := "ytkajcipfmdpneaa", sum := "d993a8c512357bd7b3c6d8974c013586be22b6e598ad19960e4c5a1ffd8ac9b6", func := "jamb/jamblaw13.WidthsShrink", spec := "widthsShrink", apart := false }
def WidthsShrinkSaid : Prop := widthsShrinkRow.holds Try.pinned (OpenSpec.ofChange widthsShrinkSpec)

/-- ITS FALSE NEIGHBOUR: 'it returns false'. Refute it at one input. -/
def widthsShrinkWrong : ChangeSpec := { name := "widthsShrink", fn := fun _ => fun
  | [d1, d2, d3, d4, d5] => { results := [.lit (.bool false)], args := [d1, d2, d3, d4, d5] }
  | _ => none }
def WidthsShrinkWrongFalsely : Prop := widthsShrinkRow.holds Try.pinned (OpenSpec.ofChange widthsShrinkWrong)

/- THE SECOND FORM. 'bulk': how many values and letters a reading holds, each counted each time it is reached (what is shared counts as often as it is met; a slice's spare places count too). A statement '..UptoSaid' is the law's where the arguments, and the package variables that the reading takes, are together of bulk at most 1048576: NARROWER than '..Said'. Prove '..Said' where nothing that the law and all that it calls make is longer than what came in: it says more and counts as full. Else prove '..UptoSaid'. A law counts once. -/
mutual
def uptoBulk {H : Type} : DataW H → Nat
  | .lit (.string bytes) => bytes.length + 1
  | .lit _ => 1
  | .nil => 1
  | .ptr d => uptoBulk d + 1
  | .slice elems spare => uptoBulkAll elems + uptoBulkAll spare + 1
  | .agg parts => uptoBulkAll parts + 1
  | .iface _ d => uptoBulk d + 1
  | .map entries => uptoBulkEntries entries + 1
  | .held _ => 1
def uptoBulkAll {H : Type} : List (DataW H) → Nat
  | [] => 0
  | d :: r => uptoBulk d + uptoBulkAll r
def uptoBulkEntries {H : Type} : List (Lit × DataW H) → Nat
  | [] => 0
  | x :: r => uptoBulkEntry x + uptoBulkEntries r
def uptoBulkEntry {H : Type} : Lit × DataW H → Nat
  | (.string bytes, d) => bytes.length + uptoBulk d + 1
  | (_, d) => uptoBulk d + 1
 end
def uptoSmall : (H : Type) → List (DataW H) → Bool := fun _ ds => decide (uptoBulkAll ds ≤ 1048576)
def OpenSpec.upto (s : _root_.Go.ChangeSpec) : _root_.Go.OpenSpec := { _root_.Go.OpenSpec.ofChange s with cond := some uptoSmall }

/-- 'jamblaw13.WidthsSum', WHERE WHAT IT READS IS OF BULK AT MOST 1048576: true; the input reads as it did. -/
def widthsSumUptoRow : OpenClaim := { program := "ytkajcipfmdpneaa", sum := "d993a8c512357bd7b3c6d8974c013586be22b6e598ad19960e4c5a1ffd8ac9b6", func := "jamb/jamblaw13.WidthsSum", spec := "widthsSum", apart := false, narrowed := true }
def WidthsSumUptoSaid : Prop := widthsSumUptoRow.holds Try.pinned (OpenSpec.upto widthsSumSpec)

/-- 'jamblaw13.WidthsMiddle', WHERE WHAT IT READS IS OF BULK AT MOST 1048576: true; the input reads as it did. -/
def widthsMiddleUptoRow : OpenClaim := { program := "ytkajcipfmdpneaa", sum := "d993a8c512357bd7b3c6d8974c013586be22b6e598ad19960e4c5a1ffd8ac9b6", func := "jamb/jamblaw13.WidthsMiddle", spec := "widthsMiddle", apart := false, narrowed := true }
def WidthsMiddleUptoSaid : Prop := widthsMiddleUptoRow.holds Try.pinned (OpenSpec.upto widthsMiddleSpec)

/-- 'jamblaw13.WidthsClamp', WHERE WHAT IT READS IS OF BULK AT MOST 1048576: true; the input reads as it did. -/
def widthsClampUptoRow : OpenClaim := { program := "ytkajcipfmdpneaa", sum := "d993a8c512357bd7b3c6d8974c013586be22b6e598ad19960e4c5a1ffd8ac9b6", func := "jamb/jamblaw13.WidthsClamp", spec := "widthsClamp", apart := false, narrowed := true }
def WidthsClampUptoSaid : Prop := widthsClampUptoRow.holds Try.pinned (OpenSpec.upto widthsClampSpec)

/-- 'jamblaw13.WidthsPlays', WHERE WHAT IT READS IS OF BULK AT MOST 1048576: true; the input reads as it did. -/
def widthsPlaysUptoRow : OpenClaim := { program := "ytkajcipfmdpneaa", sum := "d993a8c512357bd7b3c6d8974c013586be22b6e598ad19960e4c5a1ffd8ac9b6", func := "jamb/jamblaw13.WidthsPlays", spec := "widthsPlays", apart := false, narrowed := true }
def WidthsPlaysUptoSaid : Prop := widthsPlaysUptoRow.holds Try.pinned (OpenSpec.upto widthsPlaysSpec)

/-- 'jamblaw13.WidthsShrink', WHERE WHAT IT READS IS OF BULK AT MOST 1048576: true; the input reads as it did. -/
def widthsShrinkUptoRow : OpenClaim := { program := "ytkajcipfmdpneaa", sum := "d993a8c512357bd7b3c6d8974c013586be22b6e598ad19960e4c5a1ffd8ac9b6", func := "jamb/jamblaw13.WidthsShrink", spec := "widthsShrink", apart := false, narrowed := true }
def WidthsShrinkUptoSaid : Prop := widthsShrinkUptoRow.holds Try.pinned (OpenSpec.upto widthsShrinkSpec)

end Rows
end Go.Proofs.Ytkajcipfmdpneaa
