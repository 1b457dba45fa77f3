/-
  No cell of these rows narrows 'for every input' (looked for: loops, veiled, ifaces, maps, wideKeys, modest, calm, conditions, laid).
  DERIVED. THE GIVEN ROWS OF THIS SEAT. 4 by the template 'for every input the law returns true; each argument reads behind the call as it read before'; 0 by the template 'total and deterministic' (their statements: YtkkkdjkjggofkaaTotals.lean).
  GIVEN WITH THE SEED: the statements are not yours to turn. If you find one false, say at which input.
  Laid BY PROGRAM, IN A SANDBOX (cutbox-rows.mjs): the forced cells as the released guide's own fill.sh prints them over the translation e1b5efc33795e2c7… (all of the seat's roots in one cut). By AI agents, Wed Nov 11 2026. No macro, syntax, notation, axiom, sorry.
-/
import Derived.Test.YtkkkdjkjggofkaaChecked
import GoSem.Claim
import GoSem.ClaimJoined
import GoSem.ClaimMapViews
import Derived.JoinedTies
import Derived.KernelRfl
namespace Go.Proofs.Ytkkkdjkjggofkaa
/- THE CELL 'sum', in the pinned program and in every row, IS THE sha256 OF THE DUMP (.gsa) THAT YtkkkdjkjggofkaaProg.lean LOADS. Nothing in Lean hashes anything: it is a label: what it is worth is what the hold of that sum in a sandbox is worth. -/
noncomputable def Try.pinned : Pinned := { name := "ytkkkdjkjggofkaa", sum := "e1b5efc33795e2c715faeaf00657f29be04618dd1df6f1fbe184d667d1c5451e", checked := Try.checked }
namespace Rows
def none {H : Type} : Left H := { results := [], args := [] }

/-- 'jamblaw20.CrossPlays': WHATEVER THE INPUT: true; the input reads as it did. -/
def crossPlaysSpec : ChangeSpec := { name := "crossPlays", fn := fun _ => fun
  | [d1, d2] => { results := [.lit (.bool true)], args := [d1, d2] }
  | _ => none }
def crossPlaysRow : OpenClaim := { program := "ytkkkdjkjggofkaa", sum := "e1b5efc33795e2c715faeaf00657f29be04618dd1df6f1fbe184d667d1c5451e", func := "jamb/jamblaw20.CrossPlays", spec := "crossPlays", unfollowed := true, recurses := true, named := ["math/bits.divideError", "math/bits.overflowError"], apart := false }
def CrossPlaysSaid : Prop := crossPlaysRow.holds Try.pinned (OpenSpec.ofChange crossPlaysSpec)

/-- ITS FALSE NEIGHBOUR: 'it returns false'. Refute it at one input. -/
def crossPlaysWrong : ChangeSpec := { name := "crossPlays", fn := fun _ => fun
  | [d1, d2] => { results := [.lit (.bool false)], args := [d1, d2] }
  | _ => none }
def CrossPlaysWrongFalsely : Prop := crossPlaysRow.holds Try.pinned (OpenSpec.ofChange crossPlaysWrong)

/-- 'jamblaw20.CrossRows': WHATEVER THE INPUT: true; the input reads as it did. -/
def crossRowsSpec : ChangeSpec := { name := "crossRows", fn := fun _ => fun
  | [d] => { results := [.lit (.bool true)], args := [d] }
  | _ => none }
def crossRowsRow : OpenClaim := { program := "ytkkkdjkjggofkaa", sum := "e1b5efc33795e2c715faeaf00657f29be04618dd1df6f1fbe184d667d1c5451e", func := "jamb/jamblaw20.CrossRows", spec := "crossRows", unfollowed := true, recurses := true, named := ["math/bits.divideError", "math/bits.overflowError"], apart := false }
def CrossRowsSaid : Prop := crossRowsRow.holds Try.pinned (OpenSpec.ofChange crossRowsSpec)

/-- ITS FALSE NEIGHBOUR: 'it returns false'. Refute it at one input. -/
def crossRowsWrong : ChangeSpec := { name := "crossRows", fn := fun _ => fun
  | [d] => { results := [.lit (.bool false)], args := [d] }
  | _ => none }
def CrossRowsWrongFalsely : Prop := crossRowsRow.holds Try.pinned (OpenSpec.ofChange crossRowsWrong)

/-- 'jamblaw20.CrossJustify': WHATEVER THE INPUT: true; the input reads as it did. -/
def crossJustifySpec : ChangeSpec := { name := "crossJustify", fn := fun _ => fun
  | [d1, d2] => { results := [.lit (.bool true)], args := [d1, d2] }
  | _ => none }
def crossJustifyRow : OpenClaim := { program := "ytkkkdjkjggofkaa", sum := "e1b5efc33795e2c715faeaf00657f29be04618dd1df6f1fbe184d667d1c5451e", func := "jamb/jamblaw20.CrossJustify", spec := "crossJustify", unfollowed := true, recurses := true, named := ["math/bits.divideError", "math/bits.overflowError"], apart := false }
def CrossJustifySaid : Prop := crossJustifyRow.holds Try.pinned (OpenSpec.ofChange crossJustifySpec)

/-- ITS FALSE NEIGHBOUR: 'it returns false'. Refute it at one input. -/
def crossJustifyWrong : ChangeSpec := { name := "crossJustify", fn := fun _ => fun
  | [d1, d2] => { results := [.lit (.bool false)], args := [d1, d2] }
  | _ => none }
def CrossJustifyWrongFalsely : Prop := crossJustifyRow.holds Try.pinned (OpenSpec.ofChange crossJustifyWrong)

/-- 'jamblaw20.CrossOne': WHATEVER THE INPUT: true; the input reads as it did. -/
def crossOneSpec : ChangeSpec := { name := "crossOne", fn := fun _ => fun
  | [d1, d2, d3, d4, d5] => { results := [.lit (.bool true)], args := [d1, d2, d3, d4, d5] }
  | _ => none }
def crossOneRow : OpenClaim := { program := "ytkkkdjkjggofkaa", sum := "e1b5efc33795e2c715faeaf00657f29be04618dd1df6f1fbe184d667d1c5451e", func := "jamb/jamblaw20.CrossOne", spec := "crossOne", unfollowed := true, recurses := true, named := ["math/bits.divideError", "math/bits.overflowError"], apart := false }
def CrossOneSaid : Prop := crossOneRow.holds Try.pinned (OpenSpec.ofChange crossOneSpec)

/-- ITS FALSE NEIGHBOUR: 'it returns false'. Refute it at one input. -/
def crossOneWrong : ChangeSpec := { name := "crossOne", fn := fun _ => fun
  | [d1, d2, d3, d4, d5] => { results := [.lit (.bool false)], args := [d1, d2, d3, d4, d5] }
  | _ => none }
def CrossOneWrongFalsely : Prop := crossOneRow.holds Try.pinned (OpenSpec.ofChange crossOneWrong)

/- THE SECOND FORM. 'bulk': how many values and letters a reading holds, each counted each time it is reached (what is shared counts as often as it is met; a slice's spare places count too). A statement '..UptoSaid' is the law's where the arguments, and the package variables that the reading takes, are together of bulk at most 1048576: NARROWER than '..Said'. Prove '..Said' where nothing that the law and all that it calls make is longer than what came in: it says more and counts as full. Else prove '..UptoSaid'. A law counts once. -/
mutual
def uptoBulk {H : Type} : DataW H → Nat
  | .lit (.string bytes) => bytes.length + 1
  | .lit _ => 1
  | .nil => 1
  | .ptr d => uptoBulk d + 1
  | .slice elems spare => uptoBulkAll elems + uptoBulkAll spare + 1
  | .agg parts => uptoBulkAll parts + 1
  | .iface _ d => uptoBulk d + 1
  | .map entries => uptoBulkEntries entries + 1
  | .held _ => 1
def uptoBulkAll {H : Type} : List (DataW H) → Nat
  | [] => 0
  | d :: r => uptoBulk d + uptoBulkAll r
def uptoBulkEntries {H : Type} : List (Lit × DataW H) → Nat
  | [] => 0
  | x :: r => uptoBulkEntry x + uptoBulkEntries r
def uptoBulkEntry {H : Type} : Lit × DataW H → Nat
  | (.string bytes, d) => bytes.length + uptoBulk d + 1
  | (_, d) => uptoBulk d + 1
 end
def uptoSmall : (H : Type) → List (DataW H) → Bool := fun _ ds => decide (uptoBulkAll ds ≤ 1048576)
def OpenSpec.upto (s : _root_.Go.ChangeSpec) : _root_.Go.OpenSpec := { _root_.Go.OpenSpec.ofChange s with cond := some uptoSmall }

/-- 'jamblaw20.CrossPlays', WHERE WHAT IT READS IS OF BULK AT MOST 1048576: true; the input reads as it did. -/
def crossPlaysUptoRow : OpenClaim := { program := "ytkkkdjkjggofkaa", sum := "e1b5efc33795e2c715faeaf00657f29be04618dd1df6f1fbe184d667d1c5451e", func := "jamb/jamblaw20.CrossPlays", spec := "crossPlays", unfollowed := true, recurses := true, named := ["math/bits.divideError", "math/bits.overflowError"], apart := false, narrowed := true }
def CrossPlaysUptoSaid : Prop := crossPlaysUptoRow.holds Try.pinned (OpenSpec.upto crossPlaysSpec)

/-- 'jamblaw20.CrossRows', WHERE WHAT IT READS IS OF BULK AT MOST 1048576: true; the input reads as it did. -/
def crossRowsUptoRow : OpenClaim := { program := "ytkkkdjkjggofkaa", sum := "e1b5efc33795e2c715faeaf00657f29be04618dd1df6f1fbe184d667d1c5451e", func := "jamb/jamblaw20.CrossRows", spec := "crossRows", unfollowed := true, recurses := true, named := ["math/bits.divideError", "math/bits.overflowError"], apart := false, narrowed := true }
def CrossRowsUptoSaid : Prop := crossRowsUptoRow.holds Try.pinned (OpenSpec.upto crossRowsSpec)

/-- 'jamblaw20.CrossJustify', WHERE WHAT IT READS IS OF BULK AT MOST 1048576: true; the input reads as it did. -/
def crossJustifyUptoRow : OpenClaim := { program := "ytkkkdjkjggofkaa", sum := "e1b5efc33795e2c715faeaf00657f29be04618dd1df6f1fbe184d667d1c5451e", func := "jamb/jamblaw20.CrossJustify", spec := "crossJustify", unfollowed := true, recurses := true, named := ["math/bits.divideError", "math/bits.overflowError"], apart := false, narrowed := true }
def CrossJustifyUptoSaid : Prop := crossJustifyUptoRow.holds Try.pinned (OpenSpec.upto crossJustifySpec)

/-- 'jamblaw20.CrossOne', WHERE WHAT IT READS IS OF BULK AT MOST 1048576: true; the input reads as it did. -/
def crossOneUptoRow : OpenClaim := { program := "ytkkkdjkjggofkaa", sum := "e1b5efc33795e2c715faeaf00657f29be04618dd1df6f1fbe184d667d1c5451e", func := "jamb/jamblaw20.CrossOne", spec := "crossOne", unfollowed := true, recurses := true, named := ["math/bits.divideError", "math/bits.overflowError"], apart := false, narrowed := true }
def CrossOneUptoSaid : Prop := crossOneUptoRow.holds Try.pinned (OpenSpec.upto crossOneSpec)

end Rows
end Go.Proofs.Ytkkkdjkjggofkaa
