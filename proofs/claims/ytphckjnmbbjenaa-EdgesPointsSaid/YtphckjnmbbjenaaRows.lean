/-
  No cell of these rows narrows 'for every input' (looked for: loops, veiled, ifaces, maps, wideKeys, modest, calm, conditions, laid).
  DERIVED. THE GIVEN ROWS OF THIS SEAT. 7 by the template 'for every input the law returns true; each argument reads behind the call as it read before'; 0 by the template 'total and deterministic' (their statements: YtphckjnmbbjenaaTotals.lean).
  GIVEN WITH THE SEED: the statements are not yours to turn. If you find one false, say at which input.
  Laid BY PROGRAM, IN A SANDBOX (cutbox-rows.mjs): the forced cells as the released guide's own fill.sh prints them over the translation 69707a5be8e963fd… (all of the seat's roots in one cut). By AI agents, Wed Nov 11 2026. No macro, syntax, notation, axiom, sorry.
-/
import Derived.Test.YtphckjnmbbjenaaChecked
import GoSem.Claim
import GoSem.ClaimJoined
import GoSem.ClaimMapViews
import Derived.JoinedTies
import Derived.KernelRfl
namespace Go.Proofs.Ytphckjnmbbjenaa
/- THE CELL 'sum', in the pinned program and in every row, IS THE sha256 OF THE DUMP (.gsa) THAT YtphckjnmbbjenaaProg.lean LOADS. Nothing in Lean hashes anything: it is a label: what it is worth is what the hold of that sum in a sandbox is worth. -/
noncomputable def Try.pinned : Pinned := { name := "ytphckjnmbbjenaa", sum := "69707a5be8e963fd0cae0abe7a684e0eb1eccdb053c28b35d798074c1fbc4eb6", checked := Try.checked }
namespace Rows
def none {H : Type} : Left H := { results := [], args := [] }

/-- 'jamblaw02.EdgesSums': WHATEVER THE INPUT: true; the input reads as it did. -/
def edgesSumsSpec : ChangeSpec := { name := "edgesSums", fn := fun _ => fun
  | [d] => { results := [.lit (.bool true)], args := [d] }
  | _ => none }
def edgesSumsRow : OpenClaim := { program := "ytphckjnmbbjenaa", sum := "69707a5be8e963fd0cae0abe7a684e0eb1eccdb053c28b35d798074c1fbc4eb6", func := "jamb/jamblaw02.EdgesSums", spec := "edgesSums", inPlace := ["math/bits.Add64"], unfollowed := true, recurses := true, apart := false }
def EdgesSumsSaid : Prop := edgesSumsRow.holds Try.pinned (OpenSpec.ofChange edgesSumsSpec)

/-- ITS FALSE NEIGHBOUR: 'it returns false'. Refute it at one input. -/
def edgesSumsWrong : ChangeSpec := { name := "edgesSums", fn := fun _ => fun
  | [d] => { results := [.lit (.bool false)], args := [d] }
  | _ => none }
def EdgesSumsWrongFalsely : Prop := edgesSumsRow.holds Try.pinned (OpenSpec.ofChange edgesSumsWrong)

/-- 'jamblaw02.EdgesRects': WHATEVER THE INPUT: true; the input reads as it did. -/
def edgesRectsSpec : ChangeSpec := { name := "edgesRects", fn := fun _ => fun
  | [d1, d2, d3] => { results := [.lit (.bool true)], args := [d1, d2, d3] }
  | _ => none }
def edgesRectsRow : OpenClaim := { program := "ytphckjnmbbjenaa", sum := "69707a5be8e963fd0cae0abe7a684e0eb1eccdb053c28b35d798074c1fbc4eb6", func := "jamb/jamblaw02.EdgesRects", spec := "edgesRects", inPlace := ["math/bits.Add64"], unfollowed := true, recurses := true, apart := false }
def EdgesRectsSaid : Prop := edgesRectsRow.holds Try.pinned (OpenSpec.ofChange edgesRectsSpec)

/-- ITS FALSE NEIGHBOUR: 'it returns false'. Refute it at one input. -/
def edgesRectsWrong : ChangeSpec := { name := "edgesRects", fn := fun _ => fun
  | [d1, d2, d3] => { results := [.lit (.bool false)], args := [d1, d2, d3] }
  | _ => none }
def EdgesRectsWrongFalsely : Prop := edgesRectsRow.holds Try.pinned (OpenSpec.ofChange edgesRectsWrong)

/-- 'jamblaw02.EdgesCovers': WHATEVER THE INPUT: true; the input reads as it did. -/
def edgesCoversSpec : ChangeSpec := { name := "edgesCovers", fn := fun _ => fun
  | [d] => { results := [.lit (.bool true)], args := [d] }
  | _ => none }
def edgesCoversRow : OpenClaim := { program := "ytphckjnmbbjenaa", sum := "69707a5be8e963fd0cae0abe7a684e0eb1eccdb053c28b35d798074c1fbc4eb6", func := "jamb/jamblaw02.EdgesCovers", spec := "edgesCovers", inPlace := ["math/bits.Add64"], unfollowed := true, recurses := true, apart := false }
def EdgesCoversSaid : Prop := edgesCoversRow.holds Try.pinned (OpenSpec.ofChange edgesCoversSpec)

/-- ITS FALSE NEIGHBOUR: 'it returns false'. Refute it at one input. -/
def edgesCoversWrong : ChangeSpec := { name := "edgesCovers", fn := fun _ => fun
  | [d] => { results := [.lit (.bool false)], args := [d] }
  | _ => none }
def EdgesCoversWrongFalsely : Prop := edgesCoversRow.holds Try.pinned (OpenSpec.ofChange edgesCoversWrong)

/-- 'jamblaw02.EdgesPoints': WHATEVER THE INPUT: true; the input reads as it did. -/
def edgesPointsSpec : ChangeSpec := { name := "edgesPoints", fn := fun _ => fun
  | [d1, d2] => { results := [.lit (.bool true)], args := [d1, d2] }
  | _ => none }
def edgesPointsRow : OpenClaim := { program := "ytphckjnmbbjenaa", sum := "69707a5be8e963fd0cae0abe7a684e0eb1eccdb053c28b35d798074c1fbc4eb6", func := "jamb/jamblaw02.EdgesPoints", spec := "edgesPoints", inPlace := ["math/bits.Add64"], unfollowed := true, recurses := true, apart := false }
def EdgesPointsSaid : Prop := edgesPointsRow.holds Try.pinned (OpenSpec.ofChange edgesPointsSpec)

/-- ITS FALSE NEIGHBOUR: 'it returns false'. Refute it at one input. -/
def edgesPointsWrong : ChangeSpec := { name := "edgesPoints", fn := fun _ => fun
  | [d1, d2] => { results := [.lit (.bool false)], args := [d1, d2] }
  | _ => none }
def EdgesPointsWrongFalsely : Prop := edgesPointsRow.holds Try.pinned (OpenSpec.ofChange edgesPointsWrong)

/-- 'jamblaw02.EdgesTurns': WHATEVER THE INPUT: true; the input reads as it did. -/
def edgesTurnsSpec : ChangeSpec := { name := "edgesTurns", fn := fun _ => fun
  | [d1, d2, d3] => { results := [.lit (.bool true)], args := [d1, d2, d3] }
  | _ => none }
def edgesTurnsRow : OpenClaim := { program := "ytphckjnmbbjenaa", sum := "69707a5be8e963fd0cae0abe7a684e0eb1eccdb053c28b35d798074c1fbc4eb6", func := "jamb/jamblaw02.EdgesTurns", spec := "edgesTurns", inPlace := ["math/bits.Add64"], unfollowed := true, recurses := true, apart := false }
def EdgesTurnsSaid : Prop := edgesTurnsRow.holds Try.pinned (OpenSpec.ofChange edgesTurnsSpec)

/-- ITS FALSE NEIGHBOUR: 'it returns false'. Refute it at one input. -/
def edgesTurnsWrong : ChangeSpec := { name := "edgesTurns", fn := fun _ => fun
  | [d1, d2, d3] => { results := [.lit (.bool false)], args := [d1, d2, d3] }
  | _ => none }
def EdgesTurnsWrongFalsely : Prop := edgesTurnsRow.holds Try.pinned (OpenSpec.ofChange edgesTurnsWrong)

/-- 'jamblaw02.EdgesMoved': WHATEVER THE INPUT: true; the input reads as it did. -/
def edgesMovedSpec : ChangeSpec := { name := "edgesMoved", fn := fun _ => fun
  | [d1, d2, d3, d4] => { results := [.lit (.bool true)], args := [d1, d2, d3, d4] }
  | _ => none }
def edgesMovedRow : OpenClaim := { program := "ytphckjnmbbjenaa", sum := "69707a5be8e963fd0cae0abe7a684e0eb1eccdb053c28b35d798074c1fbc4eb6", func := "jamb/jamblaw02.EdgesMoved", spec := "edgesMoved", inPlace := ["math/bits.Add64"], unfollowed := true, recurses := true, apart := false }
def EdgesMovedSaid : Prop := edgesMovedRow.holds Try.pinned (OpenSpec.ofChange edgesMovedSpec)

/-- ITS FALSE NEIGHBOUR: 'it returns false'. Refute it at one input. -/
def edgesMovedWrong : ChangeSpec := { name := "edgesMoved", fn := fun _ => fun
  | [d1, d2, d3, d4] => { results := [.lit (.bool false)], args := [d1, d2, d3, d4] }
  | _ => none }
def EdgesMovedWrongFalsely : Prop := edgesMovedRow.holds Try.pinned (OpenSpec.ofChange edgesMovedWrong)

/-- 'jamblaw02.EdgesChain': WHATEVER THE INPUT: true; the input reads as it did. -/
def edgesChainSpec : ChangeSpec := { name := "edgesChain", fn := fun _ => fun
  | [d1, d2, d3] => { results := [.lit (.bool true)], args := [d1, d2, d3] }
  | _ => none }
def edgesChainRow : OpenClaim := { program := "ytphckjnmbbjenaa", sum := "69707a5be8e963fd0cae0abe7a684e0eb1eccdb053c28b35d798074c1fbc4eb6", func := "jamb/jamblaw02.EdgesChain", spec := "edgesChain", inPlace := ["math/bits.Add64"], unfollowed := true, recurses := true, apart := false }
def EdgesChainSaid : Prop := edgesChainRow.holds Try.pinned (OpenSpec.ofChange edgesChainSpec)

/-- ITS FALSE NEIGHBOUR: 'it returns false'. Refute it at one input. -/
def edgesChainWrong : ChangeSpec := { name := "edgesChain", fn := fun _ => fun
  | [d1, d2, d3] => { results := [.lit (.bool false)], args := [d1, d2, d3] }
  | _ => none }
def EdgesChainWrongFalsely : Prop := edgesChainRow.holds Try.pinned (OpenSpec.ofChange edgesChainWrong)

/- THE SECOND FORM. 'bulk': how many values and letters a reading holds, each counted each time it is reached (what is shared counts as often as it is met; a slice's spare places count too). A statement '..UptoSaid' is the law's where the arguments, and the package variables that the reading takes, are together of bulk at most 1048576: NARROWER than '..Said'. Prove '..Said' where nothing that the law and all that it calls make is longer than what came in: it says more and counts as full. Else prove '..UptoSaid'. A law counts once. -/
mutual
def uptoBulk {H : Type} : DataW H → Nat
  | .lit (.string bytes) => bytes.length + 1
  | .lit _ => 1
  | .nil => 1
  | .ptr d => uptoBulk d + 1
  | .slice elems spare => uptoBulkAll elems + uptoBulkAll spare + 1
  | .agg parts => uptoBulkAll parts + 1
  | .iface _ d => uptoBulk d + 1
  | .map entries => uptoBulkEntries entries + 1
  | .held _ => 1
def uptoBulkAll {H : Type} : List (DataW H) → Nat
  | [] => 0
  | d :: r => uptoBulk d + uptoBulkAll r
def uptoBulkEntries {H : Type} : List (Lit × DataW H) → Nat
  | [] => 0
  | x :: r => uptoBulkEntry x + uptoBulkEntries r
def uptoBulkEntry {H : Type} : Lit × DataW H → Nat
  | (.string bytes, d) => bytes.length + uptoBulk d + 1
  | (_, d) => uptoBulk d + 1
 end
def uptoSmall : (H : Type) → List (DataW H) → Bool := fun _ ds => decide (uptoBulkAll ds ≤ 1048576)
def OpenSpec.upto (s : _root_.Go.ChangeSpec) : _root_.Go.OpenSpec := { _root_.Go.OpenSpec.ofChange s with cond := some uptoSmall }

/-- 'jamblaw02.EdgesSums', WHERE WHAT IT READS IS OF BULK AT MOST 1048576: true; the input reads as it did. -/
def edgesSumsUptoRow : OpenClaim := { program := "ytphckjnmbbjenaa", sum := "69707a5be8e963fd0cae0abe7a684e0eb1eccdb053c28b35d798074c1fbc4eb6", func := "jamb/jamblaw02.EdgesSums", spec := "edgesSums", inPlace := ["math/bits.Add64"], unfollowed := true, recurses := true, apart := false, narrowed := true }
def EdgesSumsUptoSaid : Prop := edgesSumsUptoRow.holds Try.pinned (OpenSpec.upto edgesSumsSpec)

/-- 'jamblaw02.EdgesRects', WHERE WHAT IT READS IS OF BULK AT MOST 1048576: true; the input reads as it did. -/
def edgesRectsUptoRow : OpenClaim := { program := "ytphckjnmbbjenaa", sum := "69707a5be8e963fd0cae0abe7a684e0eb1eccdb053c28b35d798074c1fbc4eb6", func := "jamb/jamblaw02.EdgesRects", spec := "edgesRects", inPlace := ["math/bits.Add64"], unfollowed := true, recurses := true, apart := false, narrowed := true }
def EdgesRectsUptoSaid : Prop := edgesRectsUptoRow.holds Try.pinned (OpenSpec.upto edgesRectsSpec)

/-- 'jamblaw02.EdgesCovers', WHERE WHAT IT READS IS OF BULK AT MOST 1048576: true; the input reads as it did. -/
def edgesCoversUptoRow : OpenClaim := { program := "ytphckjnmbbjenaa", sum := "69707a5be8e963fd0cae0abe7a684e0eb1eccdb053c28b35d798074c1fbc4eb6", func := "jamb/jamblaw02.EdgesCovers", spec := "edgesCovers", inPlace := ["math/bits.Add64"], unfollowed := true, recurses := true, apart := false, narrowed := true }
def EdgesCoversUptoSaid : Prop := edgesCoversUptoRow.holds Try.pinned (OpenSpec.upto edgesCoversSpec)

/-- 'jamblaw02.EdgesPoints', WHERE WHAT IT READS IS OF BULK AT MOST 1048576: true; the input reads as it did. -/
def edgesPointsUptoRow : OpenClaim := { program := "ytphckjnmbbjenaa", sum := "69707a5be8e963fd0cae0abe7a684e0eb1eccdb053c28b35d798074c1fbc4eb6", func := "jamb/jamblaw02.EdgesPoints", spec := "edgesPoints", inPlace := ["math/bits.Add64"], unfollowed := true, recurses := true, apart := false, narrowed := true }
def EdgesPointsUptoSaid : Prop := edgesPointsUptoRow.holds Try.pinned (OpenSpec.upto edgesPointsSpec)

/-- 'jamblaw02.EdgesTurns', WHERE WHAT IT READS IS OF BULK AT MOST 1048576: true; the input reads as it did. -/
def edgesTurnsUptoRow : OpenClaim := { program := "ytphckjnmbbjenaa", sum := "69707a5be8e963fd0cae0abe7a684e0eb1eccdb053c28b35d798074c1fbc4eb6", func := "jamb/jamblaw02.EdgesTurns", spec := "edgesTurns", inPlace := ["math/bits.Add64"], unfollowed := true, recurses := true, apart := false, narrowed := true }
def EdgesTurnsUptoSaid : Prop := edgesTurnsUptoRow.holds Try.pinned (OpenSpec.upto edgesTurnsSpec)

/-- 'jamblaw02.EdgesMoved', WHERE WHAT IT READS IS OF BULK AT MOST 1048576: true; the input reads as it did. -/
def edgesMovedUptoRow : OpenClaim := { program := "ytphckjnmbbjenaa", sum := "69707a5be8e963fd0cae0abe7a684e0eb1eccdb053c28b35d798074c1fbc4eb6", func := "jamb/jamblaw02.EdgesMoved", spec := "edgesMoved", inPlace := ["math/bits.Add64"], unfollowed := true, recurses := true, apart := false, narrowed := true }
def EdgesMovedUptoSaid : Prop := edgesMovedUptoRow.holds Try.pinned (OpenSpec.upto edgesMovedSpec)

/-- 'jamblaw02.EdgesChain', WHERE WHAT IT READS IS OF BULK AT MOST 1048576: true; the input reads as it did. -/
def edgesChainUptoRow : OpenClaim := { program := "ytphckjnmbbjenaa", sum := "69707a5be8e963fd0cae0abe7a684e0eb1eccdb053c28b35d798074c1fbc4eb6", func := "jamb/jamblaw02.EdgesChain", spec := "edgesChain", inPlace := ["math/bits.Add64"], unfollowed := true, recurses := true, apart := false, narrowed := true }
def EdgesChainUptoSaid : Prop := edgesChainUptoRow.holds Try.pinned (OpenSpec.upto edgesChainSpec)

end Rows
end Go.Proofs.Ytphckjnmbbjenaa
