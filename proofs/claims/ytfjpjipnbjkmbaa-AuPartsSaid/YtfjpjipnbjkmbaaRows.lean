/-
  No cell of these rows narrows 'for every input' (looked for: loops, veiled, ifaces, maps, wideKeys, modest, calm, conditions, laid).
  DERIVED. THE GIVEN ROWS OF THIS SEAT. 7 by the template 'for every input the law returns true; each argument reads behind the call as it read before'; 0 by the template 'total and deterministic' (their statements: YtfjpjipnbjkmbaaTotals.lean).
  GIVEN WITH THE SEED: the statements are not yours to turn. If you find one false, say at which input.
  Laid BY PROGRAM, IN A SANDBOX (cutbox-rows.mjs): the forced cells as the released guide's own fill.sh prints them over the translation 5695995b8676f620… (all of the seat's roots in one cut). By AI agents, Wed Nov 11 2026. No macro, syntax, notation, axiom, sorry.
-/
import Derived.Test.YtfjpjipnbjkmbaaChecked
import GoSem.Claim
import GoSem.ClaimJoined
import GoSem.ClaimMapViews
import Derived.JoinedTies
import Derived.KernelRfl
namespace Go.Proofs.Ytfjpjipnbjkmbaa
/- THE CELL 'sum', in the pinned program and in every row, IS THE sha256 OF THE DUMP (.gsa) THAT YtfjpjipnbjkmbaaProg.lean LOADS. Nothing in Lean hashes anything: it is a label: what it is worth is what the hold of that sum in a sandbox is worth. -/
noncomputable def Try.pinned : Pinned := { name := "ytfjpjipnbjkmbaa", sum := "5695995b8676f620751ccedceafe22d41a36bd69e5ed55ffc698585743feaf82", checked := Try.checked }
namespace Rows
def none {H : Type} : Left H := { results := [], args := [] }

/-- 'jamblaw01.AuCuts': WHATEVER THE INPUT: true; the input reads as it did. -/
def auCutsSpec : ChangeSpec := { name := "auCuts", fn := fun _ => fun
  | [d1, d2, d3] => { results := [.lit (.bool true)], args := [d1, d2, d3] }
  | _ => none }
def auCutsRow : OpenClaim := { program := "ytfjpjipnbjkmbaa", sum := "5695995b8676f620751ccedceafe22d41a36bd69e5ed55ffc698585743feaf82", func := "jamb/jamblaw01.AuCuts", spec := "auCuts", inPlace := ["math/bits.Add64"], unfollowed := true, recurses := true, named := ["math/bits.divideError", "math/bits.overflowError"], apart := false }
def AuCutsSaid : Prop := auCutsRow.holds Try.pinned (OpenSpec.ofChange auCutsSpec)

/-- ITS FALSE NEIGHBOUR: 'it returns false'. Refute it at one input. -/
def auCutsWrong : ChangeSpec := { name := "auCuts", fn := fun _ => fun
  | [d1, d2, d3] => { results := [.lit (.bool false)], args := [d1, d2, d3] }
  | _ => none }
def AuCutsWrongFalsely : Prop := auCutsRow.holds Try.pinned (OpenSpec.ofChange auCutsWrong)

/-- 'jamblaw01.AuSums': WHATEVER THE INPUT: true; the input reads as it did. -/
def auSumsSpec : ChangeSpec := { name := "auSums", fn := fun _ => fun
  | [d] => { results := [.lit (.bool true)], args := [d] }
  | _ => none }
def auSumsRow : OpenClaim := { program := "ytfjpjipnbjkmbaa", sum := "5695995b8676f620751ccedceafe22d41a36bd69e5ed55ffc698585743feaf82", func := "jamb/jamblaw01.AuSums", spec := "auSums", inPlace := ["math/bits.Add64"], unfollowed := true, recurses := true, named := ["math/bits.divideError", "math/bits.overflowError"], apart := false }
def AuSumsSaid : Prop := auSumsRow.holds Try.pinned (OpenSpec.ofChange auSumsSpec)

/-- ITS FALSE NEIGHBOUR: 'it returns false'. Refute it at one input. -/
def auSumsWrong : ChangeSpec := { name := "auSums", fn := fun _ => fun
  | [d] => { results := [.lit (.bool false)], args := [d] }
  | _ => none }
def AuSumsWrongFalsely : Prop := auSumsRow.holds Try.pinned (OpenSpec.ofChange auSumsWrong)

/-- 'jamblaw01.AuParts': WHATEVER THE INPUT: true; the input reads as it did. -/
def auPartsSpec : ChangeSpec := { name := "auParts", fn := fun _ => fun
  | [d1, d2, d3] => { results := [.lit (.bool true)], args := [d1, d2, d3] }
  | _ => none }
def auPartsRow : OpenClaim := { program := "ytfjpjipnbjkmbaa", sum := "5695995b8676f620751ccedceafe22d41a36bd69e5ed55ffc698585743feaf82", func := "jamb/jamblaw01.AuParts", spec := "auParts", inPlace := ["math/bits.Add64"], unfollowed := true, recurses := true, named := ["math/bits.divideError", "math/bits.overflowError"], apart := false }
def AuPartsSaid : Prop := auPartsRow.holds Try.pinned (OpenSpec.ofChange auPartsSpec)

/-- ITS FALSE NEIGHBOUR: 'it returns false'. Refute it at one input. -/
def auPartsWrong : ChangeSpec := { name := "auParts", fn := fun _ => fun
  | [d1, d2, d3] => { results := [.lit (.bool false)], args := [d1, d2, d3] }
  | _ => none }
def AuPartsWrongFalsely : Prop := auPartsRow.holds Try.pinned (OpenSpec.ofChange auPartsWrong)

/-- 'jamblaw01.AuFloors': WHATEVER THE INPUT: true; the input reads as it did. -/
def auFloorsSpec : ChangeSpec := { name := "auFloors", fn := fun _ => fun
  | [d1, d2, d3] => { results := [.lit (.bool true)], args := [d1, d2, d3] }
  | _ => none }
def auFloorsRow : OpenClaim := { program := "ytfjpjipnbjkmbaa", sum := "5695995b8676f620751ccedceafe22d41a36bd69e5ed55ffc698585743feaf82", func := "jamb/jamblaw01.AuFloors", spec := "auFloors", inPlace := ["math/bits.Add64"], unfollowed := true, recurses := true, named := ["math/bits.divideError", "math/bits.overflowError"], apart := false }
def AuFloorsSaid : Prop := auFloorsRow.holds Try.pinned (OpenSpec.ofChange auFloorsSpec)

/-- ITS FALSE NEIGHBOUR: 'it returns false'. Refute it at one input. -/
def auFloorsWrong : ChangeSpec := { name := "auFloors", fn := fun _ => fun
  | [d1, d2, d3] => { results := [.lit (.bool false)], args := [d1, d2, d3] }
  | _ => none }
def AuFloorsWrongFalsely : Prop := auFloorsRow.holds Try.pinned (OpenSpec.ofChange auFloorsWrong)

/-- 'jamblaw01.AuOrders': WHATEVER THE INPUT: true; the input reads as it did. -/
def auOrdersSpec : ChangeSpec := { name := "auOrders", fn := fun _ => fun
  | [d1, d2] => { results := [.lit (.bool true)], args := [d1, d2] }
  | _ => none }
def auOrdersRow : OpenClaim := { program := "ytfjpjipnbjkmbaa", sum := "5695995b8676f620751ccedceafe22d41a36bd69e5ed55ffc698585743feaf82", func := "jamb/jamblaw01.AuOrders", spec := "auOrders", inPlace := ["math/bits.Add64"], unfollowed := true, recurses := true, named := ["math/bits.divideError", "math/bits.overflowError"], apart := false }
def AuOrdersSaid : Prop := auOrdersRow.holds Try.pinned (OpenSpec.ofChange auOrdersSpec)

/-- ITS FALSE NEIGHBOUR: 'it returns false'. Refute it at one input. -/
def auOrdersWrong : ChangeSpec := { name := "auOrders", fn := fun _ => fun
  | [d1, d2] => { results := [.lit (.bool false)], args := [d1, d2] }
  | _ => none }
def AuOrdersWrongFalsely : Prop := auOrdersRow.holds Try.pinned (OpenSpec.ofChange auOrdersWrong)

/-- 'jamblaw01.AuWithin': WHATEVER THE INPUT: true; the input reads as it did. -/
def auWithinSpec : ChangeSpec := { name := "auWithin", fn := fun _ => fun
  | [d1, d2, d3] => { results := [.lit (.bool true)], args := [d1, d2, d3] }
  | _ => none }
def auWithinRow : OpenClaim := { program := "ytfjpjipnbjkmbaa", sum := "5695995b8676f620751ccedceafe22d41a36bd69e5ed55ffc698585743feaf82", func := "jamb/jamblaw01.AuWithin", spec := "auWithin", inPlace := ["math/bits.Add64"], unfollowed := true, recurses := true, named := ["math/bits.divideError", "math/bits.overflowError"], apart := false }
def AuWithinSaid : Prop := auWithinRow.holds Try.pinned (OpenSpec.ofChange auWithinSpec)

/-- ITS FALSE NEIGHBOUR: 'it returns false'. Refute it at one input. -/
def auWithinWrong : ChangeSpec := { name := "auWithin", fn := fun _ => fun
  | [d1, d2, d3] => { results := [.lit (.bool false)], args := [d1, d2, d3] }
  | _ => none }
def AuWithinWrongFalsely : Prop := auWithinRow.holds Try.pinned (OpenSpec.ofChange auWithinWrong)

/-- 'jamblaw01.AuCommon': WHATEVER THE INPUT: true; the input reads as it did. -/
def auCommonSpec : ChangeSpec := { name := "auCommon", fn := fun _ => fun
  | [d1, d2, d3, d4] => { results := [.lit (.bool true)], args := [d1, d2, d3, d4] }
  | _ => none }
def auCommonRow : OpenClaim := { program := "ytfjpjipnbjkmbaa", sum := "5695995b8676f620751ccedceafe22d41a36bd69e5ed55ffc698585743feaf82", func := "jamb/jamblaw01.AuCommon", spec := "auCommon", inPlace := ["math/bits.Add64"], unfollowed := true, recurses := true, named := ["math/bits.divideError", "math/bits.overflowError"], apart := false }
def AuCommonSaid : Prop := auCommonRow.holds Try.pinned (OpenSpec.ofChange auCommonSpec)

/-- ITS FALSE NEIGHBOUR: 'it returns false'. Refute it at one input. -/
def auCommonWrong : ChangeSpec := { name := "auCommon", fn := fun _ => fun
  | [d1, d2, d3, d4] => { results := [.lit (.bool false)], args := [d1, d2, d3, d4] }
  | _ => none }
def AuCommonWrongFalsely : Prop := auCommonRow.holds Try.pinned (OpenSpec.ofChange auCommonWrong)

/- THE SECOND FORM. 'bulk': how many values and letters a reading holds, each counted each time it is reached (what is shared counts as often as it is met; a slice's spare places count too). A statement '..UptoSaid' is the law's where the arguments, and the package variables that the reading takes, are together of bulk at most 1048576: NARROWER than '..Said'. Prove '..Said' where nothing that the law and all that it calls make is longer than what came in: it says more and counts as full. Else prove '..UptoSaid'. A law counts once. -/
mutual
def uptoBulk {H : Type} : DataW H → Nat
  | .lit (.string bytes) => bytes.length + 1
  | .lit _ => 1
  | .nil => 1
  | .ptr d => uptoBulk d + 1
  | .slice elems spare => uptoBulkAll elems + uptoBulkAll spare + 1
  | .agg parts => uptoBulkAll parts + 1
  | .iface _ d => uptoBulk d + 1
  | .map entries => uptoBulkEntries entries + 1
  | .held _ => 1
def uptoBulkAll {H : Type} : List (DataW H) → Nat
  | [] => 0
  | d :: r => uptoBulk d + uptoBulkAll r
def uptoBulkEntries {H : Type} : List (Lit × DataW H) → Nat
  | [] => 0
  | x :: r => uptoBulkEntry x + uptoBulkEntries r
def uptoBulkEntry {H : Type} : Lit × DataW H → Nat
  | (.string bytes, d) => bytes.length + uptoBulk d + 1
  | (_, d) => uptoBulk d + 1
 end
def uptoSmall : (H : Type) → List (DataW H) → Bool := fun _ ds => decide (uptoBulkAll ds ≤ 1048576)
def OpenSpec.upto (s : _root_.Go.ChangeSpec) : _root_.Go.OpenSpec := { _root_.Go.OpenSpec.ofChange s with cond := some uptoSmall }

/-- 'jamblaw01.AuCuts', WHERE WHAT IT READS IS OF BULK AT MOST 1048576: true; the input reads as it did. -/
def auCutsUptoRow : OpenClaim := { program := "ytfjpjipnbjkmbaa", sum := "5695995b8676f620751ccedceafe22d41a36bd69e5ed55ffc698585743feaf82", func := "jamb/jamblaw01.AuCuts", spec := "auCuts", inPlace := ["math/bits.Add64"], unfollowed := true, recurses := true, named := ["math/bits.divideError", "math/bits.overflowError"], apart := false, narrowed := true }
def AuCutsUptoSaid : Prop := auCutsUptoRow.holds Try.pinned (OpenSpec.upto auCutsSpec)

/-- 'jamblaw01.AuSums', WHERE WHAT IT READS IS OF BULK AT MOST 1048576: true; the input reads as it did. -/
def auSumsUptoRow : OpenClaim := { program := "ytfjpjipnbjkmbaa", sum := "5695995b8676f620751ccedceafe22d41a36bd69e5ed55ffc698585743feaf82", func := "jamb/jamblaw01.AuSums", spec := "auSums", inPlace := ["math/bits.Add64"], unfollowed := true, recurses := true, named := ["math/bits.divideError", "math/bits.overflowError"], apart := false, narrowed := true }
def AuSumsUptoSaid : Prop := auSumsUptoRow.holds Try.pinned (OpenSpec.upto auSumsSpec)

/-- 'jamblaw01.AuParts', WHERE WHAT IT READS IS OF BULK AT MOST 1048576: true; the input reads as it did. -/
def auPartsUptoRow : OpenClaim := { program := "ytfjpjipnbjkmbaa", sum := "5695995b8676f620751ccedceafe22d41a36bd69e5ed55ffc698585743feaf82", func := "jamb/jamblaw01.AuParts", spec := "auParts", inPlace := ["math/bits.Add64"], unfollowed := true, recurses := true, named := ["math/bits.divideError", "math/bits.overflowError"], apart := false, narrowed := true }
def AuPartsUptoSaid : Prop := auPartsUptoRow.holds Try.pinned (OpenSpec.upto auPartsSpec)

/-- 'jamblaw01.AuFloors', WHERE WHAT IT READS IS OF BULK AT MOST 1048576: true; the input reads as it did. -/
def auFloorsUptoRow : OpenClaim := { program := "ytfjpjipnbjkmbaa", sum := "5695995b8676f620751ccedceafe22d41a36bd69e5ed55ffc698585743feaf82", func := "jamb/jamblaw01.AuFloors", spec := "auFloors", inPlace := ["math/bits.Add64"], unfollowed := true, recurses := true, named := ["math/bits.divideError", "math/bits.overflowError"], apart := false, narrowed := true }
def AuFloorsUptoSaid : Prop := auFloorsUptoRow.holds Try.pinned (OpenSpec.upto auFloorsSpec)

/-- 'jamblaw01.AuOrders', WHERE WHAT IT READS IS OF BULK AT MOST 1048576: true; the input reads as it did. -/
def auOrdersUptoRow : OpenClaim := { program := "ytfjpjipnbjkmbaa", sum := "5695995b8676f620751ccedceafe22d41a36bd69e5ed55ffc698585743feaf82", func := "jamb/jamblaw01.AuOrders", spec := "auOrders", inPlace := ["math/bits.Add64"], unfollowed := true, recurses := true, named := ["math/bits.divideError", "math/bits.overflowError"], apart := false, narrowed := true }
def AuOrdersUptoSaid : Prop := auOrdersUptoRow.holds Try.pinned (OpenSpec.upto auOrdersSpec)

/-- 'jamblaw01.AuWithin', WHERE WHAT IT READS IS OF BULK AT MOST 1048576: true; the input reads as it did. -/
def auWithinUptoRow : OpenClaim := { program := "ytfjpjipnbjkmbaa", sum := "5695995b8676f620751ccedceafe22d41a36bd69e5ed55ffc698585743feaf82", func := "jamb/jamblaw01.AuWithin", spec := "auWithin", inPlace := ["math/bits.Add64"], unfollowed := true, recurses := true, named := ["math/bits.divideError", "math/bits.overflowError"], apart := false, narrowed := true }
def AuWithinUptoSaid : Prop := auWithinUptoRow.holds Try.pinned (OpenSpec.upto auWithinSpec)

/-- 'jamblaw01.AuCommon', WHERE WHAT IT READS IS OF BULK AT MOST 1048576: true; the input reads as it did. -/
def auCommonUptoRow : OpenClaim := { program := "ytfjpjipnbjkmbaa", sum := "5695995b8676f620751ccedceafe22d41a36bd69e5ed55ffc698585743feaf82", func := "jamb/jamblaw01.AuCommon", spec := "auCommon", inPlace := ["math/bits.Add64"], unfollowed := true, recurses := true, named := ["math/bits.divideError", "math/bits.overflowError"], apart := false, narrowed := true }
def AuCommonUptoSaid : Prop := auCommonUptoRow.holds Try.pinned (OpenSpec.upto auCommonSpec)

end Rows
end Go.Proofs.Ytfjpjipnbjkmbaa
