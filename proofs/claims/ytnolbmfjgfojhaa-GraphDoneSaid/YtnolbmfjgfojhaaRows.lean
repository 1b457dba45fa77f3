/-
  No cell of these rows narrows 'for every input' (looked for: loops, veiled, ifaces, maps, wideKeys, modest, calm, conditions, laid).
  DERIVED. THE GIVEN ROWS OF THIS SEAT. 12 by the template 'for every input the law returns true; each argument reads behind the call as it read before'; 0 by the template 'total and deterministic' (their statements: YtnolbmfjgfojhaaTotals.lean).
  GIVEN WITH THE SEED: the statements are not yours to turn. If you find one false, say at which input.
  Laid BY PROGRAM, IN A SANDBOX (cutbox-rows.mjs): the forced cells as the released guide's own fill.sh prints them over the translation 90c99dd19bbd37a5… (all of the seat's roots in one cut). By AI agents, Wed Nov 11 2026. No macro, syntax, notation, axiom, sorry.
-/
import Derived.Test.YtnolbmfjgfojhaaChecked
import GoSem.Claim
import GoSem.ClaimJoined
import GoSem.ClaimMapViews
import Derived.JoinedTies
import Derived.KernelRfl
namespace Go.Proofs.Ytnolbmfjgfojhaa
/- THE CELL 'sum', in the pinned program and in every row, IS THE sha256 OF THE DUMP (.gsa) THAT YtnolbmfjgfojhaaProg.lean LOADS. Nothing in Lean hashes anything: it is a label: what it is worth is what the hold of that sum in a sandbox is worth. -/
noncomputable def Try.pinned : Pinned := { name := "ytnolbmfjgfojhaa", sum := "90c99dd19bbd37a588c69f2cf0f48e03c1b2c47644a5e83f06b674756df58afb", checked := Try.checked }
namespace Rows
def none {H : Type} : Left H := { results := [], args := [] }

/-- 'jamblaw05.TreeChecks': WHATEVER THE INPUT: true; the input reads as it did. -/
def treeChecksSpec : ChangeSpec := { name := "treeChecks", fn := fun _ => fun
  | [d] => { results := [.lit (.bool true)], args := [d] }
  | _ => none }
def treeChecksRow : OpenClaim := { program := "ytnolbmfjgfojhaa", sum := "90c99dd19bbd37a588c69f2cf0f48e03c1b2c47644a5e83f06b674756df58afb", func := "jamb/jamblaw05.TreeChecks", spec := "treeChecks", unfollowed := true, recurses := true, apart := false }
def TreeChecksSaid : Prop := treeChecksRow.holds Try.pinned (OpenSpec.ofChange treeChecksSpec)

/-- ITS FALSE NEIGHBOUR: 'it returns false'. Refute it at one input. -/
def treeChecksWrong : ChangeSpec := { name := "treeChecks", fn := fun _ => fun
  | [d] => { results := [.lit (.bool false)], args := [d] }
  | _ => none }
def TreeChecksWrongFalsely : Prop := treeChecksRow.holds Try.pinned (OpenSpec.ofChange treeChecksWrong)

/-- 'jamblaw05.TreeKin': WHATEVER THE INPUT: true; the input reads as it did. -/
def treeKinSpec : ChangeSpec := { name := "treeKin", fn := fun _ => fun
  | [d1, d2] => { results := [.lit (.bool true)], args := [d1, d2] }
  | _ => none }
def treeKinRow : OpenClaim := { program := "ytnolbmfjgfojhaa", sum := "90c99dd19bbd37a588c69f2cf0f48e03c1b2c47644a5e83f06b674756df58afb", func := "jamb/jamblaw05.TreeKin", spec := "treeKin", unfollowed := true, recurses := true, apart := false }
def TreeKinSaid : Prop := treeKinRow.holds Try.pinned (OpenSpec.ofChange treeKinSpec)

/-- ITS FALSE NEIGHBOUR: 'it returns false'. Refute it at one input. -/
def treeKinWrong : ChangeSpec := { name := "treeKin", fn := fun _ => fun
  | [d1, d2] => { results := [.lit (.bool false)], args := [d1, d2] }
  | _ => none }
def TreeKinWrongFalsely : Prop := treeKinRow.holds Try.pinned (OpenSpec.ofChange treeKinWrong)

/-- 'jamblaw05.TreeShape': WHATEVER THE INPUT: true; the input reads as it did. -/
def treeShapeSpec : ChangeSpec := { name := "treeShape", fn := fun _ => fun
  | [d] => { results := [.lit (.bool true)], args := [d] }
  | _ => none }
def treeShapeRow : OpenClaim := { program := "ytnolbmfjgfojhaa", sum := "90c99dd19bbd37a588c69f2cf0f48e03c1b2c47644a5e83f06b674756df58afb", func := "jamb/jamblaw05.TreeShape", spec := "treeShape", unfollowed := true, recurses := true, apart := false }
def TreeShapeSaid : Prop := treeShapeRow.holds Try.pinned (OpenSpec.ofChange treeShapeSpec)

/-- ITS FALSE NEIGHBOUR: 'it returns false'. Refute it at one input. -/
def treeShapeWrong : ChangeSpec := { name := "treeShape", fn := fun _ => fun
  | [d] => { results := [.lit (.bool false)], args := [d] }
  | _ => none }
def TreeShapeWrongFalsely : Prop := treeShapeRow.holds Try.pinned (OpenSpec.ofChange treeShapeWrong)

/-- 'jamblaw05.TreeHeads': WHATEVER THE INPUT: true; the input reads as it did. -/
def treeHeadsSpec : ChangeSpec := { name := "treeHeads", fn := fun _ => fun
  | [d1, d2, d3] => { results := [.lit (.bool true)], args := [d1, d2, d3] }
  | _ => none }
def treeHeadsRow : OpenClaim := { program := "ytnolbmfjgfojhaa", sum := "90c99dd19bbd37a588c69f2cf0f48e03c1b2c47644a5e83f06b674756df58afb", func := "jamb/jamblaw05.TreeHeads", spec := "treeHeads", unfollowed := true, recurses := true, apart := false }
def TreeHeadsSaid : Prop := treeHeadsRow.holds Try.pinned (OpenSpec.ofChange treeHeadsSpec)

/-- ITS FALSE NEIGHBOUR: 'it returns false'. Refute it at one input. -/
def treeHeadsWrong : ChangeSpec := { name := "treeHeads", fn := fun _ => fun
  | [d1, d2, d3] => { results := [.lit (.bool false)], args := [d1, d2, d3] }
  | _ => none }
def TreeHeadsWrongFalsely : Prop := treeHeadsRow.holds Try.pinned (OpenSpec.ofChange treeHeadsWrong)

/-- 'jamblaw05.TreeDeep': WHATEVER THE INPUT: true; the input reads as it did. -/
def treeDeepSpec : ChangeSpec := { name := "treeDeep", fn := fun _ => fun
  | [d1, d2] => { results := [.lit (.bool true)], args := [d1, d2] }
  | _ => none }
def treeDeepRow : OpenClaim := { program := "ytnolbmfjgfojhaa", sum := "90c99dd19bbd37a588c69f2cf0f48e03c1b2c47644a5e83f06b674756df58afb", func := "jamb/jamblaw05.TreeDeep", spec := "treeDeep", unfollowed := true, recurses := true, apart := false }
def TreeDeepSaid : Prop := treeDeepRow.holds Try.pinned (OpenSpec.ofChange treeDeepSpec)

/-- ITS FALSE NEIGHBOUR: 'it returns false'. Refute it at one input. -/
def treeDeepWrong : ChangeSpec := { name := "treeDeep", fn := fun _ => fun
  | [d1, d2] => { results := [.lit (.bool false)], args := [d1, d2] }
  | _ => none }
def TreeDeepWrongFalsely : Prop := treeDeepRow.holds Try.pinned (OpenSpec.ofChange treeDeepWrong)

/-- 'jamblaw05.TreeParts': WHATEVER THE INPUT: true; the input reads as it did. -/
def treePartsSpec : ChangeSpec := { name := "treeParts", fn := fun _ => fun
  | [d1, d2] => { results := [.lit (.bool true)], args := [d1, d2] }
  | _ => none }
def treePartsRow : OpenClaim := { program := "ytnolbmfjgfojhaa", sum := "90c99dd19bbd37a588c69f2cf0f48e03c1b2c47644a5e83f06b674756df58afb", func := "jamb/jamblaw05.TreeParts", spec := "treeParts", unfollowed := true, recurses := true, apart := false }
def TreePartsSaid : Prop := treePartsRow.holds Try.pinned (OpenSpec.ofChange treePartsSpec)

/-- ITS FALSE NEIGHBOUR: 'it returns false'. Refute it at one input. -/
def treePartsWrong : ChangeSpec := { name := "treeParts", fn := fun _ => fun
  | [d1, d2] => { results := [.lit (.bool false)], args := [d1, d2] }
  | _ => none }
def TreePartsWrongFalsely : Prop := treePartsRow.holds Try.pinned (OpenSpec.ofChange treePartsWrong)

/-- 'jamblaw18.IslandsPlays': WHATEVER THE INPUT: true; the input reads as it did. -/
def islandsPlaysSpec : ChangeSpec := { name := "islandsPlays", fn := fun _ => fun
  | [d1, d2] => { results := [.lit (.bool true)], args := [d1, d2] }
  | _ => none }
def islandsPlaysRow : OpenClaim := { program := "ytnolbmfjgfojhaa", sum := "90c99dd19bbd37a588c69f2cf0f48e03c1b2c47644a5e83f06b674756df58afb", func := "jamb/jamblaw18.IslandsPlays", spec := "islandsPlays", unfollowed := true, recurses := true, apart := false }
def IslandsPlaysSaid : Prop := islandsPlaysRow.holds Try.pinned (OpenSpec.ofChange islandsPlaysSpec)

/-- ITS FALSE NEIGHBOUR: 'it returns false'. Refute it at one input. -/
def islandsPlaysWrong : ChangeSpec := { name := "islandsPlays", fn := fun _ => fun
  | [d1, d2] => { results := [.lit (.bool false)], args := [d1, d2] }
  | _ => none }
def IslandsPlaysWrongFalsely : Prop := islandsPlaysRow.holds Try.pinned (OpenSpec.ofChange islandsPlaysWrong)

/-- 'jamblaw18.IslandsOnce': WHATEVER THE INPUT: true; the input reads as it did. -/
def islandsOnceSpec : ChangeSpec := { name := "islandsOnce", fn := fun _ => fun
  | [d] => { results := [.lit (.bool true)], args := [d] }
  | _ => none }
def islandsOnceRow : OpenClaim := { program := "ytnolbmfjgfojhaa", sum := "90c99dd19bbd37a588c69f2cf0f48e03c1b2c47644a5e83f06b674756df58afb", func := "jamb/jamblaw18.IslandsOnce", spec := "islandsOnce", unfollowed := true, recurses := true, apart := false }
def IslandsOnceSaid : Prop := islandsOnceRow.holds Try.pinned (OpenSpec.ofChange islandsOnceSpec)

/-- ITS FALSE NEIGHBOUR: 'it returns false'. Refute it at one input. -/
def islandsOnceWrong : ChangeSpec := { name := "islandsOnce", fn := fun _ => fun
  | [d] => { results := [.lit (.bool false)], args := [d] }
  | _ => none }
def IslandsOnceWrongFalsely : Prop := islandsOnceRow.holds Try.pinned (OpenSpec.ofChange islandsOnceWrong)

/-- 'jamblaw18.IslandsCut': WHATEVER THE INPUT: true; the input reads as it did. -/
def islandsCutSpec : ChangeSpec := { name := "islandsCut", fn := fun _ => fun
  | [d1, d2] => { results := [.lit (.bool true)], args := [d1, d2] }
  | _ => none }
def islandsCutRow : OpenClaim := { program := "ytnolbmfjgfojhaa", sum := "90c99dd19bbd37a588c69f2cf0f48e03c1b2c47644a5e83f06b674756df58afb", func := "jamb/jamblaw18.IslandsCut", spec := "islandsCut", unfollowed := true, recurses := true, apart := false }
def IslandsCutSaid : Prop := islandsCutRow.holds Try.pinned (OpenSpec.ofChange islandsCutSpec)

/-- ITS FALSE NEIGHBOUR: 'it returns false'. Refute it at one input. -/
def islandsCutWrong : ChangeSpec := { name := "islandsCut", fn := fun _ => fun
  | [d1, d2] => { results := [.lit (.bool false)], args := [d1, d2] }
  | _ => none }
def IslandsCutWrongFalsely : Prop := islandsCutRow.holds Try.pinned (OpenSpec.ofChange islandsCutWrong)

/-- 'jamblaw26.GraphPlays': WHATEVER THE INPUT: true; the input reads as it did. -/
def graphPlaysSpec : ChangeSpec := { name := "graphPlays", fn := fun _ => fun
  | [d] => { results := [.lit (.bool true)], args := [d] }
  | _ => none }
def graphPlaysRow : OpenClaim := { program := "ytnolbmfjgfojhaa", sum := "90c99dd19bbd37a588c69f2cf0f48e03c1b2c47644a5e83f06b674756df58afb", func := "jamb/jamblaw26.GraphPlays", spec := "graphPlays", unfollowed := true, recurses := true, apart := false }
def GraphPlaysSaid : Prop := graphPlaysRow.holds Try.pinned (OpenSpec.ofChange graphPlaysSpec)

/-- ITS FALSE NEIGHBOUR: 'it returns false'. Refute it at one input. -/
def graphPlaysWrong : ChangeSpec := { name := "graphPlays", fn := fun _ => fun
  | [d] => { results := [.lit (.bool false)], args := [d] }
  | _ => none }
def GraphPlaysWrongFalsely : Prop := graphPlaysRow.holds Try.pinned (OpenSpec.ofChange graphPlaysWrong)

/-- 'jamblaw26.GraphDone': WHATEVER THE INPUT: true; the input reads as it did. -/
def graphDoneSpec : ChangeSpec := { name := "graphDone", fn := fun _ => fun
  | [d] => { results := [.lit (.bool true)], args := [d] }
  | _ => none }
def graphDoneRow : OpenClaim := { program := "ytnolbmfjgfojhaa", sum := "90c99dd19bbd37a588c69f2cf0f48e03c1b2c47644a5e83f06b674756df58afb", func := "jamb/jamblaw26.GraphDone", spec := "graphDone", unfollowed := true, recurses := true, apart := false }
def GraphDoneSaid : Prop := graphDoneRow.holds Try.pinned (OpenSpec.ofChange graphDoneSpec)

/-- ITS FALSE NEIGHBOUR: 'it returns false'. Refute it at one input. -/
def graphDoneWrong : ChangeSpec := { name := "graphDone", fn := fun _ => fun
  | [d] => { results := [.lit (.bool false)], args := [d] }
  | _ => none }
def GraphDoneWrongFalsely : Prop := graphDoneRow.holds Try.pinned (OpenSpec.ofChange graphDoneWrong)

/-- 'jamblaw26.GraphEnds': WHATEVER THE INPUT: true; the input reads as it did. -/
def graphEndsSpec : ChangeSpec := { name := "graphEnds", fn := fun _ => fun
  | [d] => { results := [.lit (.bool true)], args := [d] }
  | _ => none }
def graphEndsRow : OpenClaim := { program := "ytnolbmfjgfojhaa", sum := "90c99dd19bbd37a588c69f2cf0f48e03c1b2c47644a5e83f06b674756df58afb", func := "jamb/jamblaw26.GraphEnds", spec := "graphEnds", unfollowed := true, recurses := true, apart := false }
def GraphEndsSaid : Prop := graphEndsRow.holds Try.pinned (OpenSpec.ofChange graphEndsSpec)

/-- ITS FALSE NEIGHBOUR: 'it returns false'. Refute it at one input. -/
def graphEndsWrong : ChangeSpec := { name := "graphEnds", fn := fun _ => fun
  | [d] => { results := [.lit (.bool false)], args := [d] }
  | _ => none }
def GraphEndsWrongFalsely : Prop := graphEndsRow.holds Try.pinned (OpenSpec.ofChange graphEndsWrong)

/- THE SECOND FORM. 'bulk': how many values and letters a reading holds, each counted each time it is reached (what is shared counts as often as it is met; a slice's spare places count too). A statement '..UptoSaid' is the law's where the arguments, and the package variables that the reading takes, are together of bulk at most 1048576: NARROWER than '..Said'. Prove '..Said' where nothing that the law and all that it calls make is longer than what came in: it says more and counts as full. Else prove '..UptoSaid'. A law counts once. -/
mutual
def uptoBulk {H : Type} : DataW H → Nat
  | .lit (.string bytes) => bytes.length + 1
  | .lit _ => 1
  | .nil => 1
  | .ptr d => uptoBulk d + 1
  | .slice elems spare => uptoBulkAll elems + uptoBulkAll spare + 1
  | .agg parts => uptoBulkAll parts + 1
  | .iface _ d => uptoBulk d + 1
  | .map entries => uptoBulkEntries entries + 1
  | .held _ => 1
def uptoBulkAll {H : Type} : List (DataW H) → Nat
  | [] => 0
  | d :: r => uptoBulk d + uptoBulkAll r
def uptoBulkEntries {H : Type} : List (Lit × DataW H) → Nat
  | [] => 0
  | x :: r => uptoBulkEntry x + uptoBulkEntries r
def uptoBulkEntry {H : Type} : Lit × DataW H → Nat
  | (.string bytes, d) => bytes.length + uptoBulk d + 1
  | (_, d) => uptoBulk d + 1
 end
def uptoSmall : (H : Type) → List (DataW H) → Bool := fun _ ds => decide (uptoBulkAll ds ≤ 1048576)
def OpenSpec.upto (s : _root_.Go.ChangeSpec) : _root_.Go.OpenSpec := { _root_.Go.OpenSpec.ofChange s with cond := some uptoSmall }

/-- 'jamblaw05.TreeChecks', WHERE WHAT IT READS IS OF BULK AT MOST 1048576: true; the input reads as it did. -/
def treeChecksUptoRow : OpenClaim := { program := "ytnolbmfjgfojhaa", sum := "90c99dd19bbd37a588c69f2cf0f48e03c1b2c47644a5e83f06b674756df58afb", func := "jamb/jamblaw05.TreeChecks", spec := "treeChecks", unfollowed := true, recurses := true, apart := false, narrowed := true }
def TreeChecksUptoSaid : Prop := treeChecksUptoRow.holds Try.pinned (OpenSpec.upto treeChecksSpec)

/-- 'jamblaw05.TreeKin', WHERE WHAT IT READS IS OF BULK AT MOST 1048576: true; the input reads as it did. -/
def treeKinUptoRow : OpenClaim := { program := "ytnolbmfjgfojhaa", sum := "90c99dd19bbd37a588c69f2cf0f48e03c1b2c47644a5e83f06b674756df58afb", func := "jamb/jamblaw05.TreeKin", spec := "treeKin", unfollowed := true, recurses := true, apart := false, narrowed := true }
def TreeKinUptoSaid : Prop := treeKinUptoRow.holds Try.pinned (OpenSpec.upto treeKinSpec)

/-- 'jamblaw05.TreeShape', WHERE WHAT IT READS IS OF BULK AT MOST 1048576: true; the input reads as it did. -/
def treeShapeUptoRow : OpenClaim := { program := "ytnolbmfjgfojhaa", sum := "90c99dd19bbd37a588c69f2cf0f48e03c1b2c47644a5e83f06b674756df58afb", func := "jamb/jamblaw05.TreeShape", spec := "treeShape", unfollowed := true, recurses := true, apart := false, narrowed := true }
def TreeShapeUptoSaid : Prop := treeShapeUptoRow.holds Try.pinned (OpenSpec.upto treeShapeSpec)

/-- 'jamblaw05.TreeHeads', WHERE WHAT IT READS IS OF BULK AT MOST 1048576: true; the input reads as it did. -/
def treeHeadsUptoRow : OpenClaim := { program := "ytnolbmfjgfojhaa", sum := "90c99dd19bbd37a588c69f2cf0f48e03c1b2c47644a5e83f06b674756df58afb", func := "jamb/jamblaw05.TreeHeads", spec := "treeHeads", unfollowed := true, recurses := true, apart := false, narrowed := true }
def TreeHeadsUptoSaid : Prop := treeHeadsUptoRow.holds Try.pinned (OpenSpec.upto treeHeadsSpec)

/-- 'jamblaw05.TreeDeep', WHERE WHAT IT READS IS OF BULK AT MOST 1048576: true; the input reads as it did. -/
def treeDeepUptoRow : OpenClaim := { program := "ytnolbmfjgfojhaa", sum := "90c99dd19bbd37a588c69f2cf0f48e03c1b2c47644a5e83f06b674756df58afb", func := "jamb/jamblaw05.TreeDeep", spec := "treeDeep", unfollowed := true, recurses := true, apart := false, narrowed := true }
def TreeDeepUptoSaid : Prop := treeDeepUptoRow.holds Try.pinned (OpenSpec.upto treeDeepSpec)

/-- 'jamblaw05.TreeParts', WHERE WHAT IT READS IS OF BULK AT MOST 1048576: true; the input reads as it did. -/
def treePartsUptoRow : OpenClaim := { program := "ytnolbmfjgfojhaa", sum := "90c99dd19bbd37a588c69f2cf0f48e03c1b2c47644a5e83f06b674756df58afb", func := "jamb/jamblaw05.TreeParts", spec := "treeParts", unfollowed := true, recurses := true, apart := false, narrowed := true }
def TreePartsUptoSaid : Prop := treePartsUptoRow.holds Try.pinned (OpenSpec.upto treePartsSpec)

/-- 'jamblaw18.IslandsPlays', WHERE WHAT IT READS IS OF BULK AT MOST 1048576: true; the input reads as it did. -/
def islandsPlaysUptoRow : OpenClaim := { program := "ytnolbmfjgfojhaa", sum := "90c99dd19bbd37a588c69f2cf0f48e03c1b2c47644a5e83f06b674756df58afb", func := "jamb/jamblaw18.IslandsPlays", spec := "islandsPlays", unfollowed := true, recurses := true, apart := false, narrowed := true }
def IslandsPlaysUptoSaid : Prop := islandsPlaysUptoRow.holds Try.pinned (OpenSpec.upto islandsPlaysSpec)

/-- 'jamblaw18.IslandsOnce', WHERE WHAT IT READS IS OF BULK AT MOST 1048576: true; the input reads as it did. -/
def islandsOnceUptoRow : OpenClaim := { program := "ytnolbmfjgfojhaa", sum := "90c99dd19bbd37a588c69f2cf0f48e03c1b2c47644a5e83f06b674756df58afb", func := "jamb/jamblaw18.IslandsOnce", spec := "islandsOnce", unfollowed := true, recurses := true, apart := false, narrowed := true }
def IslandsOnceUptoSaid : Prop := islandsOnceUptoRow.holds Try.pinned (OpenSpec.upto islandsOnceSpec)

/-- 'jamblaw18.IslandsCut', WHERE WHAT IT READS IS OF BULK AT MOST 1048576: true; the input reads as it did. -/
def islandsCutUptoRow : OpenClaim := { program := "ytnolbmfjgfojhaa", sum := "90c99dd19bbd37a588c69f2cf0f48e03c1b2c47644a5e83f06b674756df58afb", func := "jamb/jamblaw18.IslandsCut", spec := "islandsCut", unfollowed := true, recurses := true, apart := false, narrowed := true }
def IslandsCutUptoSaid : Prop := islandsCutUptoRow.holds Try.pinned (OpenSpec.upto islandsCutSpec)

/-- 'jamblaw26.GraphPlays', WHERE WHAT IT READS IS OF BULK AT MOST 1048576: true; the input reads as it did. -/
def graphPlaysUptoRow : OpenClaim := { program := "ytnolbmfjgfojhaa", sum := "90c99dd19bbd37a588c69f2cf0f48e03c1b2c47644a5e83f06b674756df58afb", func := "jamb/jamblaw26.GraphPlays", spec := "graphPlays", unfollowed := true, recurses := true, apart := false, narrowed := true }
def GraphPlaysUptoSaid : Prop := graphPlaysUptoRow.holds Try.pinned (OpenSpec.upto graphPlaysSpec)

/-- 'jamblaw26.GraphDone', WHERE WHAT IT READS IS OF BULK AT MOST 1048576: true; the input reads as it did. -/
def graphDoneUptoRow : OpenClaim := { program := "ytnolbmfjgfojhaa", sum := "90c99dd19bbd37a588c69f2cf0f48e03c1b2c47644a5e83f06b674756df58afb", func := "jamb/jamblaw26.GraphDone", spec := "graphDone", unfollowed := true, recurses := true, apart := false, narrowed := true }
def GraphDoneUptoSaid : Prop := graphDoneUptoRow.holds Try.pinned (OpenSpec.upto graphDoneSpec)

/-- 'jamblaw26.GraphEnds', WHERE WHAT IT READS IS OF BULK AT MOST 1048576: true; the input reads as it did. -/
def graphEndsUptoRow : OpenClaim := { program := "ytnolbmfjgfojhaa", sum := "90c99dd19bbd37a588c69f2cf0f48e03c1b2c47644a5e83f06b674756df58afb", func := "jamb/jamblaw26.GraphEnds", spec := "graphEnds", unfollowed := true, recurses := true, apart := false, narrowed := true }
def GraphEndsUptoSaid : Prop := graphEndsUptoRow.holds Try.pinned (OpenSpec.upto graphEndsSpec)

end Rows
end Go.Proofs.Ytnolbmfjgfojhaa
