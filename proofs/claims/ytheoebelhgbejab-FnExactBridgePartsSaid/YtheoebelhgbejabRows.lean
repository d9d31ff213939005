/-
  No cell of these rows narrows 'for every input' (looked for: loops, veiled, ifaces, maps, wideKeys, modest, calm, conditions, laid).
  DERIVED. THE GIVEN ROWS OF THIS SEAT. 10 by the template 'for every input the law returns true; each argument reads behind the call as it read before'; 0 by the template 'total and deterministic' (their statements: YtheoebelhgbejabTotals.lean).
  GIVEN WITH THE SEED: the statements are not yours to turn. If you find one false, say at which input.
  Laid BY PROGRAM, IN A SANDBOX (cutbox-rows.mjs): the forced cells as the released guide's own fill.sh prints them over the translation dbd07aee7260b831… (all of the seat's roots in one cut). By AI agents, Wed Nov 11 2026. No macro, syntax, notation, axiom, sorry.
-/
import Derived.Test.YtheoebelhgbejabChecked
import GoSem.Claim
import GoSem.ClaimJoined
import GoSem.ClaimMapViews
import Derived.JoinedTies
import Derived.KernelRfl
namespace Go.Proofs.Ytheoebelhgbejab
/- THE CELL 'sum', in the pinned program and in every row, IS THE sha256 OF THE DUMP (.gsa) THAT YtheoebelhgbejabProg.lean LOADS. Nothing in Lean hashes anything: it is a label: what it is worth is what the hold of that sum in a sandbox is worth. -/
noncomputable def Try.pinned : Pinned := { name := "ytheoebelhgbejab", sum := "dbd07aee7260b8315bc1ab1db12d521a167286a667f1b0a1d787990640e1b549", checked := Try.checked }
namespace Rows
def none {H : Type} : Left H := { results := [], args := [] }

/-- 'laws.FnExactBridgeApart': WHATEVER THE INPUT: true; the input reads as it did. -/
def fnExactBridgeApartSpec : ChangeSpec := { name := "fnExactBridgeApart", fn := fun _ => fun
  | [d1, d2, d3] => { results := [.lit (.bool true)], args := [d1, d2, d3] }
  | _ => none }
def fnExactBridgeApartRow : OpenClaim := { program := "ytheoebelhgbejab", sum := "dbd07aee7260b8315bc1ab1db12d521a167286a667f1b0a1d787990640e1b549", func := "loop.example/osier/laws.FnExactBridgeApart", spec := "fnExactBridgeApart", apart := false }
def FnExactBridgeApartSaid : Prop := fnExactBridgeApartRow.holds Try.pinned (OpenSpec.ofChange fnExactBridgeApartSpec)

/-- ITS FALSE NEIGHBOUR: 'it returns false'. Refute it at one input. -/
def fnExactBridgeApartWrong : ChangeSpec := { name := "fnExactBridgeApart", fn := fun _ => fun
  | [d1, d2, d3] => { results := [.lit (.bool false)], args := [d1, d2, d3] }
  | _ => none }
def FnExactBridgeApartWrongFalsely : Prop := fnExactBridgeApartRow.holds Try.pinned (OpenSpec.ofChange fnExactBridgeApartWrong)

/-- 'laws.FnTreeOf': WHATEVER THE INPUT: true; the input reads as it did. -/
def fnTreeOfSpec : ChangeSpec := { name := "fnTreeOf", fn := fun _ => fun
  | [d] => { results := [.lit (.bool true)], args := [d] }
  | _ => none }
def fnTreeOfRow : OpenClaim := { program := "ytheoebelhgbejab", sum := "dbd07aee7260b8315bc1ab1db12d521a167286a667f1b0a1d787990640e1b549", func := "loop.example/osier/laws.FnTreeOf", spec := "fnTreeOf", apart := false }
def FnTreeOfSaid : Prop := fnTreeOfRow.holds Try.pinned (OpenSpec.ofChange fnTreeOfSpec)

/-- ITS FALSE NEIGHBOUR: 'it returns false'. Refute it at one input. -/
def fnTreeOfWrong : ChangeSpec := { name := "fnTreeOf", fn := fun _ => fun
  | [d] => { results := [.lit (.bool false)], args := [d] }
  | _ => none }
def FnTreeOfWrongFalsely : Prop := fnTreeOfRow.holds Try.pinned (OpenSpec.ofChange fnTreeOfWrong)

/-- 'laws.FnExactBridgeList': WHATEVER THE INPUT: true; the input reads as it did. -/
def fnExactBridgeListSpec : ChangeSpec := { name := "fnExactBridgeList", fn := fun _ => fun
  | [d] => { results := [.lit (.bool true)], args := [d] }
  | _ => none }
def fnExactBridgeListRow : OpenClaim := { program := "ytheoebelhgbejab", sum := "dbd07aee7260b8315bc1ab1db12d521a167286a667f1b0a1d787990640e1b549", func := "loop.example/osier/laws.FnExactBridgeList", spec := "fnExactBridgeList", apart := false }
def FnExactBridgeListSaid : Prop := fnExactBridgeListRow.holds Try.pinned (OpenSpec.ofChange fnExactBridgeListSpec)

/-- ITS FALSE NEIGHBOUR: 'it returns false'. Refute it at one input. -/
def fnExactBridgeListWrong : ChangeSpec := { name := "fnExactBridgeList", fn := fun _ => fun
  | [d] => { results := [.lit (.bool false)], args := [d] }
  | _ => none }
def FnExactBridgeListWrongFalsely : Prop := fnExactBridgeListRow.holds Try.pinned (OpenSpec.ofChange fnExactBridgeListWrong)

/-- 'laws.FnBridgeList': WHATEVER THE INPUT: true; the input reads as it did. -/
def fnBridgeListSpec : ChangeSpec := { name := "fnBridgeList", fn := fun _ => fun
  | [d] => { results := [.lit (.bool true)], args := [d] }
  | _ => none }
def fnBridgeListRow : OpenClaim := { program := "ytheoebelhgbejab", sum := "dbd07aee7260b8315bc1ab1db12d521a167286a667f1b0a1d787990640e1b549", func := "loop.example/osier/laws.FnBridgeList", spec := "fnBridgeList", apart := false }
def FnBridgeListSaid : Prop := fnBridgeListRow.holds Try.pinned (OpenSpec.ofChange fnBridgeListSpec)

/-- ITS FALSE NEIGHBOUR: 'it returns false'. Refute it at one input. -/
def fnBridgeListWrong : ChangeSpec := { name := "fnBridgeList", fn := fun _ => fun
  | [d] => { results := [.lit (.bool false)], args := [d] }
  | _ => none }
def FnBridgeListWrongFalsely : Prop := fnBridgeListRow.holds Try.pinned (OpenSpec.ofChange fnBridgeListWrong)

/-- 'laws.FnBridgeCut': WHATEVER THE INPUT: true; the input reads as it did. -/
def fnBridgeCutSpec : ChangeSpec := { name := "fnBridgeCut", fn := fun _ => fun
  | [d1, d2] => { results := [.lit (.bool true)], args := [d1, d2] }
  | _ => none }
def fnBridgeCutRow : OpenClaim := { program := "ytheoebelhgbejab", sum := "dbd07aee7260b8315bc1ab1db12d521a167286a667f1b0a1d787990640e1b549", func := "loop.example/osier/laws.FnBridgeCut", spec := "fnBridgeCut", apart := false }
def FnBridgeCutSaid : Prop := fnBridgeCutRow.holds Try.pinned (OpenSpec.ofChange fnBridgeCutSpec)

/-- ITS FALSE NEIGHBOUR: 'it returns false'. Refute it at one input. -/
def fnBridgeCutWrong : ChangeSpec := { name := "fnBridgeCut", fn := fun _ => fun
  | [d1, d2] => { results := [.lit (.bool false)], args := [d1, d2] }
  | _ => none }
def FnBridgeCutWrongFalsely : Prop := fnBridgeCutRow.holds Try.pinned (OpenSpec.ofChange fnBridgeCutWrong)

/-- 'laws.FnExactBridgeParts': WHATEVER THE INPUT: true; the input reads as it did. -/
def fnExactBridgePartsSpec : ChangeSpec := { name := "fnExactBridgeParts", fn := fun _ => fun
  | [d] => { results := [.lit (.bool true)], args := [d] }
  | _ => none }
def fnExactBridgePartsRow : OpenClaim := { program := "ytheoebelhgbejab", sum := "dbd07aee7260b8315bc1ab1db12d521a167286a667f1b0a1d787990640e1b549", func := "loop.example/osier/laws.FnExactBridgeParts", spec := "fnExactBridgeParts", apart := false }
def FnExactBridgePartsSaid : Prop := fnExactBridgePartsRow.holds Try.pinned (OpenSpec.ofChange fnExactBridgePartsSpec)

/-- ITS FALSE NEIGHBOUR: 'it returns false'. Refute it at one input. -/
def fnExactBridgePartsWrong : ChangeSpec := { name := "fnExactBridgeParts", fn := fun _ => fun
  | [d] => { results := [.lit (.bool false)], args := [d] }
  | _ => none }
def FnExactBridgePartsWrongFalsely : Prop := fnExactBridgePartsRow.holds Try.pinned (OpenSpec.ofChange fnExactBridgePartsWrong)

/-- 'laws.FnBridgeEnds': WHATEVER THE INPUT: true; the input reads as it did. -/
def fnBridgeEndsSpec : ChangeSpec := { name := "fnBridgeEnds", fn := fun _ => fun
  | [d1, d2] => { results := [.lit (.bool true)], args := [d1, d2] }
  | _ => none }
def fnBridgeEndsRow : OpenClaim := { program := "ytheoebelhgbejab", sum := "dbd07aee7260b8315bc1ab1db12d521a167286a667f1b0a1d787990640e1b549", func := "loop.example/osier/laws.FnBridgeEnds", spec := "fnBridgeEnds", apart := false }
def FnBridgeEndsSaid : Prop := fnBridgeEndsRow.holds Try.pinned (OpenSpec.ofChange fnBridgeEndsSpec)

/-- ITS FALSE NEIGHBOUR: 'it returns false'. Refute it at one input. -/
def fnBridgeEndsWrong : ChangeSpec := { name := "fnBridgeEnds", fn := fun _ => fun
  | [d1, d2] => { results := [.lit (.bool false)], args := [d1, d2] }
  | _ => none }
def FnBridgeEndsWrongFalsely : Prop := fnBridgeEndsRow.holds Try.pinned (OpenSpec.ofChange fnBridgeEndsWrong)

/-- 'laws.FnTreeFirst': WHATEVER THE INPUT: true; the input reads as it did. -/
def fnTreeFirstSpec : ChangeSpec := { name := "fnTreeFirst", fn := fun _ => fun
  | [d] => { results := [.lit (.bool true)], args := [d] }
  | _ => none }
def fnTreeFirstRow : OpenClaim := { program := "ytheoebelhgbejab", sum := "dbd07aee7260b8315bc1ab1db12d521a167286a667f1b0a1d787990640e1b549", func := "loop.example/osier/laws.FnTreeFirst", spec := "fnTreeFirst", apart := false }
def FnTreeFirstSaid : Prop := fnTreeFirstRow.holds Try.pinned (OpenSpec.ofChange fnTreeFirstSpec)

/-- ITS FALSE NEIGHBOUR: 'it returns false'. Refute it at one input. -/
def fnTreeFirstWrong : ChangeSpec := { name := "fnTreeFirst", fn := fun _ => fun
  | [d] => { results := [.lit (.bool false)], args := [d] }
  | _ => none }
def FnTreeFirstWrongFalsely : Prop := fnTreeFirstRow.holds Try.pinned (OpenSpec.ofChange fnTreeFirstWrong)

/-- 'laws.FnExactNetAdd': WHATEVER THE INPUT: true; the input reads as it did. -/
def fnExactNetAddSpec : ChangeSpec := { name := "fnExactNetAdd", fn := fun _ => fun
  | [d1, d2, d3] => { results := [.lit (.bool true)], args := [d1, d2, d3] }
  | _ => none }
def fnExactNetAddRow : OpenClaim := { program := "ytheoebelhgbejab", sum := "dbd07aee7260b8315bc1ab1db12d521a167286a667f1b0a1d787990640e1b549", func := "loop.example/osier/laws.FnExactNetAdd", spec := "fnExactNetAdd", unfollowed := true, recurses := true, apart := false }
def FnExactNetAddSaid : Prop := fnExactNetAddRow.holds Try.pinned (OpenSpec.ofChange fnExactNetAddSpec)

/-- ITS FALSE NEIGHBOUR: 'it returns false'. Refute it at one input. -/
def fnExactNetAddWrong : ChangeSpec := { name := "fnExactNetAdd", fn := fun _ => fun
  | [d1, d2, d3] => { results := [.lit (.bool false)], args := [d1, d2, d3] }
  | _ => none }
def FnExactNetAddWrongFalsely : Prop := fnExactNetAddRow.holds Try.pinned (OpenSpec.ofChange fnExactNetAddWrong)

/-- 'laws.FnNetTurn': WHATEVER THE INPUT: true; the input reads as it did. -/
def fnNetTurnSpec : ChangeSpec := { name := "fnNetTurn", fn := fun _ => fun
  | [d1, d2] => { results := [.lit (.bool true)], args := [d1, d2] }
  | _ => none }
def fnNetTurnRow : OpenClaim := { program := "ytheoebelhgbejab", sum := "dbd07aee7260b8315bc1ab1db12d521a167286a667f1b0a1d787990640e1b549", func := "loop.example/osier/laws.FnNetTurn", spec := "fnNetTurn", unfollowed := true, recurses := true, apart := false }
def FnNetTurnSaid : Prop := fnNetTurnRow.holds Try.pinned (OpenSpec.ofChange fnNetTurnSpec)

/-- ITS FALSE NEIGHBOUR: 'it returns false'. Refute it at one input. -/
def fnNetTurnWrong : ChangeSpec := { name := "fnNetTurn", fn := fun _ => fun
  | [d1, d2] => { results := [.lit (.bool false)], args := [d1, d2] }
  | _ => none }
def FnNetTurnWrongFalsely : Prop := fnNetTurnRow.holds Try.pinned (OpenSpec.ofChange fnNetTurnWrong)

/- THE SECOND FORM. 'bulk': how many values and letters a reading holds, each counted each time it is reached (what is shared counts as often as it is met; a slice's spare places count too). A statement '..UptoSaid' is the law's where the arguments, and the package variables that the reading takes, are together of bulk at most 1048576: NARROWER than '..Said'. Prove '..Said' where nothing that the law and all that it calls make is longer than what came in: it says more and counts as full. Else prove '..UptoSaid'. A law counts once. -/
mutual
def uptoBulk {H : Type} : DataW H → Nat
  | .lit (.string bytes) => bytes.length + 1
  | .lit _ => 1
  | .nil => 1
  | .ptr d => uptoBulk d + 1
  | .slice elems spare => uptoBulkAll elems + uptoBulkAll spare + 1
  | .agg parts => uptoBulkAll parts + 1
  | .iface _ d => uptoBulk d + 1
  | .map entries => uptoBulkEntries entries + 1
  | .held _ => 1
def uptoBulkAll {H : Type} : List (DataW H) → Nat
  | [] => 0
  | d :: r => uptoBulk d + uptoBulkAll r
def uptoBulkEntries {H : Type} : List (Lit × DataW H) → Nat
  | [] => 0
  | x :: r => uptoBulkEntry x + uptoBulkEntries r
def uptoBulkEntry {H : Type} : Lit × DataW H → Nat
  | (.string bytes, d) => bytes.length + uptoBulk d + 1
  | (_, d) => uptoBulk d + 1
 end
def uptoSmall : (H : Type) → List (DataW H) → Bool := fun _ ds => decide (uptoBulkAll ds ≤ 1048576)
def OpenSpec.upto (s : _root_.Go.ChangeSpec) : _root_.Go.OpenSpec := { _root_.Go.OpenSpec.ofChange s with cond := some uptoSmall }

/-- 'laws.FnExactBridgeApart', WHERE WHAT IT READS IS OF BULK AT MOST 1048576: true; the input reads as it did. -/
def fnExactBridgeApartUptoRow : OpenClaim := { program := "ytheoebelhgbejab", sum := "dbd07aee7260b8315bc1ab1db12d521a167286a667f1b0a1d787990640e1b549", func := "loop.example/osier/laws.FnExactBridgeApart", spec := "fnExactBridgeApart", apart := false, narrowed := true }
def FnExactBridgeApartUptoSaid : Prop := fnExactBridgeApartUptoRow.holds Try.pinned (OpenSpec.upto fnExactBridgeApartSpec)

/-- 'laws.FnTreeOf', WHERE WHAT IT READS IS OF BULK AT MOST 1048576: true; the input reads as it did. -/
def fnTreeOfUptoRow : OpenClaim := { program := "ytheoebelhgbejab", sum := "dbd07aee7260b8315bc1ab1db12d521a167286a667f1b0a1d787990640e1b549", func := "loop.example/osier/laws.FnTreeOf", spec := "fnTreeOf", apart := false, narrowed := true }
def FnTreeOfUptoSaid : Prop := fnTreeOfUptoRow.holds Try.pinned (OpenSpec.upto fnTreeOfSpec)

/-- 'laws.FnExactBridgeList', WHERE WHAT IT READS IS OF BULK AT MOST 1048576: true; the input reads as it did. -/
def fnExactBridgeListUptoRow : OpenClaim := { program := "ytheoebelhgbejab", sum := "dbd07aee7260b8315bc1ab1db12d521a167286a667f1b0a1d787990640e1b549", func := "loop.example/osier/laws.FnExactBridgeList", spec := "fnExactBridgeList", apart := false, narrowed := true }
def FnExactBridgeListUptoSaid : Prop := fnExactBridgeListUptoRow.holds Try.pinned (OpenSpec.upto fnExactBridgeListSpec)

/-- 'laws.FnBridgeList', WHERE WHAT IT READS IS OF BULK AT MOST 1048576: true; the input reads as it did. -/
def fnBridgeListUptoRow : OpenClaim := { program := "ytheoebelhgbejab", sum := "dbd07aee7260b8315bc1ab1db12d521a167286a667f1b0a1d787990640e1b549", func := "loop.example/osier/laws.FnBridgeList", spec := "fnBridgeList", apart := false, narrowed := true }
def FnBridgeListUptoSaid : Prop := fnBridgeListUptoRow.holds Try.pinned (OpenSpec.upto fnBridgeListSpec)

/-- 'laws.FnBridgeCut', WHERE WHAT IT READS IS OF BULK AT MOST 1048576: true; the input reads as it did. -/
def fnBridgeCutUptoRow : OpenClaim := { program := "ytheoebelhgbejab", sum := "dbd07aee7260b8315bc1ab1db12d521a167286a667f1b0a1d787990640e1b549", func := "loop.example/osier/laws.FnBridgeCut", spec := "fnBridgeCut", apart := false, narrowed := true }
def FnBridgeCutUptoSaid : Prop := fnBridgeCutUptoRow.holds Try.pinned (OpenSpec.upto fnBridgeCutSpec)

/-- 'laws.FnExactBridgeParts', WHERE WHAT IT READS IS OF BULK AT MOST 1048576: true; the input reads as it did. -/
def fnExactBridgePartsUptoRow : OpenClaim := { program := "ytheoebelhgbejab", sum := "dbd07aee7260b8315bc1ab1db12d521a167286a667f1b0a1d787990640e1b549", func := "loop.example/osier/laws.FnExactBridgeParts", spec := "fnExactBridgeParts", apart := false, narrowed := true }
def FnExactBridgePartsUptoSaid : Prop := fnExactBridgePartsUptoRow.holds Try.pinned (OpenSpec.upto fnExactBridgePartsSpec)

/-- 'laws.FnBridgeEnds', WHERE WHAT IT READS IS OF BULK AT MOST 1048576: true; the input reads as it did. -/
def fnBridgeEndsUptoRow : OpenClaim := { program := "ytheoebelhgbejab", sum := "dbd07aee7260b8315bc1ab1db12d521a167286a667f1b0a1d787990640e1b549", func := "loop.example/osier/laws.FnBridgeEnds", spec := "fnBridgeEnds", apart := false, narrowed := true }
def FnBridgeEndsUptoSaid : Prop := fnBridgeEndsUptoRow.holds Try.pinned (OpenSpec.upto fnBridgeEndsSpec)

/-- 'laws.FnTreeFirst', WHERE WHAT IT READS IS OF BULK AT MOST 1048576: true; the input reads as it did. -/
def fnTreeFirstUptoRow : OpenClaim := { program := "ytheoebelhgbejab", sum := "dbd07aee7260b8315bc1ab1db12d521a167286a667f1b0a1d787990640e1b549", func := "loop.example/osier/laws.FnTreeFirst", spec := "fnTreeFirst", apart := false, narrowed := true }
def FnTreeFirstUptoSaid : Prop := fnTreeFirstUptoRow.holds Try.pinned (OpenSpec.upto fnTreeFirstSpec)

/-- 'laws.FnExactNetAdd', WHERE WHAT IT READS IS OF BULK AT MOST 1048576: true; the input reads as it did. -/
def fnExactNetAddUptoRow : OpenClaim := { program := "ytheoebelhgbejab", sum := "dbd07aee7260b8315bc1ab1db12d521a167286a667f1b0a1d787990640e1b549", func := "loop.example/osier/laws.FnExactNetAdd", spec := "fnExactNetAdd", unfollowed := true, recurses := true, apart := false, narrowed := true }
def FnExactNetAddUptoSaid : Prop := fnExactNetAddUptoRow.holds Try.pinned (OpenSpec.upto fnExactNetAddSpec)

/-- 'laws.FnNetTurn', WHERE WHAT IT READS IS OF BULK AT MOST 1048576: true; the input reads as it did. -/
def fnNetTurnUptoRow : OpenClaim := { program := "ytheoebelhgbejab", sum := "dbd07aee7260b8315bc1ab1db12d521a167286a667f1b0a1d787990640e1b549", func := "loop.example/osier/laws.FnNetTurn", spec := "fnNetTurn", unfollowed := true, recurses := true, apart := false, narrowed := true }
def FnNetTurnUptoSaid : Prop := fnNetTurnUptoRow.holds Try.pinned (OpenSpec.upto fnNetTurnSpec)

end Rows
end Go.Proofs.Ytheoebelhgbejab
