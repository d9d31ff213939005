/-
  No cell of these rows narrows 'for every input' (looked for: loops, veiled, ifaces, maps, wideKeys, modest, calm, conditions, laid).
  DERIVED. THE GIVEN ROWS OF THIS SEAT. 11 by the template 'for every input the law returns true; each argument reads behind the call as it read before'; 0 by the template 'total and deterministic' (their statements: YtgoembpmhlmafaaTotals.lean).
  GIVEN WITH THE SEED: the statements are not yours to turn. If you find one false, say at which input.
  Laid BY PROGRAM, IN A SANDBOX (cutbox-rows.mjs): the forced cells as the released guide's own fill.sh prints them over the translation 743e70d0d08b481a… (all of the seat's roots in one cut). By AI agents, Wed Nov 11 2026. No macro, syntax, notation, axiom, sorry.
-/
import Derived.Test.YtgoembpmhlmafaaChecked
import GoSem.Claim
import GoSem.ClaimJoined
import GoSem.ClaimMapViews
import Derived.JoinedTies
import Derived.KernelRfl
namespace Go.Proofs.Ytgoembpmhlmafaa
/- THE CELL 'sum', in the pinned program and in every row, IS THE sha256 OF THE DUMP (.gsa) THAT YtgoembpmhlmafaaProg.lean LOADS. Nothing in Lean hashes anything: it is a label: what it is worth is what the hold of that sum in a sandbox is worth. -/
noncomputable def Try.pinned : Pinned := { name := "ytgoembpmhlmafaa", sum := "743e70d0d08b481a9869a1f001c1f4eafec7560e5ca1a0be4dfcaf9d434a3adb", checked := Try.checked }
namespace Rows
def none {H : Type} : Left H := { results := [], args := [] }

/-- 'laws.FnBridgeCut': WHATEVER THE INPUT: true; the input reads as it did. -/
def fnBridgeCutSpec : ChangeSpec := { name := "fnBridgeCut", fn := fun _ => fun
  | [d1, d2] => { results := [.lit (.bool true)], args := [d1, d2] }
  | _ => none }
def fnBridgeCutRow : OpenClaim := { program := "ytgoembpmhlmafaa", sum := "743e70d0d08b481a9869a1f001c1f4eafec7560e5ca1a0be4dfcaf9d434a3adb", func := "loop.example/osier/laws.FnBridgeCut", spec := "fnBridgeCut", apart := false }
def FnBridgeCutSaid : Prop := fnBridgeCutRow.holds Try.pinned (OpenSpec.ofChange fnBridgeCutSpec)

/-- ITS FALSE NEIGHBOUR: 'it returns false'. Refute it at one input. -/
def fnBridgeCutWrong : ChangeSpec := { name := "fnBridgeCut", fn := fun _ => fun
  | [d1, d2] => { results := [.lit (.bool false)], args := [d1, d2] }
  | _ => none }
def FnBridgeCutWrongFalsely : Prop := fnBridgeCutRow.holds Try.pinned (OpenSpec.ofChange fnBridgeCutWrong)

/-- 'laws.FnBridgeEnds': WHATEVER THE INPUT: true; the input reads as it did. -/
def fnBridgeEndsSpec : ChangeSpec := { name := "fnBridgeEnds", fn := fun _ => fun
  | [d1, d2] => { results := [.lit (.bool true)], args := [d1, d2] }
  | _ => none }
def fnBridgeEndsRow : OpenClaim := { program := "ytgoembpmhlmafaa", sum := "743e70d0d08b481a9869a1f001c1f4eafec7560e5ca1a0be4dfcaf9d434a3adb", func := "loop.example/osier/laws.FnBridgeEnds", spec := "fnBridgeEnds", apart := false }
def FnBridgeEndsSaid : Prop := fnBridgeEndsRow.holds Try.pinned (OpenSpec.ofChange fnBridgeEndsSpec)

/-- ITS FALSE NEIGHBOUR: 'it returns false'. Refute it at one input. -/
def fnBridgeEndsWrong : ChangeSpec := { name := "fnBridgeEnds", fn := fun _ => fun
  | [d1, d2] => { results := [.lit (.bool false)], args := [d1, d2] }
  | _ => none }
def FnBridgeEndsWrongFalsely : Prop := fnBridgeEndsRow.holds Try.pinned (OpenSpec.ofChange fnBridgeEndsWrong)

/-- 'laws.FnTreeFirst': WHATEVER THE INPUT: true; the input reads as it did. -/
def fnTreeFirstSpec : ChangeSpec := { name := "fnTreeFirst", fn := fun _ => fun
  | [d] => { results := [.lit (.bool true)], args := [d] }
  | _ => none }
def fnTreeFirstRow : OpenClaim := { program := "ytgoembpmhlmafaa", sum := "743e70d0d08b481a9869a1f001c1f4eafec7560e5ca1a0be4dfcaf9d434a3adb", func := "loop.example/osier/laws.FnTreeFirst", spec := "fnTreeFirst", apart := false }
def FnTreeFirstSaid : Prop := fnTreeFirstRow.holds Try.pinned (OpenSpec.ofChange fnTreeFirstSpec)

/-- ITS FALSE NEIGHBOUR: 'it returns false'. Refute it at one input. -/
def fnTreeFirstWrong : ChangeSpec := { name := "fnTreeFirst", fn := fun _ => fun
  | [d] => { results := [.lit (.bool false)], args := [d] }
  | _ => none }
def FnTreeFirstWrongFalsely : Prop := fnTreeFirstRow.holds Try.pinned (OpenSpec.ofChange fnTreeFirstWrong)

/-- 'laws.FnExactNetAdd': WHATEVER THE INPUT: true; the input reads as it did. -/
def fnExactNetAddSpec : ChangeSpec := { name := "fnExactNetAdd", fn := fun _ => fun
  | [d1, d2, d3] => { results := [.lit (.bool true)], args := [d1, d2, d3] }
  | _ => none }
def fnExactNetAddRow : OpenClaim := { program := "ytgoembpmhlmafaa", sum := "743e70d0d08b481a9869a1f001c1f4eafec7560e5ca1a0be4dfcaf9d434a3adb", func := "loop.example/osier/laws.FnExactNetAdd", spec := "fnExactNetAdd", unfollowed := true, recurses := true, apart := false }
def FnExactNetAddSaid : Prop := fnExactNetAddRow.holds Try.pinned (OpenSpec.ofChange fnExactNetAddSpec)

/-- ITS FALSE NEIGHBOUR: 'it returns false'. Refute it at one input. -/
def fnExactNetAddWrong : ChangeSpec := { name := "fnExactNetAdd", fn := fun _ => fun
  | [d1, d2, d3] => { results := [.lit (.bool false)], args := [d1, d2, d3] }
  | _ => none }
def FnExactNetAddWrongFalsely : Prop := fnExactNetAddRow.holds Try.pinned (OpenSpec.ofChange fnExactNetAddWrong)

/-- 'laws.FnNetTurn': WHATEVER THE INPUT: true; the input reads as it did. -/
def fnNetTurnSpec : ChangeSpec := { name := "fnNetTurn", fn := fun _ => fun
  | [d1, d2] => { results := [.lit (.bool true)], args := [d1, d2] }
  | _ => none }
def fnNetTurnRow : OpenClaim := { program := "ytgoembpmhlmafaa", sum := "743e70d0d08b481a9869a1f001c1f4eafec7560e5ca1a0be4dfcaf9d434a3adb", func := "loop.example/osier/laws.FnNetTurn", spec := "fnNetTurn", unfollowed := true, recurses := true, apart := false }
def FnNetTurnSaid : Prop := fnNetTurnRow.holds Try.pinned (OpenSpec.ofChange fnNetTurnSpec)

/-- ITS FALSE NEIGHBOUR: 'it returns false'. Refute it at one input. -/
def fnNetTurnWrong : ChangeSpec := { name := "fnNetTurn", fn := fun _ => fun
  | [d1, d2] => { results := [.lit (.bool false)], args := [d1, d2] }
  | _ => none }
def FnNetTurnWrongFalsely : Prop := fnNetTurnRow.holds Try.pinned (OpenSpec.ofChange fnNetTurnWrong)

/-- 'laws.FnNetAdd': WHATEVER THE INPUT: true; the input reads as it did. -/
def fnNetAddSpec : ChangeSpec := { name := "fnNetAdd", fn := fun _ => fun
  | [d] => { results := [.lit (.bool true)], args := [d] }
  | _ => none }
def fnNetAddRow : OpenClaim := { program := "ytgoembpmhlmafaa", sum := "743e70d0d08b481a9869a1f001c1f4eafec7560e5ca1a0be4dfcaf9d434a3adb", func := "loop.example/osier/laws.FnNetAdd", spec := "fnNetAdd", unfollowed := true, recurses := true, apart := false }
def FnNetAddSaid : Prop := fnNetAddRow.holds Try.pinned (OpenSpec.ofChange fnNetAddSpec)

/-- ITS FALSE NEIGHBOUR: 'it returns false'. Refute it at one input. -/
def fnNetAddWrong : ChangeSpec := { name := "fnNetAdd", fn := fun _ => fun
  | [d] => { results := [.lit (.bool false)], args := [d] }
  | _ => none }
def FnNetAddWrongFalsely : Prop := fnNetAddRow.holds Try.pinned (OpenSpec.ofChange fnNetAddWrong)

/-- 'laws.FnNetUndo': WHATEVER THE INPUT: true; the input reads as it did. -/
def fnNetUndoSpec : ChangeSpec := { name := "fnNetUndo", fn := fun _ => fun
  | [d] => { results := [.lit (.bool true)], args := [d] }
  | _ => none }
def fnNetUndoRow : OpenClaim := { program := "ytgoembpmhlmafaa", sum := "743e70d0d08b481a9869a1f001c1f4eafec7560e5ca1a0be4dfcaf9d434a3adb", func := "loop.example/osier/laws.FnNetUndo", spec := "fnNetUndo", unfollowed := true, recurses := true, apart := false }
def FnNetUndoSaid : Prop := fnNetUndoRow.holds Try.pinned (OpenSpec.ofChange fnNetUndoSpec)

/-- ITS FALSE NEIGHBOUR: 'it returns false'. Refute it at one input. -/
def fnNetUndoWrong : ChangeSpec := { name := "fnNetUndo", fn := fun _ => fun
  | [d] => { results := [.lit (.bool false)], args := [d] }
  | _ => none }
def FnNetUndoWrongFalsely : Prop := fnNetUndoRow.holds Try.pinned (OpenSpec.ofChange fnNetUndoWrong)

/-- 'laws.FnWayTie': WHATEVER THE INPUT: true; the input reads as it did. -/
def fnWayTieSpec : ChangeSpec := { name := "fnWayTie", fn := fun _ => fun
  | [d] => { results := [.lit (.bool true)], args := [d] }
  | _ => none }
def fnWayTieRow : OpenClaim := { program := "ytgoembpmhlmafaa", sum := "743e70d0d08b481a9869a1f001c1f4eafec7560e5ca1a0be4dfcaf9d434a3adb", func := "loop.example/osier/laws.FnWayTie", spec := "fnWayTie", unfollowed := true, recurses := true, apart := false }
def FnWayTieSaid : Prop := fnWayTieRow.holds Try.pinned (OpenSpec.ofChange fnWayTieSpec)

/-- ITS FALSE NEIGHBOUR: 'it returns false'. Refute it at one input. -/
def fnWayTieWrong : ChangeSpec := { name := "fnWayTie", fn := fun _ => fun
  | [d] => { results := [.lit (.bool false)], args := [d] }
  | _ => none }
def FnWayTieWrongFalsely : Prop := fnWayTieRow.holds Try.pinned (OpenSpec.ofChange fnWayTieWrong)

/-- 'laws.FnExactTreeRings': WHATEVER THE INPUT: true; the input reads as it did. -/
def fnExactTreeRingsSpec : ChangeSpec := { name := "fnExactTreeRings", fn := fun _ => fun
  | [d] => { results := [.lit (.bool true)], args := [d] }
  | _ => none }
def fnExactTreeRingsRow : OpenClaim := { program := "ytgoembpmhlmafaa", sum := "743e70d0d08b481a9869a1f001c1f4eafec7560e5ca1a0be4dfcaf9d434a3adb", func := "loop.example/osier/laws.FnExactTreeRings", spec := "fnExactTreeRings", unfollowed := true, recurses := true, apart := false }
def FnExactTreeRingsSaid : Prop := fnExactTreeRingsRow.holds Try.pinned (OpenSpec.ofChange fnExactTreeRingsSpec)

/-- ITS FALSE NEIGHBOUR: 'it returns false'. Refute it at one input. -/
def fnExactTreeRingsWrong : ChangeSpec := { name := "fnExactTreeRings", fn := fun _ => fun
  | [d] => { results := [.lit (.bool false)], args := [d] }
  | _ => none }
def FnExactTreeRingsWrongFalsely : Prop := fnExactTreeRingsRow.holds Try.pinned (OpenSpec.ofChange fnExactTreeRingsWrong)

/-- 'laws.FnTreeRings': WHATEVER THE INPUT: true; the input reads as it did. -/
def fnTreeRingsSpec : ChangeSpec := { name := "fnTreeRings", fn := fun _ => fun
  | [d] => { results := [.lit (.bool true)], args := [d] }
  | _ => none }
def fnTreeRingsRow : OpenClaim := { program := "ytgoembpmhlmafaa", sum := "743e70d0d08b481a9869a1f001c1f4eafec7560e5ca1a0be4dfcaf9d434a3adb", func := "loop.example/osier/laws.FnTreeRings", spec := "fnTreeRings", unfollowed := true, recurses := true, apart := false }
def FnTreeRingsSaid : Prop := fnTreeRingsRow.holds Try.pinned (OpenSpec.ofChange fnTreeRingsSpec)

/-- ITS FALSE NEIGHBOUR: 'it returns false'. Refute it at one input. -/
def fnTreeRingsWrong : ChangeSpec := { name := "fnTreeRings", fn := fun _ => fun
  | [d] => { results := [.lit (.bool false)], args := [d] }
  | _ => none }
def FnTreeRingsWrongFalsely : Prop := fnTreeRingsRow.holds Try.pinned (OpenSpec.ofChange fnTreeRingsWrong)

/-- 'laws.FnTreeSwap': WHATEVER THE INPUT: true; the input reads as it did. -/
def fnTreeSwapSpec : ChangeSpec := { name := "fnTreeSwap", fn := fun _ => fun
  | [d1, d2] => { results := [.lit (.bool true)], args := [d1, d2] }
  | _ => none }
def fnTreeSwapRow : OpenClaim := { program := "ytgoembpmhlmafaa", sum := "743e70d0d08b481a9869a1f001c1f4eafec7560e5ca1a0be4dfcaf9d434a3adb", func := "loop.example/osier/laws.FnTreeSwap", spec := "fnTreeSwap", unfollowed := true, recurses := true, apart := false }
def FnTreeSwapSaid : Prop := fnTreeSwapRow.holds Try.pinned (OpenSpec.ofChange fnTreeSwapSpec)

/-- ITS FALSE NEIGHBOUR: 'it returns false'. Refute it at one input. -/
def fnTreeSwapWrong : ChangeSpec := { name := "fnTreeSwap", fn := fun _ => fun
  | [d1, d2] => { results := [.lit (.bool false)], args := [d1, d2] }
  | _ => none }
def FnTreeSwapWrongFalsely : Prop := fnTreeSwapRow.holds Try.pinned (OpenSpec.ofChange fnTreeSwapWrong)

/- THE SECOND FORM. 'bulk': how many values and letters a reading holds, each counted each time it is reached (what is shared counts as often as it is met; a slice's spare places count too). A statement '..UptoSaid' is the law's where the arguments, and the package variables that the reading takes, are together of bulk at most 1048576: NARROWER than '..Said'. Prove '..Said' where nothing that the law and all that it calls make is longer than what came in: it says more and counts as full. Else prove '..UptoSaid'. A law counts once. -/
mutual
def uptoBulk {H : Type} : DataW H → Nat
  | .lit (.string bytes) => bytes.length + 1
  | .lit _ => 1
  | .nil => 1
  | .ptr d => uptoBulk d + 1
  | .slice elems spare => uptoBulkAll elems + uptoBulkAll spare + 1
  | .agg parts => uptoBulkAll parts + 1
  | .iface _ d => uptoBulk d + 1
  | .map entries => uptoBulkEntries entries + 1
  | .held _ => 1
def uptoBulkAll {H : Type} : List (DataW H) → Nat
  | [] => 0
  | d :: r => uptoBulk d + uptoBulkAll r
def uptoBulkEntries {H : Type} : List (Lit × DataW H) → Nat
  | [] => 0
  | x :: r => uptoBulkEntry x + uptoBulkEntries r
def uptoBulkEntry {H : Type} : Lit × DataW H → Nat
  | (.string bytes, d) => bytes.length + uptoBulk d + 1
  | (_, d) => uptoBulk d + 1
 end
def uptoSmall : (H : Type) → List (DataW H) → Bool := fun _ ds => decide (uptoBulkAll ds ≤ 1048576)
def OpenSpec.upto (s : _root_.Go.ChangeSpec) : _root_.Go.OpenSpec := { _root_.Go.OpenSpec.ofChange s with cond := some uptoSmall }

/-- 'laws.FnBridgeCut', WHERE WHAT IT READS IS OF BULK AT MOST 1048576: true; the input reads as it did. -/
def fnBridgeCutUptoRow : OpenClaim := { program := "ytgoembpmhlmafaa", sum := "743e70d0d08b481a9869a1f001c1f4eafec7560e5ca1a0be4dfcaf9d434a3adb", func := "loop.example/osier/laws.FnBridgeCut", spec := "fnBridgeCut", apart := false, narrowed := true }
def FnBridgeCutUptoSaid : Prop := fnBridgeCutUptoRow.holds Try.pinned (OpenSpec.upto fnBridgeCutSpec)

/-- 'laws.FnBridgeEnds', WHERE WHAT IT READS IS OF BULK AT MOST 1048576: true; the input reads as it did. -/
def fnBridgeEndsUptoRow : OpenClaim := { program := "ytgoembpmhlmafaa", sum := "743e70d0d08b481a9869a1f001c1f4eafec7560e5ca1a0be4dfcaf9d434a3adb", func := "loop.example/osier/laws.FnBridgeEnds", spec := "fnBridgeEnds", apart := false, narrowed := true }
def FnBridgeEndsUptoSaid : Prop := fnBridgeEndsUptoRow.holds Try.pinned (OpenSpec.upto fnBridgeEndsSpec)

/-- 'laws.FnTreeFirst', WHERE WHAT IT READS IS OF BULK AT MOST 1048576: true; the input reads as it did. -/
def fnTreeFirstUptoRow : OpenClaim := { program := "ytgoembpmhlmafaa", sum := "743e70d0d08b481a9869a1f001c1f4eafec7560e5ca1a0be4dfcaf9d434a3adb", func := "loop.example/osier/laws.FnTreeFirst", spec := "fnTreeFirst", apart := false, narrowed := true }
def FnTreeFirstUptoSaid : Prop := fnTreeFirstUptoRow.holds Try.pinned (OpenSpec.upto fnTreeFirstSpec)

/-- 'laws.FnExactNetAdd', WHERE WHAT IT READS IS OF BULK AT MOST 1048576: true; the input reads as it did. -/
def fnExactNetAddUptoRow : OpenClaim := { program := "ytgoembpmhlmafaa", sum := "743e70d0d08b481a9869a1f001c1f4eafec7560e5ca1a0be4dfcaf9d434a3adb", func := "loop.example/osier/laws.FnExactNetAdd", spec := "fnExactNetAdd", unfollowed := true, recurses := true, apart := false, narrowed := true }
def FnExactNetAddUptoSaid : Prop := fnExactNetAddUptoRow.holds Try.pinned (OpenSpec.upto fnExactNetAddSpec)

/-- 'laws.FnNetTurn', WHERE WHAT IT READS IS OF BULK AT MOST 1048576: true; the input reads as it did. -/
def fnNetTurnUptoRow : OpenClaim := { program := "ytgoembpmhlmafaa", sum := "743e70d0d08b481a9869a1f001c1f4eafec7560e5ca1a0be4dfcaf9d434a3adb", func := "loop.example/osier/laws.FnNetTurn", spec := "fnNetTurn", unfollowed := true, recurses := true, apart := false, narrowed := true }
def FnNetTurnUptoSaid : Prop := fnNetTurnUptoRow.holds Try.pinned (OpenSpec.upto fnNetTurnSpec)

/-- 'laws.FnNetAdd', WHERE WHAT IT READS IS OF BULK AT MOST 1048576: true; the input reads as it did. -/
def fnNetAddUptoRow : OpenClaim := { program := "ytgoembpmhlmafaa", sum := "743e70d0d08b481a9869a1f001c1f4eafec7560e5ca1a0be4dfcaf9d434a3adb", func := "loop.example/osier/laws.FnNetAdd", spec := "fnNetAdd", unfollowed := true, recurses := true, apart := false, narrowed := true }
def FnNetAddUptoSaid : Prop := fnNetAddUptoRow.holds Try.pinned (OpenSpec.upto fnNetAddSpec)

/-- 'laws.FnNetUndo', WHERE WHAT IT READS IS OF BULK AT MOST 1048576: true; the input reads as it did. -/
def fnNetUndoUptoRow : OpenClaim := { program := "ytgoembpmhlmafaa", sum := "743e70d0d08b481a9869a1f001c1f4eafec7560e5ca1a0be4dfcaf9d434a3adb", func := "loop.example/osier/laws.FnNetUndo", spec := "fnNetUndo", unfollowed := true, recurses := true, apart := false, narrowed := true }
def FnNetUndoUptoSaid : Prop := fnNetUndoUptoRow.holds Try.pinned (OpenSpec.upto fnNetUndoSpec)

/-- 'laws.FnWayTie', WHERE WHAT IT READS IS OF BULK AT MOST 1048576: true; the input reads as it did. -/
def fnWayTieUptoRow : OpenClaim := { program := "ytgoembpmhlmafaa", sum := "743e70d0d08b481a9869a1f001c1f4eafec7560e5ca1a0be4dfcaf9d434a3adb", func := "loop.example/osier/laws.FnWayTie", spec := "fnWayTie", unfollowed := true, recurses := true, apart := false, narrowed := true }
def FnWayTieUptoSaid : Prop := fnWayTieUptoRow.holds Try.pinned (OpenSpec.upto fnWayTieSpec)

/-- 'laws.FnExactTreeRings', WHERE WHAT IT READS IS OF BULK AT MOST 1048576: true; the input reads as it did. -/
def fnExactTreeRingsUptoRow : OpenClaim := { program := "ytgoembpmhlmafaa", sum := "743e70d0d08b481a9869a1f001c1f4eafec7560e5ca1a0be4dfcaf9d434a3adb", func := "loop.example/osier/laws.FnExactTreeRings", spec := "fnExactTreeRings", unfollowed := true, recurses := true, apart := false, narrowed := true }
def FnExactTreeRingsUptoSaid : Prop := fnExactTreeRingsUptoRow.holds Try.pinned (OpenSpec.upto fnExactTreeRingsSpec)

/-- 'laws.FnTreeRings', WHERE WHAT IT READS IS OF BULK AT MOST 1048576: true; the input reads as it did. -/
def fnTreeRingsUptoRow : OpenClaim := { program := "ytgoembpmhlmafaa", sum := "743e70d0d08b481a9869a1f001c1f4eafec7560e5ca1a0be4dfcaf9d434a3adb", func := "loop.example/osier/laws.FnTreeRings", spec := "fnTreeRings", unfollowed := true, recurses := true, apart := false, narrowed := true }
def FnTreeRingsUptoSaid : Prop := fnTreeRingsUptoRow.holds Try.pinned (OpenSpec.upto fnTreeRingsSpec)

/-- 'laws.FnTreeSwap', WHERE WHAT IT READS IS OF BULK AT MOST 1048576: true; the input reads as it did. -/
def fnTreeSwapUptoRow : OpenClaim := { program := "ytgoembpmhlmafaa", sum := "743e70d0d08b481a9869a1f001c1f4eafec7560e5ca1a0be4dfcaf9d434a3adb", func := "loop.example/osier/laws.FnTreeSwap", spec := "fnTreeSwap", unfollowed := true, recurses := true, apart := false, narrowed := true }
def FnTreeSwapUptoSaid : Prop := fnTreeSwapUptoRow.holds Try.pinned (OpenSpec.upto fnTreeSwapSpec)

end Rows
end Go.Proofs.Ytgoembpmhlmafaa
