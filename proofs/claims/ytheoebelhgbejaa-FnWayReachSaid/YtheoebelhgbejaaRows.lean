/-
  No cell of these rows narrows 'for every input' (looked for: loops, veiled, ifaces, maps, wideKeys, modest, calm, conditions, laid).
  DERIVED. THE GIVEN ROWS OF THIS SEAT. 10 by the template 'for every input the law returns true; each argument reads behind the call as it read before'; 0 by the template 'total and deterministic' (their statements: YtheoebelhgbejaaTotals.lean).
  GIVEN WITH THE SEED: the statements are not yours to turn. If you find one false, say at which input.
  Laid BY PROGRAM, IN A SANDBOX (cutbox-rows.mjs): the forced cells as the released guide's own fill.sh prints them over the translation fda489a39281c379… (all of the seat's roots in one cut). By AI agents, Wed Nov 11 2026. No macro, syntax, notation, axiom, sorry.
-/
import Derived.Test.YtheoebelhgbejaaChecked
import GoSem.Claim
import GoSem.ClaimJoined
import GoSem.ClaimMapViews
import Derived.JoinedTies
import Derived.KernelRfl
namespace Go.Proofs.Ytheoebelhgbejaa
/- THE CELL 'sum', in the pinned program and in every row, IS THE sha256 OF THE DUMP (.gsa) THAT YtheoebelhgbejaaProg.lean LOADS. Nothing in Lean hashes anything: it is a label: what it is worth is what the hold of that sum in a sandbox is worth. -/
noncomputable def Try.pinned : Pinned := { name := "ytheoebelhgbejaa", sum := "fda489a39281c3793950ef6f35e2e34301e4ade107a7f99a80b65879342bea7f", checked := Try.checked }
namespace Rows
def none {H : Type} : Left H := { results := [], args := [] }

/-- 'laws.FnExactWayParts': WHATEVER THE INPUT: true; the input reads as it did. -/
def fnExactWayPartsSpec : ChangeSpec := { name := "fnExactWayParts", fn := fun _ => fun
  | [d] => { results := [.lit (.bool true)], args := [d] }
  | _ => none }
def fnExactWayPartsRow : OpenClaim := { program := "ytheoebelhgbejaa", sum := "fda489a39281c3793950ef6f35e2e34301e4ade107a7f99a80b65879342bea7f", func := "loop.example/osier/laws.FnExactWayParts", spec := "fnExactWayParts", apart := false }
def FnExactWayPartsSaid : Prop := fnExactWayPartsRow.holds Try.pinned (OpenSpec.ofChange fnExactWayPartsSpec)

/-- ITS FALSE NEIGHBOUR: 'it returns false'. Refute it at one input. -/
def fnExactWayPartsWrong : ChangeSpec := { name := "fnExactWayParts", fn := fun _ => fun
  | [d] => { results := [.lit (.bool false)], args := [d] }
  | _ => none }
def FnExactWayPartsWrongFalsely : Prop := fnExactWayPartsRow.holds Try.pinned (OpenSpec.ofChange fnExactWayPartsWrong)

/-- 'laws.FnWayOn': WHATEVER THE INPUT: true; the input reads as it did. -/
def fnWayOnSpec : ChangeSpec := { name := "fnWayOn", fn := fun _ => fun
  | [d] => { results := [.lit (.bool true)], args := [d] }
  | _ => none }
def fnWayOnRow : OpenClaim := { program := "ytheoebelhgbejaa", sum := "fda489a39281c3793950ef6f35e2e34301e4ade107a7f99a80b65879342bea7f", func := "loop.example/osier/laws.FnWayOn", spec := "fnWayOn", apart := false }
def FnWayOnSaid : Prop := fnWayOnRow.holds Try.pinned (OpenSpec.ofChange fnWayOnSpec)

/-- ITS FALSE NEIGHBOUR: 'it returns false'. Refute it at one input. -/
def fnWayOnWrong : ChangeSpec := { name := "fnWayOn", fn := fun _ => fun
  | [d] => { results := [.lit (.bool false)], args := [d] }
  | _ => none }
def FnWayOnWrongFalsely : Prop := fnWayOnRow.holds Try.pinned (OpenSpec.ofChange fnWayOnWrong)

/-- 'laws.FnWayReach': WHATEVER THE INPUT: true; the input reads as it did. -/
def fnWayReachSpec : ChangeSpec := { name := "fnWayReach", fn := fun _ => fun
  | [d] => { results := [.lit (.bool true)], args := [d] }
  | _ => none }
def fnWayReachRow : OpenClaim := { program := "ytheoebelhgbejaa", sum := "fda489a39281c3793950ef6f35e2e34301e4ade107a7f99a80b65879342bea7f", func := "loop.example/osier/laws.FnWayReach", spec := "fnWayReach", apart := false }
def FnWayReachSaid : Prop := fnWayReachRow.holds Try.pinned (OpenSpec.ofChange fnWayReachSpec)

/-- ITS FALSE NEIGHBOUR: 'it returns false'. Refute it at one input. -/
def fnWayReachWrong : ChangeSpec := { name := "fnWayReach", fn := fun _ => fun
  | [d] => { results := [.lit (.bool false)], args := [d] }
  | _ => none }
def FnWayReachWrongFalsely : Prop := fnWayReachRow.holds Try.pinned (OpenSpec.ofChange fnWayReachWrong)

/-- 'laws.FnExactTreeOk': WHATEVER THE INPUT: true; the input reads as it did. -/
def fnExactTreeOkSpec : ChangeSpec := { name := "fnExactTreeOk", fn := fun _ => fun
  | [d1, d2] => { results := [.lit (.bool true)], args := [d1, d2] }
  | _ => none }
def fnExactTreeOkRow : OpenClaim := { program := "ytheoebelhgbejaa", sum := "fda489a39281c3793950ef6f35e2e34301e4ade107a7f99a80b65879342bea7f", func := "loop.example/osier/laws.FnExactTreeOk", spec := "fnExactTreeOk", apart := false }
def FnExactTreeOkSaid : Prop := fnExactTreeOkRow.holds Try.pinned (OpenSpec.ofChange fnExactTreeOkSpec)

/-- ITS FALSE NEIGHBOUR: 'it returns false'. Refute it at one input. -/
def fnExactTreeOkWrong : ChangeSpec := { name := "fnExactTreeOk", fn := fun _ => fun
  | [d1, d2] => { results := [.lit (.bool false)], args := [d1, d2] }
  | _ => none }
def FnExactTreeOkWrongFalsely : Prop := fnExactTreeOkRow.holds Try.pinned (OpenSpec.ofChange fnExactTreeOkWrong)

/-- 'laws.FnWayParts': WHATEVER THE INPUT: true; the input reads as it did. -/
def fnWayPartsSpec : ChangeSpec := { name := "fnWayParts", fn := fun _ => fun
  | [d] => { results := [.lit (.bool true)], args := [d] }
  | _ => none }
def fnWayPartsRow : OpenClaim := { program := "ytheoebelhgbejaa", sum := "fda489a39281c3793950ef6f35e2e34301e4ade107a7f99a80b65879342bea7f", func := "loop.example/osier/laws.FnWayParts", spec := "fnWayParts", apart := false }
def FnWayPartsSaid : Prop := fnWayPartsRow.holds Try.pinned (OpenSpec.ofChange fnWayPartsSpec)

/-- ITS FALSE NEIGHBOUR: 'it returns false'. Refute it at one input. -/
def fnWayPartsWrong : ChangeSpec := { name := "fnWayParts", fn := fun _ => fun
  | [d] => { results := [.lit (.bool false)], args := [d] }
  | _ => none }
def FnWayPartsWrongFalsely : Prop := fnWayPartsRow.holds Try.pinned (OpenSpec.ofChange fnWayPartsWrong)

/-- 'laws.FnNetCut': WHATEVER THE INPUT: true; the input reads as it did. -/
def fnNetCutSpec : ChangeSpec := { name := "fnNetCut", fn := fun _ => fun
  | [d] => { results := [.lit (.bool true)], args := [d] }
  | _ => none }
def fnNetCutRow : OpenClaim := { program := "ytheoebelhgbejaa", sum := "fda489a39281c3793950ef6f35e2e34301e4ade107a7f99a80b65879342bea7f", func := "loop.example/osier/laws.FnNetCut", spec := "fnNetCut", apart := false }
def FnNetCutSaid : Prop := fnNetCutRow.holds Try.pinned (OpenSpec.ofChange fnNetCutSpec)

/-- ITS FALSE NEIGHBOUR: 'it returns false'. Refute it at one input. -/
def fnNetCutWrong : ChangeSpec := { name := "fnNetCut", fn := fun _ => fun
  | [d] => { results := [.lit (.bool false)], args := [d] }
  | _ => none }
def FnNetCutWrongFalsely : Prop := fnNetCutRow.holds Try.pinned (OpenSpec.ofChange fnNetCutWrong)

/-- 'laws.FnWayCount': WHATEVER THE INPUT: true; the input reads as it did. -/
def fnWayCountSpec : ChangeSpec := { name := "fnWayCount", fn := fun _ => fun
  | [d] => { results := [.lit (.bool true)], args := [d] }
  | _ => none }
def fnWayCountRow : OpenClaim := { program := "ytheoebelhgbejaa", sum := "fda489a39281c3793950ef6f35e2e34301e4ade107a7f99a80b65879342bea7f", func := "loop.example/osier/laws.FnWayCount", spec := "fnWayCount", apart := false }
def FnWayCountSaid : Prop := fnWayCountRow.holds Try.pinned (OpenSpec.ofChange fnWayCountSpec)

/-- ITS FALSE NEIGHBOUR: 'it returns false'. Refute it at one input. -/
def fnWayCountWrong : ChangeSpec := { name := "fnWayCount", fn := fun _ => fun
  | [d] => { results := [.lit (.bool false)], args := [d] }
  | _ => none }
def FnWayCountWrongFalsely : Prop := fnWayCountRow.holds Try.pinned (OpenSpec.ofChange fnWayCountWrong)

/-- 'laws.FnExactBridgeIs': WHATEVER THE INPUT: true; the input reads as it did. -/
def fnExactBridgeIsSpec : ChangeSpec := { name := "fnExactBridgeIs", fn := fun _ => fun
  | [d1, d2, d3] => { results := [.lit (.bool true)], args := [d1, d2, d3] }
  | _ => none }
def fnExactBridgeIsRow : OpenClaim := { program := "ytheoebelhgbejaa", sum := "fda489a39281c3793950ef6f35e2e34301e4ade107a7f99a80b65879342bea7f", func := "loop.example/osier/laws.FnExactBridgeIs", spec := "fnExactBridgeIs", apart := false }
def FnExactBridgeIsSaid : Prop := fnExactBridgeIsRow.holds Try.pinned (OpenSpec.ofChange fnExactBridgeIsSpec)

/-- ITS FALSE NEIGHBOUR: 'it returns false'. Refute it at one input. -/
def fnExactBridgeIsWrong : ChangeSpec := { name := "fnExactBridgeIs", fn := fun _ => fun
  | [d1, d2, d3] => { results := [.lit (.bool false)], args := [d1, d2, d3] }
  | _ => none }
def FnExactBridgeIsWrongFalsely : Prop := fnExactBridgeIsRow.holds Try.pinned (OpenSpec.ofChange fnExactBridgeIsWrong)

/-- 'laws.FnWayOk': WHATEVER THE INPUT: true; the input reads as it did. -/
def fnWayOkSpec : ChangeSpec := { name := "fnWayOk", fn := fun _ => fun
  | [d1, d2] => { results := [.lit (.bool true)], args := [d1, d2] }
  | _ => none }
def fnWayOkRow : OpenClaim := { program := "ytheoebelhgbejaa", sum := "fda489a39281c3793950ef6f35e2e34301e4ade107a7f99a80b65879342bea7f", func := "loop.example/osier/laws.FnWayOk", spec := "fnWayOk", apart := false }
def FnWayOkSaid : Prop := fnWayOkRow.holds Try.pinned (OpenSpec.ofChange fnWayOkSpec)

/-- ITS FALSE NEIGHBOUR: 'it returns false'. Refute it at one input. -/
def fnWayOkWrong : ChangeSpec := { name := "fnWayOk", fn := fun _ => fun
  | [d1, d2] => { results := [.lit (.bool false)], args := [d1, d2] }
  | _ => none }
def FnWayOkWrongFalsely : Prop := fnWayOkRow.holds Try.pinned (OpenSpec.ofChange fnWayOkWrong)

/-- 'laws.FnWayCut': WHATEVER THE INPUT: true; the input reads as it did. -/
def fnWayCutSpec : ChangeSpec := { name := "fnWayCut", fn := fun _ => fun
  | [d] => { results := [.lit (.bool true)], args := [d] }
  | _ => none }
def fnWayCutRow : OpenClaim := { program := "ytheoebelhgbejaa", sum := "fda489a39281c3793950ef6f35e2e34301e4ade107a7f99a80b65879342bea7f", func := "loop.example/osier/laws.FnWayCut", spec := "fnWayCut", apart := false }
def FnWayCutSaid : Prop := fnWayCutRow.holds Try.pinned (OpenSpec.ofChange fnWayCutSpec)

/-- ITS FALSE NEIGHBOUR: 'it returns false'. Refute it at one input. -/
def fnWayCutWrong : ChangeSpec := { name := "fnWayCut", fn := fun _ => fun
  | [d] => { results := [.lit (.bool false)], args := [d] }
  | _ => none }
def FnWayCutWrongFalsely : Prop := fnWayCutRow.holds Try.pinned (OpenSpec.ofChange fnWayCutWrong)

/- THE SECOND FORM. 'bulk': how many values and letters a reading holds, each counted each time it is reached (what is shared counts as often as it is met; a slice's spare places count too). A statement '..UptoSaid' is the law's where the arguments, and the package variables that the reading takes, are together of bulk at most 1048576: NARROWER than '..Said'. Prove '..Said' where nothing that the law and all that it calls make is longer than what came in: it says more and counts as full. Else prove '..UptoSaid'. A law counts once. -/
mutual
def uptoBulk {H : Type} : DataW H → Nat
  | .lit (.string bytes) => bytes.length + 1
  | .lit _ => 1
  | .nil => 1
  | .ptr d => uptoBulk d + 1
  | .slice elems spare => uptoBulkAll elems + uptoBulkAll spare + 1
  | .agg parts => uptoBulkAll parts + 1
  | .iface _ d => uptoBulk d + 1
  | .map entries => uptoBulkEntries entries + 1
  | .held _ => 1
def uptoBulkAll {H : Type} : List (DataW H) → Nat
  | [] => 0
  | d :: r => uptoBulk d + uptoBulkAll r
def uptoBulkEntries {H : Type} : List (Lit × DataW H) → Nat
  | [] => 0
  | x :: r => uptoBulkEntry x + uptoBulkEntries r
def uptoBulkEntry {H : Type} : Lit × DataW H → Nat
  | (.string bytes, d) => bytes.length + uptoBulk d + 1
  | (_, d) => uptoBulk d + 1
 end
def uptoSmall : (H : Type) → List (DataW H) → Bool := fun _ ds => decide (uptoBulkAll ds ≤ 1048576)
def OpenSpec.upto (s : _root_.Go.ChangeSpec) : _root_.Go.OpenSpec := { _root_.Go.OpenSpec.ofChange s with cond := some uptoSmall }

/-- 'laws.FnExactWayParts', WHERE WHAT IT READS IS OF BULK AT MOST 1048576: true; the input reads as it did. -/
def fnExactWayPartsUptoRow : OpenClaim := { program := "ytheoebelhgbejaa", sum := "fda489a39281c3793950ef6f35e2e34301e4ade107a7f99a80b65879342bea7f", func := "loop.example/osier/laws.FnExactWayParts", spec := "fnExactWayParts", apart := false, narrowed := true }
def FnExactWayPartsUptoSaid : Prop := fnExactWayPartsUptoRow.holds Try.pinned (OpenSpec.upto fnExactWayPartsSpec)

/-- 'laws.FnWayOn', WHERE WHAT IT READS IS OF BULK AT MOST 1048576: true; the input reads as it did. -/
def fnWayOnUptoRow : OpenClaim := { program := "ytheoebelhgbejaa", sum := "fda489a39281c3793950ef6f35e2e34301e4ade107a7f99a80b65879342bea7f", func := "loop.example/osier/laws.FnWayOn", spec := "fnWayOn", apart := false, narrowed := true }
def FnWayOnUptoSaid : Prop := fnWayOnUptoRow.holds Try.pinned (OpenSpec.upto fnWayOnSpec)

/-- 'laws.FnWayReach', WHERE WHAT IT READS IS OF BULK AT MOST 1048576: true; the input reads as it did. -/
def fnWayReachUptoRow : OpenClaim := { program := "ytheoebelhgbejaa", sum := "fda489a39281c3793950ef6f35e2e34301e4ade107a7f99a80b65879342bea7f", func := "loop.example/osier/laws.FnWayReach", spec := "fnWayReach", apart := false, narrowed := true }
def FnWayReachUptoSaid : Prop := fnWayReachUptoRow.holds Try.pinned (OpenSpec.upto fnWayReachSpec)

/-- 'laws.FnExactTreeOk', WHERE WHAT IT READS IS OF BULK AT MOST 1048576: true; the input reads as it did. -/
def fnExactTreeOkUptoRow : OpenClaim := { program := "ytheoebelhgbejaa", sum := "fda489a39281c3793950ef6f35e2e34301e4ade107a7f99a80b65879342bea7f", func := "loop.example/osier/laws.FnExactTreeOk", spec := "fnExactTreeOk", apart := false, narrowed := true }
def FnExactTreeOkUptoSaid : Prop := fnExactTreeOkUptoRow.holds Try.pinned (OpenSpec.upto fnExactTreeOkSpec)

/-- 'laws.FnWayParts', WHERE WHAT IT READS IS OF BULK AT MOST 1048576: true; the input reads as it did. -/
def fnWayPartsUptoRow : OpenClaim := { program := "ytheoebelhgbejaa", sum := "fda489a39281c3793950ef6f35e2e34301e4ade107a7f99a80b65879342bea7f", func := "loop.example/osier/laws.FnWayParts", spec := "fnWayParts", apart := false, narrowed := true }
def FnWayPartsUptoSaid : Prop := fnWayPartsUptoRow.holds Try.pinned (OpenSpec.upto fnWayPartsSpec)

/-- 'laws.FnNetCut', WHERE WHAT IT READS IS OF BULK AT MOST 1048576: true; the input reads as it did. -/
def fnNetCutUptoRow : OpenClaim := { program := "ytheoebelhgbejaa", sum := "fda489a39281c3793950ef6f35e2e34301e4ade107a7f99a80b65879342bea7f", func := "loop.example/osier/laws.FnNetCut", spec := "fnNetCut", apart := false, narrowed := true }
def FnNetCutUptoSaid : Prop := fnNetCutUptoRow.holds Try.pinned (OpenSpec.upto fnNetCutSpec)

/-- 'laws.FnWayCount', WHERE WHAT IT READS IS OF BULK AT MOST 1048576: true; the input reads as it did. -/
def fnWayCountUptoRow : OpenClaim := { program := "ytheoebelhgbejaa", sum := "fda489a39281c3793950ef6f35e2e34301e4ade107a7f99a80b65879342bea7f", func := "loop.example/osier/laws.FnWayCount", spec := "fnWayCount", apart := false, narrowed := true }
def FnWayCountUptoSaid : Prop := fnWayCountUptoRow.holds Try.pinned (OpenSpec.upto fnWayCountSpec)

/-- 'laws.FnExactBridgeIs', WHERE WHAT IT READS IS OF BULK AT MOST 1048576: true; the input reads as it did. -/
def fnExactBridgeIsUptoRow : OpenClaim := { program := "ytheoebelhgbejaa", sum := "fda489a39281c3793950ef6f35e2e34301e4ade107a7f99a80b65879342bea7f", func := "loop.example/osier/laws.FnExactBridgeIs", spec := "fnExactBridgeIs", apart := false, narrowed := true }
def FnExactBridgeIsUptoSaid : Prop := fnExactBridgeIsUptoRow.holds Try.pinned (OpenSpec.upto fnExactBridgeIsSpec)

/-- 'laws.FnWayOk', WHERE WHAT IT READS IS OF BULK AT MOST 1048576: true; the input reads as it did. -/
def fnWayOkUptoRow : OpenClaim := { program := "ytheoebelhgbejaa", sum := "fda489a39281c3793950ef6f35e2e34301e4ade107a7f99a80b65879342bea7f", func := "loop.example/osier/laws.FnWayOk", spec := "fnWayOk", apart := false, narrowed := true }
def FnWayOkUptoSaid : Prop := fnWayOkUptoRow.holds Try.pinned (OpenSpec.upto fnWayOkSpec)

/-- 'laws.FnWayCut', WHERE WHAT IT READS IS OF BULK AT MOST 1048576: true; the input reads as it did. -/
def fnWayCutUptoRow : OpenClaim := { program := "ytheoebelhgbejaa", sum := "fda489a39281c3793950ef6f35e2e34301e4ade107a7f99a80b65879342bea7f", func := "loop.example/osier/laws.FnWayCut", spec := "fnWayCut", apart := false, narrowed := true }
def FnWayCutUptoSaid : Prop := fnWayCutUptoRow.holds Try.pinned (OpenSpec.upto fnWayCutSpec)

end Rows
end Go.Proofs.Ytheoebelhgbejaa
