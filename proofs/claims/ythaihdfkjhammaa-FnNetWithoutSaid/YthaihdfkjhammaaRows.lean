/-
  No cell of these rows narrows 'for every input' (looked for: loops, veiled, ifaces, maps, wideKeys, modest, calm, conditions, laid).
  DERIVED. THE GIVEN ROWS OF THIS SEAT. 11 by the template 'for every input the law returns true; each argument reads behind the call as it read before'; 0 by the template 'total and deterministic' (their statements: YthaihdfkjhammaaTotals.lean).
  GIVEN WITH THE SEED: the statements are not yours to turn. If you find one false, say at which input.
  Laid BY PROGRAM, IN A SANDBOX (cutbox-rows.mjs): the forced cells as the released guide's own fill.sh prints them over the translation 01a866b0f7a740f1… (all of the seat's roots in one cut). By AI agents, Wed Nov 11 2026. No macro, syntax, notation, axiom, sorry.
-/
import Derived.Test.YthaihdfkjhammaaChecked
import GoSem.Claim
import GoSem.ClaimJoined
import GoSem.ClaimMapViews
import Derived.JoinedTies
import Derived.KernelRfl
namespace Go.Proofs.Ythaihdfkjhammaa
/- THE CELL 'sum', in the pinned program and in every row, IS THE sha256 OF THE DUMP (.gsa) THAT YthaihdfkjhammaaProg.lean LOADS. Nothing in Lean hashes anything: it is a label: what it is worth is what the hold of that sum in a sandbox is worth. -/
noncomputable def Try.pinned : Pinned := { name := "ythaihdfkjhammaa", sum := "01a866b0f7a740f1f2043b7caa74422e33bc17bae47a406b91213a3006ef02cc", checked := Try.checked }
namespace Rows
def none {H : Type} : Left H := { results := [], args := [] }

/-- 'laws.FnExactConstants': WHATEVER THE INPUT: true; the input reads as it did. -/
def fnExactConstantsSpec : ChangeSpec := { name := "fnExactConstants", fn := fun _ => fun
  | [] => { results := [.lit (.bool true)], args := [] }
  | _ => none }
def fnExactConstantsRow : OpenClaim := { program := "ythaihdfkjhammaa", sum := "01a866b0f7a740f1f2043b7caa74422e33bc17bae47a406b91213a3006ef02cc", func := "loop.example/osier/laws.FnExactConstants", spec := "fnExactConstants", apart := false }
def FnExactConstantsSaid : Prop := fnExactConstantsRow.holds Try.pinned (OpenSpec.ofChange fnExactConstantsSpec)

/-- ITS FALSE NEIGHBOUR: 'it returns false'. Refute it at one input. -/
def fnExactConstantsWrong : ChangeSpec := { name := "fnExactConstants", fn := fun _ => fun
  | [] => { results := [.lit (.bool false)], args := [] }
  | _ => none }
def FnExactConstantsWrongFalsely : Prop := fnExactConstantsRow.holds Try.pinned (OpenSpec.ofChange fnExactConstantsWrong)

/-- 'laws.FnExactNetOk': WHATEVER THE INPUT: true; the input reads as it did. -/
def fnExactNetOkSpec : ChangeSpec := { name := "fnExactNetOk", fn := fun _ => fun
  | [d] => { results := [.lit (.bool true)], args := [d] }
  | _ => none }
def fnExactNetOkRow : OpenClaim := { program := "ythaihdfkjhammaa", sum := "01a866b0f7a740f1f2043b7caa74422e33bc17bae47a406b91213a3006ef02cc", func := "loop.example/osier/laws.FnExactNetOk", spec := "fnExactNetOk", apart := false }
def FnExactNetOkSaid : Prop := fnExactNetOkRow.holds Try.pinned (OpenSpec.ofChange fnExactNetOkSpec)

/-- ITS FALSE NEIGHBOUR: 'it returns false'. Refute it at one input. -/
def fnExactNetOkWrong : ChangeSpec := { name := "fnExactNetOk", fn := fun _ => fun
  | [d] => { results := [.lit (.bool false)], args := [d] }
  | _ => none }
def FnExactNetOkWrongFalsely : Prop := fnExactNetOkRow.holds Try.pinned (OpenSpec.ofChange fnExactNetOkWrong)

/-- 'laws.FnExactNetHas': WHATEVER THE INPUT: true; the input reads as it did. -/
def fnExactNetHasSpec : ChangeSpec := { name := "fnExactNetHas", fn := fun _ => fun
  | [d1, d2, d3] => { results := [.lit (.bool true)], args := [d1, d2, d3] }
  | _ => none }
def fnExactNetHasRow : OpenClaim := { program := "ythaihdfkjhammaa", sum := "01a866b0f7a740f1f2043b7caa74422e33bc17bae47a406b91213a3006ef02cc", func := "loop.example/osier/laws.FnExactNetHas", spec := "fnExactNetHas", apart := false }
def FnExactNetHasSaid : Prop := fnExactNetHasRow.holds Try.pinned (OpenSpec.ofChange fnExactNetHasSpec)

/-- ITS FALSE NEIGHBOUR: 'it returns false'. Refute it at one input. -/
def fnExactNetHasWrong : ChangeSpec := { name := "fnExactNetHas", fn := fun _ => fun
  | [d1, d2, d3] => { results := [.lit (.bool false)], args := [d1, d2, d3] }
  | _ => none }
def FnExactNetHasWrongFalsely : Prop := fnExactNetHasRow.holds Try.pinned (OpenSpec.ofChange fnExactNetHasWrong)

/-- 'laws.FnExactNetWithout': WHATEVER THE INPUT: true; the input reads as it did. -/
def fnExactNetWithoutSpec : ChangeSpec := { name := "fnExactNetWithout", fn := fun _ => fun
  | [d1, d2] => { results := [.lit (.bool true)], args := [d1, d2] }
  | _ => none }
def fnExactNetWithoutRow : OpenClaim := { program := "ythaihdfkjhammaa", sum := "01a866b0f7a740f1f2043b7caa74422e33bc17bae47a406b91213a3006ef02cc", func := "loop.example/osier/laws.FnExactNetWithout", spec := "fnExactNetWithout", apart := false }
def FnExactNetWithoutSaid : Prop := fnExactNetWithoutRow.holds Try.pinned (OpenSpec.ofChange fnExactNetWithoutSpec)

/-- ITS FALSE NEIGHBOUR: 'it returns false'. Refute it at one input. -/
def fnExactNetWithoutWrong : ChangeSpec := { name := "fnExactNetWithout", fn := fun _ => fun
  | [d1, d2] => { results := [.lit (.bool false)], args := [d1, d2] }
  | _ => none }
def FnExactNetWithoutWrongFalsely : Prop := fnExactNetWithoutRow.holds Try.pinned (OpenSpec.ofChange fnExactNetWithoutWrong)

/-- 'laws.FnExactWayOk': WHATEVER THE INPUT: true; the input reads as it did. -/
def fnExactWayOkSpec : ChangeSpec := { name := "fnExactWayOk", fn := fun _ => fun
  | [d1, d2] => { results := [.lit (.bool true)], args := [d1, d2] }
  | _ => none }
def fnExactWayOkRow : OpenClaim := { program := "ythaihdfkjhammaa", sum := "01a866b0f7a740f1f2043b7caa74422e33bc17bae47a406b91213a3006ef02cc", func := "loop.example/osier/laws.FnExactWayOk", spec := "fnExactWayOk", apart := false }
def FnExactWayOkSaid : Prop := fnExactWayOkRow.holds Try.pinned (OpenSpec.ofChange fnExactWayOkSpec)

/-- ITS FALSE NEIGHBOUR: 'it returns false'. Refute it at one input. -/
def fnExactWayOkWrong : ChangeSpec := { name := "fnExactWayOk", fn := fun _ => fun
  | [d1, d2] => { results := [.lit (.bool false)], args := [d1, d2] }
  | _ => none }
def FnExactWayOkWrongFalsely : Prop := fnExactWayOkRow.holds Try.pinned (OpenSpec.ofChange fnExactWayOkWrong)

/-- 'laws.FnExactNetCut': WHATEVER THE INPUT: true; the input reads as it did. -/
def fnExactNetCutSpec : ChangeSpec := { name := "fnExactNetCut", fn := fun _ => fun
  | [d1, d2, d3] => { results := [.lit (.bool true)], args := [d1, d2, d3] }
  | _ => none }
def fnExactNetCutRow : OpenClaim := { program := "ythaihdfkjhammaa", sum := "01a866b0f7a740f1f2043b7caa74422e33bc17bae47a406b91213a3006ef02cc", func := "loop.example/osier/laws.FnExactNetCut", spec := "fnExactNetCut", apart := false }
def FnExactNetCutSaid : Prop := fnExactNetCutRow.holds Try.pinned (OpenSpec.ofChange fnExactNetCutSpec)

/-- ITS FALSE NEIGHBOUR: 'it returns false'. Refute it at one input. -/
def fnExactNetCutWrong : ChangeSpec := { name := "fnExactNetCut", fn := fun _ => fun
  | [d1, d2, d3] => { results := [.lit (.bool false)], args := [d1, d2, d3] }
  | _ => none }
def FnExactNetCutWrongFalsely : Prop := fnExactNetCutRow.holds Try.pinned (OpenSpec.ofChange fnExactNetCutWrong)

/-- 'laws.FnNetHas': WHATEVER THE INPUT: true; the input reads as it did. -/
def fnNetHasSpec : ChangeSpec := { name := "fnNetHas", fn := fun _ => fun
  | [d] => { results := [.lit (.bool true)], args := [d] }
  | _ => none }
def fnNetHasRow : OpenClaim := { program := "ythaihdfkjhammaa", sum := "01a866b0f7a740f1f2043b7caa74422e33bc17bae47a406b91213a3006ef02cc", func := "loop.example/osier/laws.FnNetHas", spec := "fnNetHas", apart := false }
def FnNetHasSaid : Prop := fnNetHasRow.holds Try.pinned (OpenSpec.ofChange fnNetHasSpec)

/-- ITS FALSE NEIGHBOUR: 'it returns false'. Refute it at one input. -/
def fnNetHasWrong : ChangeSpec := { name := "fnNetHas", fn := fun _ => fun
  | [d] => { results := [.lit (.bool false)], args := [d] }
  | _ => none }
def FnNetHasWrongFalsely : Prop := fnNetHasRow.holds Try.pinned (OpenSpec.ofChange fnNetHasWrong)

/-- 'laws.FnExactWayCount': WHATEVER THE INPUT: true; the input reads as it did. -/
def fnExactWayCountSpec : ChangeSpec := { name := "fnExactWayCount", fn := fun _ => fun
  | [d] => { results := [.lit (.bool true)], args := [d] }
  | _ => none }
def fnExactWayCountRow : OpenClaim := { program := "ythaihdfkjhammaa", sum := "01a866b0f7a740f1f2043b7caa74422e33bc17bae47a406b91213a3006ef02cc", func := "loop.example/osier/laws.FnExactWayCount", spec := "fnExactWayCount", apart := false }
def FnExactWayCountSaid : Prop := fnExactWayCountRow.holds Try.pinned (OpenSpec.ofChange fnExactWayCountSpec)

/-- ITS FALSE NEIGHBOUR: 'it returns false'. Refute it at one input. -/
def fnExactWayCountWrong : ChangeSpec := { name := "fnExactWayCount", fn := fun _ => fun
  | [d] => { results := [.lit (.bool false)], args := [d] }
  | _ => none }
def FnExactWayCountWrongFalsely : Prop := fnExactWayCountRow.holds Try.pinned (OpenSpec.ofChange fnExactWayCountWrong)

/-- 'laws.FnNetWithout': WHATEVER THE INPUT: true; the input reads as it did. -/
def fnNetWithoutSpec : ChangeSpec := { name := "fnNetWithout", fn := fun _ => fun
  | [d] => { results := [.lit (.bool true)], args := [d] }
  | _ => none }
def fnNetWithoutRow : OpenClaim := { program := "ythaihdfkjhammaa", sum := "01a866b0f7a740f1f2043b7caa74422e33bc17bae47a406b91213a3006ef02cc", func := "loop.example/osier/laws.FnNetWithout", spec := "fnNetWithout", apart := false }
def FnNetWithoutSaid : Prop := fnNetWithoutRow.holds Try.pinned (OpenSpec.ofChange fnNetWithoutSpec)

/-- ITS FALSE NEIGHBOUR: 'it returns false'. Refute it at one input. -/
def fnNetWithoutWrong : ChangeSpec := { name := "fnNetWithout", fn := fun _ => fun
  | [d] => { results := [.lit (.bool false)], args := [d] }
  | _ => none }
def FnNetWithoutWrongFalsely : Prop := fnNetWithoutRow.holds Try.pinned (OpenSpec.ofChange fnNetWithoutWrong)

/-- 'laws.FnExactWayReach': WHATEVER THE INPUT: true; the input reads as it did. -/
def fnExactWayReachSpec : ChangeSpec := { name := "fnExactWayReach", fn := fun _ => fun
  | [d1, d2] => { results := [.lit (.bool true)], args := [d1, d2] }
  | _ => none }
def fnExactWayReachRow : OpenClaim := { program := "ythaihdfkjhammaa", sum := "01a866b0f7a740f1f2043b7caa74422e33bc17bae47a406b91213a3006ef02cc", func := "loop.example/osier/laws.FnExactWayReach", spec := "fnExactWayReach", apart := false }
def FnExactWayReachSaid : Prop := fnExactWayReachRow.holds Try.pinned (OpenSpec.ofChange fnExactWayReachSpec)

/-- ITS FALSE NEIGHBOUR: 'it returns false'. Refute it at one input. -/
def fnExactWayReachWrong : ChangeSpec := { name := "fnExactWayReach", fn := fun _ => fun
  | [d1, d2] => { results := [.lit (.bool false)], args := [d1, d2] }
  | _ => none }
def FnExactWayReachWrongFalsely : Prop := fnExactWayReachRow.holds Try.pinned (OpenSpec.ofChange fnExactWayReachWrong)

/-- 'laws.FnExactTreeOf': WHATEVER THE INPUT: true; the input reads as it did. -/
def fnExactTreeOfSpec : ChangeSpec := { name := "fnExactTreeOf", fn := fun _ => fun
  | [d] => { results := [.lit (.bool true)], args := [d] }
  | _ => none }
def fnExactTreeOfRow : OpenClaim := { program := "ythaihdfkjhammaa", sum := "01a866b0f7a740f1f2043b7caa74422e33bc17bae47a406b91213a3006ef02cc", func := "loop.example/osier/laws.FnExactTreeOf", spec := "fnExactTreeOf", apart := false }
def FnExactTreeOfSaid : Prop := fnExactTreeOfRow.holds Try.pinned (OpenSpec.ofChange fnExactTreeOfSpec)

/-- ITS FALSE NEIGHBOUR: 'it returns false'. Refute it at one input. -/
def fnExactTreeOfWrong : ChangeSpec := { name := "fnExactTreeOf", fn := fun _ => fun
  | [d] => { results := [.lit (.bool false)], args := [d] }
  | _ => none }
def FnExactTreeOfWrongFalsely : Prop := fnExactTreeOfRow.holds Try.pinned (OpenSpec.ofChange fnExactTreeOfWrong)

/- THE SECOND FORM. 'bulk': how many values and letters a reading holds, each counted each time it is reached (what is shared counts as often as it is met; a slice's spare places count too). A statement '..UptoSaid' is the law's where the arguments, and the package variables that the reading takes, are together of bulk at most 1048576: NARROWER than '..Said'. Prove '..Said' where nothing that the law and all that it calls make is longer than what came in: it says more and counts as full. Else prove '..UptoSaid'. A law counts once. -/
mutual
def uptoBulk {H : Type} : DataW H → Nat
  | .lit (.string bytes) => bytes.length + 1
  | .lit _ => 1
  | .nil => 1
  | .ptr d => uptoBulk d + 1
  | .slice elems spare => uptoBulkAll elems + uptoBulkAll spare + 1
  | .agg parts => uptoBulkAll parts + 1
  | .iface _ d => uptoBulk d + 1
  | .map entries => uptoBulkEntries entries + 1
  | .held _ => 1
def uptoBulkAll {H : Type} : List (DataW H) → Nat
  | [] => 0
  | d :: r => uptoBulk d + uptoBulkAll r
def uptoBulkEntries {H : Type} : List (Lit × DataW H) → Nat
  | [] => 0
  | x :: r => uptoBulkEntry x + uptoBulkEntries r
def uptoBulkEntry {H : Type} : Lit × DataW H → Nat
  | (.string bytes, d) => bytes.length + uptoBulk d + 1
  | (_, d) => uptoBulk d + 1
 end
def uptoSmall : (H : Type) → List (DataW H) → Bool := fun _ ds => decide (uptoBulkAll ds ≤ 1048576)
def OpenSpec.upto (s : _root_.Go.ChangeSpec) : _root_.Go.OpenSpec := { _root_.Go.OpenSpec.ofChange s with cond := some uptoSmall }

/-- 'laws.FnExactConstants', WHERE WHAT IT READS IS OF BULK AT MOST 1048576: true; the input reads as it did. -/
def fnExactConstantsUptoRow : OpenClaim := { program := "ythaihdfkjhammaa", sum := "01a866b0f7a740f1f2043b7caa74422e33bc17bae47a406b91213a3006ef02cc", func := "loop.example/osier/laws.FnExactConstants", spec := "fnExactConstants", apart := false, narrowed := true }
def FnExactConstantsUptoSaid : Prop := fnExactConstantsUptoRow.holds Try.pinned (OpenSpec.upto fnExactConstantsSpec)

/-- 'laws.FnExactNetOk', WHERE WHAT IT READS IS OF BULK AT MOST 1048576: true; the input reads as it did. -/
def fnExactNetOkUptoRow : OpenClaim := { program := "ythaihdfkjhammaa", sum := "01a866b0f7a740f1f2043b7caa74422e33bc17bae47a406b91213a3006ef02cc", func := "loop.example/osier/laws.FnExactNetOk", spec := "fnExactNetOk", apart := false, narrowed := true }
def FnExactNetOkUptoSaid : Prop := fnExactNetOkUptoRow.holds Try.pinned (OpenSpec.upto fnExactNetOkSpec)

/-- 'laws.FnExactNetHas', WHERE WHAT IT READS IS OF BULK AT MOST 1048576: true; the input reads as it did. -/
def fnExactNetHasUptoRow : OpenClaim := { program := "ythaihdfkjhammaa", sum := "01a866b0f7a740f1f2043b7caa74422e33bc17bae47a406b91213a3006ef02cc", func := "loop.example/osier/laws.FnExactNetHas", spec := "fnExactNetHas", apart := false, narrowed := true }
def FnExactNetHasUptoSaid : Prop := fnExactNetHasUptoRow.holds Try.pinned (OpenSpec.upto fnExactNetHasSpec)

/-- 'laws.FnExactNetWithout', WHERE WHAT IT READS IS OF BULK AT MOST 1048576: true; the input reads as it did. -/
def fnExactNetWithoutUptoRow : OpenClaim := { program := "ythaihdfkjhammaa", sum := "01a866b0f7a740f1f2043b7caa74422e33bc17bae47a406b91213a3006ef02cc", func := "loop.example/osier/laws.FnExactNetWithout", spec := "fnExactNetWithout", apart := false, narrowed := true }
def FnExactNetWithoutUptoSaid : Prop := fnExactNetWithoutUptoRow.holds Try.pinned (OpenSpec.upto fnExactNetWithoutSpec)

/-- 'laws.FnExactWayOk', WHERE WHAT IT READS IS OF BULK AT MOST 1048576: true; the input reads as it did. -/
def fnExactWayOkUptoRow : OpenClaim := { program := "ythaihdfkjhammaa", sum := "01a866b0f7a740f1f2043b7caa74422e33bc17bae47a406b91213a3006ef02cc", func := "loop.example/osier/laws.FnExactWayOk", spec := "fnExactWayOk", apart := false, narrowed := true }
def FnExactWayOkUptoSaid : Prop := fnExactWayOkUptoRow.holds Try.pinned (OpenSpec.upto fnExactWayOkSpec)

/-- 'laws.FnExactNetCut', WHERE WHAT IT READS IS OF BULK AT MOST 1048576: true; the input reads as it did. -/
def fnExactNetCutUptoRow : OpenClaim := { program := "ythaihdfkjhammaa", sum := "01a866b0f7a740f1f2043b7caa74422e33bc17bae47a406b91213a3006ef02cc", func := "loop.example/osier/laws.FnExactNetCut", spec := "fnExactNetCut", apart := false, narrowed := true }
def FnExactNetCutUptoSaid : Prop := fnExactNetCutUptoRow.holds Try.pinned (OpenSpec.upto fnExactNetCutSpec)

/-- 'laws.FnNetHas', WHERE WHAT IT READS IS OF BULK AT MOST 1048576: true; the input reads as it did. -/
def fnNetHasUptoRow : OpenClaim := { program := "ythaihdfkjhammaa", sum := "01a866b0f7a740f1f2043b7caa74422e33bc17bae47a406b91213a3006ef02cc", func := "loop.example/osier/laws.FnNetHas", spec := "fnNetHas", apart := false, narrowed := true }
def FnNetHasUptoSaid : Prop := fnNetHasUptoRow.holds Try.pinned (OpenSpec.upto fnNetHasSpec)

/-- 'laws.FnExactWayCount', WHERE WHAT IT READS IS OF BULK AT MOST 1048576: true; the input reads as it did. -/
def fnExactWayCountUptoRow : OpenClaim := { program := "ythaihdfkjhammaa", sum := "01a866b0f7a740f1f2043b7caa74422e33bc17bae47a406b91213a3006ef02cc", func := "loop.example/osier/laws.FnExactWayCount", spec := "fnExactWayCount", apart := false, narrowed := true }
def FnExactWayCountUptoSaid : Prop := fnExactWayCountUptoRow.holds Try.pinned (OpenSpec.upto fnExactWayCountSpec)

/-- 'laws.FnNetWithout', WHERE WHAT IT READS IS OF BULK AT MOST 1048576: true; the input reads as it did. -/
def fnNetWithoutUptoRow : OpenClaim := { program := "ythaihdfkjhammaa", sum := "01a866b0f7a740f1f2043b7caa74422e33bc17bae47a406b91213a3006ef02cc", func := "loop.example/osier/laws.FnNetWithout", spec := "fnNetWithout", apart := false, narrowed := true }
def FnNetWithoutUptoSaid : Prop := fnNetWithoutUptoRow.holds Try.pinned (OpenSpec.upto fnNetWithoutSpec)

/-- 'laws.FnExactWayReach', WHERE WHAT IT READS IS OF BULK AT MOST 1048576: true; the input reads as it did. -/
def fnExactWayReachUptoRow : OpenClaim := { program := "ythaihdfkjhammaa", sum := "01a866b0f7a740f1f2043b7caa74422e33bc17bae47a406b91213a3006ef02cc", func := "loop.example/osier/laws.FnExactWayReach", spec := "fnExactWayReach", apart := false, narrowed := true }
def FnExactWayReachUptoSaid : Prop := fnExactWayReachUptoRow.holds Try.pinned (OpenSpec.upto fnExactWayReachSpec)

/-- 'laws.FnExactTreeOf', WHERE WHAT IT READS IS OF BULK AT MOST 1048576: true; the input reads as it did. -/
def fnExactTreeOfUptoRow : OpenClaim := { program := "ythaihdfkjhammaa", sum := "01a866b0f7a740f1f2043b7caa74422e33bc17bae47a406b91213a3006ef02cc", func := "loop.example/osier/laws.FnExactTreeOf", spec := "fnExactTreeOf", apart := false, narrowed := true }
def FnExactTreeOfUptoSaid : Prop := fnExactTreeOfUptoRow.holds Try.pinned (OpenSpec.upto fnExactTreeOfSpec)

end Rows
end Go.Proofs.Ythaihdfkjhammaa
