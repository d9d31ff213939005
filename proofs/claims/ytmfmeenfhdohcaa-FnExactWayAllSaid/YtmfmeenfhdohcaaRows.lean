/-
  No cell of these rows narrows 'for every input' (looked for: loops, veiled, ifaces, maps, wideKeys, modest, calm, conditions, laid).
  DERIVED. THE GIVEN ROWS OF THIS SEAT. 10 by the template 'for every input the law returns true; each argument reads behind the call as it read before'; 0 by the template 'total and deterministic' (their statements: YtmfmeenfhdohcaaTotals.lean).
  GIVEN WITH THE SEED: the statements are not yours to turn. If you find one false, say at which input.
  Laid BY PROGRAM, IN A SANDBOX (cutbox-rows.mjs): the forced cells as the released guide's own fill.sh prints them over the translation f17a8bff97a244c5… (all of the seat's roots in one cut). By AI agents, Wed Nov 11 2026. No macro, syntax, notation, axiom, sorry.
-/
import Derived.Test.YtmfmeenfhdohcaaChecked
import GoSem.Claim
import GoSem.ClaimJoined
import GoSem.ClaimMapViews
import Derived.JoinedTies
import Derived.KernelRfl
namespace Go.Proofs.Ytmfmeenfhdohcaa
/- THE CELL 'sum', in the pinned program and in every row, IS THE sha256 OF THE DUMP (.gsa) THAT YtmfmeenfhdohcaaProg.lean LOADS. Nothing in Lean hashes anything: it is a label: what it is worth is what the hold of that sum in a sandbox is worth. -/
noncomputable def Try.pinned : Pinned := { name := "ytmfmeenfhdohcaa", sum := "f17a8bff97a244c586114dfca19ad5fe5bd8bb2ccd4966526239a486c6743457", checked := Try.checked }
namespace Rows
def none {H : Type} : Left H := { results := [], args := [] }

/-- 'laws.FnExactWayFind': WHATEVER THE INPUT: true; the input reads as it did. -/
def fnExactWayFindSpec : ChangeSpec := { name := "fnExactWayFind", fn := fun _ => fun
  | [d1, d2, d3] => { results := [.lit (.bool true)], args := [d1, d2, d3] }
  | _ => none }
def fnExactWayFindRow : OpenClaim := { program := "ytmfmeenfhdohcaa", sum := "f17a8bff97a244c586114dfca19ad5fe5bd8bb2ccd4966526239a486c6743457", func := "loop.example/osier/laws.FnExactWayFind", spec := "fnExactWayFind", unfollowed := true, recurses := true, apart := false }
def FnExactWayFindSaid : Prop := fnExactWayFindRow.holds Try.pinned (OpenSpec.ofChange fnExactWayFindSpec)

/-- ITS FALSE NEIGHBOUR: 'it returns false'. Refute it at one input. -/
def fnExactWayFindWrong : ChangeSpec := { name := "fnExactWayFind", fn := fun _ => fun
  | [d1, d2, d3] => { results := [.lit (.bool false)], args := [d1, d2, d3] }
  | _ => none }
def FnExactWayFindWrongFalsely : Prop := fnExactWayFindRow.holds Try.pinned (OpenSpec.ofChange fnExactWayFindWrong)

/-- 'laws.FnExactWayAll': WHATEVER THE INPUT: true; the input reads as it did. -/
def fnExactWayAllSpec : ChangeSpec := { name := "fnExactWayAll", fn := fun _ => fun
  | [d1, d2, d3] => { results := [.lit (.bool true)], args := [d1, d2, d3] }
  | _ => none }
def fnExactWayAllRow : OpenClaim := { program := "ytmfmeenfhdohcaa", sum := "f17a8bff97a244c586114dfca19ad5fe5bd8bb2ccd4966526239a486c6743457", func := "loop.example/osier/laws.FnExactWayAll", spec := "fnExactWayAll", unfollowed := true, recurses := true, apart := false }
def FnExactWayAllSaid : Prop := fnExactWayAllRow.holds Try.pinned (OpenSpec.ofChange fnExactWayAllSpec)

/-- ITS FALSE NEIGHBOUR: 'it returns false'. Refute it at one input. -/
def fnExactWayAllWrong : ChangeSpec := { name := "fnExactWayAll", fn := fun _ => fun
  | [d1, d2, d3] => { results := [.lit (.bool false)], args := [d1, d2, d3] }
  | _ => none }
def FnExactWayAllWrongFalsely : Prop := fnExactWayAllRow.holds Try.pinned (OpenSpec.ofChange fnExactWayAllWrong)

/-- 'laws.FnWayPiece': WHATEVER THE INPUT: true; the input reads as it did. -/
def fnWayPieceSpec : ChangeSpec := { name := "fnWayPiece", fn := fun _ => fun
  | [d1, d2] => { results := [.lit (.bool true)], args := [d1, d2] }
  | _ => none }
def fnWayPieceRow : OpenClaim := { program := "ytmfmeenfhdohcaa", sum := "f17a8bff97a244c586114dfca19ad5fe5bd8bb2ccd4966526239a486c6743457", func := "loop.example/osier/laws.FnWayPiece", spec := "fnWayPiece", unfollowed := true, recurses := true, apart := false }
def FnWayPieceSaid : Prop := fnWayPieceRow.holds Try.pinned (OpenSpec.ofChange fnWayPieceSpec)

/-- ITS FALSE NEIGHBOUR: 'it returns false'. Refute it at one input. -/
def fnWayPieceWrong : ChangeSpec := { name := "fnWayPiece", fn := fun _ => fun
  | [d1, d2] => { results := [.lit (.bool false)], args := [d1, d2] }
  | _ => none }
def FnWayPieceWrongFalsely : Prop := fnWayPieceRow.holds Try.pinned (OpenSpec.ofChange fnWayPieceWrong)

/-- 'laws.FnWayThree': WHATEVER THE INPUT: true; the input reads as it did. -/
def fnWayThreeSpec : ChangeSpec := { name := "fnWayThree", fn := fun _ => fun
  | [d1, d2] => { results := [.lit (.bool true)], args := [d1, d2] }
  | _ => none }
def fnWayThreeRow : OpenClaim := { program := "ytmfmeenfhdohcaa", sum := "f17a8bff97a244c586114dfca19ad5fe5bd8bb2ccd4966526239a486c6743457", func := "loop.example/osier/laws.FnWayThree", spec := "fnWayThree", unfollowed := true, recurses := true, apart := false }
def FnWayThreeSaid : Prop := fnWayThreeRow.holds Try.pinned (OpenSpec.ofChange fnWayThreeSpec)

/-- ITS FALSE NEIGHBOUR: 'it returns false'. Refute it at one input. -/
def fnWayThreeWrong : ChangeSpec := { name := "fnWayThree", fn := fun _ => fun
  | [d1, d2] => { results := [.lit (.bool false)], args := [d1, d2] }
  | _ => none }
def FnWayThreeWrongFalsely : Prop := fnWayThreeRow.holds Try.pinned (OpenSpec.ofChange fnWayThreeWrong)

/-- 'laws.FnWayFar': WHATEVER THE INPUT: true; the input reads as it did. -/
def fnWayFarSpec : ChangeSpec := { name := "fnWayFar", fn := fun _ => fun
  | [d] => { results := [.lit (.bool true)], args := [d] }
  | _ => none }
def fnWayFarRow : OpenClaim := { program := "ytmfmeenfhdohcaa", sum := "f17a8bff97a244c586114dfca19ad5fe5bd8bb2ccd4966526239a486c6743457", func := "loop.example/osier/laws.FnWayFar", spec := "fnWayFar", unfollowed := true, recurses := true, apart := false }
def FnWayFarSaid : Prop := fnWayFarRow.holds Try.pinned (OpenSpec.ofChange fnWayFarSpec)

/-- ITS FALSE NEIGHBOUR: 'it returns false'. Refute it at one input. -/
def fnWayFarWrong : ChangeSpec := { name := "fnWayFar", fn := fun _ => fun
  | [d] => { results := [.lit (.bool false)], args := [d] }
  | _ => none }
def FnWayFarWrongFalsely : Prop := fnWayFarRow.holds Try.pinned (OpenSpec.ofChange fnWayFarWrong)

/-- 'laws.FnWayEvery': WHATEVER THE INPUT: true; the input reads as it did. -/
def fnWayEverySpec : ChangeSpec := { name := "fnWayEvery", fn := fun _ => fun
  | [d] => { results := [.lit (.bool true)], args := [d] }
  | _ => none }
def fnWayEveryRow : OpenClaim := { program := "ytmfmeenfhdohcaa", sum := "f17a8bff97a244c586114dfca19ad5fe5bd8bb2ccd4966526239a486c6743457", func := "loop.example/osier/laws.FnWayEvery", spec := "fnWayEvery", unfollowed := true, recurses := true, apart := false }
def FnWayEverySaid : Prop := fnWayEveryRow.holds Try.pinned (OpenSpec.ofChange fnWayEverySpec)

/-- ITS FALSE NEIGHBOUR: 'it returns false'. Refute it at one input. -/
def fnWayEveryWrong : ChangeSpec := { name := "fnWayEvery", fn := fun _ => fun
  | [d] => { results := [.lit (.bool false)], args := [d] }
  | _ => none }
def FnWayEveryWrongFalsely : Prop := fnWayEveryRow.holds Try.pinned (OpenSpec.ofChange fnWayEveryWrong)

/-- 'laws.FnWayShort': WHATEVER THE INPUT: true; the input reads as it did. -/
def fnWayShortSpec : ChangeSpec := { name := "fnWayShort", fn := fun _ => fun
  | [d] => { results := [.lit (.bool true)], args := [d] }
  | _ => none }
def fnWayShortRow : OpenClaim := { program := "ytmfmeenfhdohcaa", sum := "f17a8bff97a244c586114dfca19ad5fe5bd8bb2ccd4966526239a486c6743457", func := "loop.example/osier/laws.FnWayShort", spec := "fnWayShort", unfollowed := true, recurses := true, apart := false }
def FnWayShortSaid : Prop := fnWayShortRow.holds Try.pinned (OpenSpec.ofChange fnWayShortSpec)

/-- ITS FALSE NEIGHBOUR: 'it returns false'. Refute it at one input. -/
def fnWayShortWrong : ChangeSpec := { name := "fnWayShort", fn := fun _ => fun
  | [d] => { results := [.lit (.bool false)], args := [d] }
  | _ => none }
def FnWayShortWrongFalsely : Prop := fnWayShortRow.holds Try.pinned (OpenSpec.ofChange fnWayShortWrong)

/-- 'laws.FnWayAll': WHATEVER THE INPUT: true; the input reads as it did. -/
def fnWayAllSpec : ChangeSpec := { name := "fnWayAll", fn := fun _ => fun
  | [d] => { results := [.lit (.bool true)], args := [d] }
  | _ => none }
def fnWayAllRow : OpenClaim := { program := "ytmfmeenfhdohcaa", sum := "f17a8bff97a244c586114dfca19ad5fe5bd8bb2ccd4966526239a486c6743457", func := "loop.example/osier/laws.FnWayAll", spec := "fnWayAll", unfollowed := true, recurses := true, apart := false }
def FnWayAllSaid : Prop := fnWayAllRow.holds Try.pinned (OpenSpec.ofChange fnWayAllSpec)

/-- ITS FALSE NEIGHBOUR: 'it returns false'. Refute it at one input. -/
def fnWayAllWrong : ChangeSpec := { name := "fnWayAll", fn := fun _ => fun
  | [d] => { results := [.lit (.bool false)], args := [d] }
  | _ => none }
def FnWayAllWrongFalsely : Prop := fnWayAllRow.holds Try.pinned (OpenSpec.ofChange fnWayAllWrong)

/-- 'laws.FnWayMore': WHATEVER THE INPUT: true; the input reads as it did. -/
def fnWayMoreSpec : ChangeSpec := { name := "fnWayMore", fn := fun _ => fun
  | [d1, d2] => { results := [.lit (.bool true)], args := [d1, d2] }
  | _ => none }
def fnWayMoreRow : OpenClaim := { program := "ytmfmeenfhdohcaa", sum := "f17a8bff97a244c586114dfca19ad5fe5bd8bb2ccd4966526239a486c6743457", func := "loop.example/osier/laws.FnWayMore", spec := "fnWayMore", unfollowed := true, recurses := true, apart := false }
def FnWayMoreSaid : Prop := fnWayMoreRow.holds Try.pinned (OpenSpec.ofChange fnWayMoreSpec)

/-- ITS FALSE NEIGHBOUR: 'it returns false'. Refute it at one input. -/
def fnWayMoreWrong : ChangeSpec := { name := "fnWayMore", fn := fun _ => fun
  | [d1, d2] => { results := [.lit (.bool false)], args := [d1, d2] }
  | _ => none }
def FnWayMoreWrongFalsely : Prop := fnWayMoreRow.holds Try.pinned (OpenSpec.ofChange fnWayMoreWrong)

/-- 'laws.FnWayFind': WHATEVER THE INPUT: true; the input reads as it did. -/
def fnWayFindSpec : ChangeSpec := { name := "fnWayFind", fn := fun _ => fun
  | [d] => { results := [.lit (.bool true)], args := [d] }
  | _ => none }
def fnWayFindRow : OpenClaim := { program := "ytmfmeenfhdohcaa", sum := "f17a8bff97a244c586114dfca19ad5fe5bd8bb2ccd4966526239a486c6743457", func := "loop.example/osier/laws.FnWayFind", spec := "fnWayFind", unfollowed := true, recurses := true, apart := false }
def FnWayFindSaid : Prop := fnWayFindRow.holds Try.pinned (OpenSpec.ofChange fnWayFindSpec)

/-- ITS FALSE NEIGHBOUR: 'it returns false'. Refute it at one input. -/
def fnWayFindWrong : ChangeSpec := { name := "fnWayFind", fn := fun _ => fun
  | [d] => { results := [.lit (.bool false)], args := [d] }
  | _ => none }
def FnWayFindWrongFalsely : Prop := fnWayFindRow.holds Try.pinned (OpenSpec.ofChange fnWayFindWrong)

/- THE SECOND FORM. 'bulk': how many values and letters a reading holds, each counted each time it is reached (what is shared counts as often as it is met; a slice's spare places count too). A statement '..UptoSaid' is the law's where the arguments, and the package variables that the reading takes, are together of bulk at most 1048576: NARROWER than '..Said'. Prove '..Said' where nothing that the law and all that it calls make is longer than what came in: it says more and counts as full. Else prove '..UptoSaid'. A law counts once. -/
mutual
def uptoBulk {H : Type} : DataW H → Nat
  | .lit (.string bytes) => bytes.length + 1
  | .lit _ => 1
  | .nil => 1
  | .ptr d => uptoBulk d + 1
  | .slice elems spare => uptoBulkAll elems + uptoBulkAll spare + 1
  | .agg parts => uptoBulkAll parts + 1
  | .iface _ d => uptoBulk d + 1
  | .map entries => uptoBulkEntries entries + 1
  | .held _ => 1
def uptoBulkAll {H : Type} : List (DataW H) → Nat
  | [] => 0
  | d :: r => uptoBulk d + uptoBulkAll r
def uptoBulkEntries {H : Type} : List (Lit × DataW H) → Nat
  | [] => 0
  | x :: r => uptoBulkEntry x + uptoBulkEntries r
def uptoBulkEntry {H : Type} : Lit × DataW H → Nat
  | (.string bytes, d) => bytes.length + uptoBulk d + 1
  | (_, d) => uptoBulk d + 1
 end
def uptoSmall : (H : Type) → List (DataW H) → Bool := fun _ ds => decide (uptoBulkAll ds ≤ 1048576)
def OpenSpec.upto (s : _root_.Go.ChangeSpec) : _root_.Go.OpenSpec := { _root_.Go.OpenSpec.ofChange s with cond := some uptoSmall }

/-- 'laws.FnExactWayFind', WHERE WHAT IT READS IS OF BULK AT MOST 1048576: true; the input reads as it did. -/
def fnExactWayFindUptoRow : OpenClaim := { program := "ytmfmeenfhdohcaa", sum := "f17a8bff97a244c586114dfca19ad5fe5bd8bb2ccd4966526239a486c6743457", func := "loop.example/osier/laws.FnExactWayFind", spec := "fnExactWayFind", unfollowed := true, recurses := true, apart := false, narrowed := true }
def FnExactWayFindUptoSaid : Prop := fnExactWayFindUptoRow.holds Try.pinned (OpenSpec.upto fnExactWayFindSpec)

/-- 'laws.FnExactWayAll', WHERE WHAT IT READS IS OF BULK AT MOST 1048576: true; the input reads as it did. -/
def fnExactWayAllUptoRow : OpenClaim := { program := "ytmfmeenfhdohcaa", sum := "f17a8bff97a244c586114dfca19ad5fe5bd8bb2ccd4966526239a486c6743457", func := "loop.example/osier/laws.FnExactWayAll", spec := "fnExactWayAll", unfollowed := true, recurses := true, apart := false, narrowed := true }
def FnExactWayAllUptoSaid : Prop := fnExactWayAllUptoRow.holds Try.pinned (OpenSpec.upto fnExactWayAllSpec)

/-- 'laws.FnWayPiece', WHERE WHAT IT READS IS OF BULK AT MOST 1048576: true; the input reads as it did. -/
def fnWayPieceUptoRow : OpenClaim := { program := "ytmfmeenfhdohcaa", sum := "f17a8bff97a244c586114dfca19ad5fe5bd8bb2ccd4966526239a486c6743457", func := "loop.example/osier/laws.FnWayPiece", spec := "fnWayPiece", unfollowed := true, recurses := true, apart := false, narrowed := true }
def FnWayPieceUptoSaid : Prop := fnWayPieceUptoRow.holds Try.pinned (OpenSpec.upto fnWayPieceSpec)

/-- 'laws.FnWayThree', WHERE WHAT IT READS IS OF BULK AT MOST 1048576: true; the input reads as it did. -/
def fnWayThreeUptoRow : OpenClaim := { program := "ytmfmeenfhdohcaa", sum := "f17a8bff97a244c586114dfca19ad5fe5bd8bb2ccd4966526239a486c6743457", func := "loop.example/osier/laws.FnWayThree", spec := "fnWayThree", unfollowed := true, recurses := true, apart := false, narrowed := true }
def FnWayThreeUptoSaid : Prop := fnWayThreeUptoRow.holds Try.pinned (OpenSpec.upto fnWayThreeSpec)

/-- 'laws.FnWayFar', WHERE WHAT IT READS IS OF BULK AT MOST 1048576: true; the input reads as it did. -/
def fnWayFarUptoRow : OpenClaim := { program := "ytmfmeenfhdohcaa", sum := "f17a8bff97a244c586114dfca19ad5fe5bd8bb2ccd4966526239a486c6743457", func := "loop.example/osier/laws.FnWayFar", spec := "fnWayFar", unfollowed := true, recurses := true, apart := false, narrowed := true }
def FnWayFarUptoSaid : Prop := fnWayFarUptoRow.holds Try.pinned (OpenSpec.upto fnWayFarSpec)

/-- 'laws.FnWayEvery', WHERE WHAT IT READS IS OF BULK AT MOST 1048576: true; the input reads as it did. -/
def fnWayEveryUptoRow : OpenClaim := { program := "ytmfmeenfhdohcaa", sum := "f17a8bff97a244c586114dfca19ad5fe5bd8bb2ccd4966526239a486c6743457", func := "loop.example/osier/laws.FnWayEvery", spec := "fnWayEvery", unfollowed := true, recurses := true, apart := false, narrowed := true }
def FnWayEveryUptoSaid : Prop := fnWayEveryUptoRow.holds Try.pinned (OpenSpec.upto fnWayEverySpec)

/-- 'laws.FnWayShort', WHERE WHAT IT READS IS OF BULK AT MOST 1048576: true; the input reads as it did. -/
def fnWayShortUptoRow : OpenClaim := { program := "ytmfmeenfhdohcaa", sum := "f17a8bff97a244c586114dfca19ad5fe5bd8bb2ccd4966526239a486c6743457", func := "loop.example/osier/laws.FnWayShort", spec := "fnWayShort", unfollowed := true, recurses := true, apart := false, narrowed := true }
def FnWayShortUptoSaid : Prop := fnWayShortUptoRow.holds Try.pinned (OpenSpec.upto fnWayShortSpec)

/-- 'laws.FnWayAll', WHERE WHAT IT READS IS OF BULK AT MOST 1048576: true; the input reads as it did. -/
def fnWayAllUptoRow : OpenClaim := { program := "ytmfmeenfhdohcaa", sum := "f17a8bff97a244c586114dfca19ad5fe5bd8bb2ccd4966526239a486c6743457", func := "loop.example/osier/laws.FnWayAll", spec := "fnWayAll", unfollowed := true, recurses := true, apart := false, narrowed := true }
def FnWayAllUptoSaid : Prop := fnWayAllUptoRow.holds Try.pinned (OpenSpec.upto fnWayAllSpec)

/-- 'laws.FnWayMore', WHERE WHAT IT READS IS OF BULK AT MOST 1048576: true; the input reads as it did. -/
def fnWayMoreUptoRow : OpenClaim := { program := "ytmfmeenfhdohcaa", sum := "f17a8bff97a244c586114dfca19ad5fe5bd8bb2ccd4966526239a486c6743457", func := "loop.example/osier/laws.FnWayMore", spec := "fnWayMore", unfollowed := true, recurses := true, apart := false, narrowed := true }
def FnWayMoreUptoSaid : Prop := fnWayMoreUptoRow.holds Try.pinned (OpenSpec.upto fnWayMoreSpec)

/-- 'laws.FnWayFind', WHERE WHAT IT READS IS OF BULK AT MOST 1048576: true; the input reads as it did. -/
def fnWayFindUptoRow : OpenClaim := { program := "ytmfmeenfhdohcaa", sum := "f17a8bff97a244c586114dfca19ad5fe5bd8bb2ccd4966526239a486c6743457", func := "loop.example/osier/laws.FnWayFind", spec := "fnWayFind", unfollowed := true, recurses := true, apart := false, narrowed := true }
def FnWayFindUptoSaid : Prop := fnWayFindUptoRow.holds Try.pinned (OpenSpec.upto fnWayFindSpec)

end Rows
end Go.Proofs.Ytmfmeenfhdohcaa
