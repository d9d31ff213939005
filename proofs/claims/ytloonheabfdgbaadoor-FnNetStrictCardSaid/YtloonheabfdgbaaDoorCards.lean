/-
  DERIVED. GIVEN WITH THE SEED: THE CARDS: each row of YtloonheabfdgbaaDoorRows.lean that lists a variable, with what it lists TIED to the program's text (the seventh form; the later family's looks); each row that meets fmt, with fmt's text TOLD by the authors' own Lean function (tested against real Go, not proved from fmt's source: count such statements apart). THE CARD IS WHAT COUNTS. Prove the row's statement (the work); the ties are given (YtloonheabfdgbaaDoorTie.lean); close each card by the builder's one call (the guide's Derived/Test/ToyasCard.lean, 'card_holds'). Laid BY PROGRAM, IN A SANDBOX (cutbox-door.mjs). By AI agents, Wed Nov 11 2026. No macro, syntax, notation, axiom, sorry.
-/
import Derived.Test.YtloonheabfdgbaaDoorRows
import GoSem.ClaimSeven
namespace Go.Proofs.YtloonheabfdgbaaDoor
namespace Rows

/-- THE TIED CARD OF 'laws.FnExactNetRead'. -/
def fnExactNetReadCard : Claim7 := { stood := { row := fnExactNetReadRow, standIns := [], harness := (true, "91f0a8ab8c88f898a2b929cc46fc666799255f5133729276f66c25a2c5561904"), looks := true }, kinds := [], alts := [], laidByText := true, laidKinds := [.data, .data, .data, .data, .sentinel, .sentinel, .pinned], laidTests := true, laidLooks := .later }
def FnExactNetReadCardSaid : Prop := Claim7.holds Tryd.pinned (.plain (OpenSpec.ofChange fnExactNetReadSpec)) fnExactNetReadCard

/-- THE TIED CARD OF 'laws.FnNetBack'. -/
def fnNetBackCard : Claim7 := { stood := { row := fnNetBackRow, standIns := [], harness := (true, "91f0a8ab8c88f898a2b929cc46fc666799255f5133729276f66c25a2c5561904"), looks := true }, kinds := [], alts := [], laidByText := true, laidKinds := [.data, .data, .data, .data, .sentinel, .sentinel, .pinned], laidTests := true, laidLooks := .later }
def FnNetBackCardSaid : Prop := Claim7.holds Tryd.pinned (.plain (OpenSpec.ofChange fnNetBackSpec)) fnNetBackCard

/-- THE TIED CARD OF 'laws.FnNetStrict'. -/
def fnNetStrictCard : Claim7 := { stood := { row := fnNetStrictRow, standIns := [], harness := (true, "91f0a8ab8c88f898a2b929cc46fc666799255f5133729276f66c25a2c5561904"), looks := true }, kinds := [], alts := [], laidByText := true, laidKinds := [.data, .data, .data, .data, .sentinel, .sentinel, .pinned], laidTests := true, laidLooks := .later }
def FnNetStrictCardSaid : Prop := Claim7.holds Tryd.pinned (.plain (OpenSpec.ofChange fnNetStrictSpec)) fnNetStrictCard

/-- THE TIED CARD OF 'laws.FnExactNetWrite'. -/
def fnExactNetWriteCard : Claim7 := { stood := { row := fnExactNetWriteRow, standIns := [], harness := (true, "91f0a8ab8c88f898a2b929cc46fc666799255f5133729276f66c25a2c5561904"), looks := true }, kinds := [], alts := [], laidByText := true, laidKinds := [.data, .data, .data], laidTests := true, laidLooks := .later }
def FnExactNetWriteCardSaid : Prop := Claim7.holds Tryd.pinned (.plain (OpenSpec.ofChange fnExactNetWriteSpec)) fnExactNetWriteCard

/-- THE TIED CARD OF 'laws.FnNetOne'. -/
def fnNetOneCard : Claim7 := { stood := { row := fnNetOneRow, standIns := [], harness := (true, "91f0a8ab8c88f898a2b929cc46fc666799255f5133729276f66c25a2c5561904"), looks := true }, kinds := [], alts := [], laidByText := true, laidKinds := [.data, .data, .data], laidTests := true, laidLooks := .later }
def FnNetOneCardSaid : Prop := Claim7.holds Tryd.pinned (.plain (OpenSpec.ofChange fnNetOneSpec)) fnNetOneCard

/-- THE SECOND FORM's CARD OF 'laws.FnExactNetRead'. -/
def fnExactNetReadUptoCard : Claim7 := { stood := { row := fnExactNetReadUptoRow, standIns := [], harness := (true, "91f0a8ab8c88f898a2b929cc46fc666799255f5133729276f66c25a2c5561904"), looks := true }, kinds := [], alts := [], laidByText := true, laidKinds := [.data, .data, .data, .data, .sentinel, .sentinel, .pinned], laidTests := true, laidLooks := .later }
def FnExactNetReadUptoCardSaid : Prop := Claim7.holds Tryd.pinned (.plain (OpenSpec.upto fnExactNetReadSpec)) fnExactNetReadUptoCard

/-- THE SECOND FORM's CARD OF 'laws.FnNetBack'. -/
def fnNetBackUptoCard : Claim7 := { stood := { row := fnNetBackUptoRow, standIns := [], harness := (true, "91f0a8ab8c88f898a2b929cc46fc666799255f5133729276f66c25a2c5561904"), looks := true }, kinds := [], alts := [], laidByText := true, laidKinds := [.data, .data, .data, .data, .sentinel, .sentinel, .pinned], laidTests := true, laidLooks := .later }
def FnNetBackUptoCardSaid : Prop := Claim7.holds Tryd.pinned (.plain (OpenSpec.upto fnNetBackSpec)) fnNetBackUptoCard

/-- THE SECOND FORM's CARD OF 'laws.FnNetStrict'. -/
def fnNetStrictUptoCard : Claim7 := { stood := { row := fnNetStrictUptoRow, standIns := [], harness := (true, "91f0a8ab8c88f898a2b929cc46fc666799255f5133729276f66c25a2c5561904"), looks := true }, kinds := [], alts := [], laidByText := true, laidKinds := [.data, .data, .data, .data, .sentinel, .sentinel, .pinned], laidTests := true, laidLooks := .later }
def FnNetStrictUptoCardSaid : Prop := Claim7.holds Tryd.pinned (.plain (OpenSpec.upto fnNetStrictSpec)) fnNetStrictUptoCard

/-- THE SECOND FORM's CARD OF 'laws.FnExactNetWrite'. -/
def fnExactNetWriteUptoCard : Claim7 := { stood := { row := fnExactNetWriteUptoRow, standIns := [], harness := (true, "91f0a8ab8c88f898a2b929cc46fc666799255f5133729276f66c25a2c5561904"), looks := true }, kinds := [], alts := [], laidByText := true, laidKinds := [.data, .data, .data], laidTests := true, laidLooks := .later }
def FnExactNetWriteUptoCardSaid : Prop := Claim7.holds Tryd.pinned (.plain (OpenSpec.upto fnExactNetWriteSpec)) fnExactNetWriteUptoCard

/-- THE SECOND FORM's CARD OF 'laws.FnNetOne'. -/
def fnNetOneUptoCard : Claim7 := { stood := { row := fnNetOneUptoRow, standIns := [], harness := (true, "91f0a8ab8c88f898a2b929cc46fc666799255f5133729276f66c25a2c5561904"), looks := true }, kinds := [], alts := [], laidByText := true, laidKinds := [.data, .data, .data], laidTests := true, laidLooks := .later }
def FnNetOneUptoCardSaid : Prop := Claim7.holds Tryd.pinned (.plain (OpenSpec.upto fnNetOneSpec)) fnNetOneUptoCard
end Rows
end Go.Proofs.YtloonheabfdgbaaDoor
