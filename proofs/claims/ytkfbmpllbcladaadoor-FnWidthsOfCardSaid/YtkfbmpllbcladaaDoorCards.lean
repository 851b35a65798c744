/-
  DERIVED. GIVEN WITH THE SEED: THE CARDS: each row of YtkfbmpllbcladaaDoorRows.lean that lists a variable, with what it lists TIED to the program's text (the seventh form; the later family's looks); each row that meets fmt, with fmt's text TOLD by the authors' own Lean function (tested against real Go, not proved from fmt's source: count such statements apart). THE CARD IS WHAT COUNTS. Prove the row's statement (the work); the ties are given (YtkfbmpllbcladaaDoorTie.lean); close each card by the builder's one call (the guide's Derived/Test/ToyasCard.lean, 'card_holds'). Laid BY PROGRAM, IN A SANDBOX (cutbox-door.mjs). By AI agents, Wed Nov 11 2026. No macro, syntax, notation, axiom, sorry.
-/
import Derived.Test.YtkfbmpllbcladaaDoorRows
import GoSem.ClaimSeven
namespace Go.Proofs.YtkfbmpllbcladaaDoor
namespace Rows

/-- THE TIED CARD OF 'laws.FnExactWidthsOf'. -/
def fnExactWidthsOfCard : Claim7 := { stood := { row := fnExactWidthsOfRow, standIns := [], harness := (true, "bd60b1780e37d58e523153c247f18159e79f52566aa31629ab71b96ea0c43aa1"), looks := false }, kinds := [], alts := [], laidByText := true, laidKinds := [.data, .pinned], laidTests := true, laidLooks := .later }
def FnExactWidthsOfCardSaid : Prop := Claim7.holds Tryd.pinned (.plain (OpenSpec.ofChange fnExactWidthsOfSpec)) fnExactWidthsOfCard

/-- THE TIED CARD OF 'laws.FnWidthsOf'. -/
def fnWidthsOfCard : Claim7 := { stood := { row := fnWidthsOfRow, standIns := [], harness := (true, "bd60b1780e37d58e523153c247f18159e79f52566aa31629ab71b96ea0c43aa1"), looks := false }, kinds := [], alts := [], laidByText := true, laidKinds := [.data, .pinned], laidTests := true, laidLooks := .later }
def FnWidthsOfCardSaid : Prop := Claim7.holds Tryd.pinned (.plain (OpenSpec.ofChange fnWidthsOfSpec)) fnWidthsOfCard

/-- THE SECOND FORM's CARD OF 'laws.FnExactWidthsOf'. -/
def fnExactWidthsOfUptoCard : Claim7 := { stood := { row := fnExactWidthsOfUptoRow, standIns := [], harness := (true, "bd60b1780e37d58e523153c247f18159e79f52566aa31629ab71b96ea0c43aa1"), looks := false }, kinds := [], alts := [], laidByText := true, laidKinds := [.data, .pinned], laidTests := true, laidLooks := .later }
def FnExactWidthsOfUptoCardSaid : Prop := Claim7.holds Tryd.pinned (.plain (OpenSpec.upto fnExactWidthsOfSpec)) fnExactWidthsOfUptoCard

/-- THE SECOND FORM's CARD OF 'laws.FnWidthsOf'. -/
def fnWidthsOfUptoCard : Claim7 := { stood := { row := fnWidthsOfUptoRow, standIns := [], harness := (true, "bd60b1780e37d58e523153c247f18159e79f52566aa31629ab71b96ea0c43aa1"), looks := false }, kinds := [], alts := [], laidByText := true, laidKinds := [.data, .pinned], laidTests := true, laidLooks := .later }
def FnWidthsOfUptoCardSaid : Prop := Claim7.holds Tryd.pinned (.plain (OpenSpec.upto fnWidthsOfSpec)) fnWidthsOfUptoCard
end Rows
end Go.Proofs.YtkfbmpllbcladaaDoor
