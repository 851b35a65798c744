/-
  DERIVED. GIVEN WITH THE SEED: THE CARDS: each row of YtmkcmkkpeimldaaDoorRows.lean that lists a variable, with what it lists TIED to the program's text (the seventh form; the later family's looks); each row that meets fmt, with fmt's text TOLD by the authors' own Lean function (tested against real Go, not proved from fmt's source: count such statements apart). THE CARD IS WHAT COUNTS. Prove the row's statement (the work); the ties are given (YtmkcmkkpeimldaaDoorTie.lean); close each card by the builder's one call (the guide's Derived/Test/ToyasCard.lean, 'card_holds'). Laid BY PROGRAM, IN A SANDBOX (cutbox-door.mjs). By AI agents, Wed Nov 11 2026. No macro, syntax, notation, axiom, sorry.
-/
import Derived.Test.YtmkcmkkpeimldaaDoorRows
import GoSem.ClaimSeven
namespace Go.Proofs.YtmkcmkkpeimldaaDoor
namespace Rows

/-- THE TIED CARD OF 'laws.FnExactValidPoly'. -/
def fnExactValidPolyCard : Claim7 := { stood := { row := fnExactValidPolyRow, standIns := [], harness := (true, "ab7808039e6870854edbda0d98afc8ccea464a7370256ab00cd2dbc306d72edb"), looks := false }, kinds := [], alts := [], laidByText := true, laidKinds := [.data, .pinned], laidTests := true, laidLooks := .later }
def FnExactValidPolyCardSaid : Prop := Claim7.holds Tryd.pinned (.plain (OpenSpec.ofChange fnExactValidPolySpec)) fnExactValidPolyCard

/-- THE TIED CARD OF 'laws.FnValidPoly'. -/
def fnValidPolyCard : Claim7 := { stood := { row := fnValidPolyRow, standIns := [], harness := (true, "ab7808039e6870854edbda0d98afc8ccea464a7370256ab00cd2dbc306d72edb"), looks := false }, kinds := [], alts := [], laidByText := true, laidKinds := [.data, .pinned], laidTests := true, laidLooks := .later }
def FnValidPolyCardSaid : Prop := Claim7.holds Tryd.pinned (.plain (OpenSpec.ofChange fnValidPolySpec)) fnValidPolyCard

/-- THE TIED CARD OF 'laws.FnExactRestOf'. -/
def fnExactRestOfCard : Claim7 := { stood := { row := fnExactRestOfRow, standIns := [], harness := (true, "ab7808039e6870854edbda0d98afc8ccea464a7370256ab00cd2dbc306d72edb"), looks := false }, kinds := [], alts := [], laidByText := true, laidKinds := [.data, .pinned], laidTests := true, laidLooks := .later }
def FnExactRestOfCardSaid : Prop := Claim7.holds Tryd.pinned (.plain (OpenSpec.ofChange fnExactRestOfSpec)) fnExactRestOfCard

/-- THE TIED CARD OF 'laws.FnRestOf'. -/
def fnRestOfCard : Claim7 := { stood := { row := fnRestOfRow, standIns := [], harness := (true, "ab7808039e6870854edbda0d98afc8ccea464a7370256ab00cd2dbc306d72edb"), looks := false }, kinds := [], alts := [], laidByText := true, laidKinds := [.data, .pinned], laidTests := true, laidLooks := .later }
def FnRestOfCardSaid : Prop := Claim7.holds Tryd.pinned (.plain (OpenSpec.ofChange fnRestOfSpec)) fnRestOfCard

/-- THE TIED CARD OF 'laws.FnExactIsSealed'. -/
def fnExactIsSealedCard : Claim7 := { stood := { row := fnExactIsSealedRow, standIns := [], harness := (true, "ab7808039e6870854edbda0d98afc8ccea464a7370256ab00cd2dbc306d72edb"), looks := false }, kinds := [], alts := [], laidByText := true, laidKinds := [.data, .pinned], laidTests := true, laidLooks := .later }
def FnExactIsSealedCardSaid : Prop := Claim7.holds Tryd.pinned (.plain (OpenSpec.ofChange fnExactIsSealedSpec)) fnExactIsSealedCard

/-- THE TIED CARD OF 'laws.FnIsSealed'. -/
def fnIsSealedCard : Claim7 := { stood := { row := fnIsSealedRow, standIns := [], harness := (true, "ab7808039e6870854edbda0d98afc8ccea464a7370256ab00cd2dbc306d72edb"), looks := false }, kinds := [], alts := [], laidByText := true, laidKinds := [.data, .pinned], laidTests := true, laidLooks := .later }
def FnIsSealedCardSaid : Prop := Claim7.holds Tryd.pinned (.plain (OpenSpec.ofChange fnIsSealedSpec)) fnIsSealedCard

/-- THE TIED CARD OF 'laws.FnExactSealBits'. -/
def fnExactSealBitsCard : Claim7 := { stood := { row := fnExactSealBitsRow, standIns := [], harness := (true, "ab7808039e6870854edbda0d98afc8ccea464a7370256ab00cd2dbc306d72edb"), looks := false }, kinds := [], alts := [], laidByText := true, laidKinds := [.data, .pinned], laidTests := true, laidLooks := .later }
def FnExactSealBitsCardSaid : Prop := Claim7.holds Tryd.pinned (.plain (OpenSpec.ofChange fnExactSealBitsSpec)) fnExactSealBitsCard

/-- THE TIED CARD OF 'laws.FnSealBits'. -/
def fnSealBitsCard : Claim7 := { stood := { row := fnSealBitsRow, standIns := [], harness := (true, "ab7808039e6870854edbda0d98afc8ccea464a7370256ab00cd2dbc306d72edb"), looks := false }, kinds := [], alts := [], laidByText := true, laidKinds := [.data, .pinned], laidTests := true, laidLooks := .later }
def FnSealBitsCardSaid : Prop := Claim7.holds Tryd.pinned (.plain (OpenSpec.ofChange fnSealBitsSpec)) fnSealBitsCard

/-- THE TIED CARD OF 'laws.FnExactCycleOf'. -/
def fnExactCycleOfCard : Claim7 := { stood := { row := fnExactCycleOfRow, standIns := [], harness := (true, "ab7808039e6870854edbda0d98afc8ccea464a7370256ab00cd2dbc306d72edb"), looks := false }, kinds := [], alts := [], laidByText := true, laidKinds := [.data, .pinned], laidTests := true, laidLooks := .later }
def FnExactCycleOfCardSaid : Prop := Claim7.holds Tryd.pinned (.plain (OpenSpec.ofChange fnExactCycleOfSpec)) fnExactCycleOfCard

/-- THE TIED CARD OF 'laws.FnCycleOf'. -/
def fnCycleOfCard : Claim7 := { stood := { row := fnCycleOfRow, standIns := [], harness := (true, "ab7808039e6870854edbda0d98afc8ccea464a7370256ab00cd2dbc306d72edb"), looks := false }, kinds := [], alts := [], laidByText := true, laidKinds := [.data, .pinned], laidTests := true, laidLooks := .later }
def FnCycleOfCardSaid : Prop := Claim7.holds Tryd.pinned (.plain (OpenSpec.ofChange fnCycleOfSpec)) fnCycleOfCard

/-- THE TIED CARD OF 'laws.FnExactBlindOf'. -/
def fnExactBlindOfCard : Claim7 := { stood := { row := fnExactBlindOfRow, standIns := [], harness := (true, "ab7808039e6870854edbda0d98afc8ccea464a7370256ab00cd2dbc306d72edb"), looks := false }, kinds := [], alts := [], laidByText := true, laidKinds := [.data, .pinned], laidTests := true, laidLooks := .later }
def FnExactBlindOfCardSaid : Prop := Claim7.holds Tryd.pinned (.plain (OpenSpec.ofChange fnExactBlindOfSpec)) fnExactBlindOfCard

/-- THE TIED CARD OF 'laws.FnBlindOf'. -/
def fnBlindOfCard : Claim7 := { stood := { row := fnBlindOfRow, standIns := [], harness := (true, "ab7808039e6870854edbda0d98afc8ccea464a7370256ab00cd2dbc306d72edb"), looks := false }, kinds := [], alts := [], laidByText := true, laidKinds := [.data, .pinned], laidTests := true, laidLooks := .later }
def FnBlindOfCardSaid : Prop := Claim7.holds Tryd.pinned (.plain (OpenSpec.ofChange fnBlindOfSpec)) fnBlindOfCard

/-- THE SECOND FORM's CARD OF 'laws.FnExactValidPoly'. -/
def fnExactValidPolyUptoCard : Claim7 := { stood := { row := fnExactValidPolyUptoRow, standIns := [], harness := (true, "ab7808039e6870854edbda0d98afc8ccea464a7370256ab00cd2dbc306d72edb"), looks := false }, kinds := [], alts := [], laidByText := true, laidKinds := [.data, .pinned], laidTests := true, laidLooks := .later }
def FnExactValidPolyUptoCardSaid : Prop := Claim7.holds Tryd.pinned (.plain (OpenSpec.upto fnExactValidPolySpec)) fnExactValidPolyUptoCard

/-- THE SECOND FORM's CARD OF 'laws.FnValidPoly'. -/
def fnValidPolyUptoCard : Claim7 := { stood := { row := fnValidPolyUptoRow, standIns := [], harness := (true, "ab7808039e6870854edbda0d98afc8ccea464a7370256ab00cd2dbc306d72edb"), looks := false }, kinds := [], alts := [], laidByText := true, laidKinds := [.data, .pinned], laidTests := true, laidLooks := .later }
def FnValidPolyUptoCardSaid : Prop := Claim7.holds Tryd.pinned (.plain (OpenSpec.upto fnValidPolySpec)) fnValidPolyUptoCard

/-- THE SECOND FORM's CARD OF 'laws.FnExactRestOf'. -/
def fnExactRestOfUptoCard : Claim7 := { stood := { row := fnExactRestOfUptoRow, standIns := [], harness := (true, "ab7808039e6870854edbda0d98afc8ccea464a7370256ab00cd2dbc306d72edb"), looks := false }, kinds := [], alts := [], laidByText := true, laidKinds := [.data, .pinned], laidTests := true, laidLooks := .later }
def FnExactRestOfUptoCardSaid : Prop := Claim7.holds Tryd.pinned (.plain (OpenSpec.upto fnExactRestOfSpec)) fnExactRestOfUptoCard

/-- THE SECOND FORM's CARD OF 'laws.FnRestOf'. -/
def fnRestOfUptoCard : Claim7 := { stood := { row := fnRestOfUptoRow, standIns := [], harness := (true, "ab7808039e6870854edbda0d98afc8ccea464a7370256ab00cd2dbc306d72edb"), looks := false }, kinds := [], alts := [], laidByText := true, laidKinds := [.data, .pinned], laidTests := true, laidLooks := .later }
def FnRestOfUptoCardSaid : Prop := Claim7.holds Tryd.pinned (.plain (OpenSpec.upto fnRestOfSpec)) fnRestOfUptoCard

/-- THE SECOND FORM's CARD OF 'laws.FnExactIsSealed'. -/
def fnExactIsSealedUptoCard : Claim7 := { stood := { row := fnExactIsSealedUptoRow, standIns := [], harness := (true, "ab7808039e6870854edbda0d98afc8ccea464a7370256ab00cd2dbc306d72edb"), looks := false }, kinds := [], alts := [], laidByText := true, laidKinds := [.data, .pinned], laidTests := true, laidLooks := .later }
def FnExactIsSealedUptoCardSaid : Prop := Claim7.holds Tryd.pinned (.plain (OpenSpec.upto fnExactIsSealedSpec)) fnExactIsSealedUptoCard

/-- THE SECOND FORM's CARD OF 'laws.FnIsSealed'. -/
def fnIsSealedUptoCard : Claim7 := { stood := { row := fnIsSealedUptoRow, standIns := [], harness := (true, "ab7808039e6870854edbda0d98afc8ccea464a7370256ab00cd2dbc306d72edb"), looks := false }, kinds := [], alts := [], laidByText := true, laidKinds := [.data, .pinned], laidTests := true, laidLooks := .later }
def FnIsSealedUptoCardSaid : Prop := Claim7.holds Tryd.pinned (.plain (OpenSpec.upto fnIsSealedSpec)) fnIsSealedUptoCard

/-- THE SECOND FORM's CARD OF 'laws.FnExactSealBits'. -/
def fnExactSealBitsUptoCard : Claim7 := { stood := { row := fnExactSealBitsUptoRow, standIns := [], harness := (true, "ab7808039e6870854edbda0d98afc8ccea464a7370256ab00cd2dbc306d72edb"), looks := false }, kinds := [], alts := [], laidByText := true, laidKinds := [.data, .pinned], laidTests := true, laidLooks := .later }
def FnExactSealBitsUptoCardSaid : Prop := Claim7.holds Tryd.pinned (.plain (OpenSpec.upto fnExactSealBitsSpec)) fnExactSealBitsUptoCard

/-- THE SECOND FORM's CARD OF 'laws.FnSealBits'. -/
def fnSealBitsUptoCard : Claim7 := { stood := { row := fnSealBitsUptoRow, standIns := [], harness := (true, "ab7808039e6870854edbda0d98afc8ccea464a7370256ab00cd2dbc306d72edb"), looks := false }, kinds := [], alts := [], laidByText := true, laidKinds := [.data, .pinned], laidTests := true, laidLooks := .later }
def FnSealBitsUptoCardSaid : Prop := Claim7.holds Tryd.pinned (.plain (OpenSpec.upto fnSealBitsSpec)) fnSealBitsUptoCard

/-- THE SECOND FORM's CARD OF 'laws.FnExactCycleOf'. -/
def fnExactCycleOfUptoCard : Claim7 := { stood := { row := fnExactCycleOfUptoRow, standIns := [], harness := (true, "ab7808039e6870854edbda0d98afc8ccea464a7370256ab00cd2dbc306d72edb"), looks := false }, kinds := [], alts := [], laidByText := true, laidKinds := [.data, .pinned], laidTests := true, laidLooks := .later }
def FnExactCycleOfUptoCardSaid : Prop := Claim7.holds Tryd.pinned (.plain (OpenSpec.upto fnExactCycleOfSpec)) fnExactCycleOfUptoCard

/-- THE SECOND FORM's CARD OF 'laws.FnCycleOf'. -/
def fnCycleOfUptoCard : Claim7 := { stood := { row := fnCycleOfUptoRow, standIns := [], harness := (true, "ab7808039e6870854edbda0d98afc8ccea464a7370256ab00cd2dbc306d72edb"), looks := false }, kinds := [], alts := [], laidByText := true, laidKinds := [.data, .pinned], laidTests := true, laidLooks := .later }
def FnCycleOfUptoCardSaid : Prop := Claim7.holds Tryd.pinned (.plain (OpenSpec.upto fnCycleOfSpec)) fnCycleOfUptoCard

/-- THE SECOND FORM's CARD OF 'laws.FnExactBlindOf'. -/
def fnExactBlindOfUptoCard : Claim7 := { stood := { row := fnExactBlindOfUptoRow, standIns := [], harness := (true, "ab7808039e6870854edbda0d98afc8ccea464a7370256ab00cd2dbc306d72edb"), looks := false }, kinds := [], alts := [], laidByText := true, laidKinds := [.data, .pinned], laidTests := true, laidLooks := .later }
def FnExactBlindOfUptoCardSaid : Prop := Claim7.holds Tryd.pinned (.plain (OpenSpec.upto fnExactBlindOfSpec)) fnExactBlindOfUptoCard

/-- THE SECOND FORM's CARD OF 'laws.FnBlindOf'. -/
def fnBlindOfUptoCard : Claim7 := { stood := { row := fnBlindOfUptoRow, standIns := [], harness := (true, "ab7808039e6870854edbda0d98afc8ccea464a7370256ab00cd2dbc306d72edb"), looks := false }, kinds := [], alts := [], laidByText := true, laidKinds := [.data, .pinned], laidTests := true, laidLooks := .later }
def FnBlindOfUptoCardSaid : Prop := Claim7.holds Tryd.pinned (.plain (OpenSpec.upto fnBlindOfSpec)) fnBlindOfUptoCard
end Rows
end Go.Proofs.YtmkcmkkpeimldaaDoor
