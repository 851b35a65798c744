/-
  DERIVED. GIVEN WITH THE SEED: THE CARDS: each row of YtbgchgjefohpoaaDoorRows.lean that lists a variable, with what it lists TIED to the program's text (the seventh form; the later family's looks); each row that meets fmt, with fmt's text TOLD by the authors' own Lean function (tested against real Go, not proved from fmt's source: count such statements apart). THE CARD IS WHAT COUNTS. Prove the row's statement (the work); the ties are given (YtbgchgjefohpoaaDoorTie.lean); close each card by the builder's one call (the guide's Derived/Test/ToyasCard.lean, 'card_holds'). Laid BY PROGRAM, IN A SANDBOX (cutbox-door.mjs). By AI agents, Wed Nov 11 2026. No macro, syntax, notation, axiom, sorry.
-/
import Derived.Test.YtbgchgjefohpoaaDoorRows
import GoSem.ClaimSeven
namespace Go.Proofs.YtbgchgjefohpoaaDoor
namespace Rows

/-- THE TIED CARD OF 'laws.FnExactValidBits'. -/
def fnExactValidBitsCard : Claim7 := { stood := { row := fnExactValidBitsRow, standIns := [], harness := (true, "d3523e26db23549abc8b061374f49f8f3fa721e61b19829d00d6e74601c133f2"), looks := false }, kinds := [], alts := [], laidByText := true, laidKinds := [.data, .pinned], laidTests := true, laidLooks := .later }
def FnExactValidBitsCardSaid : Prop := Claim7.holds Tryd.pinned (.plain (OpenSpec.ofChange fnExactValidBitsSpec)) fnExactValidBitsCard

/-- THE TIED CARD OF 'laws.FnValidBits'. -/
def fnValidBitsCard : Claim7 := { stood := { row := fnValidBitsRow, standIns := [], harness := (true, "d3523e26db23549abc8b061374f49f8f3fa721e61b19829d00d6e74601c133f2"), looks := false }, kinds := [], alts := [], laidByText := true, laidKinds := [.data, .pinned], laidTests := true, laidLooks := .later }
def FnValidBitsCardSaid : Prop := Claim7.holds Tryd.pinned (.plain (OpenSpec.ofChange fnValidBitsSpec)) fnValidBitsCard

/-- THE TIED CARD OF 'laws.FnExactStuffBits'. -/
def fnExactStuffBitsCard : Claim7 := { stood := { row := fnExactStuffBitsRow, standIns := [], harness := (true, "d3523e26db23549abc8b061374f49f8f3fa721e61b19829d00d6e74601c133f2"), looks := false }, kinds := [], alts := [], laidByText := true, laidKinds := [.data, .pinned], laidTests := true, laidLooks := .later }
def FnExactStuffBitsCardSaid : Prop := Claim7.holds Tryd.pinned (.plain (OpenSpec.ofChange fnExactStuffBitsSpec)) fnExactStuffBitsCard

/-- THE TIED CARD OF 'laws.FnStuffBits'. -/
def fnStuffBitsCard : Claim7 := { stood := { row := fnStuffBitsRow, standIns := [], harness := (true, "d3523e26db23549abc8b061374f49f8f3fa721e61b19829d00d6e74601c133f2"), looks := false }, kinds := [], alts := [], laidByText := true, laidKinds := [.data, .pinned], laidTests := true, laidLooks := .later }
def FnStuffBitsCardSaid : Prop := Claim7.holds Tryd.pinned (.plain (OpenSpec.ofChange fnStuffBitsSpec)) fnStuffBitsCard

/-- THE TIED CARD OF 'laws.FnExactUnstuffBits'. -/
def fnExactUnstuffBitsCard : Claim7 := { stood := { row := fnExactUnstuffBitsRow, standIns := [], harness := (true, "d3523e26db23549abc8b061374f49f8f3fa721e61b19829d00d6e74601c133f2"), looks := false }, kinds := [], alts := [], laidByText := true, laidKinds := [.data, .pinned], laidTests := true, laidLooks := .later }
def FnExactUnstuffBitsCardSaid : Prop := Claim7.holds Tryd.pinned (.plain (OpenSpec.ofChange fnExactUnstuffBitsSpec)) fnExactUnstuffBitsCard

/-- THE TIED CARD OF 'laws.FnUnstuffBits'. -/
def fnUnstuffBitsCard : Claim7 := { stood := { row := fnUnstuffBitsRow, standIns := [], harness := (true, "d3523e26db23549abc8b061374f49f8f3fa721e61b19829d00d6e74601c133f2"), looks := false }, kinds := [], alts := [], laidByText := true, laidKinds := [.data, .pinned], laidTests := true, laidLooks := .later }
def FnUnstuffBitsCardSaid : Prop := Claim7.holds Tryd.pinned (.plain (OpenSpec.ofChange fnUnstuffBitsSpec)) fnUnstuffBitsCard

/-- THE TIED CARD OF 'laws.FnExactFlagFrames'. -/
def fnExactFlagFramesCard : Claim7 := { stood := { row := fnExactFlagFramesRow, standIns := [], harness := (true, "d3523e26db23549abc8b061374f49f8f3fa721e61b19829d00d6e74601c133f2"), looks := false }, kinds := [], alts := [], laidByText := true, laidKinds := [.data, .pinned], laidTests := true, laidLooks := .later }
def FnExactFlagFramesCardSaid : Prop := Claim7.holds Tryd.pinned (.plain (OpenSpec.ofChange fnExactFlagFramesSpec)) fnExactFlagFramesCard

/-- THE TIED CARD OF 'laws.FnFlagFrames'. -/
def fnFlagFramesCard : Claim7 := { stood := { row := fnFlagFramesRow, standIns := [], harness := (true, "d3523e26db23549abc8b061374f49f8f3fa721e61b19829d00d6e74601c133f2"), looks := false }, kinds := [], alts := [], laidByText := true, laidKinds := [.data, .pinned], laidTests := true, laidLooks := .later }
def FnFlagFramesCardSaid : Prop := Claim7.holds Tryd.pinned (.plain (OpenSpec.ofChange fnFlagFramesSpec)) fnFlagFramesCard

/-- THE TIED CARD OF 'laws.FnExactFindFrames'. -/
def fnExactFindFramesCard : Claim7 := { stood := { row := fnExactFindFramesRow, standIns := [], harness := (true, "d3523e26db23549abc8b061374f49f8f3fa721e61b19829d00d6e74601c133f2"), looks := false }, kinds := [], alts := [], laidByText := true, laidKinds := [.data, .pinned], laidTests := true, laidLooks := .later }
def FnExactFindFramesCardSaid : Prop := Claim7.holds Tryd.pinned (.plain (OpenSpec.ofChange fnExactFindFramesSpec)) fnExactFindFramesCard

/-- THE TIED CARD OF 'laws.FnFindFrames'. -/
def fnFindFramesCard : Claim7 := { stood := { row := fnFindFramesRow, standIns := [], harness := (true, "d3523e26db23549abc8b061374f49f8f3fa721e61b19829d00d6e74601c133f2"), looks := false }, kinds := [], alts := [], laidByText := true, laidKinds := [.data, .pinned], laidTests := true, laidLooks := .later }
def FnFindFramesCardSaid : Prop := Claim7.holds Tryd.pinned (.plain (OpenSpec.ofChange fnFindFramesSpec)) fnFindFramesCard

/-- THE SECOND FORM's CARD OF 'laws.FnExactValidBits'. -/
def fnExactValidBitsUptoCard : Claim7 := { stood := { row := fnExactValidBitsUptoRow, standIns := [], harness := (true, "d3523e26db23549abc8b061374f49f8f3fa721e61b19829d00d6e74601c133f2"), looks := false }, kinds := [], alts := [], laidByText := true, laidKinds := [.data, .pinned], laidTests := true, laidLooks := .later }
def FnExactValidBitsUptoCardSaid : Prop := Claim7.holds Tryd.pinned (.plain (OpenSpec.upto fnExactValidBitsSpec)) fnExactValidBitsUptoCard

/-- THE SECOND FORM's CARD OF 'laws.FnValidBits'. -/
def fnValidBitsUptoCard : Claim7 := { stood := { row := fnValidBitsUptoRow, standIns := [], harness := (true, "d3523e26db23549abc8b061374f49f8f3fa721e61b19829d00d6e74601c133f2"), looks := false }, kinds := [], alts := [], laidByText := true, laidKinds := [.data, .pinned], laidTests := true, laidLooks := .later }
def FnValidBitsUptoCardSaid : Prop := Claim7.holds Tryd.pinned (.plain (OpenSpec.upto fnValidBitsSpec)) fnValidBitsUptoCard

/-- THE SECOND FORM's CARD OF 'laws.FnExactStuffBits'. -/
def fnExactStuffBitsUptoCard : Claim7 := { stood := { row := fnExactStuffBitsUptoRow, standIns := [], harness := (true, "d3523e26db23549abc8b061374f49f8f3fa721e61b19829d00d6e74601c133f2"), looks := false }, kinds := [], alts := [], laidByText := true, laidKinds := [.data, .pinned], laidTests := true, laidLooks := .later }
def FnExactStuffBitsUptoCardSaid : Prop := Claim7.holds Tryd.pinned (.plain (OpenSpec.upto fnExactStuffBitsSpec)) fnExactStuffBitsUptoCard

/-- THE SECOND FORM's CARD OF 'laws.FnStuffBits'. -/
def fnStuffBitsUptoCard : Claim7 := { stood := { row := fnStuffBitsUptoRow, standIns := [], harness := (true, "d3523e26db23549abc8b061374f49f8f3fa721e61b19829d00d6e74601c133f2"), looks := false }, kinds := [], alts := [], laidByText := true, laidKinds := [.data, .pinned], laidTests := true, laidLooks := .later }
def FnStuffBitsUptoCardSaid : Prop := Claim7.holds Tryd.pinned (.plain (OpenSpec.upto fnStuffBitsSpec)) fnStuffBitsUptoCard

/-- THE SECOND FORM's CARD OF 'laws.FnExactUnstuffBits'. -/
def fnExactUnstuffBitsUptoCard : Claim7 := { stood := { row := fnExactUnstuffBitsUptoRow, standIns := [], harness := (true, "d3523e26db23549abc8b061374f49f8f3fa721e61b19829d00d6e74601c133f2"), looks := false }, kinds := [], alts := [], laidByText := true, laidKinds := [.data, .pinned], laidTests := true, laidLooks := .later }
def FnExactUnstuffBitsUptoCardSaid : Prop := Claim7.holds Tryd.pinned (.plain (OpenSpec.upto fnExactUnstuffBitsSpec)) fnExactUnstuffBitsUptoCard

/-- THE SECOND FORM's CARD OF 'laws.FnUnstuffBits'. -/
def fnUnstuffBitsUptoCard : Claim7 := { stood := { row := fnUnstuffBitsUptoRow, standIns := [], harness := (true, "d3523e26db23549abc8b061374f49f8f3fa721e61b19829d00d6e74601c133f2"), looks := false }, kinds := [], alts := [], laidByText := true, laidKinds := [.data, .pinned], laidTests := true, laidLooks := .later }
def FnUnstuffBitsUptoCardSaid : Prop := Claim7.holds Tryd.pinned (.plain (OpenSpec.upto fnUnstuffBitsSpec)) fnUnstuffBitsUptoCard

/-- THE SECOND FORM's CARD OF 'laws.FnExactFlagFrames'. -/
def fnExactFlagFramesUptoCard : Claim7 := { stood := { row := fnExactFlagFramesUptoRow, standIns := [], harness := (true, "d3523e26db23549abc8b061374f49f8f3fa721e61b19829d00d6e74601c133f2"), looks := false }, kinds := [], alts := [], laidByText := true, laidKinds := [.data, .pinned], laidTests := true, laidLooks := .later }
def FnExactFlagFramesUptoCardSaid : Prop := Claim7.holds Tryd.pinned (.plain (OpenSpec.upto fnExactFlagFramesSpec)) fnExactFlagFramesUptoCard

/-- THE SECOND FORM's CARD OF 'laws.FnFlagFrames'. -/
def fnFlagFramesUptoCard : Claim7 := { stood := { row := fnFlagFramesUptoRow, standIns := [], harness := (true, "d3523e26db23549abc8b061374f49f8f3fa721e61b19829d00d6e74601c133f2"), looks := false }, kinds := [], alts := [], laidByText := true, laidKinds := [.data, .pinned], laidTests := true, laidLooks := .later }
def FnFlagFramesUptoCardSaid : Prop := Claim7.holds Tryd.pinned (.plain (OpenSpec.upto fnFlagFramesSpec)) fnFlagFramesUptoCard

/-- THE SECOND FORM's CARD OF 'laws.FnExactFindFrames'. -/
def fnExactFindFramesUptoCard : Claim7 := { stood := { row := fnExactFindFramesUptoRow, standIns := [], harness := (true, "d3523e26db23549abc8b061374f49f8f3fa721e61b19829d00d6e74601c133f2"), looks := false }, kinds := [], alts := [], laidByText := true, laidKinds := [.data, .pinned], laidTests := true, laidLooks := .later }
def FnExactFindFramesUptoCardSaid : Prop := Claim7.holds Tryd.pinned (.plain (OpenSpec.upto fnExactFindFramesSpec)) fnExactFindFramesUptoCard

/-- THE SECOND FORM's CARD OF 'laws.FnFindFrames'. -/
def fnFindFramesUptoCard : Claim7 := { stood := { row := fnFindFramesUptoRow, standIns := [], harness := (true, "d3523e26db23549abc8b061374f49f8f3fa721e61b19829d00d6e74601c133f2"), looks := false }, kinds := [], alts := [], laidByText := true, laidKinds := [.data, .pinned], laidTests := true, laidLooks := .later }
def FnFindFramesUptoCardSaid : Prop := Claim7.holds Tryd.pinned (.plain (OpenSpec.upto fnFindFramesSpec)) fnFindFramesUptoCard
end Rows
end Go.Proofs.YtbgchgjefohpoaaDoor
