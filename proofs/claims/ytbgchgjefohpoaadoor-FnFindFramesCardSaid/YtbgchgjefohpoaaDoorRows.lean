/-
  NARROWER THAN 'FOR EVERY INPUT', by the rows' own cells (each row's printed sentence says how): FnExactValidBits: laid · FnValidBits: laid · FnExactStuffBits: laid · FnStuffBits: laid · FnExactUnstuffBits: laid · FnUnstuffBits: laid · FnExactFlagFrames: laid · FnFlagFrames: laid · FnExactFindFrames: laid · FnFindFrames: laid.
  DERIVED. THE GIVEN ROWS OF THIS SEAT. 10 by the template 'for every input the law returns true; each argument reads behind the call as it read before'; 0 by the template 'total and deterministic' (their statements: YtbgchgjefohpoaaDoorTotals.lean).
  GIVEN WITH THE SEED: the statements are not yours to turn. If you find one false, say at which input.
  Laid BY PROGRAM, IN A SANDBOX (cutbox-rows.mjs): the forced cells as the released guide's own fill.sh prints them over the translation a988b1c7defde1ad… (all of the seat's roots in one cut). By AI agents, Wed Nov 11 2026. No macro, syntax, notation, axiom, sorry.
-/
import Derived.Test.YtbgchgjefohpoaaDoorChecked
import GoSem.PinnedTables
import GoSem.Claim
import GoSem.ClaimJoined
import GoSem.ClaimMapViews
import Derived.JoinedTies
import Derived.KernelRfl
namespace Go.Proofs.YtbgchgjefohpoaaDoor
/- THE CELL 'sum', in the pinned program and in every row, IS THE sha256 OF THE DUMP (.gsa) THAT YtbgchgjefohpoaaDoorProg.lean LOADS. Nothing in Lean hashes anything: it is a label: what it is worth is what the hold of that sum in a sandbox is worth. -/
noncomputable def Tryd.pinned : Pinned := { name := "ytbgchgjefohpoaadoor", sum := "a988b1c7defde1ad9c0f6e221664125fdb917b53500ca712615241c7dcb52001", checked := Tryd.checked }
namespace Rows
def none {H : Type} : Left H := { results := [], args := [] }

/- WHAT THE LISTED PACKAGE-LEVEL VARIABLES READ AS WHEN THE CALL BEGINS. Each datum BY PROGRAM (the guide's laid-datum.mjs) off the statement by which the dump's own 'gosem.cut.vars' lays the variable. In a bare row this is a premise. The card (YtbgchgjefohpoaaDoorCards.lean) ties it to the program's text. -/
def laid_unicode_utf8_acceptRanges {H : Type} : DataW H := .agg [.agg [.lit (.int .u8 128), .lit (.int .u8 191)], .agg [.lit (.int .u8 160), .lit (.int .u8 191)], .agg [.lit (.int .u8 128), .lit (.int .u8 159)], .agg [.lit (.int .u8 144), .lit (.int .u8 191)], .agg [.lit (.int .u8 128), .lit (.int .u8 143)], .agg [.lit (.int .u8 0), .lit (.int .u8 0)], .agg [.lit (.int .u8 0), .lit (.int .u8 0)], .agg [.lit (.int .u8 0), .lit (.int .u8 0)], .agg [.lit (.int .u8 0), .lit (.int .u8 0)], .agg [.lit (.int .u8 0), .lit (.int .u8 0)], .agg [.lit (.int .u8 0), .lit (.int .u8 0)], .agg [.lit (.int .u8 0), .lit (.int .u8 0)], .agg [.lit (.int .u8 0), .lit (.int .u8 0)], .agg [.lit (.int .u8 0), .lit (.int .u8 0)], .agg [.lit (.int .u8 0), .lit (.int .u8 0)], .agg [.lit (.int .u8 0), .lit (.int .u8 0)]]
/-- One of Go's own tables, pinned by name: the form's constant. -/
def laid_unicode_utf8_first : DataW Unit := Go.Pinned.utf8First

/-- 'laws.FnExactValidBits': WHATEVER THE INPUT: true; the input reads as it did. -/
def fnExactValidBitsSpec : ChangeSpec := { name := "fnExactValidBits", fn := fun _ => fun
  | [d] => { results := [.lit (.bool true)], args := [d] }
  | _ => none }
def fnExactValidBitsRow : OpenClaim := { program := "ytbgchgjefohpoaadoor", sum := "a988b1c7defde1ad9c0f6e221664125fdb917b53500ca712615241c7dcb52001", func := "loop.example/linksandframes/laws.FnExactValidBits", spec := "fnExactValidBits", inPlace := ["internal/bytealg.IndexByteString", "internal/bytealg.IndexString"], named := ["unicode/utf8.first", "unicode/utf8.acceptRanges", "internal/bytealg.MaxLen"], apart := false, laid := [("unicode/utf8.acceptRanges", laid_unicode_utf8_acceptRanges), ("unicode/utf8.first", laid_unicode_utf8_first)] }
def FnExactValidBitsSaid : Prop := fnExactValidBitsRow.holds Tryd.pinned (OpenSpec.ofChange fnExactValidBitsSpec)

/-- ITS FALSE NEIGHBOUR: 'it returns false'. Refute it at one input. -/
def fnExactValidBitsWrong : ChangeSpec := { name := "fnExactValidBits", fn := fun _ => fun
  | [d] => { results := [.lit (.bool false)], args := [d] }
  | _ => none }
def FnExactValidBitsWrongFalsely : Prop := fnExactValidBitsRow.holds Tryd.pinned (OpenSpec.ofChange fnExactValidBitsWrong)

/-- 'laws.FnValidBits': WHATEVER THE INPUT: true; the input reads as it did. -/
def fnValidBitsSpec : ChangeSpec := { name := "fnValidBits", fn := fun _ => fun
  | [d] => { results := [.lit (.bool true)], args := [d] }
  | _ => none }
def fnValidBitsRow : OpenClaim := { program := "ytbgchgjefohpoaadoor", sum := "a988b1c7defde1ad9c0f6e221664125fdb917b53500ca712615241c7dcb52001", func := "loop.example/linksandframes/laws.FnValidBits", spec := "fnValidBits", inPlace := ["internal/bytealg.IndexByteString", "internal/bytealg.IndexString"], named := ["unicode/utf8.first", "unicode/utf8.acceptRanges", "internal/bytealg.MaxLen"], apart := false, laid := [("unicode/utf8.acceptRanges", laid_unicode_utf8_acceptRanges), ("unicode/utf8.first", laid_unicode_utf8_first)] }
def FnValidBitsSaid : Prop := fnValidBitsRow.holds Tryd.pinned (OpenSpec.ofChange fnValidBitsSpec)

/-- ITS FALSE NEIGHBOUR: 'it returns false'. Refute it at one input. -/
def fnValidBitsWrong : ChangeSpec := { name := "fnValidBits", fn := fun _ => fun
  | [d] => { results := [.lit (.bool false)], args := [d] }
  | _ => none }
def FnValidBitsWrongFalsely : Prop := fnValidBitsRow.holds Tryd.pinned (OpenSpec.ofChange fnValidBitsWrong)

/-- 'laws.FnExactStuffBits': WHATEVER THE INPUT: true; the input reads as it did. -/
def fnExactStuffBitsSpec : ChangeSpec := { name := "fnExactStuffBits", fn := fun _ => fun
  | [d] => { results := [.lit (.bool true)], args := [d] }
  | _ => none }
def fnExactStuffBitsRow : OpenClaim := { program := "ytbgchgjefohpoaadoor", sum := "a988b1c7defde1ad9c0f6e221664125fdb917b53500ca712615241c7dcb52001", func := "loop.example/linksandframes/laws.FnExactStuffBits", spec := "fnExactStuffBits", inPlace := ["internal/bytealg.IndexByteString", "internal/bytealg.IndexString"], named := ["unicode/utf8.first", "unicode/utf8.acceptRanges", "internal/bytealg.MaxLen"], apart := false, laid := [("unicode/utf8.acceptRanges", laid_unicode_utf8_acceptRanges), ("unicode/utf8.first", laid_unicode_utf8_first)] }
def FnExactStuffBitsSaid : Prop := fnExactStuffBitsRow.holds Tryd.pinned (OpenSpec.ofChange fnExactStuffBitsSpec)

/-- ITS FALSE NEIGHBOUR: 'it returns false'. Refute it at one input. -/
def fnExactStuffBitsWrong : ChangeSpec := { name := "fnExactStuffBits", fn := fun _ => fun
  | [d] => { results := [.lit (.bool false)], args := [d] }
  | _ => none }
def FnExactStuffBitsWrongFalsely : Prop := fnExactStuffBitsRow.holds Tryd.pinned (OpenSpec.ofChange fnExactStuffBitsWrong)

/-- 'laws.FnStuffBits': WHATEVER THE INPUT: true; the input reads as it did. -/
def fnStuffBitsSpec : ChangeSpec := { name := "fnStuffBits", fn := fun _ => fun
  | [d] => { results := [.lit (.bool true)], args := [d] }
  | _ => none }
def fnStuffBitsRow : OpenClaim := { program := "ytbgchgjefohpoaadoor", sum := "a988b1c7defde1ad9c0f6e221664125fdb917b53500ca712615241c7dcb52001", func := "loop.example/linksandframes/laws.FnStuffBits", spec := "fnStuffBits", inPlace := ["internal/bytealg.IndexByteString", "internal/bytealg.IndexString"], named := ["unicode/utf8.first", "unicode/utf8.acceptRanges", "internal/bytealg.MaxLen"], apart := false, laid := [("unicode/utf8.acceptRanges", laid_unicode_utf8_acceptRanges), ("unicode/utf8.first", laid_unicode_utf8_first)] }
def FnStuffBitsSaid : Prop := fnStuffBitsRow.holds Tryd.pinned (OpenSpec.ofChange fnStuffBitsSpec)

/-- ITS FALSE NEIGHBOUR: 'it returns false'. Refute it at one input. -/
def fnStuffBitsWrong : ChangeSpec := { name := "fnStuffBits", fn := fun _ => fun
  | [d] => { results := [.lit (.bool false)], args := [d] }
  | _ => none }
def FnStuffBitsWrongFalsely : Prop := fnStuffBitsRow.holds Tryd.pinned (OpenSpec.ofChange fnStuffBitsWrong)

/-- 'laws.FnExactUnstuffBits': WHATEVER THE INPUT: true; the input reads as it did. -/
def fnExactUnstuffBitsSpec : ChangeSpec := { name := "fnExactUnstuffBits", fn := fun _ => fun
  | [d] => { results := [.lit (.bool true)], args := [d] }
  | _ => none }
def fnExactUnstuffBitsRow : OpenClaim := { program := "ytbgchgjefohpoaadoor", sum := "a988b1c7defde1ad9c0f6e221664125fdb917b53500ca712615241c7dcb52001", func := "loop.example/linksandframes/laws.FnExactUnstuffBits", spec := "fnExactUnstuffBits", inPlace := ["internal/bytealg.IndexByteString", "internal/bytealg.IndexString"], named := ["unicode/utf8.first", "unicode/utf8.acceptRanges", "internal/bytealg.MaxLen"], apart := false, laid := [("unicode/utf8.acceptRanges", laid_unicode_utf8_acceptRanges), ("unicode/utf8.first", laid_unicode_utf8_first)] }
def FnExactUnstuffBitsSaid : Prop := fnExactUnstuffBitsRow.holds Tryd.pinned (OpenSpec.ofChange fnExactUnstuffBitsSpec)

/-- ITS FALSE NEIGHBOUR: 'it returns false'. Refute it at one input. -/
def fnExactUnstuffBitsWrong : ChangeSpec := { name := "fnExactUnstuffBits", fn := fun _ => fun
  | [d] => { results := [.lit (.bool false)], args := [d] }
  | _ => none }
def FnExactUnstuffBitsWrongFalsely : Prop := fnExactUnstuffBitsRow.holds Tryd.pinned (OpenSpec.ofChange fnExactUnstuffBitsWrong)

/-- 'laws.FnUnstuffBits': WHATEVER THE INPUT: true; the input reads as it did. -/
def fnUnstuffBitsSpec : ChangeSpec := { name := "fnUnstuffBits", fn := fun _ => fun
  | [d] => { results := [.lit (.bool true)], args := [d] }
  | _ => none }
def fnUnstuffBitsRow : OpenClaim := { program := "ytbgchgjefohpoaadoor", sum := "a988b1c7defde1ad9c0f6e221664125fdb917b53500ca712615241c7dcb52001", func := "loop.example/linksandframes/laws.FnUnstuffBits", spec := "fnUnstuffBits", inPlace := ["internal/bytealg.IndexByteString", "internal/bytealg.IndexString"], named := ["unicode/utf8.first", "unicode/utf8.acceptRanges", "internal/bytealg.MaxLen"], apart := false, laid := [("unicode/utf8.acceptRanges", laid_unicode_utf8_acceptRanges), ("unicode/utf8.first", laid_unicode_utf8_first)] }
def FnUnstuffBitsSaid : Prop := fnUnstuffBitsRow.holds Tryd.pinned (OpenSpec.ofChange fnUnstuffBitsSpec)

/-- ITS FALSE NEIGHBOUR: 'it returns false'. Refute it at one input. -/
def fnUnstuffBitsWrong : ChangeSpec := { name := "fnUnstuffBits", fn := fun _ => fun
  | [d] => { results := [.lit (.bool false)], args := [d] }
  | _ => none }
def FnUnstuffBitsWrongFalsely : Prop := fnUnstuffBitsRow.holds Tryd.pinned (OpenSpec.ofChange fnUnstuffBitsWrong)

/-- 'laws.FnExactFlagFrames': WHATEVER THE INPUT: true; the input reads as it did. -/
def fnExactFlagFramesSpec : ChangeSpec := { name := "fnExactFlagFrames", fn := fun _ => fun
  | [d] => { results := [.lit (.bool true)], args := [d] }
  | _ => none }
def fnExactFlagFramesRow : OpenClaim := { program := "ytbgchgjefohpoaadoor", sum := "a988b1c7defde1ad9c0f6e221664125fdb917b53500ca712615241c7dcb52001", func := "loop.example/linksandframes/laws.FnExactFlagFrames", spec := "fnExactFlagFrames", inPlace := ["internal/bytealg.IndexByteString", "internal/bytealg.IndexString"], named := ["unicode/utf8.first", "unicode/utf8.acceptRanges", "internal/bytealg.MaxLen"], apart := false, laid := [("unicode/utf8.acceptRanges", laid_unicode_utf8_acceptRanges), ("unicode/utf8.first", laid_unicode_utf8_first)] }
def FnExactFlagFramesSaid : Prop := fnExactFlagFramesRow.holds Tryd.pinned (OpenSpec.ofChange fnExactFlagFramesSpec)

/-- ITS FALSE NEIGHBOUR: 'it returns false'. Refute it at one input. -/
def fnExactFlagFramesWrong : ChangeSpec := { name := "fnExactFlagFrames", fn := fun _ => fun
  | [d] => { results := [.lit (.bool false)], args := [d] }
  | _ => none }
def FnExactFlagFramesWrongFalsely : Prop := fnExactFlagFramesRow.holds Tryd.pinned (OpenSpec.ofChange fnExactFlagFramesWrong)

/-- 'laws.FnFlagFrames': WHATEVER THE INPUT: true; the input reads as it did. -/
def fnFlagFramesSpec : ChangeSpec := { name := "fnFlagFrames", fn := fun _ => fun
  | [d] => { results := [.lit (.bool true)], args := [d] }
  | _ => none }
def fnFlagFramesRow : OpenClaim := { program := "ytbgchgjefohpoaadoor", sum := "a988b1c7defde1ad9c0f6e221664125fdb917b53500ca712615241c7dcb52001", func := "loop.example/linksandframes/laws.FnFlagFrames", spec := "fnFlagFrames", inPlace := ["internal/bytealg.IndexByteString", "internal/bytealg.IndexString", "internal/bytealg.CountString"], named := ["unicode/utf8.first", "unicode/utf8.acceptRanges", "internal/bytealg.MaxLen"], apart := false, laid := [("unicode/utf8.acceptRanges", laid_unicode_utf8_acceptRanges), ("unicode/utf8.first", laid_unicode_utf8_first)] }
def FnFlagFramesSaid : Prop := fnFlagFramesRow.holds Tryd.pinned (OpenSpec.ofChange fnFlagFramesSpec)

/-- ITS FALSE NEIGHBOUR: 'it returns false'. Refute it at one input. -/
def fnFlagFramesWrong : ChangeSpec := { name := "fnFlagFrames", fn := fun _ => fun
  | [d] => { results := [.lit (.bool false)], args := [d] }
  | _ => none }
def FnFlagFramesWrongFalsely : Prop := fnFlagFramesRow.holds Tryd.pinned (OpenSpec.ofChange fnFlagFramesWrong)

/-- 'laws.FnExactFindFrames': WHATEVER THE INPUT: true; the input reads as it did. -/
def fnExactFindFramesSpec : ChangeSpec := { name := "fnExactFindFrames", fn := fun _ => fun
  | [d] => { results := [.lit (.bool true)], args := [d] }
  | _ => none }
def fnExactFindFramesRow : OpenClaim := { program := "ytbgchgjefohpoaadoor", sum := "a988b1c7defde1ad9c0f6e221664125fdb917b53500ca712615241c7dcb52001", func := "loop.example/linksandframes/laws.FnExactFindFrames", spec := "fnExactFindFrames", inPlace := ["internal/bytealg.IndexByteString", "internal/bytealg.IndexString", "internal/bytealg.CountString"], named := ["unicode/utf8.first", "unicode/utf8.acceptRanges", "internal/bytealg.MaxLen"], apart := false, laid := [("unicode/utf8.acceptRanges", laid_unicode_utf8_acceptRanges), ("unicode/utf8.first", laid_unicode_utf8_first)] }
def FnExactFindFramesSaid : Prop := fnExactFindFramesRow.holds Tryd.pinned (OpenSpec.ofChange fnExactFindFramesSpec)

/-- ITS FALSE NEIGHBOUR: 'it returns false'. Refute it at one input. -/
def fnExactFindFramesWrong : ChangeSpec := { name := "fnExactFindFrames", fn := fun _ => fun
  | [d] => { results := [.lit (.bool false)], args := [d] }
  | _ => none }
def FnExactFindFramesWrongFalsely : Prop := fnExactFindFramesRow.holds Tryd.pinned (OpenSpec.ofChange fnExactFindFramesWrong)

/-- 'laws.FnFindFrames': WHATEVER THE INPUT: true; the input reads as it did. -/
def fnFindFramesSpec : ChangeSpec := { name := "fnFindFrames", fn := fun _ => fun
  | [d] => { results := [.lit (.bool true)], args := [d] }
  | _ => none }
def fnFindFramesRow : OpenClaim := { program := "ytbgchgjefohpoaadoor", sum := "a988b1c7defde1ad9c0f6e221664125fdb917b53500ca712615241c7dcb52001", func := "loop.example/linksandframes/laws.FnFindFrames", spec := "fnFindFrames", inPlace := ["internal/bytealg.IndexByteString", "internal/bytealg.IndexString", "internal/bytealg.CountString"], named := ["unicode/utf8.first", "unicode/utf8.acceptRanges", "internal/bytealg.MaxLen"], apart := false, laid := [("unicode/utf8.acceptRanges", laid_unicode_utf8_acceptRanges), ("unicode/utf8.first", laid_unicode_utf8_first)] }
def FnFindFramesSaid : Prop := fnFindFramesRow.holds Tryd.pinned (OpenSpec.ofChange fnFindFramesSpec)

/-- ITS FALSE NEIGHBOUR: 'it returns false'. Refute it at one input. -/
def fnFindFramesWrong : ChangeSpec := { name := "fnFindFrames", fn := fun _ => fun
  | [d] => { results := [.lit (.bool false)], args := [d] }
  | _ => none }
def FnFindFramesWrongFalsely : Prop := fnFindFramesRow.holds Tryd.pinned (OpenSpec.ofChange fnFindFramesWrong)

/- THE SECOND FORM. 'bulk': how many values and letters a reading holds, each counted each time it is reached (what is shared counts as often as it is met; a slice's spare places count too). A statement '..UptoSaid' is the law's where the arguments, and the package variables that the reading takes, are together of bulk at most 1048576: NARROWER than '..Said'. Prove '..Said' where nothing that the law and all that it calls make is longer than what came in: it says more and counts as full. Else prove '..UptoSaid'. A law counts once. -/
mutual
def uptoBulk {H : Type} : DataW H → Nat
  | .lit (.string bytes) => bytes.length + 1
  | .lit _ => 1
  | .nil => 1
  | .ptr d => uptoBulk d + 1
  | .slice elems spare => uptoBulkAll elems + uptoBulkAll spare + 1
  | .agg parts => uptoBulkAll parts + 1
  | .iface _ d => uptoBulk d + 1
  | .map entries => uptoBulkEntries entries + 1
  | .held _ => 1
def uptoBulkAll {H : Type} : List (DataW H) → Nat
  | [] => 0
  | d :: r => uptoBulk d + uptoBulkAll r
def uptoBulkEntries {H : Type} : List (Lit × DataW H) → Nat
  | [] => 0
  | x :: r => uptoBulkEntry x + uptoBulkEntries r
def uptoBulkEntry {H : Type} : Lit × DataW H → Nat
  | (.string bytes, d) => bytes.length + uptoBulk d + 1
  | (_, d) => uptoBulk d + 1
 end
def uptoSmall : (H : Type) → List (DataW H) → Bool := fun _ ds => decide (uptoBulkAll ds ≤ 1048576)
def OpenSpec.upto (s : _root_.Go.ChangeSpec) : _root_.Go.OpenSpec := { _root_.Go.OpenSpec.ofChange s with cond := some uptoSmall }

/-- 'laws.FnExactValidBits', WHERE WHAT IT READS IS OF BULK AT MOST 1048576: true; the input reads as it did. -/
def fnExactValidBitsUptoRow : OpenClaim := { program := "ytbgchgjefohpoaadoor", sum := "a988b1c7defde1ad9c0f6e221664125fdb917b53500ca712615241c7dcb52001", func := "loop.example/linksandframes/laws.FnExactValidBits", spec := "fnExactValidBits", inPlace := ["internal/bytealg.IndexByteString", "internal/bytealg.IndexString"], named := ["unicode/utf8.first", "unicode/utf8.acceptRanges", "internal/bytealg.MaxLen"], apart := false, laid := [("unicode/utf8.acceptRanges", laid_unicode_utf8_acceptRanges), ("unicode/utf8.first", laid_unicode_utf8_first)], narrowed := true }
def FnExactValidBitsUptoSaid : Prop := fnExactValidBitsUptoRow.holds Tryd.pinned (OpenSpec.upto fnExactValidBitsSpec)

/-- 'laws.FnValidBits', WHERE WHAT IT READS IS OF BULK AT MOST 1048576: true; the input reads as it did. -/
def fnValidBitsUptoRow : OpenClaim := { program := "ytbgchgjefohpoaadoor", sum := "a988b1c7defde1ad9c0f6e221664125fdb917b53500ca712615241c7dcb52001", func := "loop.example/linksandframes/laws.FnValidBits", spec := "fnValidBits", inPlace := ["internal/bytealg.IndexByteString", "internal/bytealg.IndexString"], named := ["unicode/utf8.first", "unicode/utf8.acceptRanges", "internal/bytealg.MaxLen"], apart := false, laid := [("unicode/utf8.acceptRanges", laid_unicode_utf8_acceptRanges), ("unicode/utf8.first", laid_unicode_utf8_first)], narrowed := true }
def FnValidBitsUptoSaid : Prop := fnValidBitsUptoRow.holds Tryd.pinned (OpenSpec.upto fnValidBitsSpec)

/-- 'laws.FnExactStuffBits', WHERE WHAT IT READS IS OF BULK AT MOST 1048576: true; the input reads as it did. -/
def fnExactStuffBitsUptoRow : OpenClaim := { program := "ytbgchgjefohpoaadoor", sum := "a988b1c7defde1ad9c0f6e221664125fdb917b53500ca712615241c7dcb52001", func := "loop.example/linksandframes/laws.FnExactStuffBits", spec := "fnExactStuffBits", inPlace := ["internal/bytealg.IndexByteString", "internal/bytealg.IndexString"], named := ["unicode/utf8.first", "unicode/utf8.acceptRanges", "internal/bytealg.MaxLen"], apart := false, laid := [("unicode/utf8.acceptRanges", laid_unicode_utf8_acceptRanges), ("unicode/utf8.first", laid_unicode_utf8_first)], narrowed := true }
def FnExactStuffBitsUptoSaid : Prop := fnExactStuffBitsUptoRow.holds Tryd.pinned (OpenSpec.upto fnExactStuffBitsSpec)

/-- 'laws.FnStuffBits', WHERE WHAT IT READS IS OF BULK AT MOST 1048576: true; the input reads as it did. -/
def fnStuffBitsUptoRow : OpenClaim := { program := "ytbgchgjefohpoaadoor", sum := "a988b1c7defde1ad9c0f6e221664125fdb917b53500ca712615241c7dcb52001", func := "loop.example/linksandframes/laws.FnStuffBits", spec := "fnStuffBits", inPlace := ["internal/bytealg.IndexByteString", "internal/bytealg.IndexString"], named := ["unicode/utf8.first", "unicode/utf8.acceptRanges", "internal/bytealg.MaxLen"], apart := false, laid := [("unicode/utf8.acceptRanges", laid_unicode_utf8_acceptRanges), ("unicode/utf8.first", laid_unicode_utf8_first)], narrowed := true }
def FnStuffBitsUptoSaid : Prop := fnStuffBitsUptoRow.holds Tryd.pinned (OpenSpec.upto fnStuffBitsSpec)

/-- 'laws.FnExactUnstuffBits', WHERE WHAT IT READS IS OF BULK AT MOST 1048576: true; the input reads as it did. -/
def fnExactUnstuffBitsUptoRow : OpenClaim := { program := "ytbgchgjefohpoaadoor", sum := "a988b1c7defde1ad9c0f6e221664125fdb917b53500ca712615241c7dcb52001", func := "loop.example/linksandframes/laws.FnExactUnstuffBits", spec := "fnExactUnstuffBits", inPlace := ["internal/bytealg.IndexByteString", "internal/bytealg.IndexString"], named := ["unicode/utf8.first", "unicode/utf8.acceptRanges", "internal/bytealg.MaxLen"], apart := false, laid := [("unicode/utf8.acceptRanges", laid_unicode_utf8_acceptRanges), ("unicode/utf8.first", laid_unicode_utf8_first)], narrowed := true }
def FnExactUnstuffBitsUptoSaid : Prop := fnExactUnstuffBitsUptoRow.holds Tryd.pinned (OpenSpec.upto fnExactUnstuffBitsSpec)

/-- 'laws.FnUnstuffBits', WHERE WHAT IT READS IS OF BULK AT MOST 1048576: true; the input reads as it did. -/
def fnUnstuffBitsUptoRow : OpenClaim := { program := "ytbgchgjefohpoaadoor", sum := "a988b1c7defde1ad9c0f6e221664125fdb917b53500ca712615241c7dcb52001", func := "loop.example/linksandframes/laws.FnUnstuffBits", spec := "fnUnstuffBits", inPlace := ["internal/bytealg.IndexByteString", "internal/bytealg.IndexString"], named := ["unicode/utf8.first", "unicode/utf8.acceptRanges", "internal/bytealg.MaxLen"], apart := false, laid := [("unicode/utf8.acceptRanges", laid_unicode_utf8_acceptRanges), ("unicode/utf8.first", laid_unicode_utf8_first)], narrowed := true }
def FnUnstuffBitsUptoSaid : Prop := fnUnstuffBitsUptoRow.holds Tryd.pinned (OpenSpec.upto fnUnstuffBitsSpec)

/-- 'laws.FnExactFlagFrames', WHERE WHAT IT READS IS OF BULK AT MOST 1048576: true; the input reads as it did. -/
def fnExactFlagFramesUptoRow : OpenClaim := { program := "ytbgchgjefohpoaadoor", sum := "a988b1c7defde1ad9c0f6e221664125fdb917b53500ca712615241c7dcb52001", func := "loop.example/linksandframes/laws.FnExactFlagFrames", spec := "fnExactFlagFrames", inPlace := ["internal/bytealg.IndexByteString", "internal/bytealg.IndexString"], named := ["unicode/utf8.first", "unicode/utf8.acceptRanges", "internal/bytealg.MaxLen"], apart := false, laid := [("unicode/utf8.acceptRanges", laid_unicode_utf8_acceptRanges), ("unicode/utf8.first", laid_unicode_utf8_first)], narrowed := true }
def FnExactFlagFramesUptoSaid : Prop := fnExactFlagFramesUptoRow.holds Tryd.pinned (OpenSpec.upto fnExactFlagFramesSpec)

/-- 'laws.FnFlagFrames', WHERE WHAT IT READS IS OF BULK AT MOST 1048576: true; the input reads as it did. -/
def fnFlagFramesUptoRow : OpenClaim := { program := "ytbgchgjefohpoaadoor", sum := "a988b1c7defde1ad9c0f6e221664125fdb917b53500ca712615241c7dcb52001", func := "loop.example/linksandframes/laws.FnFlagFrames", spec := "fnFlagFrames", inPlace := ["internal/bytealg.IndexByteString", "internal/bytealg.IndexString", "internal/bytealg.CountString"], named := ["unicode/utf8.first", "unicode/utf8.acceptRanges", "internal/bytealg.MaxLen"], apart := false, laid := [("unicode/utf8.acceptRanges", laid_unicode_utf8_acceptRanges), ("unicode/utf8.first", laid_unicode_utf8_first)], narrowed := true }
def FnFlagFramesUptoSaid : Prop := fnFlagFramesUptoRow.holds Tryd.pinned (OpenSpec.upto fnFlagFramesSpec)

/-- 'laws.FnExactFindFrames', WHERE WHAT IT READS IS OF BULK AT MOST 1048576: true; the input reads as it did. -/
def fnExactFindFramesUptoRow : OpenClaim := { program := "ytbgchgjefohpoaadoor", sum := "a988b1c7defde1ad9c0f6e221664125fdb917b53500ca712615241c7dcb52001", func := "loop.example/linksandframes/laws.FnExactFindFrames", spec := "fnExactFindFrames", inPlace := ["internal/bytealg.IndexByteString", "internal/bytealg.IndexString", "internal/bytealg.CountString"], named := ["unicode/utf8.first", "unicode/utf8.acceptRanges", "internal/bytealg.MaxLen"], apart := false, laid := [("unicode/utf8.acceptRanges", laid_unicode_utf8_acceptRanges), ("unicode/utf8.first", laid_unicode_utf8_first)], narrowed := true }
def FnExactFindFramesUptoSaid : Prop := fnExactFindFramesUptoRow.holds Tryd.pinned (OpenSpec.upto fnExactFindFramesSpec)

/-- 'laws.FnFindFrames', WHERE WHAT IT READS IS OF BULK AT MOST 1048576: true; the input reads as it did. -/
def fnFindFramesUptoRow : OpenClaim := { program := "ytbgchgjefohpoaadoor", sum := "a988b1c7defde1ad9c0f6e221664125fdb917b53500ca712615241c7dcb52001", func := "loop.example/linksandframes/laws.FnFindFrames", spec := "fnFindFrames", inPlace := ["internal/bytealg.IndexByteString", "internal/bytealg.IndexString", "internal/bytealg.CountString"], named := ["unicode/utf8.first", "unicode/utf8.acceptRanges", "internal/bytealg.MaxLen"], apart := false, laid := [("unicode/utf8.acceptRanges", laid_unicode_utf8_acceptRanges), ("unicode/utf8.first", laid_unicode_utf8_first)], narrowed := true }
def FnFindFramesUptoSaid : Prop := fnFindFramesUptoRow.holds Tryd.pinned (OpenSpec.upto fnFindFramesSpec)

end Rows
end Go.Proofs.YtbgchgjefohpoaaDoor
