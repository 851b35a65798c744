/-
  NARROWER THAN 'FOR EVERY INPUT', by the rows' own cells (each row's printed sentence says how): FnExactValidPoly: laid · FnValidPoly: laid · FnExactRestOf: laid · FnRestOf: laid · FnExactIsSealed: laid · FnIsSealed: laid · FnExactSealBits: laid · FnSealBits: laid · FnExactCycleOf: laid · FnCycleOf: laid · FnExactBlindOf: laid · FnBlindOf: laid.
  DERIVED. THE GIVEN ROWS OF THIS SEAT. 12 by the template 'for every input the law returns true; each argument reads behind the call as it read before'; 0 by the template 'total and deterministic' (their statements: YtmkcmkkpeimldaaDoorTotals.lean).
  GIVEN WITH THE SEED: the statements are not yours to turn. If you find one false, say at which input.
  Laid BY PROGRAM, IN A SANDBOX (cutbox-rows.mjs): the forced cells as the released guide's own fill.sh prints them over the translation b986622cf18cebff… (all of the seat's roots in one cut). By AI agents, Wed Nov 11 2026. No macro, syntax, notation, axiom, sorry.
-/
import Derived.Test.YtmkcmkkpeimldaaDoorChecked
import GoSem.PinnedTables
import GoSem.Claim
import GoSem.ClaimJoined
import GoSem.ClaimMapViews
import Derived.JoinedTies
import Derived.KernelRfl
namespace Go.Proofs.YtmkcmkkpeimldaaDoor
/- THE CELL 'sum', in the pinned program and in every row, IS THE sha256 OF THE DUMP (.gsa) THAT YtmkcmkkpeimldaaDoorProg.lean LOADS. Nothing in Lean hashes anything: it is a label: what it is worth is what the hold of that sum in a sandbox is worth. -/
noncomputable def Tryd.pinned : Pinned := { name := "ytmkcmkkpeimldaadoor", sum := "b986622cf18cebffe25063a45bfe0adca686c7204c90f21d82da56f6f0851c87", checked := Tryd.checked }
namespace Rows
def none {H : Type} : Left H := { results := [], args := [] }

/- WHAT THE LISTED PACKAGE-LEVEL VARIABLES READ AS WHEN THE CALL BEGINS. Each datum BY PROGRAM (the guide's laid-datum.mjs) off the statement by which the dump's own 'gosem.cut.vars' lays the variable. In a bare row this is a premise. The card (YtmkcmkkpeimldaaDoorCards.lean) ties it to the program's text. -/
def laid_unicode_utf8_acceptRanges {H : Type} : DataW H := .agg [.agg [.lit (.int .u8 128), .lit (.int .u8 191)], .agg [.lit (.int .u8 160), .lit (.int .u8 191)], .agg [.lit (.int .u8 128), .lit (.int .u8 159)], .agg [.lit (.int .u8 144), .lit (.int .u8 191)], .agg [.lit (.int .u8 128), .lit (.int .u8 143)], .agg [.lit (.int .u8 0), .lit (.int .u8 0)], .agg [.lit (.int .u8 0), .lit (.int .u8 0)], .agg [.lit (.int .u8 0), .lit (.int .u8 0)], .agg [.lit (.int .u8 0), .lit (.int .u8 0)], .agg [.lit (.int .u8 0), .lit (.int .u8 0)], .agg [.lit (.int .u8 0), .lit (.int .u8 0)], .agg [.lit (.int .u8 0), .lit (.int .u8 0)], .agg [.lit (.int .u8 0), .lit (.int .u8 0)], .agg [.lit (.int .u8 0), .lit (.int .u8 0)], .agg [.lit (.int .u8 0), .lit (.int .u8 0)], .agg [.lit (.int .u8 0), .lit (.int .u8 0)]]
/-- One of Go's own tables, pinned by name: the form's constant. -/
def laid_unicode_utf8_first : DataW Unit := Go.Pinned.utf8First

/-- 'laws.FnExactValidPoly': WHATEVER THE INPUT: true; the input reads as it did. -/
def fnExactValidPolySpec : ChangeSpec := { name := "fnExactValidPoly", fn := fun _ => fun
  | [d] => { results := [.lit (.bool true)], args := [d] }
  | _ => none }
def fnExactValidPolyRow : OpenClaim := { program := "ytmkcmkkpeimldaadoor", sum := "b986622cf18cebffe25063a45bfe0adca686c7204c90f21d82da56f6f0851c87", func := "loop.example/linksandframes/laws.FnExactValidPoly", spec := "fnExactValidPoly", inPlace := ["internal/bytealg.IndexByteString", "internal/bytealg.IndexString"], named := ["unicode/utf8.first", "unicode/utf8.acceptRanges", "internal/bytealg.MaxLen"], apart := false, laid := [("unicode/utf8.acceptRanges", laid_unicode_utf8_acceptRanges), ("unicode/utf8.first", laid_unicode_utf8_first)] }
def FnExactValidPolySaid : Prop := fnExactValidPolyRow.holds Tryd.pinned (OpenSpec.ofChange fnExactValidPolySpec)

/-- ITS FALSE NEIGHBOUR: 'it returns false'. Refute it at one input. -/
def fnExactValidPolyWrong : ChangeSpec := { name := "fnExactValidPoly", fn := fun _ => fun
  | [d] => { results := [.lit (.bool false)], args := [d] }
  | _ => none }
def FnExactValidPolyWrongFalsely : Prop := fnExactValidPolyRow.holds Tryd.pinned (OpenSpec.ofChange fnExactValidPolyWrong)

/-- 'laws.FnValidPoly': WHATEVER THE INPUT: true; the input reads as it did. -/
def fnValidPolySpec : ChangeSpec := { name := "fnValidPoly", fn := fun _ => fun
  | [d] => { results := [.lit (.bool true)], args := [d] }
  | _ => none }
def fnValidPolyRow : OpenClaim := { program := "ytmkcmkkpeimldaadoor", sum := "b986622cf18cebffe25063a45bfe0adca686c7204c90f21d82da56f6f0851c87", func := "loop.example/linksandframes/laws.FnValidPoly", spec := "fnValidPoly", inPlace := ["internal/bytealg.IndexByteString", "internal/bytealg.IndexString"], named := ["unicode/utf8.first", "unicode/utf8.acceptRanges", "internal/bytealg.MaxLen"], apart := false, laid := [("unicode/utf8.acceptRanges", laid_unicode_utf8_acceptRanges), ("unicode/utf8.first", laid_unicode_utf8_first)] }
def FnValidPolySaid : Prop := fnValidPolyRow.holds Tryd.pinned (OpenSpec.ofChange fnValidPolySpec)

/-- ITS FALSE NEIGHBOUR: 'it returns false'. Refute it at one input. -/
def fnValidPolyWrong : ChangeSpec := { name := "fnValidPoly", fn := fun _ => fun
  | [d] => { results := [.lit (.bool false)], args := [d] }
  | _ => none }
def FnValidPolyWrongFalsely : Prop := fnValidPolyRow.holds Tryd.pinned (OpenSpec.ofChange fnValidPolyWrong)

/-- 'laws.FnExactRestOf': WHATEVER THE INPUT: true; the input reads as it did. -/
def fnExactRestOfSpec : ChangeSpec := { name := "fnExactRestOf", fn := fun _ => fun
  | [d1, d2] => { results := [.lit (.bool true)], args := [d1, d2] }
  | _ => none }
def fnExactRestOfRow : OpenClaim := { program := "ytmkcmkkpeimldaadoor", sum := "b986622cf18cebffe25063a45bfe0adca686c7204c90f21d82da56f6f0851c87", func := "loop.example/linksandframes/laws.FnExactRestOf", spec := "fnExactRestOf", inPlace := ["internal/bytealg.IndexByteString", "internal/bytealg.IndexString"], named := ["unicode/utf8.first", "unicode/utf8.acceptRanges", "internal/bytealg.MaxLen"], apart := false, laid := [("unicode/utf8.acceptRanges", laid_unicode_utf8_acceptRanges), ("unicode/utf8.first", laid_unicode_utf8_first)] }
def FnExactRestOfSaid : Prop := fnExactRestOfRow.holds Tryd.pinned (OpenSpec.ofChange fnExactRestOfSpec)

/-- ITS FALSE NEIGHBOUR: 'it returns false'. Refute it at one input. -/
def fnExactRestOfWrong : ChangeSpec := { name := "fnExactRestOf", fn := fun _ => fun
  | [d1, d2] => { results := [.lit (.bool false)], args := [d1, d2] }
  | _ => none }
def FnExactRestOfWrongFalsely : Prop := fnExactRestOfRow.holds Tryd.pinned (OpenSpec.ofChange fnExactRestOfWrong)

/-- 'laws.FnRestOf': WHATEVER THE INPUT: true; the input reads as it did. -/
def fnRestOfSpec : ChangeSpec := { name := "fnRestOf", fn := fun _ => fun
  | [d] => { results := [.lit (.bool true)], args := [d] }
  | _ => none }
def fnRestOfRow : OpenClaim := { program := "ytmkcmkkpeimldaadoor", sum := "b986622cf18cebffe25063a45bfe0adca686c7204c90f21d82da56f6f0851c87", func := "loop.example/linksandframes/laws.FnRestOf", spec := "fnRestOf", inPlace := ["internal/bytealg.IndexByteString", "internal/bytealg.IndexString"], named := ["unicode/utf8.first", "unicode/utf8.acceptRanges", "internal/bytealg.MaxLen"], apart := false, laid := [("unicode/utf8.acceptRanges", laid_unicode_utf8_acceptRanges), ("unicode/utf8.first", laid_unicode_utf8_first)] }
def FnRestOfSaid : Prop := fnRestOfRow.holds Tryd.pinned (OpenSpec.ofChange fnRestOfSpec)

/-- ITS FALSE NEIGHBOUR: 'it returns false'. Refute it at one input. -/
def fnRestOfWrong : ChangeSpec := { name := "fnRestOf", fn := fun _ => fun
  | [d] => { results := [.lit (.bool false)], args := [d] }
  | _ => none }
def FnRestOfWrongFalsely : Prop := fnRestOfRow.holds Tryd.pinned (OpenSpec.ofChange fnRestOfWrong)

/-- 'laws.FnExactIsSealed': WHATEVER THE INPUT: true; the input reads as it did. -/
def fnExactIsSealedSpec : ChangeSpec := { name := "fnExactIsSealed", fn := fun _ => fun
  | [d1, d2] => { results := [.lit (.bool true)], args := [d1, d2] }
  | _ => none }
def fnExactIsSealedRow : OpenClaim := { program := "ytmkcmkkpeimldaadoor", sum := "b986622cf18cebffe25063a45bfe0adca686c7204c90f21d82da56f6f0851c87", func := "loop.example/linksandframes/laws.FnExactIsSealed", spec := "fnExactIsSealed", inPlace := ["internal/bytealg.IndexByteString", "internal/bytealg.IndexString"], named := ["unicode/utf8.first", "unicode/utf8.acceptRanges", "internal/bytealg.MaxLen"], apart := false, laid := [("unicode/utf8.acceptRanges", laid_unicode_utf8_acceptRanges), ("unicode/utf8.first", laid_unicode_utf8_first)] }
def FnExactIsSealedSaid : Prop := fnExactIsSealedRow.holds Tryd.pinned (OpenSpec.ofChange fnExactIsSealedSpec)

/-- ITS FALSE NEIGHBOUR: 'it returns false'. Refute it at one input. -/
def fnExactIsSealedWrong : ChangeSpec := { name := "fnExactIsSealed", fn := fun _ => fun
  | [d1, d2] => { results := [.lit (.bool false)], args := [d1, d2] }
  | _ => none }
def FnExactIsSealedWrongFalsely : Prop := fnExactIsSealedRow.holds Tryd.pinned (OpenSpec.ofChange fnExactIsSealedWrong)

/-- 'laws.FnIsSealed': WHATEVER THE INPUT: true; the input reads as it did. -/
def fnIsSealedSpec : ChangeSpec := { name := "fnIsSealed", fn := fun _ => fun
  | [d] => { results := [.lit (.bool true)], args := [d] }
  | _ => none }
def fnIsSealedRow : OpenClaim := { program := "ytmkcmkkpeimldaadoor", sum := "b986622cf18cebffe25063a45bfe0adca686c7204c90f21d82da56f6f0851c87", func := "loop.example/linksandframes/laws.FnIsSealed", spec := "fnIsSealed", inPlace := ["internal/bytealg.IndexByteString", "internal/bytealg.IndexString"], named := ["unicode/utf8.first", "unicode/utf8.acceptRanges", "internal/bytealg.MaxLen"], apart := false, laid := [("unicode/utf8.acceptRanges", laid_unicode_utf8_acceptRanges), ("unicode/utf8.first", laid_unicode_utf8_first)] }
def FnIsSealedSaid : Prop := fnIsSealedRow.holds Tryd.pinned (OpenSpec.ofChange fnIsSealedSpec)

/-- ITS FALSE NEIGHBOUR: 'it returns false'. Refute it at one input. -/
def fnIsSealedWrong : ChangeSpec := { name := "fnIsSealed", fn := fun _ => fun
  | [d] => { results := [.lit (.bool false)], args := [d] }
  | _ => none }
def FnIsSealedWrongFalsely : Prop := fnIsSealedRow.holds Tryd.pinned (OpenSpec.ofChange fnIsSealedWrong)

/-- 'laws.FnExactSealBits': WHATEVER THE INPUT: true; the input reads as it did. -/
def fnExactSealBitsSpec : ChangeSpec := { name := "fnExactSealBits", fn := fun _ => fun
  | [d1, d2] => { results := [.lit (.bool true)], args := [d1, d2] }
  | _ => none }
def fnExactSealBitsRow : OpenClaim := { program := "ytmkcmkkpeimldaadoor", sum := "b986622cf18cebffe25063a45bfe0adca686c7204c90f21d82da56f6f0851c87", func := "loop.example/linksandframes/laws.FnExactSealBits", spec := "fnExactSealBits", inPlace := ["internal/bytealg.IndexByteString", "internal/bytealg.IndexString", "internal/abi.NoEscape", "internal/bytealg.MakeNoZero"], named := ["unicode/utf8.first", "unicode/utf8.acceptRanges", "internal/bytealg.MaxLen"], apart := false, laid := [("unicode/utf8.acceptRanges", laid_unicode_utf8_acceptRanges), ("unicode/utf8.first", laid_unicode_utf8_first)] }
def FnExactSealBitsSaid : Prop := fnExactSealBitsRow.holds Tryd.pinned (OpenSpec.ofChange fnExactSealBitsSpec)

/-- ITS FALSE NEIGHBOUR: 'it returns false'. Refute it at one input. -/
def fnExactSealBitsWrong : ChangeSpec := { name := "fnExactSealBits", fn := fun _ => fun
  | [d1, d2] => { results := [.lit (.bool false)], args := [d1, d2] }
  | _ => none }
def FnExactSealBitsWrongFalsely : Prop := fnExactSealBitsRow.holds Tryd.pinned (OpenSpec.ofChange fnExactSealBitsWrong)

/-- 'laws.FnSealBits': WHATEVER THE INPUT: true; the input reads as it did. -/
def fnSealBitsSpec : ChangeSpec := { name := "fnSealBits", fn := fun _ => fun
  | [d] => { results := [.lit (.bool true)], args := [d] }
  | _ => none }
def fnSealBitsRow : OpenClaim := { program := "ytmkcmkkpeimldaadoor", sum := "b986622cf18cebffe25063a45bfe0adca686c7204c90f21d82da56f6f0851c87", func := "loop.example/linksandframes/laws.FnSealBits", spec := "fnSealBits", inPlace := ["internal/bytealg.IndexByteString", "internal/bytealg.IndexString", "internal/abi.NoEscape", "internal/bytealg.MakeNoZero"], named := ["unicode/utf8.first", "unicode/utf8.acceptRanges", "internal/bytealg.MaxLen"], apart := false, laid := [("unicode/utf8.acceptRanges", laid_unicode_utf8_acceptRanges), ("unicode/utf8.first", laid_unicode_utf8_first)] }
def FnSealBitsSaid : Prop := fnSealBitsRow.holds Tryd.pinned (OpenSpec.ofChange fnSealBitsSpec)

/-- ITS FALSE NEIGHBOUR: 'it returns false'. Refute it at one input. -/
def fnSealBitsWrong : ChangeSpec := { name := "fnSealBits", fn := fun _ => fun
  | [d] => { results := [.lit (.bool false)], args := [d] }
  | _ => none }
def FnSealBitsWrongFalsely : Prop := fnSealBitsRow.holds Tryd.pinned (OpenSpec.ofChange fnSealBitsWrong)

/-- 'laws.FnExactCycleOf': WHATEVER THE INPUT: true; the input reads as it did. -/
def fnExactCycleOfSpec : ChangeSpec := { name := "fnExactCycleOf", fn := fun _ => fun
  | [d] => { results := [.lit (.bool true)], args := [d] }
  | _ => none }
def fnExactCycleOfRow : OpenClaim := { program := "ytmkcmkkpeimldaadoor", sum := "b986622cf18cebffe25063a45bfe0adca686c7204c90f21d82da56f6f0851c87", func := "loop.example/linksandframes/laws.FnExactCycleOf", spec := "fnExactCycleOf", inPlace := ["internal/bytealg.IndexByteString", "internal/bytealg.IndexString", "internal/abi.NoEscape", "internal/bytealg.MakeNoZero"], named := ["unicode/utf8.first", "unicode/utf8.acceptRanges", "internal/bytealg.MaxLen"], apart := false, laid := [("unicode/utf8.acceptRanges", laid_unicode_utf8_acceptRanges), ("unicode/utf8.first", laid_unicode_utf8_first)] }
def FnExactCycleOfSaid : Prop := fnExactCycleOfRow.holds Tryd.pinned (OpenSpec.ofChange fnExactCycleOfSpec)

/-- ITS FALSE NEIGHBOUR: 'it returns false'. Refute it at one input. -/
def fnExactCycleOfWrong : ChangeSpec := { name := "fnExactCycleOf", fn := fun _ => fun
  | [d] => { results := [.lit (.bool false)], args := [d] }
  | _ => none }
def FnExactCycleOfWrongFalsely : Prop := fnExactCycleOfRow.holds Tryd.pinned (OpenSpec.ofChange fnExactCycleOfWrong)

/-- 'laws.FnCycleOf': WHATEVER THE INPUT: true; the input reads as it did. -/
def fnCycleOfSpec : ChangeSpec := { name := "fnCycleOf", fn := fun _ => fun
  | [d] => { results := [.lit (.bool true)], args := [d] }
  | _ => none }
def fnCycleOfRow : OpenClaim := { program := "ytmkcmkkpeimldaadoor", sum := "b986622cf18cebffe25063a45bfe0adca686c7204c90f21d82da56f6f0851c87", func := "loop.example/linksandframes/laws.FnCycleOf", spec := "fnCycleOf", inPlace := ["internal/bytealg.IndexByteString", "internal/bytealg.IndexString", "internal/abi.NoEscape", "internal/bytealg.MakeNoZero"], named := ["unicode/utf8.first", "unicode/utf8.acceptRanges", "internal/bytealg.MaxLen"], apart := false, laid := [("unicode/utf8.acceptRanges", laid_unicode_utf8_acceptRanges), ("unicode/utf8.first", laid_unicode_utf8_first)] }
def FnCycleOfSaid : Prop := fnCycleOfRow.holds Tryd.pinned (OpenSpec.ofChange fnCycleOfSpec)

/-- ITS FALSE NEIGHBOUR: 'it returns false'. Refute it at one input. -/
def fnCycleOfWrong : ChangeSpec := { name := "fnCycleOf", fn := fun _ => fun
  | [d] => { results := [.lit (.bool false)], args := [d] }
  | _ => none }
def FnCycleOfWrongFalsely : Prop := fnCycleOfRow.holds Tryd.pinned (OpenSpec.ofChange fnCycleOfWrong)

/-- 'laws.FnExactBlindOf': WHATEVER THE INPUT: true; the input reads as it did. -/
def fnExactBlindOfSpec : ChangeSpec := { name := "fnExactBlindOf", fn := fun _ => fun
  | [d1, d2] => { results := [.lit (.bool true)], args := [d1, d2] }
  | _ => none }
def fnExactBlindOfRow : OpenClaim := { program := "ytmkcmkkpeimldaadoor", sum := "b986622cf18cebffe25063a45bfe0adca686c7204c90f21d82da56f6f0851c87", func := "loop.example/linksandframes/laws.FnExactBlindOf", spec := "fnExactBlindOf", inPlace := ["internal/bytealg.IndexByteString", "internal/bytealg.IndexString", "internal/abi.NoEscape", "internal/bytealg.MakeNoZero"], named := ["unicode/utf8.first", "unicode/utf8.acceptRanges", "internal/bytealg.MaxLen"], apart := false, laid := [("unicode/utf8.acceptRanges", laid_unicode_utf8_acceptRanges), ("unicode/utf8.first", laid_unicode_utf8_first)] }
def FnExactBlindOfSaid : Prop := fnExactBlindOfRow.holds Tryd.pinned (OpenSpec.ofChange fnExactBlindOfSpec)

/-- ITS FALSE NEIGHBOUR: 'it returns false'. Refute it at one input. -/
def fnExactBlindOfWrong : ChangeSpec := { name := "fnExactBlindOf", fn := fun _ => fun
  | [d1, d2] => { results := [.lit (.bool false)], args := [d1, d2] }
  | _ => none }
def FnExactBlindOfWrongFalsely : Prop := fnExactBlindOfRow.holds Tryd.pinned (OpenSpec.ofChange fnExactBlindOfWrong)

/-- 'laws.FnBlindOf': WHATEVER THE INPUT: true; the input reads as it did. -/
def fnBlindOfSpec : ChangeSpec := { name := "fnBlindOf", fn := fun _ => fun
  | [d] => { results := [.lit (.bool true)], args := [d] }
  | _ => none }
def fnBlindOfRow : OpenClaim := { program := "ytmkcmkkpeimldaadoor", sum := "b986622cf18cebffe25063a45bfe0adca686c7204c90f21d82da56f6f0851c87", func := "loop.example/linksandframes/laws.FnBlindOf", spec := "fnBlindOf", inPlace := ["internal/bytealg.IndexByteString", "internal/bytealg.IndexString", "internal/abi.NoEscape", "internal/bytealg.MakeNoZero"], named := ["unicode/utf8.first", "unicode/utf8.acceptRanges", "internal/bytealg.MaxLen"], apart := false, laid := [("unicode/utf8.acceptRanges", laid_unicode_utf8_acceptRanges), ("unicode/utf8.first", laid_unicode_utf8_first)] }
def FnBlindOfSaid : Prop := fnBlindOfRow.holds Tryd.pinned (OpenSpec.ofChange fnBlindOfSpec)

/-- ITS FALSE NEIGHBOUR: 'it returns false'. Refute it at one input. -/
def fnBlindOfWrong : ChangeSpec := { name := "fnBlindOf", fn := fun _ => fun
  | [d] => { results := [.lit (.bool false)], args := [d] }
  | _ => none }
def FnBlindOfWrongFalsely : Prop := fnBlindOfRow.holds Tryd.pinned (OpenSpec.ofChange fnBlindOfWrong)

/- THE SECOND FORM. 'bulk': how many values and letters a reading holds, each counted each time it is reached (what is shared counts as often as it is met; a slice's spare places count too). A statement '..UptoSaid' is the law's where the arguments, and the package variables that the reading takes, are together of bulk at most 1048576: NARROWER than '..Said'. Prove '..Said' where nothing that the law and all that it calls make is longer than what came in: it says more and counts as full. Else prove '..UptoSaid'. A law counts once. -/
mutual
def uptoBulk {H : Type} : DataW H → Nat
  | .lit (.string bytes) => bytes.length + 1
  | .lit _ => 1
  | .nil => 1
  | .ptr d => uptoBulk d + 1
  | .slice elems spare => uptoBulkAll elems + uptoBulkAll spare + 1
  | .agg parts => uptoBulkAll parts + 1
  | .iface _ d => uptoBulk d + 1
  | .map entries => uptoBulkEntries entries + 1
  | .held _ => 1
def uptoBulkAll {H : Type} : List (DataW H) → Nat
  | [] => 0
  | d :: r => uptoBulk d + uptoBulkAll r
def uptoBulkEntries {H : Type} : List (Lit × DataW H) → Nat
  | [] => 0
  | x :: r => uptoBulkEntry x + uptoBulkEntries r
def uptoBulkEntry {H : Type} : Lit × DataW H → Nat
  | (.string bytes, d) => bytes.length + uptoBulk d + 1
  | (_, d) => uptoBulk d + 1
 end
def uptoSmall : (H : Type) → List (DataW H) → Bool := fun _ ds => decide (uptoBulkAll ds ≤ 1048576)
def OpenSpec.upto (s : _root_.Go.ChangeSpec) : _root_.Go.OpenSpec := { _root_.Go.OpenSpec.ofChange s with cond := some uptoSmall }

/-- 'laws.FnExactValidPoly', WHERE WHAT IT READS IS OF BULK AT MOST 1048576: true; the input reads as it did. -/
def fnExactValidPolyUptoRow : OpenClaim := { program := "ytmkcmkkpeimldaadoor", sum := "b986622cf18cebffe25063a45bfe0adca686c7204c90f21d82da56f6f0851c87", func := "loop.example/linksandframes/laws.FnExactValidPoly", spec := "fnExactValidPoly", inPlace := ["internal/bytealg.IndexByteString", "internal/bytealg.IndexString"], named := ["unicode/utf8.first", "unicode/utf8.acceptRanges", "internal/bytealg.MaxLen"], apart := false, laid := [("unicode/utf8.acceptRanges", laid_unicode_utf8_acceptRanges), ("unicode/utf8.first", laid_unicode_utf8_first)], narrowed := true }
def FnExactValidPolyUptoSaid : Prop := fnExactValidPolyUptoRow.holds Tryd.pinned (OpenSpec.upto fnExactValidPolySpec)

/-- 'laws.FnValidPoly', WHERE WHAT IT READS IS OF BULK AT MOST 1048576: true; the input reads as it did. -/
def fnValidPolyUptoRow : OpenClaim := { program := "ytmkcmkkpeimldaadoor", sum := "b986622cf18cebffe25063a45bfe0adca686c7204c90f21d82da56f6f0851c87", func := "loop.example/linksandframes/laws.FnValidPoly", spec := "fnValidPoly", inPlace := ["internal/bytealg.IndexByteString", "internal/bytealg.IndexString"], named := ["unicode/utf8.first", "unicode/utf8.acceptRanges", "internal/bytealg.MaxLen"], apart := false, laid := [("unicode/utf8.acceptRanges", laid_unicode_utf8_acceptRanges), ("unicode/utf8.first", laid_unicode_utf8_first)], narrowed := true }
def FnValidPolyUptoSaid : Prop := fnValidPolyUptoRow.holds Tryd.pinned (OpenSpec.upto fnValidPolySpec)

/-- 'laws.FnExactRestOf', WHERE WHAT IT READS IS OF BULK AT MOST 1048576: true; the input reads as it did. -/
def fnExactRestOfUptoRow : OpenClaim := { program := "ytmkcmkkpeimldaadoor", sum := "b986622cf18cebffe25063a45bfe0adca686c7204c90f21d82da56f6f0851c87", func := "loop.example/linksandframes/laws.FnExactRestOf", spec := "fnExactRestOf", inPlace := ["internal/bytealg.IndexByteString", "internal/bytealg.IndexString"], named := ["unicode/utf8.first", "unicode/utf8.acceptRanges", "internal/bytealg.MaxLen"], apart := false, laid := [("unicode/utf8.acceptRanges", laid_unicode_utf8_acceptRanges), ("unicode/utf8.first", laid_unicode_utf8_first)], narrowed := true }
def FnExactRestOfUptoSaid : Prop := fnExactRestOfUptoRow.holds Tryd.pinned (OpenSpec.upto fnExactRestOfSpec)

/-- 'laws.FnRestOf', WHERE WHAT IT READS IS OF BULK AT MOST 1048576: true; the input reads as it did. -/
def fnRestOfUptoRow : OpenClaim := { program := "ytmkcmkkpeimldaadoor", sum := "b986622cf18cebffe25063a45bfe0adca686c7204c90f21d82da56f6f0851c87", func := "loop.example/linksandframes/laws.FnRestOf", spec := "fnRestOf", inPlace := ["internal/bytealg.IndexByteString", "internal/bytealg.IndexString"], named := ["unicode/utf8.first", "unicode/utf8.acceptRanges", "internal/bytealg.MaxLen"], apart := false, laid := [("unicode/utf8.acceptRanges", laid_unicode_utf8_acceptRanges), ("unicode/utf8.first", laid_unicode_utf8_first)], narrowed := true }
def FnRestOfUptoSaid : Prop := fnRestOfUptoRow.holds Tryd.pinned (OpenSpec.upto fnRestOfSpec)

/-- 'laws.FnExactIsSealed', WHERE WHAT IT READS IS OF BULK AT MOST 1048576: true; the input reads as it did. -/
def fnExactIsSealedUptoRow : OpenClaim := { program := "ytmkcmkkpeimldaadoor", sum := "b986622cf18cebffe25063a45bfe0adca686c7204c90f21d82da56f6f0851c87", func := "loop.example/linksandframes/laws.FnExactIsSealed", spec := "fnExactIsSealed", inPlace := ["internal/bytealg.IndexByteString", "internal/bytealg.IndexString"], named := ["unicode/utf8.first", "unicode/utf8.acceptRanges", "internal/bytealg.MaxLen"], apart := false, laid := [("unicode/utf8.acceptRanges", laid_unicode_utf8_acceptRanges), ("unicode/utf8.first", laid_unicode_utf8_first)], narrowed := true }
def FnExactIsSealedUptoSaid : Prop := fnExactIsSealedUptoRow.holds Tryd.pinned (OpenSpec.upto fnExactIsSealedSpec)

/-- 'laws.FnIsSealed', WHERE WHAT IT READS IS OF BULK AT MOST 1048576: true; the input reads as it did. -/
def fnIsSealedUptoRow : OpenClaim := { program := "ytmkcmkkpeimldaadoor", sum := "b986622cf18cebffe25063a45bfe0adca686c7204c90f21d82da56f6f0851c87", func := "loop.example/linksandframes/laws.FnIsSealed", spec := "fnIsSealed", inPlace := ["internal/bytealg.IndexByteString", "internal/bytealg.IndexString"], named := ["unicode/utf8.first", "unicode/utf8.acceptRanges", "internal/bytealg.MaxLen"], apart := false, laid := [("unicode/utf8.acceptRanges", laid_unicode_utf8_acceptRanges), ("unicode/utf8.first", laid_unicode_utf8_first)], narrowed := true }
def FnIsSealedUptoSaid : Prop := fnIsSealedUptoRow.holds Tryd.pinned (OpenSpec.upto fnIsSealedSpec)

/-- 'laws.FnExactSealBits', WHERE WHAT IT READS IS OF BULK AT MOST 1048576: true; the input reads as it did. -/
def fnExactSealBitsUptoRow : OpenClaim := { program := "ytmkcmkkpeimldaadoor", sum := "b986622cf18cebffe25063a45bfe0adca686c7204c90f21d82da56f6f0851c87", func := "loop.example/linksandframes/laws.FnExactSealBits", spec := "fnExactSealBits", inPlace := ["internal/bytealg.IndexByteString", "internal/bytealg.IndexString", "internal/abi.NoEscape", "internal/bytealg.MakeNoZero"], named := ["unicode/utf8.first", "unicode/utf8.acceptRanges", "internal/bytealg.MaxLen"], apart := false, laid := [("unicode/utf8.acceptRanges", laid_unicode_utf8_acceptRanges), ("unicode/utf8.first", laid_unicode_utf8_first)], narrowed := true }
def FnExactSealBitsUptoSaid : Prop := fnExactSealBitsUptoRow.holds Tryd.pinned (OpenSpec.upto fnExactSealBitsSpec)

/-- 'laws.FnSealBits', WHERE WHAT IT READS IS OF BULK AT MOST 1048576: true; the input reads as it did. -/
def fnSealBitsUptoRow : OpenClaim := { program := "ytmkcmkkpeimldaadoor", sum := "b986622cf18cebffe25063a45bfe0adca686c7204c90f21d82da56f6f0851c87", func := "loop.example/linksandframes/laws.FnSealBits", spec := "fnSealBits", inPlace := ["internal/bytealg.IndexByteString", "internal/bytealg.IndexString", "internal/abi.NoEscape", "internal/bytealg.MakeNoZero"], named := ["unicode/utf8.first", "unicode/utf8.acceptRanges", "internal/bytealg.MaxLen"], apart := false, laid := [("unicode/utf8.acceptRanges", laid_unicode_utf8_acceptRanges), ("unicode/utf8.first", laid_unicode_utf8_first)], narrowed := true }
def FnSealBitsUptoSaid : Prop := fnSealBitsUptoRow.holds Tryd.pinned (OpenSpec.upto fnSealBitsSpec)

/-- 'laws.FnExactCycleOf', WHERE WHAT IT READS IS OF BULK AT MOST 1048576: true; the input reads as it did. -/
def fnExactCycleOfUptoRow : OpenClaim := { program := "ytmkcmkkpeimldaadoor", sum := "b986622cf18cebffe25063a45bfe0adca686c7204c90f21d82da56f6f0851c87", func := "loop.example/linksandframes/laws.FnExactCycleOf", spec := "fnExactCycleOf", inPlace := ["internal/bytealg.IndexByteString", "internal/bytealg.IndexString", "internal/abi.NoEscape", "internal/bytealg.MakeNoZero"], named := ["unicode/utf8.first", "unicode/utf8.acceptRanges", "internal/bytealg.MaxLen"], apart := false, laid := [("unicode/utf8.acceptRanges", laid_unicode_utf8_acceptRanges), ("unicode/utf8.first", laid_unicode_utf8_first)], narrowed := true }
def FnExactCycleOfUptoSaid : Prop := fnExactCycleOfUptoRow.holds Tryd.pinned (OpenSpec.upto fnExactCycleOfSpec)

/-- 'laws.FnCycleOf', WHERE WHAT IT READS IS OF BULK AT MOST 1048576: true; the input reads as it did. -/
def fnCycleOfUptoRow : OpenClaim := { program := "ytmkcmkkpeimldaadoor", sum := "b986622cf18cebffe25063a45bfe0adca686c7204c90f21d82da56f6f0851c87", func := "loop.example/linksandframes/laws.FnCycleOf", spec := "fnCycleOf", inPlace := ["internal/bytealg.IndexByteString", "internal/bytealg.IndexString", "internal/abi.NoEscape", "internal/bytealg.MakeNoZero"], named := ["unicode/utf8.first", "unicode/utf8.acceptRanges", "internal/bytealg.MaxLen"], apart := false, laid := [("unicode/utf8.acceptRanges", laid_unicode_utf8_acceptRanges), ("unicode/utf8.first", laid_unicode_utf8_first)], narrowed := true }
def FnCycleOfUptoSaid : Prop := fnCycleOfUptoRow.holds Tryd.pinned (OpenSpec.upto fnCycleOfSpec)

/-- 'laws.FnExactBlindOf', WHERE WHAT IT READS IS OF BULK AT MOST 1048576: true; the input reads as it did. -/
def fnExactBlindOfUptoRow : OpenClaim := { program := "ytmkcmkkpeimldaadoor", sum := "b986622cf18cebffe25063a45bfe0adca686c7204c90f21d82da56f6f0851c87", func := "loop.example/linksandframes/laws.FnExactBlindOf", spec := "fnExactBlindOf", inPlace := ["internal/bytealg.IndexByteString", "internal/bytealg.IndexString", "internal/abi.NoEscape", "internal/bytealg.MakeNoZero"], named := ["unicode/utf8.first", "unicode/utf8.acceptRanges", "internal/bytealg.MaxLen"], apart := false, laid := [("unicode/utf8.acceptRanges", laid_unicode_utf8_acceptRanges), ("unicode/utf8.first", laid_unicode_utf8_first)], narrowed := true }
def FnExactBlindOfUptoSaid : Prop := fnExactBlindOfUptoRow.holds Tryd.pinned (OpenSpec.upto fnExactBlindOfSpec)

/-- 'laws.FnBlindOf', WHERE WHAT IT READS IS OF BULK AT MOST 1048576: true; the input reads as it did. -/
def fnBlindOfUptoRow : OpenClaim := { program := "ytmkcmkkpeimldaadoor", sum := "b986622cf18cebffe25063a45bfe0adca686c7204c90f21d82da56f6f0851c87", func := "loop.example/linksandframes/laws.FnBlindOf", spec := "fnBlindOf", inPlace := ["internal/bytealg.IndexByteString", "internal/bytealg.IndexString", "internal/abi.NoEscape", "internal/bytealg.MakeNoZero"], named := ["unicode/utf8.first", "unicode/utf8.acceptRanges", "internal/bytealg.MaxLen"], apart := false, laid := [("unicode/utf8.acceptRanges", laid_unicode_utf8_acceptRanges), ("unicode/utf8.first", laid_unicode_utf8_first)], narrowed := true }
def FnBlindOfUptoSaid : Prop := fnBlindOfUptoRow.holds Tryd.pinned (OpenSpec.upto fnBlindOfSpec)

end Rows
end Go.Proofs.YtmkcmkkpeimldaaDoor
