/-
  No cell of these rows narrows 'for every input' (looked for: loops, veiled, ifaces, maps, wideKeys, modest, calm, conditions, laid).
  DERIVED. THE GIVEN ROWS OF THIS SEAT. 6 by the template 'for every input the law returns true; each argument reads behind the call as it read before'; 0 by the template 'total and deterministic' (their statements: YtkfbmpllbcladaaTotals.lean).
  GIVEN WITH THE SEED: the statements are not yours to turn. If you find one false, say at which input.
  Laid BY PROGRAM, IN A SANDBOX (cutbox-rows.mjs): the forced cells as the released guide's own fill.sh prints them over the translation b982870199339857… (all of the seat's roots in one cut). By AI agents, Wed Nov 11 2026. No macro, syntax, notation, axiom, sorry.
-/
import Derived.Test.YtkfbmpllbcladaaChecked
import GoSem.Claim
import GoSem.ClaimJoined
import GoSem.ClaimMapViews
import Derived.JoinedTies
import Derived.KernelRfl
namespace Go.Proofs.Ytkfbmpllbcladaa
/- THE CELL 'sum', in the pinned program and in every row, IS THE sha256 OF THE DUMP (.gsa) THAT YtkfbmpllbcladaaProg.lean LOADS. Nothing in Lean hashes anything: it is a label: what it is worth is what the hold of that sum in a sandbox is worth. -/
noncomputable def Try.pinned : Pinned := { name := "ytkfbmpllbcladaa", sum := "b9828701993398575e3dbaaacafee2efa7f8f27719816ef9b08153e1708c9232", checked := Try.checked }
namespace Rows
def none {H : Type} : Left H := { results := [], args := [] }

/-- 'laws.FnUnescapeBytes': WHATEVER THE INPUT: true; the input reads as it did. -/
def fnUnescapeBytesSpec : ChangeSpec := { name := "fnUnescapeBytes", fn := fun _ => fun
  | [d] => { results := [.lit (.bool true)], args := [d] }
  | _ => none }
def fnUnescapeBytesRow : OpenClaim := { program := "ytkfbmpllbcladaa", sum := "b9828701993398575e3dbaaacafee2efa7f8f27719816ef9b08153e1708c9232", func := "loop.example/linksandframes/laws.FnUnescapeBytes", spec := "fnUnescapeBytes", unfollowed := true, recurses := true, apart := false }
def FnUnescapeBytesSaid : Prop := fnUnescapeBytesRow.holds Try.pinned (OpenSpec.ofChange fnUnescapeBytesSpec)

/-- ITS FALSE NEIGHBOUR: 'it returns false'. Refute it at one input. -/
def fnUnescapeBytesWrong : ChangeSpec := { name := "fnUnescapeBytes", fn := fun _ => fun
  | [d] => { results := [.lit (.bool false)], args := [d] }
  | _ => none }
def FnUnescapeBytesWrongFalsely : Prop := fnUnescapeBytesRow.holds Try.pinned (OpenSpec.ofChange fnUnescapeBytesWrong)

/-- 'laws.FnUnpointBytes': WHATEVER THE INPUT: true; the input reads as it did. -/
def fnUnpointBytesSpec : ChangeSpec := { name := "fnUnpointBytes", fn := fun _ => fun
  | [d] => { results := [.lit (.bool true)], args := [d] }
  | _ => none }
def fnUnpointBytesRow : OpenClaim := { program := "ytkfbmpllbcladaa", sum := "b9828701993398575e3dbaaacafee2efa7f8f27719816ef9b08153e1708c9232", func := "loop.example/linksandframes/laws.FnUnpointBytes", spec := "fnUnpointBytes", unfollowed := true, recurses := true, apart := false }
def FnUnpointBytesSaid : Prop := fnUnpointBytesRow.holds Try.pinned (OpenSpec.ofChange fnUnpointBytesSpec)

/-- ITS FALSE NEIGHBOUR: 'it returns false'. Refute it at one input. -/
def fnUnpointBytesWrong : ChangeSpec := { name := "fnUnpointBytes", fn := fun _ => fun
  | [d] => { results := [.lit (.bool false)], args := [d] }
  | _ => none }
def FnUnpointBytesWrongFalsely : Prop := fnUnpointBytesRow.holds Try.pinned (OpenSpec.ofChange fnUnpointBytesWrong)

/-- 'laws.FnExactPackFields': WHATEVER THE INPUT: true; the input reads as it did. -/
def fnExactPackFieldsSpec : ChangeSpec := { name := "fnExactPackFields", fn := fun _ => fun
  | [d] => { results := [.lit (.bool true)], args := [d] }
  | _ => none }
def fnExactPackFieldsRow : OpenClaim := { program := "ytkfbmpllbcladaa", sum := "b9828701993398575e3dbaaacafee2efa7f8f27719816ef9b08153e1708c9232", func := "loop.example/linksandframes/laws.FnExactPackFields", spec := "fnExactPackFields", unfollowed := true, recurses := true, apart := false }
def FnExactPackFieldsSaid : Prop := fnExactPackFieldsRow.holds Try.pinned (OpenSpec.ofChange fnExactPackFieldsSpec)

/-- ITS FALSE NEIGHBOUR: 'it returns false'. Refute it at one input. -/
def fnExactPackFieldsWrong : ChangeSpec := { name := "fnExactPackFields", fn := fun _ => fun
  | [d] => { results := [.lit (.bool false)], args := [d] }
  | _ => none }
def FnExactPackFieldsWrongFalsely : Prop := fnExactPackFieldsRow.holds Try.pinned (OpenSpec.ofChange fnExactPackFieldsWrong)

/-- 'laws.FnPackFields': WHATEVER THE INPUT: true; the input reads as it did. -/
def fnPackFieldsSpec : ChangeSpec := { name := "fnPackFields", fn := fun _ => fun
  | [d] => { results := [.lit (.bool true)], args := [d] }
  | _ => none }
def fnPackFieldsRow : OpenClaim := { program := "ytkfbmpllbcladaa", sum := "b9828701993398575e3dbaaacafee2efa7f8f27719816ef9b08153e1708c9232", func := "loop.example/linksandframes/laws.FnPackFields", spec := "fnPackFields", unfollowed := true, recurses := true, apart := false }
def FnPackFieldsSaid : Prop := fnPackFieldsRow.holds Try.pinned (OpenSpec.ofChange fnPackFieldsSpec)

/-- ITS FALSE NEIGHBOUR: 'it returns false'. Refute it at one input. -/
def fnPackFieldsWrong : ChangeSpec := { name := "fnPackFields", fn := fun _ => fun
  | [d] => { results := [.lit (.bool false)], args := [d] }
  | _ => none }
def FnPackFieldsWrongFalsely : Prop := fnPackFieldsRow.holds Try.pinned (OpenSpec.ofChange fnPackFieldsWrong)

/-- 'laws.FnExactUnpackFields': WHATEVER THE INPUT: true; the input reads as it did. -/
def fnExactUnpackFieldsSpec : ChangeSpec := { name := "fnExactUnpackFields", fn := fun _ => fun
  | [d] => { results := [.lit (.bool true)], args := [d] }
  | _ => none }
def fnExactUnpackFieldsRow : OpenClaim := { program := "ytkfbmpllbcladaa", sum := "b9828701993398575e3dbaaacafee2efa7f8f27719816ef9b08153e1708c9232", func := "loop.example/linksandframes/laws.FnExactUnpackFields", spec := "fnExactUnpackFields", unfollowed := true, recurses := true, apart := false }
def FnExactUnpackFieldsSaid : Prop := fnExactUnpackFieldsRow.holds Try.pinned (OpenSpec.ofChange fnExactUnpackFieldsSpec)

/-- ITS FALSE NEIGHBOUR: 'it returns false'. Refute it at one input. -/
def fnExactUnpackFieldsWrong : ChangeSpec := { name := "fnExactUnpackFields", fn := fun _ => fun
  | [d] => { results := [.lit (.bool false)], args := [d] }
  | _ => none }
def FnExactUnpackFieldsWrongFalsely : Prop := fnExactUnpackFieldsRow.holds Try.pinned (OpenSpec.ofChange fnExactUnpackFieldsWrong)

/-- 'laws.FnUnpackFields': WHATEVER THE INPUT: true; the input reads as it did. -/
def fnUnpackFieldsSpec : ChangeSpec := { name := "fnUnpackFields", fn := fun _ => fun
  | [d] => { results := [.lit (.bool true)], args := [d] }
  | _ => none }
def fnUnpackFieldsRow : OpenClaim := { program := "ytkfbmpllbcladaa", sum := "b9828701993398575e3dbaaacafee2efa7f8f27719816ef9b08153e1708c9232", func := "loop.example/linksandframes/laws.FnUnpackFields", spec := "fnUnpackFields", unfollowed := true, recurses := true, apart := false }
def FnUnpackFieldsSaid : Prop := fnUnpackFieldsRow.holds Try.pinned (OpenSpec.ofChange fnUnpackFieldsSpec)

/-- ITS FALSE NEIGHBOUR: 'it returns false'. Refute it at one input. -/
def fnUnpackFieldsWrong : ChangeSpec := { name := "fnUnpackFields", fn := fun _ => fun
  | [d] => { results := [.lit (.bool false)], args := [d] }
  | _ => none }
def FnUnpackFieldsWrongFalsely : Prop := fnUnpackFieldsRow.holds Try.pinned (OpenSpec.ofChange fnUnpackFieldsWrong)

/- THE SECOND FORM. 'bulk': how many values and letters a reading holds, each counted each time it is reached (what is shared counts as often as it is met; a slice's spare places count too). A statement '..UptoSaid' is the law's where the arguments, and the package variables that the reading takes, are together of bulk at most 1048576: NARROWER than '..Said'. Prove '..Said' where nothing that the law and all that it calls make is longer than what came in: it says more and counts as full. Else prove '..UptoSaid'. A law counts once. -/
mutual
def uptoBulk {H : Type} : DataW H → Nat
  | .lit (.string bytes) => bytes.length + 1
  | .lit _ => 1
  | .nil => 1
  | .ptr d => uptoBulk d + 1
  | .slice elems spare => uptoBulkAll elems + uptoBulkAll spare + 1
  | .agg parts => uptoBulkAll parts + 1
  | .iface _ d => uptoBulk d + 1
  | .map entries => uptoBulkEntries entries + 1
  | .held _ => 1
def uptoBulkAll {H : Type} : List (DataW H) → Nat
  | [] => 0
  | d :: r => uptoBulk d + uptoBulkAll r
def uptoBulkEntries {H : Type} : List (Lit × DataW H) → Nat
  | [] => 0
  | x :: r => uptoBulkEntry x + uptoBulkEntries r
def uptoBulkEntry {H : Type} : Lit × DataW H → Nat
  | (.string bytes, d) => bytes.length + uptoBulk d + 1
  | (_, d) => uptoBulk d + 1
 end
def uptoSmall : (H : Type) → List (DataW H) → Bool := fun _ ds => decide (uptoBulkAll ds ≤ 1048576)
def OpenSpec.upto (s : _root_.Go.ChangeSpec) : _root_.Go.OpenSpec := { _root_.Go.OpenSpec.ofChange s with cond := some uptoSmall }

/-- 'laws.FnUnescapeBytes', WHERE WHAT IT READS IS OF BULK AT MOST 1048576: true; the input reads as it did. -/
def fnUnescapeBytesUptoRow : OpenClaim := { program := "ytkfbmpllbcladaa", sum := "b9828701993398575e3dbaaacafee2efa7f8f27719816ef9b08153e1708c9232", func := "loop.example/linksandframes/laws.FnUnescapeBytes", spec := "fnUnescapeBytes", unfollowed := true, recurses := true, apart := false, narrowed := true }
def FnUnescapeBytesUptoSaid : Prop := fnUnescapeBytesUptoRow.holds Try.pinned (OpenSpec.upto fnUnescapeBytesSpec)

/-- 'laws.FnUnpointBytes', WHERE WHAT IT READS IS OF BULK AT MOST 1048576: true; the input reads as it did. -/
def fnUnpointBytesUptoRow : OpenClaim := { program := "ytkfbmpllbcladaa", sum := "b9828701993398575e3dbaaacafee2efa7f8f27719816ef9b08153e1708c9232", func := "loop.example/linksandframes/laws.FnUnpointBytes", spec := "fnUnpointBytes", unfollowed := true, recurses := true, apart := false, narrowed := true }
def FnUnpointBytesUptoSaid : Prop := fnUnpointBytesUptoRow.holds Try.pinned (OpenSpec.upto fnUnpointBytesSpec)

/-- 'laws.FnExactPackFields', WHERE WHAT IT READS IS OF BULK AT MOST 1048576: true; the input reads as it did. -/
def fnExactPackFieldsUptoRow : OpenClaim := { program := "ytkfbmpllbcladaa", sum := "b9828701993398575e3dbaaacafee2efa7f8f27719816ef9b08153e1708c9232", func := "loop.example/linksandframes/laws.FnExactPackFields", spec := "fnExactPackFields", unfollowed := true, recurses := true, apart := false, narrowed := true }
def FnExactPackFieldsUptoSaid : Prop := fnExactPackFieldsUptoRow.holds Try.pinned (OpenSpec.upto fnExactPackFieldsSpec)

/-- 'laws.FnPackFields', WHERE WHAT IT READS IS OF BULK AT MOST 1048576: true; the input reads as it did. -/
def fnPackFieldsUptoRow : OpenClaim := { program := "ytkfbmpllbcladaa", sum := "b9828701993398575e3dbaaacafee2efa7f8f27719816ef9b08153e1708c9232", func := "loop.example/linksandframes/laws.FnPackFields", spec := "fnPackFields", unfollowed := true, recurses := true, apart := false, narrowed := true }
def FnPackFieldsUptoSaid : Prop := fnPackFieldsUptoRow.holds Try.pinned (OpenSpec.upto fnPackFieldsSpec)

/-- 'laws.FnExactUnpackFields', WHERE WHAT IT READS IS OF BULK AT MOST 1048576: true; the input reads as it did. -/
def fnExactUnpackFieldsUptoRow : OpenClaim := { program := "ytkfbmpllbcladaa", sum := "b9828701993398575e3dbaaacafee2efa7f8f27719816ef9b08153e1708c9232", func := "loop.example/linksandframes/laws.FnExactUnpackFields", spec := "fnExactUnpackFields", unfollowed := true, recurses := true, apart := false, narrowed := true }
def FnExactUnpackFieldsUptoSaid : Prop := fnExactUnpackFieldsUptoRow.holds Try.pinned (OpenSpec.upto fnExactUnpackFieldsSpec)

/-- 'laws.FnUnpackFields', WHERE WHAT IT READS IS OF BULK AT MOST 1048576: true; the input reads as it did. -/
def fnUnpackFieldsUptoRow : OpenClaim := { program := "ytkfbmpllbcladaa", sum := "b9828701993398575e3dbaaacafee2efa7f8f27719816ef9b08153e1708c9232", func := "loop.example/linksandframes/laws.FnUnpackFields", spec := "fnUnpackFields", unfollowed := true, recurses := true, apart := false, narrowed := true }
def FnUnpackFieldsUptoSaid : Prop := fnUnpackFieldsUptoRow.holds Try.pinned (OpenSpec.upto fnUnpackFieldsSpec)

end Rows
end Go.Proofs.Ytkfbmpllbcladaa
