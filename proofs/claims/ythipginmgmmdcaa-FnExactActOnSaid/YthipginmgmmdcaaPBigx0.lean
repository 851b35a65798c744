/- Written by a program: each theorem '.calls' says that the call of a function of the given program comes to what the Lean function beside it says; no condition but what stands in it. -/
import Derived.Test.YthipginmgmmdcaaProg
import Derived.Below
import Derived.Deep.Draws
import Derived.Deep.AppendLies
import Derived.Maps.AppendAt
import Derived.OwnWalk
import Derived.Laws.BytesArg
import Derived.Laws.MakeOwn
import Derived.Laws.OwnMore
import Derived.Deep.OwnRows
import Derived.Tactics
import Derived.Lib.ConvBytes
import Derived.Laws.Slices
import Derived.WalkKit
import Derived.KernelRfl
import Derived.RowKit3
import Derived.Deep.LoopGhost
import Derived.Deep.QuietTactic
import Derived.BigQuiet
import Derived.WideLaws
import Derived.Deep.DeepCutAuto
import Derived.Deep.CutBlock
import Derived.Deep.RegionHeld3
import Derived.Laws.Rows
import Derived.Lib.AppendStr
import Derived.ArgAppend
import Derived.Laws.IdiomCopy
import Derived.OrdersHeld
import Derived.Laws.BitsLemmas
import Derived.RowKit
import Derived.WalkSpells
import Derived.Shelf.Abstract
import Derived.Test.YthipginmgmmdcaaWWords
import Derived.Test.YthipginmgmmdcaaWLast
import Derived.Test.YthipginmgmmdcaaWTab
import Derived.Test.YthipginmgmmdcaaWFour
import Derived.Test.YthipginmgmmdcaaWQPut
import Derived.Test.YthipginmgmmdcaaWApart
import Derived.Test.YthipginmgmmdcaaWArr
import Derived.Test.YthipginmgmmdcaaWZeros
import Derived.Test.YthipginmgmmdcaaWFoot
import Derived.Test.YthipginmgmmdcaaWKept
import Derived.Test.YthipginmgmmdcaaWShare
import Derived.Test.YthipginmgmmdcaaWN
import Derived.Test.YthipginmgmmdcaaWFootNe
import Derived.Test.YthipginmgmmdcaaWAt
import Derived.Test.YthipginmgmmdcaaWEqStruct
import Derived.Test.YthipginmgmmdcaaWRepsOne
import Derived.Test.YthipginmgmmdcaaWInv
import Derived.Test.YthipginmgmmdcaaWInvWords
import Derived.Test.YthipginmgmmdcaaWGuard
import Derived.Test.YthipginmgmmdcaaWNEv
import Derived.Test.YthipginmgmmdcaaWMore
namespace Go.Proofs.Ythipginmgmmdcaa.PBig
open Go.RowKit Go.Proofs.YthipginmgmmdcaaW.PrintWords Go.Proofs.YthipginmgmmdcaaW.PrintLast Go.Proofs.YthipginmgmmdcaaW.PrintMore
attribute [local go_sem] max2_int min2_int max_two min_two max_three min_three max_four min_four   -- for this text's walks alone
set_option linter.unusedVariables false
set_option linter.unusedSimpArgs false



def errW : Option Int → Value
  | none => .nilIface
  | some c => .iface 0 (.int .i64 c)
theorem errW_none : errW none = .nilIface := rfl
theorem errW_some (c : Int) : errW (some c) = .iface 0 (.int .i64 c) := rfl

-- the values' own types

end Go.Proofs.Ythipginmgmmdcaa.PBig
