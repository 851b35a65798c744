/- Written by a program: each theorem '.calls' says that the call of a function of the given program comes to what the Lean function beside it says; no condition but what stands in it. -/
import Derived.Test.YtkhoekcjomnaeaaDoorProg
import Derived.Below
import Derived.Deep.Draws
import Derived.Deep.AppendLies
import Derived.Maps.AppendAt
import Derived.OwnWalk
import Derived.Laws.BytesArg
import Derived.Laws.MakeOwn
import Derived.Laws.OwnMore
import Derived.Deep.OwnRows
import Derived.Tactics
import Derived.Lib.ConvBytes
import Derived.Laws.Slices
import Derived.WalkKit
import Derived.KernelRfl
import Derived.RowKit3
import Derived.Deep.LoopGhost
import Derived.Deep.QuietTactic
import Derived.BigQuiet
import Derived.WideLaws
import Derived.Deep.DeepCutAuto
import Derived.Deep.CutBlock
import Derived.Deep.RegionHeld3
import Derived.Laws.Rows
import Derived.Lib.AppendStr
import Derived.ArgAppend
import Derived.Laws.IdiomCopy
import Derived.OrdersHeld
import Derived.Laws.BitsLemmas
import Derived.RowKit
import Derived.WalkSpells
import Derived.Shelf.Abstract
import Derived.BigRegion
import Derived.Test.YtkhoekcjomnaeaaDoorLay
import Derived.Test.YtkhoekcjomnaeaaDoorWWords
import Derived.Test.YtkhoekcjomnaeaaDoorWLast
import Derived.Test.YtkhoekcjomnaeaaDoorWTab
import Derived.Test.YtkhoekcjomnaeaaDoorWFour
import Derived.Test.YtkhoekcjomnaeaaDoorWQPut
import Derived.Test.YtkhoekcjomnaeaaDoorWApart
import Derived.Test.YtkhoekcjomnaeaaDoorWArr
import Derived.Test.YtkhoekcjomnaeaaDoorWZeros
import Derived.Test.YtkhoekcjomnaeaaDoorWFoot
import Derived.Test.YtkhoekcjomnaeaaDoorWKept
import Derived.Test.YtkhoekcjomnaeaaDoorWShare
import Derived.Test.YtkhoekcjomnaeaaDoorWN
import Derived.Test.YtkhoekcjomnaeaaDoorWFootNe
import Derived.Test.YtkhoekcjomnaeaaDoorWAt
import Derived.Test.YtkhoekcjomnaeaaDoorWEqStruct
import Derived.Test.YtkhoekcjomnaeaaDoorWRepsOne
import Derived.Test.YtkhoekcjomnaeaaDoorWInv
import Derived.Test.YtkhoekcjomnaeaaDoorWInvWords
import Derived.Test.YtkhoekcjomnaeaaDoorWGuard
import Derived.Test.YtkhoekcjomnaeaaDoorWNEv
import Derived.Test.YtkhoekcjomnaeaaDoorWMore
namespace Go.Proofs.YtkhoekcjomnaeaaDoor.P
open Go.RowKit Go.Proofs.YtkhoekcjomnaeaaDoorW.PrintWords Go.Proofs.YtkhoekcjomnaeaaDoorW.PrintLast Go.Proofs.YtkhoekcjomnaeaaDoorW.PrintMore
attribute [local go_sem] max2_int min2_int max_two min_two max_three min_three max_four min_four   -- for this text's walks alone
set_option linter.unusedVariables false
set_option linter.unusedSimpArgs false



def errW : Option Int → Value
  | none => .nilIface
  | some c => .iface 0 (.int .i64 c)
theorem errW_none : errW none = .nilIface := rfl
theorem errW_some (c : Int) : errW (some c) = .iface 0 (.int .i64 c) := rfl

theorem info3 : (Tryd.prog.info? 3).map (fun i => (i.zero, i.size, i.bytes)) = some (some (.int .i64 0), 1, 8) := by kernel_rfl
theorem info5 : (Tryd.prog.info? 5).map (fun i => (i.zero, i.size, i.bytes)) = some (some (.int .u8 0), 1, 1) := by kernel_rfl
theorem info9 : (Tryd.prog.info? 9).map (fun i => (i.zero, i.size, i.bytes)) = some (some (.string ⟨#[]⟩), 1, 16) := by kernel_rfl
-- the values' own types

end Go.Proofs.YtkhoekcjomnaeaaDoor.P
