-- Written by a program of ours (hprint.py) for this claim, over the print of the kit.
import Derived.Test.YtbecemdehelooaaDoorProg
import Derived.Below
import Derived.Deep.Draws
import Derived.Deep.AppendLies
import Derived.Maps.AppendAt
import Derived.OwnWalk
import Derived.Laws.BytesArg
import Derived.Laws.MakeOwn
import Derived.Laws.OwnMore
import Derived.Deep.OwnRows
import Derived.Tactics
import Derived.Lib.ConvBytes
import Derived.Laws.Slices
import Derived.WalkKit
import Derived.KernelRfl
import Derived.RowKit3
import Derived.Deep.LoopGhost
import Derived.Deep.QuietTactic
import Derived.BigQuiet
import Derived.WideLaws
import Derived.Deep.DeepCutAuto
import Derived.Deep.CutBlock
import Derived.Deep.RegionHeld3
import Derived.Laws.Rows
import Derived.Lib.AppendStr
import Derived.ArgAppend
import Derived.Laws.IdiomCopy
import Derived.OrdersHeld
import Derived.Laws.BitsLemmas
import Derived.RowKit
import Derived.Lib.Hide
import Derived.Handy
import Derived.Test.YtbecemdehelooaaDoorWWords
import Derived.Test.YtbecemdehelooaaDoorWLast
import Derived.Test.YtbecemdehelooaaDoorWTab
import Derived.Test.YtbecemdehelooaaDoorWFour
import Derived.Test.YtbecemdehelooaaDoorWQPut
import Derived.Test.YtbecemdehelooaaDoorWApart
import Derived.Test.YtbecemdehelooaaDoorWArr
import Derived.Test.YtbecemdehelooaaDoorWZeros
import Derived.Test.YtbecemdehelooaaDoorWFoot
import Derived.Test.YtbecemdehelooaaDoorWKept
import Derived.Test.YtbecemdehelooaaDoorWShare
import Derived.Test.YtbecemdehelooaaDoorWN
import Derived.Test.YtbecemdehelooaaDoorWFootNe
import Derived.Test.YtbecemdehelooaaDoorWAt
import Derived.Test.YtbecemdehelooaaDoorWEqStruct
import Derived.Test.YtbecemdehelooaaDoorWRepsOne
import Derived.Test.YtbecemdehelooaaDoorWInv
import Derived.Test.YtbecemdehelooaaDoorWInvWords
import Derived.Test.YtbecemdehelooaaDoorWGuard
import Derived.Test.YtbecemdehelooaaDoorWNEv
import Derived.Test.YtbecemdehelooaaDoorWMore
namespace Go.Proofs.YtbecemdehelooaaDoor.HLine
open Go.RowKit Go.Proofs.YtbecemdehelooaaDoorW.PrintWords Go.Proofs.YtbecemdehelooaaDoorW.PrintLast Go.Proofs.YtbecemdehelooaaDoorW.PrintMore
attribute [local go_sem] max2_int min2_int max_two min_two max_three min_three max_four min_four   -- for this text's walks alone
set_option linter.unusedVariables false
set_option linter.unusedSimpArgs false



def errW : Option Int → Value
  | none => .nilIface
  | some c => .iface 0 (.int .i64 c)
theorem errW_none : errW none = .nilIface := rfl
theorem errW_some (c : Int) : errW (some c) = .iface 0 (.int .i64 c) := rfl

theorem info5 : (Tryd.prog.info? 5).map (fun i => (i.zero, i.size, i.bytes)) = some (some (.int .u8 0), 1, 1) := by kernel_rfl
theorem info9 : (Tryd.prog.info? 9).map (fun i => (i.zero, i.size, i.bytes)) = some (some (.string ⟨#[]⟩), 1, 16) := by kernel_rfl
-- the values' own types

end Go.Proofs.YtbecemdehelooaaDoor.HLine
