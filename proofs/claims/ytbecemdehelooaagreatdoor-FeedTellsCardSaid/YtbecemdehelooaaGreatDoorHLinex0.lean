-- Written by a program of ours (hprint.py) for this claim, over the print of the kit.
import Derived.Test.YtbecemdehelooaaGreatDoorProg
import Derived.Below
import Derived.Deep.Draws
import Derived.Deep.AppendLies
import Derived.Maps.AppendAt
import Derived.OwnWalk
import Derived.Laws.BytesArg
import Derived.Laws.MakeOwn
import Derived.Laws.OwnMore
import Derived.Deep.OwnRows
import Derived.Tactics
import Derived.Lib.ConvBytes
import Derived.Laws.Slices
import Derived.WalkKit
import Derived.KernelRfl
import Derived.RowKit3
import Derived.Deep.LoopGhost
import Derived.Deep.QuietTactic
import Derived.BigQuiet
import Derived.WideLaws
import Derived.Deep.DeepCutAuto
import Derived.Deep.CutBlock
import Derived.Deep.RegionHeld3
import Derived.Laws.Rows
import Derived.Lib.AppendStr
import Derived.ArgAppend
import Derived.Laws.IdiomCopy
import Derived.OrdersHeld
import Derived.Laws.BitsLemmas
import Derived.RowKit
import Derived.Lib.Hide
import Derived.Handy
import Derived.Test.YtbecemdehelooaaGreatDoorWWords
import Derived.Test.YtbecemdehelooaaGreatDoorWLast
import Derived.Test.YtbecemdehelooaaGreatDoorWTab
import Derived.Test.YtbecemdehelooaaGreatDoorWFour
import Derived.Test.YtbecemdehelooaaGreatDoorWQPut
import Derived.Test.YtbecemdehelooaaGreatDoorWApart
import Derived.Test.YtbecemdehelooaaGreatDoorWArr
import Derived.Test.YtbecemdehelooaaGreatDoorWZeros
import Derived.Test.YtbecemdehelooaaGreatDoorWFoot
import Derived.Test.YtbecemdehelooaaGreatDoorWKept
import Derived.Test.YtbecemdehelooaaGreatDoorWShare
import Derived.Test.YtbecemdehelooaaGreatDoorWN
import Derived.Test.YtbecemdehelooaaGreatDoorWFootNe
import Derived.Test.YtbecemdehelooaaGreatDoorWAt
import Derived.Test.YtbecemdehelooaaGreatDoorWEqStruct
import Derived.Test.YtbecemdehelooaaGreatDoorWRepsOne
import Derived.Test.YtbecemdehelooaaGreatDoorWInv
import Derived.Test.YtbecemdehelooaaGreatDoorWInvWords
import Derived.Test.YtbecemdehelooaaGreatDoorWGuard
import Derived.Test.YtbecemdehelooaaGreatDoorWNEv
import Derived.Test.YtbecemdehelooaaGreatDoorWMore
namespace Go.Proofs.YtbecemdehelooaaGreatDoor.HLine
open Go.RowKit Go.Proofs.YtbecemdehelooaaGreatDoorW.PrintWords Go.Proofs.YtbecemdehelooaaGreatDoorW.PrintLast Go.Proofs.YtbecemdehelooaaGreatDoorW.PrintMore
attribute [local go_sem] max2_int min2_int max_two min_two max_three min_three max_four min_four   -- for this text's walks alone
set_option linter.unusedVariables false
set_option linter.unusedSimpArgs false



def errW : Option Int → Value
  | none => .nilIface
  | some c => .iface 0 (.int .i64 c)
theorem errW_none : errW none = .nilIface := rfl
theorem errW_some (c : Int) : errW (some c) = .iface 0 (.int .i64 c) := rfl

theorem info5 : (Tryz.prog.info? 5).map (fun i => (i.zero, i.size, i.bytes)) = some (some (.int .u8 0), 1, 1) := by kernel_rfl
theorem info9 : (Tryz.prog.info? 9).map (fun i => (i.zero, i.size, i.bytes)) = some (some (.string ⟨#[]⟩), 1, 16) := by kernel_rfl
-- the values' own types

end Go.Proofs.YtbecemdehelooaaGreatDoor.HLine
