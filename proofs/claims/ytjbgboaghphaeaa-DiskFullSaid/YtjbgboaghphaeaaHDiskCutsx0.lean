-- Written by a program of ours (hprint.py) for this claim, over the print of the kit.
import Derived.Test.YtjbgboaghphaeaaProg
import Derived.Below
import Derived.Deep.Draws
import Derived.Deep.AppendLies
import Derived.Maps.AppendAt
import Derived.OwnWalk
import Derived.Laws.BytesArg
import Derived.Laws.MakeOwn
import Derived.Laws.OwnMore
import Derived.Deep.OwnRows
import Derived.Tactics
import Derived.Lib.ConvBytes
import Derived.Laws.Slices
import Derived.WalkKit
import Derived.KernelRfl
import Derived.RowKit3
import Derived.Deep.LoopGhost
import Derived.Deep.QuietTactic
import Derived.BigQuiet
import Derived.WideLaws
import Derived.Deep.DeepCutAuto
import Derived.Deep.CutBlock
import Derived.Deep.RegionHeld3
import Derived.Laws.Rows
import Derived.Lib.AppendStr
import Derived.ArgAppend
import Derived.Laws.IdiomCopy
import Derived.OrdersHeld
import Derived.Laws.BitsLemmas
import Derived.RowKit
import Derived.Lib.Hide
import Derived.Handy
import Derived.Test.YtjbgboaghphaeaaWWords
import Derived.Test.YtjbgboaghphaeaaWLast
import Derived.Test.YtjbgboaghphaeaaWTab
import Derived.Test.YtjbgboaghphaeaaWFour
import Derived.Test.YtjbgboaghphaeaaWQPut
import Derived.Test.YtjbgboaghphaeaaWApart
import Derived.Test.YtjbgboaghphaeaaWArr
import Derived.Test.YtjbgboaghphaeaaWZeros
import Derived.Test.YtjbgboaghphaeaaWFoot
import Derived.Test.YtjbgboaghphaeaaWKept
import Derived.Test.YtjbgboaghphaeaaWShare
import Derived.Test.YtjbgboaghphaeaaWN
import Derived.Test.YtjbgboaghphaeaaWFootNe
import Derived.Test.YtjbgboaghphaeaaWAt
import Derived.Test.YtjbgboaghphaeaaWEqStruct
import Derived.Test.YtjbgboaghphaeaaWRepsOne
import Derived.Test.YtjbgboaghphaeaaWInv
import Derived.Test.YtjbgboaghphaeaaWInvWords
import Derived.Test.YtjbgboaghphaeaaWGuard
import Derived.Test.YtjbgboaghphaeaaWNEv
import Derived.Test.YtjbgboaghphaeaaWMore
namespace Go.Proofs.Ytjbgboaghphaeaa.HDiskCuts
open Go.RowKit Go.Proofs.YtjbgboaghphaeaaW.PrintWords Go.Proofs.YtjbgboaghphaeaaW.PrintLast Go.Proofs.YtjbgboaghphaeaaW.PrintMore
attribute [local go_sem] max2_int min2_int max_two min_two max_three min_three max_four min_four   -- for this text's walks alone
set_option linter.unusedVariables false
set_option linter.unusedSimpArgs false



def errW : Option Int → Value
  | none => .nilIface
  | some c => .iface 0 (.int .i64 c)
theorem errW_none : errW none = .nilIface := rfl
theorem errW_some (c : Int) : errW (some c) = .iface 0 (.int .i64 c) := rfl

-- the values' own types

end Go.Proofs.Ytjbgboaghphaeaa.HDiskCuts
