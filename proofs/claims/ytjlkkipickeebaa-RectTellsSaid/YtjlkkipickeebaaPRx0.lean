-- Printed by a program of this session (wip/tools), out of the translation: Lean checks it.
import Derived.Test.YtjlkkipickeebaaProg
import Derived.Below
import Derived.Deep.Draws
import Derived.Deep.AppendLies
import Derived.Maps.AppendAt
import Derived.OwnWalk
import Derived.Laws.BytesArg
import Derived.Laws.MakeOwn
import Derived.Laws.OwnMore
import Derived.Deep.OwnRows
import Derived.Tactics
import Derived.Lib.ConvBytes
import Derived.Laws.Slices
import Derived.WalkKit
import Derived.KernelRfl
import Derived.RowKit3
import Derived.Deep.LoopGhost
import Derived.Deep.QuietTactic
import Derived.BigQuiet
import Derived.WideLaws
import Derived.Deep.DeepCutAuto
import Derived.Deep.CutBlock
import Derived.Deep.RegionHeld3
import Derived.Laws.Rows
import Derived.Lib.AppendStr
import Derived.ArgAppend
import Derived.Laws.IdiomCopy
import Derived.OrdersHeld
import Derived.Laws.BitsLemmas
import Derived.RowKit
import Derived.Test.YtjlkkipickeebaaWWords
import Derived.Test.YtjlkkipickeebaaWLast
import Derived.Test.YtjlkkipickeebaaWTab
import Derived.Test.YtjlkkipickeebaaWFour
import Derived.Test.YtjlkkipickeebaaWQPut
import Derived.Test.YtjlkkipickeebaaWApart
import Derived.Test.YtjlkkipickeebaaWArr
import Derived.Test.YtjlkkipickeebaaWZeros
import Derived.Test.YtjlkkipickeebaaWFoot
import Derived.Test.YtjlkkipickeebaaWKept
import Derived.Test.YtjlkkipickeebaaWShare
import Derived.Test.YtjlkkipickeebaaWN
import Derived.Test.YtjlkkipickeebaaWFootNe
import Derived.Test.YtjlkkipickeebaaWAt
import Derived.Test.YtjlkkipickeebaaWEqStruct
import Derived.Test.YtjlkkipickeebaaWRepsOne
import Derived.Test.YtjlkkipickeebaaWInv
import Derived.Test.YtjlkkipickeebaaWInvWords
import Derived.Test.YtjlkkipickeebaaWGuard
import Derived.Test.YtjlkkipickeebaaWNEv
import Derived.Test.YtjlkkipickeebaaWMore
namespace Go.Proofs.Ytjlkkipickeebaa.PR
open Go.RowKit Go.Proofs.YtjlkkipickeebaaW.PrintWords Go.Proofs.YtjlkkipickeebaaW.PrintLast Go.Proofs.YtjlkkipickeebaaW.PrintMore
attribute [local go_sem] max2_int min2_int max_two min_two max_three min_three max_four min_four   -- for this text's walks alone
set_option linter.unusedVariables false
set_option linter.unusedSimpArgs false



def errW : Option Int → Value
  | none => .nilIface
  | some c => .iface 0 (.int .i64 c)
theorem errW_none : errW none = .nilIface := rfl
theorem errW_some (c : Int) : errW (some c) = .iface 0 (.int .i64 c) := rfl

-- the values' own types

end Go.Proofs.Ytjlkkipickeebaa.PR
