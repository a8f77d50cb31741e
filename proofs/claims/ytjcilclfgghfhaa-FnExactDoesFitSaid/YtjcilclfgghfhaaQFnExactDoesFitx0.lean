/- The functions that a law reaches, as plain Lean functions, and their walks. Written by a program of this session, turned out of the kit's print. Conditions: those that each theorem names. -/
import Derived.Test.YtjcilclfgghfhaaProg
import Derived.Below
import Derived.Deep.Draws
import Derived.Deep.AppendLies
import Derived.Maps.AppendAt
import Derived.OwnWalk
import Derived.Laws.BytesArg
import Derived.Laws.MakeOwn
import Derived.Laws.OwnMore
import Derived.Deep.OwnRows
import Derived.Tactics
import Derived.Lib.ConvBytes
import Derived.Laws.Slices
import Derived.WalkKit
import Derived.KernelRfl
import Derived.RowKit3
import Derived.Deep.LoopGhost
import Derived.Deep.QuietTactic
import Derived.BigQuiet
import Derived.WideLaws
import Derived.Deep.DeepCutAuto
import Derived.Deep.CutBlock
import Derived.Deep.RegionHeld3
import Derived.Laws.Rows
import Derived.Lib.AppendStr
import Derived.ArgAppend
import Derived.Laws.IdiomCopy
import Derived.OrdersHeld
import Derived.Laws.BitsLemmas
import Derived.RowKit
import Derived.Test.YtjcilclfgghfhaaKit
import Derived.Test.YtjcilclfgghfhaaWWords
import Derived.Test.YtjcilclfgghfhaaWLast
import Derived.Test.YtjcilclfgghfhaaWTab
import Derived.Test.YtjcilclfgghfhaaWFour
import Derived.Test.YtjcilclfgghfhaaWQPut
import Derived.Test.YtjcilclfgghfhaaWApart
import Derived.Test.YtjcilclfgghfhaaWArr
import Derived.Test.YtjcilclfgghfhaaWZeros
import Derived.Test.YtjcilclfgghfhaaWFoot
import Derived.Test.YtjcilclfgghfhaaWKept
import Derived.Test.YtjcilclfgghfhaaWShare
import Derived.Test.YtjcilclfgghfhaaWN
import Derived.Test.YtjcilclfgghfhaaWFootNe
import Derived.Test.YtjcilclfgghfhaaWAt
import Derived.Test.YtjcilclfgghfhaaWEqStruct
import Derived.Test.YtjcilclfgghfhaaWRepsOne
import Derived.Test.YtjcilclfgghfhaaWInv
import Derived.Test.YtjcilclfgghfhaaWInvWords
import Derived.Test.YtjcilclfgghfhaaWGuard
import Derived.Test.YtjcilclfgghfhaaWNEv
import Derived.Test.YtjcilclfgghfhaaWMore
namespace Go.Proofs.Ytjcilclfgghfhaa.QFnExactDoesFit
open Go.RowKit Go.Proofs.YtjcilclfgghfhaaW.PrintWords Go.Proofs.YtjcilclfgghfhaaW.PrintLast Go.Proofs.YtjcilclfgghfhaaW.PrintMore
attribute [local go_sem] max2_int min2_int max_two min_two max_three min_three max_four min_four   -- for this text's walks alone
attribute [local go_sem] Go.Proofs.Ytjcilclfgghfhaa.Kit.isSome_setCell
set_option linter.unusedVariables false
set_option linter.unusedSimpArgs false



def errW : Option Int → Value
  | none => .nilIface
  | some c => .iface 0 (.int .i64 c)
theorem errW_none : errW none = .nilIface := rfl
theorem errW_some (c : Int) : errW (some c) = .iface 0 (.int .i64 c) := rfl

-- the values' own types

end Go.Proofs.Ytjcilclfgghfhaa.QFnExactDoesFit
