/- The functions that a law reaches, as plain Lean functions, and their walks. Written by a program of this session, turned out of the kit's print. Conditions: those that each theorem names. -/
import Derived.Test.YtfpbpiodoajpiaaDoorProg
import Derived.Below
import Derived.Deep.Draws
import Derived.Deep.AppendLies
import Derived.Maps.AppendAt
import Derived.OwnWalk
import Derived.Laws.BytesArg
import Derived.Laws.MakeOwn
import Derived.Laws.OwnMore
import Derived.Deep.OwnRows
import Derived.Tactics
import Derived.Lib.ConvBytes
import Derived.Laws.Slices
import Derived.WalkKit
import Derived.KernelRfl
import Derived.RowKit3
import Derived.Deep.LoopGhost
import Derived.Deep.QuietTactic
import Derived.BigQuiet
import Derived.WideLaws
import Derived.Deep.DeepCutAuto
import Derived.Deep.CutBlock
import Derived.Deep.RegionHeld3
import Derived.Laws.Rows
import Derived.Lib.AppendStr
import Derived.ArgAppend
import Derived.Laws.IdiomCopy
import Derived.OrdersHeld
import Derived.Laws.BitsLemmas
import Derived.RowKit
import Derived.Test.YtfpbpiodoajpiaaDoorKit
import Derived.Test.YtfpbpiodoajpiaaDoorShelf
import Derived.Test.YtfpbpiodoajpiaaDoorWWords
import Derived.Test.YtfpbpiodoajpiaaDoorWLast
import Derived.Test.YtfpbpiodoajpiaaDoorWTab
import Derived.Test.YtfpbpiodoajpiaaDoorWFour
import Derived.Test.YtfpbpiodoajpiaaDoorWQPut
import Derived.Test.YtfpbpiodoajpiaaDoorWApart
import Derived.Test.YtfpbpiodoajpiaaDoorWArr
import Derived.Test.YtfpbpiodoajpiaaDoorWZeros
import Derived.Test.YtfpbpiodoajpiaaDoorWFoot
import Derived.Test.YtfpbpiodoajpiaaDoorWKept
import Derived.Test.YtfpbpiodoajpiaaDoorWShare
import Derived.Test.YtfpbpiodoajpiaaDoorWN
import Derived.Test.YtfpbpiodoajpiaaDoorWFootNe
import Derived.Test.YtfpbpiodoajpiaaDoorWAt
import Derived.Test.YtfpbpiodoajpiaaDoorWEqStruct
import Derived.Test.YtfpbpiodoajpiaaDoorWRepsOne
import Derived.Test.YtfpbpiodoajpiaaDoorWInv
import Derived.Test.YtfpbpiodoajpiaaDoorWInvWords
import Derived.Test.YtfpbpiodoajpiaaDoorWGuard
import Derived.Test.YtfpbpiodoajpiaaDoorWNEv
import Derived.Test.YtfpbpiodoajpiaaDoorWMore
namespace Go.Proofs.YtfpbpiodoajpiaaDoor.QFnExactHiddenText
open Go.RowKit Go.Proofs.YtfpbpiodoajpiaaDoorW.PrintWords Go.Proofs.YtfpbpiodoajpiaaDoorW.PrintLast Go.Proofs.YtfpbpiodoajpiaaDoorW.PrintMore
attribute [local go_sem] max2_int min2_int max_two min_two max_three min_three max_four min_four   -- for this text's walks alone
attribute [local go_sem] Go.Proofs.YtfpbpiodoajpiaaDoor.Kit.isSome_setCell
set_option linter.unusedVariables false
set_option linter.unusedSimpArgs false



def errW : Option Int → Value
  | none => .nilIface
  | some c => .iface 0 (.int .i64 c)
theorem errW_none : errW none = .nilIface := rfl
theorem errW_some (c : Int) : errW (some c) = .iface 0 (.int .i64 c) := rfl

theorem info5 : (Tryd.prog.info? 5).map (fun i => (i.zero, i.size, i.bytes)) = some (some (.int .u8 0), 1, 1) := by kernel_rfl
-- the values' own types

end Go.Proofs.YtfpbpiodoajpiaaDoor.QFnExactHiddenText
