-- PRINTED BY print.sh 35421559b90ae4d0a3588c463048766b98c2df88dd9212a6774a882060cdf62d: not written by this session
import Derived.Test.YthiclneaehbhoaaProg
import Derived.Below
import Derived.Deep.Draws
import Derived.Deep.AppendLies
import Derived.Maps.AppendAt
import Derived.OwnWalk
import Derived.Laws.BytesArg
import Derived.Laws.MakeOwn
import Derived.Laws.OwnMore
import Derived.Deep.OwnRows
import Derived.Tactics
import Derived.Lib.ConvBytes
import Derived.Laws.Slices
import Derived.WalkKit
import Derived.KernelRfl
import Derived.RowKit3
import Derived.Deep.LoopGhost
import Derived.Deep.QuietTactic
import Derived.BigQuiet
import Derived.WideLaws
import Derived.Deep.DeepCutAuto
import Derived.Deep.CutBlock
import Derived.Deep.RegionHeld3
import Derived.Laws.Rows
import Derived.Lib.AppendStr
import Derived.ArgAppend
import Derived.Laws.IdiomCopy
import Derived.OrdersHeld
import Derived.Laws.BitsLemmas
import Derived.RowKit
import Derived.Test.YthiclneaehbhoaaWWords
import Derived.Test.YthiclneaehbhoaaWLast
import Derived.Test.YthiclneaehbhoaaWTab
import Derived.Test.YthiclneaehbhoaaWFour
import Derived.Test.YthiclneaehbhoaaWQPut
import Derived.Test.YthiclneaehbhoaaWApart
import Derived.Test.YthiclneaehbhoaaWArr
import Derived.Test.YthiclneaehbhoaaWZeros
import Derived.Test.YthiclneaehbhoaaWFoot
import Derived.Test.YthiclneaehbhoaaWKept
import Derived.Test.YthiclneaehbhoaaWShare
import Derived.Test.YthiclneaehbhoaaWN
import Derived.Test.YthiclneaehbhoaaWFootNe
import Derived.Test.YthiclneaehbhoaaWAt
import Derived.Test.YthiclneaehbhoaaWEqStruct
import Derived.Test.YthiclneaehbhoaaWRepsOne
import Derived.Test.YthiclneaehbhoaaWInv
import Derived.Test.YthiclneaehbhoaaWInvWords
import Derived.Test.YthiclneaehbhoaaWGuard
import Derived.Test.YthiclneaehbhoaaWNEv
import Derived.Test.YthiclneaehbhoaaWMore
namespace Go.Proofs.Ythiclneaehbhoaa.PFnExactFirstDesk
open Go.RowKit Go.Proofs.YthiclneaehbhoaaW.PrintWords Go.Proofs.YthiclneaehbhoaaW.PrintLast Go.Proofs.YthiclneaehbhoaaW.PrintMore
attribute [local go_sem] max2_int min2_int max_two min_two max_three min_three max_four min_four   -- for this text's walks alone
set_option linter.unusedVariables false
set_option linter.unusedSimpArgs false



def errW : Option Int → Value
  | none => .nilIface
  | some c => .iface 0 (.int .i64 c)
theorem errW_none : errW none = .nilIface := rfl
theorem errW_some (c : Int) : errW (some c) = .iface 0 (.int .i64 c) := rfl

-- the values' own types

end Go.Proofs.Ythiclneaehbhoaa.PFnExactFirstDesk
