-- PRINTED BY print.sh 35421559b90ae4d0a3588c463048766b98c2df88dd9212a6774a882060cdf62d: not written by this session
import Derived.Test.YteognjcnnghknaaProg
import Derived.Below
import Derived.Deep.Draws
import Derived.Deep.AppendLies
import Derived.Maps.AppendAt
import Derived.OwnWalk
import Derived.Laws.BytesArg
import Derived.Laws.MakeOwn
import Derived.Laws.OwnMore
import Derived.Deep.OwnRows
import Derived.Tactics
import Derived.Lib.ConvBytes
import Derived.Laws.Slices
import Derived.WalkKit
import Derived.KernelRfl
import Derived.RowKit3
import Derived.Deep.LoopGhost
import Derived.Deep.QuietTactic
import Derived.BigQuiet
import Derived.WideLaws
import Derived.Deep.DeepCutAuto
import Derived.Deep.CutBlock
import Derived.Deep.RegionHeld3
import Derived.Laws.Rows
import Derived.Lib.AppendStr
import Derived.ArgAppend
import Derived.Laws.IdiomCopy
import Derived.OrdersHeld
import Derived.Laws.BitsLemmas
import Derived.RowKit
import Derived.Test.YteognjcnnghknaaWWords
import Derived.Test.YteognjcnnghknaaWLast
import Derived.Test.YteognjcnnghknaaWTab
import Derived.Test.YteognjcnnghknaaWFour
import Derived.Test.YteognjcnnghknaaWQPut
import Derived.Test.YteognjcnnghknaaWApart
import Derived.Test.YteognjcnnghknaaWArr
import Derived.Test.YteognjcnnghknaaWZeros
import Derived.Test.YteognjcnnghknaaWFoot
import Derived.Test.YteognjcnnghknaaWKept
import Derived.Test.YteognjcnnghknaaWShare
import Derived.Test.YteognjcnnghknaaWN
import Derived.Test.YteognjcnnghknaaWFootNe
import Derived.Test.YteognjcnnghknaaWAt
import Derived.Test.YteognjcnnghknaaWEqStruct
import Derived.Test.YteognjcnnghknaaWRepsOne
import Derived.Test.YteognjcnnghknaaWInv
import Derived.Test.YteognjcnnghknaaWInvWords
import Derived.Test.YteognjcnnghknaaWGuard
import Derived.Test.YteognjcnnghknaaWNEv
import Derived.Test.YteognjcnnghknaaWMore
namespace Go.Proofs.Yteognjcnnghknaa.PFnExactSlipDrops
open Go.RowKit Go.Proofs.YteognjcnnghknaaW.PrintWords Go.Proofs.YteognjcnnghknaaW.PrintLast Go.Proofs.YteognjcnnghknaaW.PrintMore
attribute [local go_sem] max2_int min2_int max_two min_two max_three min_three max_four min_four   -- for this text's walks alone
set_option linter.unusedVariables false
set_option linter.unusedSimpArgs false



def errW : Option Int → Value
  | none => .nilIface
  | some c => .iface 0 (.int .i64 c)
theorem errW_none : errW none = .nilIface := rfl
theorem errW_some (c : Int) : errW (some c) = .iface 0 (.int .i64 c) := rfl

theorem info3 : (Try.prog.info? 3).map (fun i => (i.zero, i.size, i.bytes)) = some (some (.int .i64 0), 1, 8) := by kernel_rfl
-- the values' own types

end Go.Proofs.Yteognjcnnghknaa.PFnExactSlipDrops
