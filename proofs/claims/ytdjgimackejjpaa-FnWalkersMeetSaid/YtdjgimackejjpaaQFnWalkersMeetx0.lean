-- Written by a program of this session's for this claim, after the kit's print, over contracts that are given by hand.
import Derived.Test.YtdjgimackejjpaaProg
import Derived.Below
import Derived.Deep.Draws
import Derived.Deep.AppendLies
import Derived.Maps.AppendAt
import Derived.OwnWalk
import Derived.Laws.BytesArg
import Derived.Laws.MakeOwn
import Derived.Laws.OwnMore
import Derived.Deep.OwnRows
import Derived.Tactics
import Derived.Lib.ConvBytes
import Derived.Laws.Slices
import Derived.WalkKit
import Derived.KernelRfl
import Derived.RowKit3
import Derived.Deep.LoopGhost
import Derived.Deep.QuietTactic
import Derived.BigQuiet
import Derived.WideLaws
import Derived.Deep.DeepCutAuto
import Derived.Deep.CutBlock
import Derived.Deep.RegionHeld3
import Derived.Laws.Rows
import Derived.Lib.AppendStr
import Derived.ArgAppend
import Derived.Laws.IdiomCopy
import Derived.OrdersHeld
import Derived.Laws.BitsLemmas
import Derived.RowKit
import Derived.Test.YtdjgimackejjpaaWWords
import Derived.Test.YtdjgimackejjpaaWLast
import Derived.Test.YtdjgimackejjpaaWTab
import Derived.Test.YtdjgimackejjpaaWFour
import Derived.Test.YtdjgimackejjpaaWQPut
import Derived.Test.YtdjgimackejjpaaWApart
import Derived.Test.YtdjgimackejjpaaWArr
import Derived.Test.YtdjgimackejjpaaWZeros
import Derived.Test.YtdjgimackejjpaaWFoot
import Derived.Test.YtdjgimackejjpaaWKept
import Derived.Test.YtdjgimackejjpaaWShare
import Derived.Test.YtdjgimackejjpaaWN
import Derived.Test.YtdjgimackejjpaaWFootNe
import Derived.Test.YtdjgimackejjpaaWAt
import Derived.Test.YtdjgimackejjpaaWEqStruct
import Derived.Test.YtdjgimackejjpaaWRepsOne
import Derived.Test.YtdjgimackejjpaaWInv
import Derived.Test.YtdjgimackejjpaaWInvWords
import Derived.Test.YtdjgimackejjpaaWGuard
import Derived.Test.YtdjgimackejjpaaWNEv
import Derived.Test.YtdjgimackejjpaaWMore
namespace Go.Proofs.Ytdjgimackejjpaa.PFnWalkersMeet
open Go.RowKit Go.Proofs.YtdjgimackejjpaaW.PrintWords Go.Proofs.YtdjgimackejjpaaW.PrintLast Go.Proofs.YtdjgimackejjpaaW.PrintMore
attribute [local go_sem] max2_int min2_int max_two min_two max_three min_three max_four min_four   -- for this text's walks alone
set_option linter.unusedVariables false
set_option linter.unusedSimpArgs false



def errW : Option Int → Value
  | none => .nilIface
  | some c => .iface 0 (.int .i64 c)
theorem errW_none : errW none = .nilIface := rfl
theorem errW_some (c : Int) : errW (some c) = .iface 0 (.int .i64 c) := rfl

theorem info3 : (Try.prog.info? 3).map (fun i => (i.zero, i.size, i.bytes)) = some (some (.int .i64 0), 1, 8) := by kernel_rfl
-- the values' own types

end Go.Proofs.Ytdjgimackejjpaa.PFnWalkersMeet
