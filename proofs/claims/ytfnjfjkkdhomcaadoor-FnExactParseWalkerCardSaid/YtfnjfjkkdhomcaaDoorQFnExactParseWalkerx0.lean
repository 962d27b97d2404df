-- Written by a program of this session's for this claim, after the kit's print, over contracts that are given by hand.
import Derived.Test.YtfnjfjkkdhomcaaDoorProg
import Derived.Below
import Derived.Deep.Draws
import Derived.Deep.AppendLies
import Derived.Maps.AppendAt
import Derived.OwnWalk
import Derived.Laws.BytesArg
import Derived.Laws.MakeOwn
import Derived.Laws.OwnMore
import Derived.Deep.OwnRows
import Derived.Tactics
import Derived.Lib.ConvBytes
import Derived.Laws.Slices
import Derived.WalkKit
import Derived.KernelRfl
import Derived.RowKit3
import Derived.Deep.LoopGhost
import Derived.Deep.QuietTactic
import Derived.BigQuiet
import Derived.WideLaws
import Derived.Deep.DeepCutAuto
import Derived.Deep.CutBlock
import Derived.Deep.RegionHeld3
import Derived.Laws.Rows
import Derived.Lib.AppendStr
import Derived.ArgAppend
import Derived.Laws.IdiomCopy
import Derived.OrdersHeld
import Derived.Laws.BitsLemmas
import Derived.RowKit
import Derived.Test.YtfnjfjkkdhomcaaDoorLaidP
import Derived.Test.YtfnjfjkkdhomcaaDoorIdx
import Derived.Test.YtfnjfjkkdhomcaaDoorWWords
import Derived.Test.YtfnjfjkkdhomcaaDoorWLast
import Derived.Test.YtfnjfjkkdhomcaaDoorWTab
import Derived.Test.YtfnjfjkkdhomcaaDoorWFour
import Derived.Test.YtfnjfjkkdhomcaaDoorWQPut
import Derived.Test.YtfnjfjkkdhomcaaDoorWApart
import Derived.Test.YtfnjfjkkdhomcaaDoorWArr
import Derived.Test.YtfnjfjkkdhomcaaDoorWZeros
import Derived.Test.YtfnjfjkkdhomcaaDoorWFoot
import Derived.Test.YtfnjfjkkdhomcaaDoorWKept
import Derived.Test.YtfnjfjkkdhomcaaDoorWShare
import Derived.Test.YtfnjfjkkdhomcaaDoorWN
import Derived.Test.YtfnjfjkkdhomcaaDoorWFootNe
import Derived.Test.YtfnjfjkkdhomcaaDoorWAt
import Derived.Test.YtfnjfjkkdhomcaaDoorWEqStruct
import Derived.Test.YtfnjfjkkdhomcaaDoorWRepsOne
import Derived.Test.YtfnjfjkkdhomcaaDoorWInv
import Derived.Test.YtfnjfjkkdhomcaaDoorWInvWords
import Derived.Test.YtfnjfjkkdhomcaaDoorWGuard
import Derived.Test.YtfnjfjkkdhomcaaDoorWNEv
import Derived.Test.YtfnjfjkkdhomcaaDoorWMore
namespace Go.Proofs.YtfnjfjkkdhomcaaDoor.PFnExactParseWalker
open Go.RowKit Go.Proofs.YtfnjfjkkdhomcaaDoorW.PrintWords Go.Proofs.YtfnjfjkkdhomcaaDoorW.PrintLast Go.Proofs.YtfnjfjkkdhomcaaDoorW.PrintMore
attribute [local go_sem] max2_int min2_int max_two min_two max_three min_three max_four min_four   -- for this text's walks alone
set_option linter.unusedVariables false
set_option linter.unusedSimpArgs false



def errW : Option Int → Value
  | none => .nilIface
  | some c => .iface 0 (.int .i64 c)
theorem errW_none : errW none = .nilIface := rfl
theorem errW_some (c : Int) : errW (some c) = .iface 0 (.int .i64 c) := rfl

theorem info5 : (Tryd.prog.info? 5).map (fun i => (i.zero, i.size, i.bytes)) = some (some (.int .u8 0), 1, 1) := by kernel_rfl
theorem info9 : (Tryd.prog.info? 9).map (fun i => (i.zero, i.size, i.bytes)) = some (some (.string ⟨#[]⟩), 1, 16) := by kernel_rfl
-- the values' own types

end Go.Proofs.YtfnjfjkkdhomcaaDoor.PFnExactParseWalker
