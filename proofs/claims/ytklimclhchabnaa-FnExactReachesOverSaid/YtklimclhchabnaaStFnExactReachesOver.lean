/- The plain statement of FnExactReachesOver: for all whole numbers of 64 bits that are given, the printed function answers true; and the walk that follows from it. No condition. -/
import Derived.Test.YtklimclhchabnaaPFnExactReachesOverx1
namespace Go.Proofs.Ytklimclhchabnaa.StFnExactReachesOver
open Go.RowKit Go.Proofs.Ytklimclhchabnaa.PFnExactReachesOver Go.Proofs.YtklimclhchabnaaW.PrintWords Go.Proofs.YtklimclhchabnaaW.PrintLast
def Pure : Prop := ∀ (a0_0 : Int) (a0_1 : Int) (a1 : Int) (a2 : Int), (Lit.int .i64 a0_0).wf = true → (Lit.int .i64 a0_1).wf = true → (Lit.int .i64 a1).wf = true → (Lit.int .i64 a2).wf = true → laws_FnExactReachesOver.f a0_0 a0_1 a1 a2 = some true
theorem walk (P : Pure) (a0_0 : Int) (a0_1 : Int) (a1 : Int) (a2 : Int) (w : World) (w0_0 : (Lit.int .i64 a0_0).wf = true) (w0_1 : (Lit.int .i64 a0_1).wf = true) (w1 : (Lit.int .i64 a1).wf = true) (w2 : (Lit.int .i64 a2).wf = true) :
    Calls Try.prog 9 #[.agg #[.int .i64 a0_0, .int .i64 a0_1], .int .i64 a1, .int .i64 a2] w fun e w' => e = .returned (.bool true) ∧ Below w.heap.size w w' := by
  have h := P a0_0 a0_1 a1 a2 w0_0 w0_1 w1 w2
  exact laws_FnExactReachesOver.calls a0_0 a0_1 a1 a2 true w h
end Go.Proofs.Ytklimclhchabnaa.StFnExactReachesOver
