/- The plain statement of FnExactLeastLadder: for all whole numbers of 64 bits that are given, the printed function answers true; and the walk that follows from it. No condition. -/
import Derived.Test.YtpiahpolmmogbaaPFnExactLeastLadderx1
namespace Go.Proofs.Ytpiahpolmmogbaa.StFnExactLeastLadder
open Go.RowKit Go.Proofs.Ytpiahpolmmogbaa.PFnExactLeastLadder Go.Proofs.YtpiahpolmmogbaaW.PrintWords Go.Proofs.YtpiahpolmmogbaaW.PrintLast
def Pure : Prop := ∀ (a0_0 : Int) (a0_1 : Int), (Lit.int .i64 a0_0).wf = true → (Lit.int .i64 a0_1).wf = true → ∃ k, laws_FnExactLeastLadder.f k a0_0 a0_1 = some true
theorem walk (P : Pure) (a0_0 : Int) (a0_1 : Int) (w : World) (w0_0 : (Lit.int .i64 a0_0).wf = true) (w0_1 : (Lit.int .i64 a0_1).wf = true) :
    Calls Try.prog 8 #[.agg #[.int .i64 a0_0, .int .i64 a0_1]] w fun e w' => e = .returned (.bool true) ∧ Below w.heap.size w w' := by
  obtain ⟨k, h⟩ := P a0_0 a0_1 w0_0 w0_1
  exact laws_FnExactLeastLadder.calls k a0_0 a0_1 true w h
end Go.Proofs.Ytpiahpolmmogbaa.StFnExactLeastLadder
