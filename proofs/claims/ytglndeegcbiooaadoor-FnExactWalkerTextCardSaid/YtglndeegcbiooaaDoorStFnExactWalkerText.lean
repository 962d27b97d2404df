/- The plain statement of FnExactWalkerText: for all whole numbers of 64 bits that are given, the printed function answers true; and the walk that follows from it. No condition. -/
import Derived.Test.YtglndeegcbiooaaDoorQFnExactWalkerTextx2
namespace Go.Proofs.YtglndeegcbiooaaDoor.StFnExactWalkerText
open Go.RowKit Go.Proofs.YtglndeegcbiooaaDoor.PFnExactWalkerText Go.Proofs.YtglndeegcbiooaaDoorW.PrintWords Go.Proofs.YtglndeegcbiooaaDoorW.PrintLast
def Pure : Prop := ∀ (a0_0 : Int) (a0_1 : Int) (a0_2 : Int), (Lit.int .i64 a0_0).wf = true → (Lit.int .i64 a0_1).wf = true → (Lit.int .i64 a0_2).wf = true → ∃ k, laws_FnExactWalkerText.f k a0_0 a0_1 a0_2 = some true
theorem walk (P : Pure) (a0_0 : Int) (a0_1 : Int) (a0_2 : Int) (w : World) (hL : Laid0 w) (w0_0 : (Lit.int .i64 a0_0).wf = true) (w0_1 : (Lit.int .i64 a0_1).wf = true) (w0_2 : (Lit.int .i64 a0_2).wf = true) :
    Calls Tryd.prog 5 #[.agg #[.int .i64 a0_0, .int .i64 a0_1, .int .i64 a0_2]] w fun e w' => e = .returned (.bool true) ∧ Below w.heap.size w w' := by
  obtain ⟨k, h⟩ := P a0_0 a0_1 a0_2 w0_0 w0_1 w0_2
  exact laws_FnExactWalkerText.calls k a0_0 a0_1 a0_2 true w hL h rfl
end Go.Proofs.YtglndeegcbiooaaDoor.StFnExactWalkerText
