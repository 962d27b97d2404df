/- The plain statement of FnExactTipsMeet: for all whole numbers of 64 bits that are given, the printed function answers true; and the walk that follows from it. No condition. -/
import Derived.Test.YteognjcnnghknaaPFnExactTipsMeetx3
namespace Go.Proofs.Yteognjcnnghknaa.StFnExactTipsMeet
open Go.RowKit Go.Proofs.Yteognjcnnghknaa.PFnExactTipsMeet Go.Proofs.YteognjcnnghknaaW.PrintWords Go.Proofs.YteognjcnnghknaaW.PrintLast
def Pure : Prop := ∀ (a0 : Int) (a1_0 : Int) (a1_1 : Int) (a1_2 : Int) (a2_0 : Int) (a2_1 : Int) (a2_2 : Int), (Lit.int .i64 a0).wf = true → (Lit.int .i64 a1_0).wf = true → (Lit.int .i64 a1_1).wf = true → (Lit.int .i64 a1_2).wf = true → (Lit.int .i64 a2_0).wf = true → (Lit.int .i64 a2_1).wf = true → (Lit.int .i64 a2_2).wf = true → ∃ k, laws_FnExactTipsMeet.f k a0 a1_0 a1_1 a1_2 a2_0 a2_1 a2_2 = some true
theorem walk (P : Pure) (a0 : Int) (a1_0 : Int) (a1_1 : Int) (a1_2 : Int) (a2_0 : Int) (a2_1 : Int) (a2_2 : Int) (w : World) (w0 : (Lit.int .i64 a0).wf = true) (w1_0 : (Lit.int .i64 a1_0).wf = true) (w1_1 : (Lit.int .i64 a1_1).wf = true) (w1_2 : (Lit.int .i64 a1_2).wf = true) (w2_0 : (Lit.int .i64 a2_0).wf = true) (w2_1 : (Lit.int .i64 a2_1).wf = true) (w2_2 : (Lit.int .i64 a2_2).wf = true) :
    Calls Try.prog 8 #[.int .i64 a0, .agg #[.int .i64 a1_0, .int .i64 a1_1, .int .i64 a1_2], .agg #[.int .i64 a2_0, .int .i64 a2_1, .int .i64 a2_2]] w fun e w' => e = .returned (.bool true) ∧ Below w.heap.size w w' := by
  obtain ⟨k, h⟩ := P a0 a1_0 a1_1 a1_2 a2_0 a2_1 a2_2 w0 w1_0 w1_1 w1_2 w2_0 w2_1 w2_2
  exact laws_FnExactTipsMeet.calls k a0 a1_0 a1_1 a1_2 a2_0 a2_1 a2_2 true w h
end Go.Proofs.Yteognjcnnghknaa.StFnExactTipsMeet
