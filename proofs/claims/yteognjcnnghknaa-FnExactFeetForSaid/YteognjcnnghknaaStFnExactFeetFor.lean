/- The plain statement of FnExactFeetFor: for all whole numbers of 64 bits that are given, the printed function answers true; and the walk that follows from it. No condition. -/
import Derived.Test.YteognjcnnghknaaPFnExactFeetForx2
namespace Go.Proofs.Yteognjcnnghknaa.StFnExactFeetFor
open Go.RowKit Go.Proofs.Yteognjcnnghknaa.PFnExactFeetFor Go.Proofs.YteognjcnnghknaaW.PrintWords Go.Proofs.YteognjcnnghknaaW.PrintLast
def Pure : Prop := ∀ (a0_0 : Int) (a0_1 : Int) (a1 : Int), (Lit.int .i64 a0_0).wf = true → (Lit.int .i64 a0_1).wf = true → (Lit.int .i64 a1).wf = true → ∃ k, laws_FnExactFeetFor.f k a0_0 a0_1 a1 = some true
theorem walk (P : Pure) (a0_0 : Int) (a0_1 : Int) (a1 : Int) (w : World) (w0_0 : (Lit.int .i64 a0_0).wf = true) (w0_1 : (Lit.int .i64 a0_1).wf = true) (w1 : (Lit.int .i64 a1).wf = true) :
    Calls Try.prog 5 #[.agg #[.int .i64 a0_0, .int .i64 a0_1], .int .i64 a1] w fun e w' => e = .returned (.bool true) ∧ Below w.heap.size w w' := by
  obtain ⟨k, h⟩ := P a0_0 a0_1 a1 w0_0 w0_1 w1
  exact laws_FnExactFeetFor.calls k a0_0 a0_1 a1 true w h
end Go.Proofs.Yteognjcnnghknaa.StFnExactFeetFor
