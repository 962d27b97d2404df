/- The plain statement of FnExactWholeLadders: for all whole numbers of 64 bits that are given, the printed functions answer alike and what is marked is held; and the walk that follows from it. No condition. -/
import Derived.Test.YteognjcnnghknaaWlFnExactWholeLadders
namespace Go.Proofs.Yteognjcnnghknaa.StFnExactWholeLadders
open Go.RowKit Go.Proofs.Yteognjcnnghknaa Go.Proofs.Yteognjcnnghknaa.PFnExactWholeLadders Go.Proofs.YteognjcnnghknaaW.PrintWords Go.Proofs.YteognjcnnghknaaW.PrintLast
def Pure : Prop := ∀ (a0_0 : Int) (a0_1 : Int), (Lit.int .i64 a0_0).wf = true → (Lit.int .i64 a0_1).wf = true → ∃ (k : Nat) (l : List (List Int)) (b : Bool) (m : Int) (l2 : List (List Int)), spec_WholeLadders.f k a0_0 a0_1 = some (l, b) ∧ impl_WholeLadders.f k a0_0 a0_1 = some (l, b) ∧ laws_eqIntSS.f k l l = some true ∧ MkFnExactWholeLadders.marks k l 1 0 = some (m, l2) ∧ laws_heldIntSS.f k l2 1 = some m ∧ 0 ≤ m
theorem walk (P : Pure) (a0_0 : Int) (a0_1 : Int) (w : World) (w0_0 : (Lit.int .i64 a0_0).wf = true) (w0_1 : (Lit.int .i64 a0_1).wf = true) :
    Calls Try.prog 13 #[.agg #[.int .i64 a0_0, .int .i64 a0_1]] w fun e w' => e = .returned (.bool true) ∧ Below w.heap.size w w' := by
  obtain ⟨k, l, b, m, l2, h1, h2, h3, h4, h5, h6⟩ := P a0_0 a0_1 w0_0 w0_1
  exact WlFnExactWholeLadders.walk k a0_0 a0_1 l b m l2 w h1 h2 h3 h4 h5 h6
end Go.Proofs.Yteognjcnnghknaa.StFnExactWholeLadders
