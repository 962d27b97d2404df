/- The plain statement of FnExactShadowTable: for all whole numbers of 64 bits that are given, the printed functions answer alike and what is marked is held; and the walk that follows from it. No condition. -/
import Derived.Test.YteognjcnnghknaaWlFnExactShadowTable
namespace Go.Proofs.Yteognjcnnghknaa.StFnExactShadowTable
open Go.RowKit Go.Proofs.Yteognjcnnghknaa Go.Proofs.Yteognjcnnghknaa.PFnExactShadowTable Go.Proofs.YteognjcnnghknaaW.PrintWords Go.Proofs.YteognjcnnghknaaW.PrintLast
def Pure : Prop := ∀ (a0 : Int) (a1_0 : Int) (a1_1 : Int) (a1_2 : Int) (a2 : Int), (Lit.int .i64 a0).wf = true → (Lit.int .i64 a1_0).wf = true → (Lit.int .i64 a1_1).wf = true → (Lit.int .i64 a1_2).wf = true → (Lit.int .i64 a2).wf = true → ∃ (k : Nat) (l : List (List Int)) (b : Bool) (m : Int) (l2 : List (List Int)), spec_ShadowTable.f k a0 a1_0 a1_1 a1_2 a2 = some (l, b) ∧ impl_ShadowTable.f k a0 a1_0 a1_1 a1_2 a2 = some (l, b) ∧ laws_eqIntSS.f k l l = some true ∧ MkFnExactShadowTable.marks k l 1 0 = some (m, l2) ∧ laws_heldIntSS.f k l2 1 = some m ∧ 0 ≤ m
theorem walk (P : Pure) (a0 : Int) (a1_0 : Int) (a1_1 : Int) (a1_2 : Int) (a2 : Int) (w : World) (w0 : (Lit.int .i64 a0).wf = true) (w1_0 : (Lit.int .i64 a1_0).wf = true) (w1_1 : (Lit.int .i64 a1_1).wf = true) (w1_2 : (Lit.int .i64 a1_2).wf = true) (w2 : (Lit.int .i64 a2).wf = true) :
    Calls Try.prog 14 #[.int .i64 a0, .agg #[.int .i64 a1_0, .int .i64 a1_1, .int .i64 a1_2], .int .i64 a2] w fun e w' => e = .returned (.bool true) ∧ Below w.heap.size w w' := by
  obtain ⟨k, l, b, m, l2, h1, h2, h3, h4, h5, h6⟩ := P a0 a1_0 a1_1 a1_2 a2 w0 w1_0 w1_1 w1_2 w2
  exact WlFnExactShadowTable.walk k a0 a1_0 a1_1 a1_2 a2 l b m l2 w h1 h2 h3 h4 h5 h6
end Go.Proofs.Yteognjcnnghknaa.StFnExactShadowTable
