/- The plain statement of FnExactTouchesInCorridor: for all whole numbers of 64 bits that are given, the printed functions answer alike and what is marked is held; and the walk that follows from it. No condition. -/
import Derived.Test.YtbcmiblcmbpllaaWlFnExactTouchesInCorridor
namespace Go.Proofs.Ytbcmiblcmbpllaa.StFnExactTouchesInCorridor
open Go.RowKit Go.Proofs.Ytbcmiblcmbpllaa Go.Proofs.Ytbcmiblcmbpllaa.PFnExactTouchesInCorridor Go.Proofs.YtbcmiblcmbpllaaW.PrintWords Go.Proofs.YtbcmiblcmbpllaaW.PrintLast
def Pure : Prop := ∀ (a0_0 : Int) (a0_1 : Int) (a1_0 : Int) (a1_1 : Int) (a2 : Int) (a3 : Int) (a4 : Bool), (Lit.int .i64 a0_0).wf = true → (Lit.int .i64 a0_1).wf = true → (Lit.int .i64 a1_0).wf = true → (Lit.int .i64 a1_1).wf = true → (Lit.int .i64 a2).wf = true → (Lit.int .i64 a3).wf = true → ∃ (k : Nat) (l : List (List Int)) (b : Bool) (m : Int) (l2 : List (List Int)), spec_TouchesInCorridor.f k a0_0 a0_1 a1_0 a1_1 a2 a3 a4 = some (l, b) ∧ impl_TouchesInCorridor.f k a0_0 a0_1 a1_0 a1_1 a2 a3 a4 = some (l, b) ∧ laws_eqIntSS.f k l l = some true ∧ MkFnExactTouchesInCorridor.marks k l 1 0 = some (m, l2) ∧ laws_heldIntSS.f k l2 1 = some m ∧ 0 ≤ m
theorem walk (P : Pure) (a0_0 : Int) (a0_1 : Int) (a1_0 : Int) (a1_1 : Int) (a2 : Int) (a3 : Int) (a4 : Bool) (w : World) (w0_0 : (Lit.int .i64 a0_0).wf = true) (w0_1 : (Lit.int .i64 a0_1).wf = true) (w1_0 : (Lit.int .i64 a1_0).wf = true) (w1_1 : (Lit.int .i64 a1_1).wf = true) (w2 : (Lit.int .i64 a2).wf = true) (w3 : (Lit.int .i64 a3).wf = true) :
    Calls Try.prog 3 #[.agg #[.int .i64 a0_0, .int .i64 a0_1], .agg #[.int .i64 a1_0, .int .i64 a1_1], .int .i64 a2, .int .i64 a3, .bool a4] w fun e w' => e = .returned (.bool true) ∧ Below w.heap.size w w' := by
  obtain ⟨k, l, b, m, l2, h1, h2, h3, h4, h5, h6⟩ := P a0_0 a0_1 a1_0 a1_1 a2 a3 a4 w0_0 w0_1 w1_0 w1_1 w2 w3
  exact WlFnExactTouchesInCorridor.walk k a0_0 a0_1 a1_0 a1_1 a2 a3 a4 l b m l2 w h1 h2 h3 h4 h5 h6
end Go.Proofs.Ytbcmiblcmbpllaa.StFnExactTouchesInCorridor
