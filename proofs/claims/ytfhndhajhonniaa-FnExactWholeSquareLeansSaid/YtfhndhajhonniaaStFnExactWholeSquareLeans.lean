/- The plain statement of FnExactWholeSquareLeans: for all whole numbers of 64 bits that are given, the printed functions answer alike and what is marked is held; and the walk that follows from it. No condition. -/
import Derived.Test.YtfhndhajhonniaaWlFnExactWholeSquareLeans
namespace Go.Proofs.Ytfhndhajhonniaa.StFnExactWholeSquareLeans
open Go.RowKit Go.Proofs.Ytfhndhajhonniaa Go.Proofs.Ytfhndhajhonniaa.PFnExactWholeSquareLeans Go.Proofs.YtfhndhajhonniaaW.PrintWords Go.Proofs.YtfhndhajhonniaaW.PrintLast
def Pure : Prop := ∀ (a0 : Int), (Lit.int .i64 a0).wf = true → ∃ (k : Nat) (l : List (List Int)) (b : Bool) (m : Int) (l2 : List (List Int)), spec_WholeSquareLeans.f k a0 = some (l, b) ∧ impl_WholeSquareLeans.f k a0 = some (l, b) ∧ laws_eqIntSS.f k l l = some true ∧ MkFnExactWholeSquareLeans.marks k l 1 0 = some (m, l2) ∧ laws_heldIntSS.f k l2 1 = some m ∧ 0 ≤ m
theorem walk (P : Pure) (a0 : Int) (w : World) (w0 : (Lit.int .i64 a0).wf = true) :
    Calls Try.prog 3 #[.int .i64 a0] w fun e w' => e = .returned (.bool true) ∧ Below w.heap.size w w' := by
  obtain ⟨k, l, b, m, l2, h1, h2, h3, h4, h5, h6⟩ := P a0 w0
  exact WlFnExactWholeSquareLeans.walk k a0 l b m l2 w h1 h2 h3 h4 h5 h6
end Go.Proofs.Ytfhndhajhonniaa.StFnExactWholeSquareLeans
