/- The plain statement of FnExactParseWalker: for all whole numbers of 64 bits that are given, the printed function answers true; and the walk that follows from it. No condition. -/
import Derived.Test.YtfnjfjkkdhomcaaDoorQFnExactParseWalkerx5
namespace Go.Proofs.YtfnjfjkkdhomcaaDoor.StFnExactParseWalker
open Go.RowKit Go.Proofs.YtfnjfjkkdhomcaaDoor.PFnExactParseWalker Go.Proofs.YtfnjfjkkdhomcaaDoorW.PrintWords Go.Proofs.YtfnjfjkkdhomcaaDoorW.PrintLast
def Pure : Prop := ∀ (a0 : ByteArray), a0.size ≤ 140737488351232 → ∃ k, laws_FnExactParseWalker.f k a0 = some true
theorem walk (P : Pure) (a0 : ByteArray) (w : World) (hL : Laid0 w) (w0 : a0.size ≤ 140737488351232) :
    Calls Tryd.prog 3 #[.string a0] w fun e w' => e = .returned (.bool true) ∧ Below w.heap.size w w' := by
  obtain ⟨k, h⟩ := P a0 w0
  exact laws_FnExactParseWalker.calls k a0 true w hL h rfl
end Go.Proofs.YtfnjfjkkdhomcaaDoor.StFnExactParseWalker
