/- The plain statement of FnExactParseBox: for all whole numbers of 64 bits that are given, the printed function answers true; and the walk that follows from it. No condition. -/
import Derived.Test.YtglndeegcbiooaaDoorQFnExactParseBoxx4
namespace Go.Proofs.YtglndeegcbiooaaDoor.StFnExactParseBox
open Go.RowKit Go.Proofs.YtglndeegcbiooaaDoor.PFnExactParseBox Go.Proofs.YtglndeegcbiooaaDoorW.PrintWords Go.Proofs.YtglndeegcbiooaaDoorW.PrintLast
def Pure : Prop := ∀ (a0 : ByteArray), a0.size ≤ 140737488351232 → ∃ k, laws_FnExactParseBox.f k a0 = some true
theorem walk (P : Pure) (a0 : ByteArray) (w : World) (hL : Laid0 w) (w0 : a0.size ≤ 140737488351232) :
    Calls Tryd.prog 6 #[.string a0] w fun e w' => e = .returned (.bool true) ∧ Below w.heap.size w w' := by
  obtain ⟨k, h⟩ := P a0 w0
  exact laws_FnExactParseBox.calls k a0 true w hL h rfl
end Go.Proofs.YtglndeegcbiooaaDoor.StFnExactParseBox
