/- The plain statement of FnExactParseSpot: for all whole numbers of 64 bits that are given, the printed function answers true; and the walk that follows from it. No condition. -/
import Derived.Test.YtglndeegcbiooaaDoorQFnExactParseSpotx4
namespace Go.Proofs.YtglndeegcbiooaaDoor.StFnExactParseSpot
open Go.RowKit Go.Proofs.YtglndeegcbiooaaDoor.PFnExactParseSpot Go.Proofs.YtglndeegcbiooaaDoorW.PrintWords Go.Proofs.YtglndeegcbiooaaDoorW.PrintLast
def Pure : Prop := ∀ (a0 : ByteArray), a0.size ≤ 140737488351232 → ∃ k, laws_FnExactParseSpot.f k a0 = some true
theorem walk (P : Pure) (a0 : ByteArray) (w : World) (hL : Laid0 w) (w0 : a0.size ≤ 140737488351232) :
    Calls Tryd.prog 7 #[.string a0] w fun e w' => e = .returned (.bool true) ∧ Below w.heap.size w w' := by
  obtain ⟨k, h⟩ := P a0 w0
  exact laws_FnExactParseSpot.calls k a0 true w hL h rfl
end Go.Proofs.YtglndeegcbiooaaDoor.StFnExactParseSpot
