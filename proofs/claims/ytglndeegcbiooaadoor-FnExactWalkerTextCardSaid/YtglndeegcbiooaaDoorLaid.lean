/- What the walks ask of the program's listed tables: that the table of powers of ten is laid; it stays so whatever a call makes. -/
import Derived.Test.YtglndeegcbiooaaDoorShelfA
import Derived.Lib.SmallJoins
import Derived.Lib.LaidTab
import Derived.KernelRfl

namespace Go.Proofs.YtglndeegcbiooaaDoor
open Go.RowKit Go.Lib Go.Sort Go.Joins
/-- Blocks that are new, draws: nothing elder turns. -/
theorem below_grown (B : Nat) (w : World) (hB : B ≤ w.heap.size) (k : Nat) (os : Array Obj) : Below B w (grow (w.drewN k) os) :=
  ⟨rfl, rfl, rfl, by show w.heap.size ≤ (w.heap ++ os).size; rw [Array.size_append]; omega, fun j hj => by show (w.heap ++ os)[j]? = w.heap[j]?; rw [Array.getElem?_append_left (by omega)]⟩
/-- The table that strconv.Itoa reads is laid. -/
def Laid0 (w : World) : Prop := Lib.TabIs Tryd.prog w "internal/strconv.uint64pow10" .u64 Lib.pow10Tab
theorem gPow : Tryd.prog.globalNamed "internal/strconv.uint64pow10" = some 3 := by kernel_rfl
theorem Laid0.below {w w' : World} (h : Laid0 w) (hb : Below w.heap.size w w') : Laid0 w' := tab_stays gPow h hb (Nat.le_refl _)
end Go.Proofs.YtglndeegcbiooaaDoor
