/- What the walks ask of the program's listed variables: the table of powers of ten is laid, the two errors of strconv are laid, and the bound of package bytealg is some number; it stays so whatever a call makes. -/
import Derived.Test.YtfnjfjkkdhomcaaDoorShelfP
import Derived.Lib.SmallJoins
import Derived.Lib.LaidTab
import Derived.Lib.AtoiErrMem
import Derived.KernelRfl
import Derived.Deep.CutBlock
namespace Go.Proofs.YtfnjfjkkdhomcaaDoor
open Go.RowKit Go.Lib Go.Sort Go.Joins
/-- Blocks that are new, draws: nothing elder turns. -/
theorem below_grown (B : Nat) (w : World) (hB : B ≤ w.heap.size) (k : Nat) (os : Array Obj) : Below B w (grow (w.drewN k) os) :=
  ⟨rfl, rfl, rfl, by show w.heap.size ≤ (w.heap ++ os).size; rw [Array.size_append]; omega, fun j hj => by show (w.heap ++ os)[j]? = w.heap[j]?; rw [Array.getElem?_append_left (by omega)]⟩
theorem setCell_drewN_ (w : World) (n : Nat) (p : Addr) (u : Value) : (w.drewN n).setCell p u = (w.setCell p u).drewN n := rfl
/-- The variables that the library's functions read hold what the program's initialisers lay. -/
def Laid0 (w : World) : Prop := Lib.TabIs Tryd.prog w "internal/strconv.uint64pow10" .u64 Lib.pow10Tab ∧ (∃ m, w.cell? ⟨0, 0, none⟩ = some (.int .i64 m)) ∧
  (∃ tp p, w.var? Tryd.prog "strconv.ErrSyntax" = some #[.iface tp p]) ∧ (∃ tp p, w.var? Tryd.prog "strconv.ErrRange" = some #[.iface tp p])
theorem gPow : Tryd.prog.globalNamed "internal/strconv.uint64pow10" = some 3 := by kernel_rfl
theorem gSyn : Tryd.prog.globalNamed "strconv.ErrSyntax" = some 1 := by kernel_rfl
theorem gRng : Tryd.prog.globalNamed "strconv.ErrRange" = some 2 := by kernel_rfl
theorem Laid0.below {w w' : World} (h : Laid0 w) (hb : Below w.heap.size w w') : Laid0 w' := by
  obtain ⟨h1, ⟨m, h2⟩, ⟨tp, p, h3⟩, tq, q, h4⟩ := h
  exact ⟨tab_stays gPow h1 hb (Nat.le_refl _), ⟨m, (hb.cell (p := ⟨0, 0, none⟩) (World.block_lt_of_cell? w _ h2)).trans h2⟩, ⟨tp, p, var_stays gSyn h3 hb (Nat.le_refl _)⟩, tq, q, var_stays gRng h4 hb (Nat.le_refl _)⟩
/-- What impl.number answers: the number with a text, and whether the text is that number's own one. -/
def numOf (s : ByteArray) : Int × Bool := match Lib.atoiAll s.data.toList with
  | .ok v => (v, decide (Lib.itoa v = s.data.toList))
  | .«syntax» => (0, false)
  | .range => (Lib.atoiSat s.data.toList, false)
end Go.Proofs.YtfnjfjkkdhomcaaDoor
