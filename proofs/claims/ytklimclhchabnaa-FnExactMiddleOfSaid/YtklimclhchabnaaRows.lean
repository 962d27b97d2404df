/-
  No cell of these rows narrows 'for every input' (looked for: loops, veiled, ifaces, maps, wideKeys, modest, calm, conditions, laid).
  DERIVED. THE GIVEN ROWS OF THIS SEAT. 12 by the template 'for every input the law returns true; each argument reads behind the call as it read before'; 0 by the template 'total and deterministic' (their statements: YtklimclhchabnaaTotals.lean).
  GIVEN WITH THE SEED: the statements are not yours to turn. If you find one false, say at which input.
  Laid BY PROGRAM, IN A SANDBOX (cutbox-rows.mjs): the forced cells as the released guide's own fill.sh prints them over the translation 3a4aabb0a46d76cd… (all of the seat's roots in one cut). By AI agents, Wed Nov 11 2026. No macro, syntax, notation, axiom, sorry.
-/
import Derived.Test.YtklimclhchabnaaChecked
import GoSem.Claim
import GoSem.ClaimJoined
import GoSem.ClaimMapViews
import Derived.JoinedTies
import Derived.KernelRfl
namespace Go.Proofs.Ytklimclhchabnaa
/- THE CELL 'sum', in the pinned program and in every row, IS THE sha256 OF THE DUMP (.gsa) THAT YtklimclhchabnaaProg.lean LOADS. Nothing in Lean hashes anything: it is a label: what it is worth is what the hold of that sum in a sandbox is worth. -/
noncomputable def Try.pinned : Pinned := { name := "ytklimclhchabnaa", sum := "3a4aabb0a46d76cd57ebc30d9892f855b0e35db3f89d8864451b22a11765e707", checked := Try.checked }
namespace Rows
def none {H : Type} : Left H := { results := [], args := [] }

/-- 'laws.FnExactIsBox': WHATEVER THE INPUT: true; the input reads as it did. -/
def fnExactIsBoxSpec : ChangeSpec := { name := "fnExactIsBox", fn := fun _ => fun
  | [d] => { results := [.lit (.bool true)], args := [d] }
  | _ => none }
def fnExactIsBoxRow : OpenClaim := { program := "ytklimclhchabnaa", sum := "3a4aabb0a46d76cd57ebc30d9892f855b0e35db3f89d8864451b22a11765e707", func := "loop.example/g01351/laws.FnExactIsBox", spec := "fnExactIsBox", apart := false }
def FnExactIsBoxSaid : Prop := fnExactIsBoxRow.holds Try.pinned (OpenSpec.ofChange fnExactIsBoxSpec)

/-- ITS FALSE NEIGHBOUR: 'it returns false'. Refute it at one input. -/
def fnExactIsBoxWrong : ChangeSpec := { name := "fnExactIsBox", fn := fun _ => fun
  | [d] => { results := [.lit (.bool false)], args := [d] }
  | _ => none }
def FnExactIsBoxWrongFalsely : Prop := fnExactIsBoxRow.holds Try.pinned (OpenSpec.ofChange fnExactIsBoxWrong)

/-- 'laws.FnExactIsWalker': WHATEVER THE INPUT: true; the input reads as it did. -/
def fnExactIsWalkerSpec : ChangeSpec := { name := "fnExactIsWalker", fn := fun _ => fun
  | [d1, d2] => { results := [.lit (.bool true)], args := [d1, d2] }
  | _ => none }
def fnExactIsWalkerRow : OpenClaim := { program := "ytklimclhchabnaa", sum := "3a4aabb0a46d76cd57ebc30d9892f855b0e35db3f89d8864451b22a11765e707", func := "loop.example/g01351/laws.FnExactIsWalker", spec := "fnExactIsWalker", apart := false }
def FnExactIsWalkerSaid : Prop := fnExactIsWalkerRow.holds Try.pinned (OpenSpec.ofChange fnExactIsWalkerSpec)

/-- ITS FALSE NEIGHBOUR: 'it returns false'. Refute it at one input. -/
def fnExactIsWalkerWrong : ChangeSpec := { name := "fnExactIsWalker", fn := fun _ => fun
  | [d1, d2] => { results := [.lit (.bool false)], args := [d1, d2] }
  | _ => none }
def FnExactIsWalkerWrongFalsely : Prop := fnExactIsWalkerRow.holds Try.pinned (OpenSpec.ofChange fnExactIsWalkerWrong)

/-- 'laws.FnExactCountSquareLeans': WHATEVER THE INPUT: true; the input reads as it did. -/
def fnExactCountSquareLeansSpec : ChangeSpec := { name := "fnExactCountSquareLeans", fn := fun _ => fun
  | [d1, d2] => { results := [.lit (.bool true)], args := [d1, d2] }
  | _ => none }
def fnExactCountSquareLeansRow : OpenClaim := { program := "ytklimclhchabnaa", sum := "3a4aabb0a46d76cd57ebc30d9892f855b0e35db3f89d8864451b22a11765e707", func := "loop.example/g01351/laws.FnExactCountSquareLeans", spec := "fnExactCountSquareLeans", apart := false }
def FnExactCountSquareLeansSaid : Prop := fnExactCountSquareLeansRow.holds Try.pinned (OpenSpec.ofChange fnExactCountSquareLeansSpec)

/-- ITS FALSE NEIGHBOUR: 'it returns false'. Refute it at one input. -/
def fnExactCountSquareLeansWrong : ChangeSpec := { name := "fnExactCountSquareLeans", fn := fun _ => fun
  | [d1, d2] => { results := [.lit (.bool false)], args := [d1, d2] }
  | _ => none }
def FnExactCountSquareLeansWrongFalsely : Prop := fnExactCountSquareLeansRow.holds Try.pinned (OpenSpec.ofChange fnExactCountSquareLeansWrong)

/-- 'laws.FnExactIsClear': WHATEVER THE INPUT: true; the input reads as it did. -/
def fnExactIsClearSpec : ChangeSpec := { name := "fnExactIsClear", fn := fun _ => fun
  | [d1, d2, d3] => { results := [.lit (.bool true)], args := [d1, d2, d3] }
  | _ => none }
def fnExactIsClearRow : OpenClaim := { program := "ytklimclhchabnaa", sum := "3a4aabb0a46d76cd57ebc30d9892f855b0e35db3f89d8864451b22a11765e707", func := "loop.example/g01351/laws.FnExactIsClear", spec := "fnExactIsClear", apart := false }
def FnExactIsClearSaid : Prop := fnExactIsClearRow.holds Try.pinned (OpenSpec.ofChange fnExactIsClearSpec)

/-- ITS FALSE NEIGHBOUR: 'it returns false'. Refute it at one input. -/
def fnExactIsClearWrong : ChangeSpec := { name := "fnExactIsClear", fn := fun _ => fun
  | [d1, d2, d3] => { results := [.lit (.bool false)], args := [d1, d2, d3] }
  | _ => none }
def FnExactIsClearWrongFalsely : Prop := fnExactIsClearRow.holds Try.pinned (OpenSpec.ofChange fnExactIsClearWrong)

/-- 'laws.FnExactJustTouches': WHATEVER THE INPUT: true; the input reads as it did. -/
def fnExactJustTouchesSpec : ChangeSpec := { name := "fnExactJustTouches", fn := fun _ => fun
  | [d1, d2, d3] => { results := [.lit (.bool true)], args := [d1, d2, d3] }
  | _ => none }
def fnExactJustTouchesRow : OpenClaim := { program := "ytklimclhchabnaa", sum := "3a4aabb0a46d76cd57ebc30d9892f855b0e35db3f89d8864451b22a11765e707", func := "loop.example/g01351/laws.FnExactJustTouches", spec := "fnExactJustTouches", apart := false }
def FnExactJustTouchesSaid : Prop := fnExactJustTouchesRow.holds Try.pinned (OpenSpec.ofChange fnExactJustTouchesSpec)

/-- ITS FALSE NEIGHBOUR: 'it returns false'. Refute it at one input. -/
def fnExactJustTouchesWrong : ChangeSpec := { name := "fnExactJustTouches", fn := fun _ => fun
  | [d1, d2, d3] => { results := [.lit (.bool false)], args := [d1, d2, d3] }
  | _ => none }
def FnExactJustTouchesWrongFalsely : Prop := fnExactJustTouchesRow.holds Try.pinned (OpenSpec.ofChange fnExactJustTouchesWrong)

/-- 'laws.FnExactTurnBox': WHATEVER THE INPUT: true; the input reads as it did. -/
def fnExactTurnBoxSpec : ChangeSpec := { name := "fnExactTurnBox", fn := fun _ => fun
  | [d] => { results := [.lit (.bool true)], args := [d] }
  | _ => none }
def fnExactTurnBoxRow : OpenClaim := { program := "ytklimclhchabnaa", sum := "3a4aabb0a46d76cd57ebc30d9892f855b0e35db3f89d8864451b22a11765e707", func := "loop.example/g01351/laws.FnExactTurnBox", spec := "fnExactTurnBox", apart := false }
def FnExactTurnBoxSaid : Prop := fnExactTurnBoxRow.holds Try.pinned (OpenSpec.ofChange fnExactTurnBoxSpec)

/-- ITS FALSE NEIGHBOUR: 'it returns false'. Refute it at one input. -/
def fnExactTurnBoxWrong : ChangeSpec := { name := "fnExactTurnBox", fn := fun _ => fun
  | [d] => { results := [.lit (.bool false)], args := [d] }
  | _ => none }
def FnExactTurnBoxWrongFalsely : Prop := fnExactTurnBoxRow.holds Try.pinned (OpenSpec.ofChange fnExactTurnBoxWrong)

/-- 'laws.FnExactReachesOver': WHATEVER THE INPUT: true; the input reads as it did. -/
def fnExactReachesOverSpec : ChangeSpec := { name := "fnExactReachesOver", fn := fun _ => fun
  | [d1, d2, d3] => { results := [.lit (.bool true)], args := [d1, d2, d3] }
  | _ => none }
def fnExactReachesOverRow : OpenClaim := { program := "ytklimclhchabnaa", sum := "3a4aabb0a46d76cd57ebc30d9892f855b0e35db3f89d8864451b22a11765e707", func := "loop.example/g01351/laws.FnExactReachesOver", spec := "fnExactReachesOver", apart := false }
def FnExactReachesOverSaid : Prop := fnExactReachesOverRow.holds Try.pinned (OpenSpec.ofChange fnExactReachesOverSpec)

/-- ITS FALSE NEIGHBOUR: 'it returns false'. Refute it at one input. -/
def fnExactReachesOverWrong : ChangeSpec := { name := "fnExactReachesOver", fn := fun _ => fun
  | [d1, d2, d3] => { results := [.lit (.bool false)], args := [d1, d2, d3] }
  | _ => none }
def FnExactReachesOverWrongFalsely : Prop := fnExactReachesOverRow.holds Try.pinned (OpenSpec.ofChange fnExactReachesOverWrong)

/-- 'laws.FnExactPlaceAt': WHATEVER THE INPUT: true; the input reads as it did. -/
def fnExactPlaceAtSpec : ChangeSpec := { name := "fnExactPlaceAt", fn := fun _ => fun
  | [d1, d2, d3] => { results := [.lit (.bool true)], args := [d1, d2, d3] }
  | _ => none }
def fnExactPlaceAtRow : OpenClaim := { program := "ytklimclhchabnaa", sum := "3a4aabb0a46d76cd57ebc30d9892f855b0e35db3f89d8864451b22a11765e707", func := "loop.example/g01351/laws.FnExactPlaceAt", spec := "fnExactPlaceAt", apart := false }
def FnExactPlaceAtSaid : Prop := fnExactPlaceAtRow.holds Try.pinned (OpenSpec.ofChange fnExactPlaceAtSpec)

/-- ITS FALSE NEIGHBOUR: 'it returns false'. Refute it at one input. -/
def fnExactPlaceAtWrong : ChangeSpec := { name := "fnExactPlaceAt", fn := fun _ => fun
  | [d1, d2, d3] => { results := [.lit (.bool false)], args := [d1, d2, d3] }
  | _ => none }
def FnExactPlaceAtWrongFalsely : Prop := fnExactPlaceAtRow.holds Try.pinned (OpenSpec.ofChange fnExactPlaceAtWrong)

/-- 'laws.FnExactTurnWalker': WHATEVER THE INPUT: true; the input reads as it did. -/
def fnExactTurnWalkerSpec : ChangeSpec := { name := "fnExactTurnWalker", fn := fun _ => fun
  | [d1, d2] => { results := [.lit (.bool true)], args := [d1, d2] }
  | _ => none }
def fnExactTurnWalkerRow : OpenClaim := { program := "ytklimclhchabnaa", sum := "3a4aabb0a46d76cd57ebc30d9892f855b0e35db3f89d8864451b22a11765e707", func := "loop.example/g01351/laws.FnExactTurnWalker", spec := "fnExactTurnWalker", apart := false }
def FnExactTurnWalkerSaid : Prop := fnExactTurnWalkerRow.holds Try.pinned (OpenSpec.ofChange fnExactTurnWalkerSpec)

/-- ITS FALSE NEIGHBOUR: 'it returns false'. Refute it at one input. -/
def fnExactTurnWalkerWrong : ChangeSpec := { name := "fnExactTurnWalker", fn := fun _ => fun
  | [d1, d2] => { results := [.lit (.bool false)], args := [d1, d2] }
  | _ => none }
def FnExactTurnWalkerWrongFalsely : Prop := fnExactTurnWalkerRow.holds Try.pinned (OpenSpec.ofChange fnExactTurnWalkerWrong)

/-- 'laws.FnExactHeightOver': WHATEVER THE INPUT: true; the input reads as it did. -/
def fnExactHeightOverSpec : ChangeSpec := { name := "fnExactHeightOver", fn := fun _ => fun
  | [d1, d2] => { results := [.lit (.bool true)], args := [d1, d2] }
  | _ => none }
def fnExactHeightOverRow : OpenClaim := { program := "ytklimclhchabnaa", sum := "3a4aabb0a46d76cd57ebc30d9892f855b0e35db3f89d8864451b22a11765e707", func := "loop.example/g01351/laws.FnExactHeightOver", spec := "fnExactHeightOver", apart := false }
def FnExactHeightOverSaid : Prop := fnExactHeightOverRow.holds Try.pinned (OpenSpec.ofChange fnExactHeightOverSpec)

/-- ITS FALSE NEIGHBOUR: 'it returns false'. Refute it at one input. -/
def fnExactHeightOverWrong : ChangeSpec := { name := "fnExactHeightOver", fn := fun _ => fun
  | [d1, d2] => { results := [.lit (.bool false)], args := [d1, d2] }
  | _ => none }
def FnExactHeightOverWrongFalsely : Prop := fnExactHeightOverRow.holds Try.pinned (OpenSpec.ofChange fnExactHeightOverWrong)

/-- 'laws.FnExactMiddleOf': WHATEVER THE INPUT: true; the input reads as it did. -/
def fnExactMiddleOfSpec : ChangeSpec := { name := "fnExactMiddleOf", fn := fun _ => fun
  | [d1, d2] => { results := [.lit (.bool true)], args := [d1, d2] }
  | _ => none }
def fnExactMiddleOfRow : OpenClaim := { program := "ytklimclhchabnaa", sum := "3a4aabb0a46d76cd57ebc30d9892f855b0e35db3f89d8864451b22a11765e707", func := "loop.example/g01351/laws.FnExactMiddleOf", spec := "fnExactMiddleOf", apart := false }
def FnExactMiddleOfSaid : Prop := fnExactMiddleOfRow.holds Try.pinned (OpenSpec.ofChange fnExactMiddleOfSpec)

/-- ITS FALSE NEIGHBOUR: 'it returns false'. Refute it at one input. -/
def fnExactMiddleOfWrong : ChangeSpec := { name := "fnExactMiddleOf", fn := fun _ => fun
  | [d1, d2] => { results := [.lit (.bool false)], args := [d1, d2] }
  | _ => none }
def FnExactMiddleOfWrongFalsely : Prop := fnExactMiddleOfRow.holds Try.pinned (OpenSpec.ofChange fnExactMiddleOfWrong)

/-- 'laws.FnExactEqualPlace': WHATEVER THE INPUT: true; the input reads as it did. -/
def fnExactEqualPlaceSpec : ChangeSpec := { name := "fnExactEqualPlace", fn := fun _ => fun
  | [d1, d2, d3, d4] => { results := [.lit (.bool true)], args := [d1, d2, d3, d4] }
  | _ => none }
def fnExactEqualPlaceRow : OpenClaim := { program := "ytklimclhchabnaa", sum := "3a4aabb0a46d76cd57ebc30d9892f855b0e35db3f89d8864451b22a11765e707", func := "loop.example/g01351/laws.FnExactEqualPlace", spec := "fnExactEqualPlace", apart := false }
def FnExactEqualPlaceSaid : Prop := fnExactEqualPlaceRow.holds Try.pinned (OpenSpec.ofChange fnExactEqualPlaceSpec)

/-- ITS FALSE NEIGHBOUR: 'it returns false'. Refute it at one input. -/
def fnExactEqualPlaceWrong : ChangeSpec := { name := "fnExactEqualPlace", fn := fun _ => fun
  | [d1, d2, d3, d4] => { results := [.lit (.bool false)], args := [d1, d2, d3, d4] }
  | _ => none }
def FnExactEqualPlaceWrongFalsely : Prop := fnExactEqualPlaceRow.holds Try.pinned (OpenSpec.ofChange fnExactEqualPlaceWrong)

/- THE SECOND FORM. 'bulk': how many values and letters a reading holds, each counted each time it is reached (what is shared counts as often as it is met; a slice's spare places count too). A statement '..UptoSaid' is the law's where the arguments, and the package variables that the reading takes, are together of bulk at most 1048576: NARROWER than '..Said'. Prove '..Said' where nothing that the law and all that it calls make is longer than what came in: it says more and counts as full. Else prove '..UptoSaid'. A law counts once. -/
mutual
def uptoBulk {H : Type} : DataW H → Nat
  | .lit (.string bytes) => bytes.length + 1
  | .lit _ => 1
  | .nil => 1
  | .ptr d => uptoBulk d + 1
  | .slice elems spare => uptoBulkAll elems + uptoBulkAll spare + 1
  | .agg parts => uptoBulkAll parts + 1
  | .iface _ d => uptoBulk d + 1
  | .map entries => uptoBulkEntries entries + 1
  | .held _ => 1
def uptoBulkAll {H : Type} : List (DataW H) → Nat
  | [] => 0
  | d :: r => uptoBulk d + uptoBulkAll r
def uptoBulkEntries {H : Type} : List (Lit × DataW H) → Nat
  | [] => 0
  | x :: r => uptoBulkEntry x + uptoBulkEntries r
def uptoBulkEntry {H : Type} : Lit × DataW H → Nat
  | (.string bytes, d) => bytes.length + uptoBulk d + 1
  | (_, d) => uptoBulk d + 1
 end
def uptoSmall : (H : Type) → List (DataW H) → Bool := fun _ ds => decide (uptoBulkAll ds ≤ 1048576)
def OpenSpec.upto (s : _root_.Go.ChangeSpec) : _root_.Go.OpenSpec := { _root_.Go.OpenSpec.ofChange s with cond := some uptoSmall }

/-- 'laws.FnExactIsBox', WHERE WHAT IT READS IS OF BULK AT MOST 1048576: true; the input reads as it did. -/
def fnExactIsBoxUptoRow : OpenClaim := { program := "ytklimclhchabnaa", sum := "3a4aabb0a46d76cd57ebc30d9892f855b0e35db3f89d8864451b22a11765e707", func := "loop.example/g01351/laws.FnExactIsBox", spec := "fnExactIsBox", apart := false, narrowed := true }
def FnExactIsBoxUptoSaid : Prop := fnExactIsBoxUptoRow.holds Try.pinned (OpenSpec.upto fnExactIsBoxSpec)

/-- 'laws.FnExactIsWalker', WHERE WHAT IT READS IS OF BULK AT MOST 1048576: true; the input reads as it did. -/
def fnExactIsWalkerUptoRow : OpenClaim := { program := "ytklimclhchabnaa", sum := "3a4aabb0a46d76cd57ebc30d9892f855b0e35db3f89d8864451b22a11765e707", func := "loop.example/g01351/laws.FnExactIsWalker", spec := "fnExactIsWalker", apart := false, narrowed := true }
def FnExactIsWalkerUptoSaid : Prop := fnExactIsWalkerUptoRow.holds Try.pinned (OpenSpec.upto fnExactIsWalkerSpec)

/-- 'laws.FnExactCountSquareLeans', WHERE WHAT IT READS IS OF BULK AT MOST 1048576: true; the input reads as it did. -/
def fnExactCountSquareLeansUptoRow : OpenClaim := { program := "ytklimclhchabnaa", sum := "3a4aabb0a46d76cd57ebc30d9892f855b0e35db3f89d8864451b22a11765e707", func := "loop.example/g01351/laws.FnExactCountSquareLeans", spec := "fnExactCountSquareLeans", apart := false, narrowed := true }
def FnExactCountSquareLeansUptoSaid : Prop := fnExactCountSquareLeansUptoRow.holds Try.pinned (OpenSpec.upto fnExactCountSquareLeansSpec)

/-- 'laws.FnExactIsClear', WHERE WHAT IT READS IS OF BULK AT MOST 1048576: true; the input reads as it did. -/
def fnExactIsClearUptoRow : OpenClaim := { program := "ytklimclhchabnaa", sum := "3a4aabb0a46d76cd57ebc30d9892f855b0e35db3f89d8864451b22a11765e707", func := "loop.example/g01351/laws.FnExactIsClear", spec := "fnExactIsClear", apart := false, narrowed := true }
def FnExactIsClearUptoSaid : Prop := fnExactIsClearUptoRow.holds Try.pinned (OpenSpec.upto fnExactIsClearSpec)

/-- 'laws.FnExactJustTouches', WHERE WHAT IT READS IS OF BULK AT MOST 1048576: true; the input reads as it did. -/
def fnExactJustTouchesUptoRow : OpenClaim := { program := "ytklimclhchabnaa", sum := "3a4aabb0a46d76cd57ebc30d9892f855b0e35db3f89d8864451b22a11765e707", func := "loop.example/g01351/laws.FnExactJustTouches", spec := "fnExactJustTouches", apart := false, narrowed := true }
def FnExactJustTouchesUptoSaid : Prop := fnExactJustTouchesUptoRow.holds Try.pinned (OpenSpec.upto fnExactJustTouchesSpec)

/-- 'laws.FnExactTurnBox', WHERE WHAT IT READS IS OF BULK AT MOST 1048576: true; the input reads as it did. -/
def fnExactTurnBoxUptoRow : OpenClaim := { program := "ytklimclhchabnaa", sum := "3a4aabb0a46d76cd57ebc30d9892f855b0e35db3f89d8864451b22a11765e707", func := "loop.example/g01351/laws.FnExactTurnBox", spec := "fnExactTurnBox", apart := false, narrowed := true }
def FnExactTurnBoxUptoSaid : Prop := fnExactTurnBoxUptoRow.holds Try.pinned (OpenSpec.upto fnExactTurnBoxSpec)

/-- 'laws.FnExactReachesOver', WHERE WHAT IT READS IS OF BULK AT MOST 1048576: true; the input reads as it did. -/
def fnExactReachesOverUptoRow : OpenClaim := { program := "ytklimclhchabnaa", sum := "3a4aabb0a46d76cd57ebc30d9892f855b0e35db3f89d8864451b22a11765e707", func := "loop.example/g01351/laws.FnExactReachesOver", spec := "fnExactReachesOver", apart := false, narrowed := true }
def FnExactReachesOverUptoSaid : Prop := fnExactReachesOverUptoRow.holds Try.pinned (OpenSpec.upto fnExactReachesOverSpec)

/-- 'laws.FnExactPlaceAt', WHERE WHAT IT READS IS OF BULK AT MOST 1048576: true; the input reads as it did. -/
def fnExactPlaceAtUptoRow : OpenClaim := { program := "ytklimclhchabnaa", sum := "3a4aabb0a46d76cd57ebc30d9892f855b0e35db3f89d8864451b22a11765e707", func := "loop.example/g01351/laws.FnExactPlaceAt", spec := "fnExactPlaceAt", apart := false, narrowed := true }
def FnExactPlaceAtUptoSaid : Prop := fnExactPlaceAtUptoRow.holds Try.pinned (OpenSpec.upto fnExactPlaceAtSpec)

/-- 'laws.FnExactTurnWalker', WHERE WHAT IT READS IS OF BULK AT MOST 1048576: true; the input reads as it did. -/
def fnExactTurnWalkerUptoRow : OpenClaim := { program := "ytklimclhchabnaa", sum := "3a4aabb0a46d76cd57ebc30d9892f855b0e35db3f89d8864451b22a11765e707", func := "loop.example/g01351/laws.FnExactTurnWalker", spec := "fnExactTurnWalker", apart := false, narrowed := true }
def FnExactTurnWalkerUptoSaid : Prop := fnExactTurnWalkerUptoRow.holds Try.pinned (OpenSpec.upto fnExactTurnWalkerSpec)

/-- 'laws.FnExactHeightOver', WHERE WHAT IT READS IS OF BULK AT MOST 1048576: true; the input reads as it did. -/
def fnExactHeightOverUptoRow : OpenClaim := { program := "ytklimclhchabnaa", sum := "3a4aabb0a46d76cd57ebc30d9892f855b0e35db3f89d8864451b22a11765e707", func := "loop.example/g01351/laws.FnExactHeightOver", spec := "fnExactHeightOver", apart := false, narrowed := true }
def FnExactHeightOverUptoSaid : Prop := fnExactHeightOverUptoRow.holds Try.pinned (OpenSpec.upto fnExactHeightOverSpec)

/-- 'laws.FnExactMiddleOf', WHERE WHAT IT READS IS OF BULK AT MOST 1048576: true; the input reads as it did. -/
def fnExactMiddleOfUptoRow : OpenClaim := { program := "ytklimclhchabnaa", sum := "3a4aabb0a46d76cd57ebc30d9892f855b0e35db3f89d8864451b22a11765e707", func := "loop.example/g01351/laws.FnExactMiddleOf", spec := "fnExactMiddleOf", apart := false, narrowed := true }
def FnExactMiddleOfUptoSaid : Prop := fnExactMiddleOfUptoRow.holds Try.pinned (OpenSpec.upto fnExactMiddleOfSpec)

/-- 'laws.FnExactEqualPlace', WHERE WHAT IT READS IS OF BULK AT MOST 1048576: true; the input reads as it did. -/
def fnExactEqualPlaceUptoRow : OpenClaim := { program := "ytklimclhchabnaa", sum := "3a4aabb0a46d76cd57ebc30d9892f855b0e35db3f89d8864451b22a11765e707", func := "loop.example/g01351/laws.FnExactEqualPlace", spec := "fnExactEqualPlace", apart := false, narrowed := true }
def FnExactEqualPlaceUptoSaid : Prop := fnExactEqualPlaceUptoRow.holds Try.pinned (OpenSpec.upto fnExactEqualPlaceSpec)

end Rows
end Go.Proofs.Ytklimclhchabnaa
