/-
  No cell of these rows narrows 'for every input' (looked for: loops, veiled, ifaces, maps, wideKeys, modest, calm, conditions, laid).
  DERIVED. THE GIVEN ROWS OF THIS SEAT. 12 by the template 'for every input the law returns true; each argument reads behind the call as it read before'; 0 by the template 'total and deterministic' (their statements: YteognjcnnghknaaTotals.lean).
  GIVEN WITH THE SEED: the statements are not yours to turn. If you find one false, say at which input.
  Laid BY PROGRAM, IN A SANDBOX (cutbox-rows.mjs): the forced cells as the released guide's own fill.sh prints them over the translation 4b9230bc24fde3d2… (all of the seat's roots in one cut). By AI agents, Wed Nov 11 2026. No macro, syntax, notation, axiom, sorry.
-/
import Derived.Test.YteognjcnnghknaaChecked
import GoSem.Claim
import GoSem.ClaimJoined
import GoSem.ClaimMapViews
import Derived.JoinedTies
import Derived.KernelRfl
namespace Go.Proofs.Yteognjcnnghknaa
/- THE CELL 'sum', in the pinned program and in every row, IS THE sha256 OF THE DUMP (.gsa) THAT YteognjcnnghknaaProg.lean LOADS. Nothing in Lean hashes anything: it is a label: what it is worth is what the hold of that sum in a sandbox is worth. -/
noncomputable def Try.pinned : Pinned := { name := "yteognjcnnghknaa", sum := "4b9230bc24fde3d2efc0d25fc138727cf241f40ebcaa5badd7de439013a72052", checked := Try.checked }
namespace Rows
def none {H : Type} : Left H := { results := [], args := [] }

/-- 'laws.FnExactMinuteOfShadow': WHATEVER THE INPUT: true; the input reads as it did. -/
def fnExactMinuteOfShadowSpec : ChangeSpec := { name := "fnExactMinuteOfShadow", fn := fun _ => fun
  | [d1, d2, d3] => { results := [.lit (.bool true)], args := [d1, d2, d3] }
  | _ => none }
def fnExactMinuteOfShadowRow : OpenClaim := { program := "yteognjcnnghknaa", sum := "4b9230bc24fde3d2efc0d25fc138727cf241f40ebcaa5badd7de439013a72052", func := "loop.example/g01351/laws.FnExactMinuteOfShadow", spec := "fnExactMinuteOfShadow", apart := false }
def FnExactMinuteOfShadowSaid : Prop := fnExactMinuteOfShadowRow.holds Try.pinned (OpenSpec.ofChange fnExactMinuteOfShadowSpec)

/-- ITS FALSE NEIGHBOUR: 'it returns false'. Refute it at one input. -/
def fnExactMinuteOfShadowWrong : ChangeSpec := { name := "fnExactMinuteOfShadow", fn := fun _ => fun
  | [d1, d2, d3] => { results := [.lit (.bool false)], args := [d1, d2, d3] }
  | _ => none }
def FnExactMinuteOfShadowWrongFalsely : Prop := fnExactMinuteOfShadowRow.holds Try.pinned (OpenSpec.ofChange fnExactMinuteOfShadowWrong)

/-- 'laws.FnExactMinuteOfTip': WHATEVER THE INPUT: true; the input reads as it did. -/
def fnExactMinuteOfTipSpec : ChangeSpec := { name := "fnExactMinuteOfTip", fn := fun _ => fun
  | [d1, d2, d3] => { results := [.lit (.bool true)], args := [d1, d2, d3] }
  | _ => none }
def fnExactMinuteOfTipRow : OpenClaim := { program := "yteognjcnnghknaa", sum := "4b9230bc24fde3d2efc0d25fc138727cf241f40ebcaa5badd7de439013a72052", func := "loop.example/g01351/laws.FnExactMinuteOfTip", spec := "fnExactMinuteOfTip", apart := false }
def FnExactMinuteOfTipSaid : Prop := fnExactMinuteOfTipRow.holds Try.pinned (OpenSpec.ofChange fnExactMinuteOfTipSpec)

/-- ITS FALSE NEIGHBOUR: 'it returns false'. Refute it at one input. -/
def fnExactMinuteOfTipWrong : ChangeSpec := { name := "fnExactMinuteOfTip", fn := fun _ => fun
  | [d1, d2, d3] => { results := [.lit (.bool false)], args := [d1, d2, d3] }
  | _ => none }
def FnExactMinuteOfTipWrongFalsely : Prop := fnExactMinuteOfTipRow.holds Try.pinned (OpenSpec.ofChange fnExactMinuteOfTipWrong)

/-- 'laws.FnExactFeetFor': WHATEVER THE INPUT: true; the input reads as it did. -/
def fnExactFeetForSpec : ChangeSpec := { name := "fnExactFeetFor", fn := fun _ => fun
  | [d1, d2] => { results := [.lit (.bool true)], args := [d1, d2] }
  | _ => none }
def fnExactFeetForRow : OpenClaim := { program := "yteognjcnnghknaa", sum := "4b9230bc24fde3d2efc0d25fc138727cf241f40ebcaa5badd7de439013a72052", func := "loop.example/g01351/laws.FnExactFeetFor", spec := "fnExactFeetFor", apart := false }
def FnExactFeetForSaid : Prop := fnExactFeetForRow.holds Try.pinned (OpenSpec.ofChange fnExactFeetForSpec)

/-- ITS FALSE NEIGHBOUR: 'it returns false'. Refute it at one input. -/
def fnExactFeetForWrong : ChangeSpec := { name := "fnExactFeetFor", fn := fun _ => fun
  | [d1, d2] => { results := [.lit (.bool false)], args := [d1, d2] }
  | _ => none }
def FnExactFeetForWrongFalsely : Prop := fnExactFeetForRow.holds Try.pinned (OpenSpec.ofChange fnExactFeetForWrong)

/-- 'laws.FnExactMinuteAtLamp': WHATEVER THE INPUT: true; the input reads as it did. -/
def fnExactMinuteAtLampSpec : ChangeSpec := { name := "fnExactMinuteAtLamp", fn := fun _ => fun
  | [d1, d2] => { results := [.lit (.bool true)], args := [d1, d2] }
  | _ => none }
def fnExactMinuteAtLampRow : OpenClaim := { program := "yteognjcnnghknaa", sum := "4b9230bc24fde3d2efc0d25fc138727cf241f40ebcaa5badd7de439013a72052", func := "loop.example/g01351/laws.FnExactMinuteAtLamp", spec := "fnExactMinuteAtLamp", apart := false }
def FnExactMinuteAtLampSaid : Prop := fnExactMinuteAtLampRow.holds Try.pinned (OpenSpec.ofChange fnExactMinuteAtLampSpec)

/-- ITS FALSE NEIGHBOUR: 'it returns false'. Refute it at one input. -/
def fnExactMinuteAtLampWrong : ChangeSpec := { name := "fnExactMinuteAtLamp", fn := fun _ => fun
  | [d1, d2] => { results := [.lit (.bool false)], args := [d1, d2] }
  | _ => none }
def FnExactMinuteAtLampWrongFalsely : Prop := fnExactMinuteAtLampRow.holds Try.pinned (OpenSpec.ofChange fnExactMinuteAtLampWrong)

/-- 'laws.FnExactWalkersMeet': WHATEVER THE INPUT: true; the input reads as it did. -/
def fnExactWalkersMeetSpec : ChangeSpec := { name := "fnExactWalkersMeet", fn := fun _ => fun
  | [d1, d2, d3] => { results := [.lit (.bool true)], args := [d1, d2, d3] }
  | _ => none }
def fnExactWalkersMeetRow : OpenClaim := { program := "yteognjcnnghknaa", sum := "4b9230bc24fde3d2efc0d25fc138727cf241f40ebcaa5badd7de439013a72052", func := "loop.example/g01351/laws.FnExactWalkersMeet", spec := "fnExactWalkersMeet", apart := false }
def FnExactWalkersMeetSaid : Prop := fnExactWalkersMeetRow.holds Try.pinned (OpenSpec.ofChange fnExactWalkersMeetSpec)

/-- ITS FALSE NEIGHBOUR: 'it returns false'. Refute it at one input. -/
def fnExactWalkersMeetWrong : ChangeSpec := { name := "fnExactWalkersMeet", fn := fun _ => fun
  | [d1, d2, d3] => { results := [.lit (.bool false)], args := [d1, d2, d3] }
  | _ => none }
def FnExactWalkersMeetWrongFalsely : Prop := fnExactWalkersMeetRow.holds Try.pinned (OpenSpec.ofChange fnExactWalkersMeetWrong)

/-- 'laws.FnExactTipsMeet': WHATEVER THE INPUT: true; the input reads as it did. -/
def fnExactTipsMeetSpec : ChangeSpec := { name := "fnExactTipsMeet", fn := fun _ => fun
  | [d1, d2, d3] => { results := [.lit (.bool true)], args := [d1, d2, d3] }
  | _ => none }
def fnExactTipsMeetRow : OpenClaim := { program := "yteognjcnnghknaa", sum := "4b9230bc24fde3d2efc0d25fc138727cf241f40ebcaa5badd7de439013a72052", func := "loop.example/g01351/laws.FnExactTipsMeet", spec := "fnExactTipsMeet", apart := false }
def FnExactTipsMeetSaid : Prop := fnExactTipsMeetRow.holds Try.pinned (OpenSpec.ofChange fnExactTipsMeetSpec)

/-- ITS FALSE NEIGHBOUR: 'it returns false'. Refute it at one input. -/
def fnExactTipsMeetWrong : ChangeSpec := { name := "fnExactTipsMeet", fn := fun _ => fun
  | [d1, d2, d3] => { results := [.lit (.bool false)], args := [d1, d2, d3] }
  | _ => none }
def FnExactTipsMeetWrongFalsely : Prop := fnExactTipsMeetRow.holds Try.pinned (OpenSpec.ofChange fnExactTipsMeetWrong)

/-- 'laws.FnExactSlipHeights': WHATEVER THE INPUT: true; the input reads as it did. -/
def fnExactSlipHeightsSpec : ChangeSpec := { name := "fnExactSlipHeights", fn := fun _ => fun
  | [d1, d2, d3, d4] => { results := [.lit (.bool true)], args := [d1, d2, d3, d4] }
  | _ => none }
def fnExactSlipHeightsRow : OpenClaim := { program := "yteognjcnnghknaa", sum := "4b9230bc24fde3d2efc0d25fc138727cf241f40ebcaa5badd7de439013a72052", func := "loop.example/g01351/laws.FnExactSlipHeights", spec := "fnExactSlipHeights", apart := false }
def FnExactSlipHeightsSaid : Prop := fnExactSlipHeightsRow.holds Try.pinned (OpenSpec.ofChange fnExactSlipHeightsSpec)

/-- ITS FALSE NEIGHBOUR: 'it returns false'. Refute it at one input. -/
def fnExactSlipHeightsWrong : ChangeSpec := { name := "fnExactSlipHeights", fn := fun _ => fun
  | [d1, d2, d3, d4] => { results := [.lit (.bool false)], args := [d1, d2, d3, d4] }
  | _ => none }
def FnExactSlipHeightsWrongFalsely : Prop := fnExactSlipHeightsRow.holds Try.pinned (OpenSpec.ofChange fnExactSlipHeightsWrong)

/-- 'laws.FnExactWholeLeans': WHATEVER THE INPUT: true; the input reads as it did. -/
def fnExactWholeLeansSpec : ChangeSpec := { name := "fnExactWholeLeans", fn := fun _ => fun
  | [d] => { results := [.lit (.bool true)], args := [d] }
  | _ => none }
def fnExactWholeLeansRow : OpenClaim := { program := "yteognjcnnghknaa", sum := "4b9230bc24fde3d2efc0d25fc138727cf241f40ebcaa5badd7de439013a72052", func := "loop.example/g01351/laws.FnExactWholeLeans", spec := "fnExactWholeLeans", apart := false }
def FnExactWholeLeansSaid : Prop := fnExactWholeLeansRow.holds Try.pinned (OpenSpec.ofChange fnExactWholeLeansSpec)

/-- ITS FALSE NEIGHBOUR: 'it returns false'. Refute it at one input. -/
def fnExactWholeLeansWrong : ChangeSpec := { name := "fnExactWholeLeans", fn := fun _ => fun
  | [d] => { results := [.lit (.bool false)], args := [d] }
  | _ => none }
def FnExactWholeLeansWrongFalsely : Prop := fnExactWholeLeansRow.holds Try.pinned (OpenSpec.ofChange fnExactWholeLeansWrong)

/-- 'laws.FnExactWholeSquareLeans': WHATEVER THE INPUT: true; the input reads as it did. -/
def fnExactWholeSquareLeansSpec : ChangeSpec := { name := "fnExactWholeSquareLeans", fn := fun _ => fun
  | [d] => { results := [.lit (.bool true)], args := [d] }
  | _ => none }
def fnExactWholeSquareLeansRow : OpenClaim := { program := "yteognjcnnghknaa", sum := "4b9230bc24fde3d2efc0d25fc138727cf241f40ebcaa5badd7de439013a72052", func := "loop.example/g01351/laws.FnExactWholeSquareLeans", spec := "fnExactWholeSquareLeans", apart := false }
def FnExactWholeSquareLeansSaid : Prop := fnExactWholeSquareLeansRow.holds Try.pinned (OpenSpec.ofChange fnExactWholeSquareLeansSpec)

/-- ITS FALSE NEIGHBOUR: 'it returns false'. Refute it at one input. -/
def fnExactWholeSquareLeansWrong : ChangeSpec := { name := "fnExactWholeSquareLeans", fn := fun _ => fun
  | [d] => { results := [.lit (.bool false)], args := [d] }
  | _ => none }
def FnExactWholeSquareLeansWrongFalsely : Prop := fnExactWholeSquareLeansRow.holds Try.pinned (OpenSpec.ofChange fnExactWholeSquareLeansWrong)

/-- 'laws.FnExactSlipDrops': WHATEVER THE INPUT: true; the input reads as it did. -/
def fnExactSlipDropsSpec : ChangeSpec := { name := "fnExactSlipDrops", fn := fun _ => fun
  | [d1, d2, d3, d4] => { results := [.lit (.bool true)], args := [d1, d2, d3, d4] }
  | _ => none }
def fnExactSlipDropsRow : OpenClaim := { program := "yteognjcnnghknaa", sum := "4b9230bc24fde3d2efc0d25fc138727cf241f40ebcaa5badd7de439013a72052", func := "loop.example/g01351/laws.FnExactSlipDrops", spec := "fnExactSlipDrops", apart := false }
def FnExactSlipDropsSaid : Prop := fnExactSlipDropsRow.holds Try.pinned (OpenSpec.ofChange fnExactSlipDropsSpec)

/-- ITS FALSE NEIGHBOUR: 'it returns false'. Refute it at one input. -/
def fnExactSlipDropsWrong : ChangeSpec := { name := "fnExactSlipDrops", fn := fun _ => fun
  | [d1, d2, d3, d4] => { results := [.lit (.bool false)], args := [d1, d2, d3, d4] }
  | _ => none }
def FnExactSlipDropsWrongFalsely : Prop := fnExactSlipDropsRow.holds Try.pinned (OpenSpec.ofChange fnExactSlipDropsWrong)

/-- 'laws.FnExactWholeLadders': WHATEVER THE INPUT: true; the input reads as it did. -/
def fnExactWholeLaddersSpec : ChangeSpec := { name := "fnExactWholeLadders", fn := fun _ => fun
  | [d] => { results := [.lit (.bool true)], args := [d] }
  | _ => none }
def fnExactWholeLaddersRow : OpenClaim := { program := "yteognjcnnghknaa", sum := "4b9230bc24fde3d2efc0d25fc138727cf241f40ebcaa5badd7de439013a72052", func := "loop.example/g01351/laws.FnExactWholeLadders", spec := "fnExactWholeLadders", apart := false }
def FnExactWholeLaddersSaid : Prop := fnExactWholeLaddersRow.holds Try.pinned (OpenSpec.ofChange fnExactWholeLaddersSpec)

/-- ITS FALSE NEIGHBOUR: 'it returns false'. Refute it at one input. -/
def fnExactWholeLaddersWrong : ChangeSpec := { name := "fnExactWholeLadders", fn := fun _ => fun
  | [d] => { results := [.lit (.bool false)], args := [d] }
  | _ => none }
def FnExactWholeLaddersWrongFalsely : Prop := fnExactWholeLaddersRow.holds Try.pinned (OpenSpec.ofChange fnExactWholeLaddersWrong)

/-- 'laws.FnExactShadowTable': WHATEVER THE INPUT: true; the input reads as it did. -/
def fnExactShadowTableSpec : ChangeSpec := { name := "fnExactShadowTable", fn := fun _ => fun
  | [d1, d2, d3] => { results := [.lit (.bool true)], args := [d1, d2, d3] }
  | _ => none }
def fnExactShadowTableRow : OpenClaim := { program := "yteognjcnnghknaa", sum := "4b9230bc24fde3d2efc0d25fc138727cf241f40ebcaa5badd7de439013a72052", func := "loop.example/g01351/laws.FnExactShadowTable", spec := "fnExactShadowTable", apart := false }
def FnExactShadowTableSaid : Prop := fnExactShadowTableRow.holds Try.pinned (OpenSpec.ofChange fnExactShadowTableSpec)

/-- ITS FALSE NEIGHBOUR: 'it returns false'. Refute it at one input. -/
def fnExactShadowTableWrong : ChangeSpec := { name := "fnExactShadowTable", fn := fun _ => fun
  | [d1, d2, d3] => { results := [.lit (.bool false)], args := [d1, d2, d3] }
  | _ => none }
def FnExactShadowTableWrongFalsely : Prop := fnExactShadowTableRow.holds Try.pinned (OpenSpec.ofChange fnExactShadowTableWrong)

/- THE SECOND FORM. 'bulk': how many values and letters a reading holds, each counted each time it is reached (what is shared counts as often as it is met; a slice's spare places count too). A statement '..UptoSaid' is the law's where the arguments, and the package variables that the reading takes, are together of bulk at most 1048576: NARROWER than '..Said'. Prove '..Said' where nothing that the law and all that it calls make is longer than what came in: it says more and counts as full. Else prove '..UptoSaid'. A law counts once. -/
mutual
def uptoBulk {H : Type} : DataW H → Nat
  | .lit (.string bytes) => bytes.length + 1
  | .lit _ => 1
  | .nil => 1
  | .ptr d => uptoBulk d + 1
  | .slice elems spare => uptoBulkAll elems + uptoBulkAll spare + 1
  | .agg parts => uptoBulkAll parts + 1
  | .iface _ d => uptoBulk d + 1
  | .map entries => uptoBulkEntries entries + 1
  | .held _ => 1
def uptoBulkAll {H : Type} : List (DataW H) → Nat
  | [] => 0
  | d :: r => uptoBulk d + uptoBulkAll r
def uptoBulkEntries {H : Type} : List (Lit × DataW H) → Nat
  | [] => 0
  | x :: r => uptoBulkEntry x + uptoBulkEntries r
def uptoBulkEntry {H : Type} : Lit × DataW H → Nat
  | (.string bytes, d) => bytes.length + uptoBulk d + 1
  | (_, d) => uptoBulk d + 1
 end
def uptoSmall : (H : Type) → List (DataW H) → Bool := fun _ ds => decide (uptoBulkAll ds ≤ 1048576)
def OpenSpec.upto (s : _root_.Go.ChangeSpec) : _root_.Go.OpenSpec := { _root_.Go.OpenSpec.ofChange s with cond := some uptoSmall }

/-- 'laws.FnExactMinuteOfShadow', WHERE WHAT IT READS IS OF BULK AT MOST 1048576: true; the input reads as it did. -/
def fnExactMinuteOfShadowUptoRow : OpenClaim := { program := "yteognjcnnghknaa", sum := "4b9230bc24fde3d2efc0d25fc138727cf241f40ebcaa5badd7de439013a72052", func := "loop.example/g01351/laws.FnExactMinuteOfShadow", spec := "fnExactMinuteOfShadow", apart := false, narrowed := true }
def FnExactMinuteOfShadowUptoSaid : Prop := fnExactMinuteOfShadowUptoRow.holds Try.pinned (OpenSpec.upto fnExactMinuteOfShadowSpec)

/-- 'laws.FnExactMinuteOfTip', WHERE WHAT IT READS IS OF BULK AT MOST 1048576: true; the input reads as it did. -/
def fnExactMinuteOfTipUptoRow : OpenClaim := { program := "yteognjcnnghknaa", sum := "4b9230bc24fde3d2efc0d25fc138727cf241f40ebcaa5badd7de439013a72052", func := "loop.example/g01351/laws.FnExactMinuteOfTip", spec := "fnExactMinuteOfTip", apart := false, narrowed := true }
def FnExactMinuteOfTipUptoSaid : Prop := fnExactMinuteOfTipUptoRow.holds Try.pinned (OpenSpec.upto fnExactMinuteOfTipSpec)

/-- 'laws.FnExactFeetFor', WHERE WHAT IT READS IS OF BULK AT MOST 1048576: true; the input reads as it did. -/
def fnExactFeetForUptoRow : OpenClaim := { program := "yteognjcnnghknaa", sum := "4b9230bc24fde3d2efc0d25fc138727cf241f40ebcaa5badd7de439013a72052", func := "loop.example/g01351/laws.FnExactFeetFor", spec := "fnExactFeetFor", apart := false, narrowed := true }
def FnExactFeetForUptoSaid : Prop := fnExactFeetForUptoRow.holds Try.pinned (OpenSpec.upto fnExactFeetForSpec)

/-- 'laws.FnExactMinuteAtLamp', WHERE WHAT IT READS IS OF BULK AT MOST 1048576: true; the input reads as it did. -/
def fnExactMinuteAtLampUptoRow : OpenClaim := { program := "yteognjcnnghknaa", sum := "4b9230bc24fde3d2efc0d25fc138727cf241f40ebcaa5badd7de439013a72052", func := "loop.example/g01351/laws.FnExactMinuteAtLamp", spec := "fnExactMinuteAtLamp", apart := false, narrowed := true }
def FnExactMinuteAtLampUptoSaid : Prop := fnExactMinuteAtLampUptoRow.holds Try.pinned (OpenSpec.upto fnExactMinuteAtLampSpec)

/-- 'laws.FnExactWalkersMeet', WHERE WHAT IT READS IS OF BULK AT MOST 1048576: true; the input reads as it did. -/
def fnExactWalkersMeetUptoRow : OpenClaim := { program := "yteognjcnnghknaa", sum := "4b9230bc24fde3d2efc0d25fc138727cf241f40ebcaa5badd7de439013a72052", func := "loop.example/g01351/laws.FnExactWalkersMeet", spec := "fnExactWalkersMeet", apart := false, narrowed := true }
def FnExactWalkersMeetUptoSaid : Prop := fnExactWalkersMeetUptoRow.holds Try.pinned (OpenSpec.upto fnExactWalkersMeetSpec)

/-- 'laws.FnExactTipsMeet', WHERE WHAT IT READS IS OF BULK AT MOST 1048576: true; the input reads as it did. -/
def fnExactTipsMeetUptoRow : OpenClaim := { program := "yteognjcnnghknaa", sum := "4b9230bc24fde3d2efc0d25fc138727cf241f40ebcaa5badd7de439013a72052", func := "loop.example/g01351/laws.FnExactTipsMeet", spec := "fnExactTipsMeet", apart := false, narrowed := true }
def FnExactTipsMeetUptoSaid : Prop := fnExactTipsMeetUptoRow.holds Try.pinned (OpenSpec.upto fnExactTipsMeetSpec)

/-- 'laws.FnExactSlipHeights', WHERE WHAT IT READS IS OF BULK AT MOST 1048576: true; the input reads as it did. -/
def fnExactSlipHeightsUptoRow : OpenClaim := { program := "yteognjcnnghknaa", sum := "4b9230bc24fde3d2efc0d25fc138727cf241f40ebcaa5badd7de439013a72052", func := "loop.example/g01351/laws.FnExactSlipHeights", spec := "fnExactSlipHeights", apart := false, narrowed := true }
def FnExactSlipHeightsUptoSaid : Prop := fnExactSlipHeightsUptoRow.holds Try.pinned (OpenSpec.upto fnExactSlipHeightsSpec)

/-- 'laws.FnExactWholeLeans', WHERE WHAT IT READS IS OF BULK AT MOST 1048576: true; the input reads as it did. -/
def fnExactWholeLeansUptoRow : OpenClaim := { program := "yteognjcnnghknaa", sum := "4b9230bc24fde3d2efc0d25fc138727cf241f40ebcaa5badd7de439013a72052", func := "loop.example/g01351/laws.FnExactWholeLeans", spec := "fnExactWholeLeans", apart := false, narrowed := true }
def FnExactWholeLeansUptoSaid : Prop := fnExactWholeLeansUptoRow.holds Try.pinned (OpenSpec.upto fnExactWholeLeansSpec)

/-- 'laws.FnExactWholeSquareLeans', WHERE WHAT IT READS IS OF BULK AT MOST 1048576: true; the input reads as it did. -/
def fnExactWholeSquareLeansUptoRow : OpenClaim := { program := "yteognjcnnghknaa", sum := "4b9230bc24fde3d2efc0d25fc138727cf241f40ebcaa5badd7de439013a72052", func := "loop.example/g01351/laws.FnExactWholeSquareLeans", spec := "fnExactWholeSquareLeans", apart := false, narrowed := true }
def FnExactWholeSquareLeansUptoSaid : Prop := fnExactWholeSquareLeansUptoRow.holds Try.pinned (OpenSpec.upto fnExactWholeSquareLeansSpec)

/-- 'laws.FnExactSlipDrops', WHERE WHAT IT READS IS OF BULK AT MOST 1048576: true; the input reads as it did. -/
def fnExactSlipDropsUptoRow : OpenClaim := { program := "yteognjcnnghknaa", sum := "4b9230bc24fde3d2efc0d25fc138727cf241f40ebcaa5badd7de439013a72052", func := "loop.example/g01351/laws.FnExactSlipDrops", spec := "fnExactSlipDrops", apart := false, narrowed := true }
def FnExactSlipDropsUptoSaid : Prop := fnExactSlipDropsUptoRow.holds Try.pinned (OpenSpec.upto fnExactSlipDropsSpec)

/-- 'laws.FnExactWholeLadders', WHERE WHAT IT READS IS OF BULK AT MOST 1048576: true; the input reads as it did. -/
def fnExactWholeLaddersUptoRow : OpenClaim := { program := "yteognjcnnghknaa", sum := "4b9230bc24fde3d2efc0d25fc138727cf241f40ebcaa5badd7de439013a72052", func := "loop.example/g01351/laws.FnExactWholeLadders", spec := "fnExactWholeLadders", apart := false, narrowed := true }
def FnExactWholeLaddersUptoSaid : Prop := fnExactWholeLaddersUptoRow.holds Try.pinned (OpenSpec.upto fnExactWholeLaddersSpec)

/-- 'laws.FnExactShadowTable', WHERE WHAT IT READS IS OF BULK AT MOST 1048576: true; the input reads as it did. -/
def fnExactShadowTableUptoRow : OpenClaim := { program := "yteognjcnnghknaa", sum := "4b9230bc24fde3d2efc0d25fc138727cf241f40ebcaa5badd7de439013a72052", func := "loop.example/g01351/laws.FnExactShadowTable", spec := "fnExactShadowTable", apart := false, narrowed := true }
def FnExactShadowTableUptoSaid : Prop := fnExactShadowTableUptoRow.holds Try.pinned (OpenSpec.upto fnExactShadowTableSpec)

end Rows
end Go.Proofs.Yteognjcnnghknaa
