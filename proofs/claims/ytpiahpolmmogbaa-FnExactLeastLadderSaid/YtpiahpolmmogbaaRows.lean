/-
  No cell of these rows narrows 'for every input' (looked for: loops, veiled, ifaces, maps, wideKeys, modest, calm, conditions, laid).
  DERIVED. THE GIVEN ROWS OF THIS SEAT. 12 by the template 'for every input the law returns true; each argument reads behind the call as it read before'; 0 by the template 'total and deterministic' (their statements: YtpiahpolmmogbaaTotals.lean).
  GIVEN WITH THE SEED: the statements are not yours to turn. If you find one false, say at which input.
  Laid BY PROGRAM, IN A SANDBOX (cutbox-rows.mjs): the forced cells as the released guide's own fill.sh prints them over the translation d8b8f51c852a5a6a… (all of the seat's roots in one cut). By AI agents, Wed Nov 11 2026. No macro, syntax, notation, axiom, sorry.
-/
import Derived.Test.YtpiahpolmmogbaaChecked
import GoSem.Claim
import GoSem.ClaimJoined
import GoSem.ClaimMapViews
import Derived.JoinedTies
import Derived.KernelRfl
namespace Go.Proofs.Ytpiahpolmmogbaa
/- THE CELL 'sum', in the pinned program and in every row, IS THE sha256 OF THE DUMP (.gsa) THAT YtpiahpolmmogbaaProg.lean LOADS. Nothing in Lean hashes anything: it is a label: what it is worth is what the hold of that sum in a sandbox is worth. -/
noncomputable def Try.pinned : Pinned := { name := "ytpiahpolmmogbaa", sum := "d8b8f51c852a5a6a33b50cb569ad1e166bac10e0d07d8cbef7ccaafff1d39d05", checked := Try.checked }
namespace Rows
def none {H : Type} : Left H := { results := [], args := [] }

/-- 'laws.FnExactSumOfShadows': WHATEVER THE INPUT: true; the input reads as it did. -/
def fnExactSumOfShadowsSpec : ChangeSpec := { name := "fnExactSumOfShadows", fn := fun _ => fun
  | [d1, d2, d3, d4, d5] => { results := [.lit (.bool true)], args := [d1, d2, d3, d4, d5] }
  | _ => none }
def fnExactSumOfShadowsRow : OpenClaim := { program := "ytpiahpolmmogbaa", sum := "d8b8f51c852a5a6a33b50cb569ad1e166bac10e0d07d8cbef7ccaafff1d39d05", func := "loop.example/g01351/laws.FnExactSumOfShadows", spec := "fnExactSumOfShadows", apart := false }
def FnExactSumOfShadowsSaid : Prop := fnExactSumOfShadowsRow.holds Try.pinned (OpenSpec.ofChange fnExactSumOfShadowsSpec)

/-- ITS FALSE NEIGHBOUR: 'it returns false'. Refute it at one input. -/
def fnExactSumOfShadowsWrong : ChangeSpec := { name := "fnExactSumOfShadows", fn := fun _ => fun
  | [d1, d2, d3, d4, d5] => { results := [.lit (.bool false)], args := [d1, d2, d3, d4, d5] }
  | _ => none }
def FnExactSumOfShadowsWrongFalsely : Prop := fnExactSumOfShadowsRow.holds Try.pinned (OpenSpec.ofChange fnExactSumOfShadowsWrong)

/-- 'laws.FnExactFootForHeight': WHATEVER THE INPUT: true; the input reads as it did. -/
def fnExactFootForHeightSpec : ChangeSpec := { name := "fnExactFootForHeight", fn := fun _ => fun
  | [d1, d2] => { results := [.lit (.bool true)], args := [d1, d2] }
  | _ => none }
def fnExactFootForHeightRow : OpenClaim := { program := "ytpiahpolmmogbaa", sum := "d8b8f51c852a5a6a33b50cb569ad1e166bac10e0d07d8cbef7ccaafff1d39d05", func := "loop.example/g01351/laws.FnExactFootForHeight", spec := "fnExactFootForHeight", apart := false }
def FnExactFootForHeightSaid : Prop := fnExactFootForHeightRow.holds Try.pinned (OpenSpec.ofChange fnExactFootForHeightSpec)

/-- ITS FALSE NEIGHBOUR: 'it returns false'. Refute it at one input. -/
def fnExactFootForHeightWrong : ChangeSpec := { name := "fnExactFootForHeight", fn := fun _ => fun
  | [d1, d2] => { results := [.lit (.bool false)], args := [d1, d2] }
  | _ => none }
def FnExactFootForHeightWrongFalsely : Prop := fnExactFootForHeightRow.holds Try.pinned (OpenSpec.ofChange fnExactFootForHeightWrong)

/-- 'laws.FnExactGreatestSquareBox': WHATEVER THE INPUT: true; the input reads as it did. -/
def fnExactGreatestSquareBoxSpec : ChangeSpec := { name := "fnExactGreatestSquareBox", fn := fun _ => fun
  | [d] => { results := [.lit (.bool true)], args := [d] }
  | _ => none }
def fnExactGreatestSquareBoxRow : OpenClaim := { program := "ytpiahpolmmogbaa", sum := "d8b8f51c852a5a6a33b50cb569ad1e166bac10e0d07d8cbef7ccaafff1d39d05", func := "loop.example/g01351/laws.FnExactGreatestSquareBox", spec := "fnExactGreatestSquareBox", apart := false }
def FnExactGreatestSquareBoxSaid : Prop := fnExactGreatestSquareBoxRow.holds Try.pinned (OpenSpec.ofChange fnExactGreatestSquareBoxSpec)

/-- ITS FALSE NEIGHBOUR: 'it returns false'. Refute it at one input. -/
def fnExactGreatestSquareBoxWrong : ChangeSpec := { name := "fnExactGreatestSquareBox", fn := fun _ => fun
  | [d] => { results := [.lit (.bool false)], args := [d] }
  | _ => none }
def FnExactGreatestSquareBoxWrongFalsely : Prop := fnExactGreatestSquareBoxRow.holds Try.pinned (OpenSpec.ofChange fnExactGreatestSquareBoxWrong)

/-- 'laws.FnExactIsInShadow': WHATEVER THE INPUT: true; the input reads as it did. -/
def fnExactIsInShadowSpec : ChangeSpec := { name := "fnExactIsInShadow", fn := fun _ => fun
  | [d1, d2, d3, d4] => { results := [.lit (.bool true)], args := [d1, d2, d3, d4] }
  | _ => none }
def fnExactIsInShadowRow : OpenClaim := { program := "ytpiahpolmmogbaa", sum := "d8b8f51c852a5a6a33b50cb569ad1e166bac10e0d07d8cbef7ccaafff1d39d05", func := "loop.example/g01351/laws.FnExactIsInShadow", spec := "fnExactIsInShadow", apart := false }
def FnExactIsInShadowSaid : Prop := fnExactIsInShadowRow.holds Try.pinned (OpenSpec.ofChange fnExactIsInShadowSpec)

/-- ITS FALSE NEIGHBOUR: 'it returns false'. Refute it at one input. -/
def fnExactIsInShadowWrong : ChangeSpec := { name := "fnExactIsInShadow", fn := fun _ => fun
  | [d1, d2, d3, d4] => { results := [.lit (.bool false)], args := [d1, d2, d3, d4] }
  | _ => none }
def FnExactIsInShadowWrongFalsely : Prop := fnExactIsInShadowRow.holds Try.pinned (OpenSpec.ofChange fnExactIsInShadowWrong)

/-- 'laws.FnExactConstantSum': WHATEVER THE INPUT: true; the input reads as it did. -/
def fnExactConstantSumSpec : ChangeSpec := { name := "fnExactConstantSum", fn := fun _ => fun
  | [d1, d2, d3] => { results := [.lit (.bool true)], args := [d1, d2, d3] }
  | _ => none }
def fnExactConstantSumRow : OpenClaim := { program := "ytpiahpolmmogbaa", sum := "d8b8f51c852a5a6a33b50cb569ad1e166bac10e0d07d8cbef7ccaafff1d39d05", func := "loop.example/g01351/laws.FnExactConstantSum", spec := "fnExactConstantSum", apart := false }
def FnExactConstantSumSaid : Prop := fnExactConstantSumRow.holds Try.pinned (OpenSpec.ofChange fnExactConstantSumSpec)

/-- ITS FALSE NEIGHBOUR: 'it returns false'. Refute it at one input. -/
def fnExactConstantSumWrong : ChangeSpec := { name := "fnExactConstantSum", fn := fun _ => fun
  | [d1, d2, d3] => { results := [.lit (.bool false)], args := [d1, d2, d3] }
  | _ => none }
def FnExactConstantSumWrongFalsely : Prop := fnExactConstantSumRow.holds Try.pinned (OpenSpec.ofChange fnExactConstantSumWrong)

/-- 'laws.FnExactLeastLadder': WHATEVER THE INPUT: true; the input reads as it did. -/
def fnExactLeastLadderSpec : ChangeSpec := { name := "fnExactLeastLadder", fn := fun _ => fun
  | [d] => { results := [.lit (.bool true)], args := [d] }
  | _ => none }
def fnExactLeastLadderRow : OpenClaim := { program := "ytpiahpolmmogbaa", sum := "d8b8f51c852a5a6a33b50cb569ad1e166bac10e0d07d8cbef7ccaafff1d39d05", func := "loop.example/g01351/laws.FnExactLeastLadder", spec := "fnExactLeastLadder", apart := false }
def FnExactLeastLadderSaid : Prop := fnExactLeastLadderRow.holds Try.pinned (OpenSpec.ofChange fnExactLeastLadderSpec)

/-- ITS FALSE NEIGHBOUR: 'it returns false'. Refute it at one input. -/
def fnExactLeastLadderWrong : ChangeSpec := { name := "fnExactLeastLadder", fn := fun _ => fun
  | [d] => { results := [.lit (.bool false)], args := [d] }
  | _ => none }
def FnExactLeastLadderWrongFalsely : Prop := fnExactLeastLadderRow.holds Try.pinned (OpenSpec.ofChange fnExactLeastLadderWrong)

/-- 'laws.FnExactPartOfLadder': WHATEVER THE INPUT: true; the input reads as it did. -/
def fnExactPartOfLadderSpec : ChangeSpec := { name := "fnExactPartOfLadder", fn := fun _ => fun
  | [d1, d2, d3, d4] => { results := [.lit (.bool true)], args := [d1, d2, d3, d4] }
  | _ => none }
def fnExactPartOfLadderRow : OpenClaim := { program := "ytpiahpolmmogbaa", sum := "d8b8f51c852a5a6a33b50cb569ad1e166bac10e0d07d8cbef7ccaafff1d39d05", func := "loop.example/g01351/laws.FnExactPartOfLadder", spec := "fnExactPartOfLadder", apart := false }
def FnExactPartOfLadderSaid : Prop := fnExactPartOfLadderRow.holds Try.pinned (OpenSpec.ofChange fnExactPartOfLadderSpec)

/-- ITS FALSE NEIGHBOUR: 'it returns false'. Refute it at one input. -/
def fnExactPartOfLadderWrong : ChangeSpec := { name := "fnExactPartOfLadder", fn := fun _ => fun
  | [d1, d2, d3, d4] => { results := [.lit (.bool false)], args := [d1, d2, d3, d4] }
  | _ => none }
def FnExactPartOfLadderWrongFalsely : Prop := fnExactPartOfLadderRow.holds Try.pinned (OpenSpec.ofChange fnExactPartOfLadderWrong)

/-- 'laws.FnExactShadowAt': WHATEVER THE INPUT: true; the input reads as it did. -/
def fnExactShadowAtSpec : ChangeSpec := { name := "fnExactShadowAt", fn := fun _ => fun
  | [d1, d2, d3] => { results := [.lit (.bool true)], args := [d1, d2, d3] }
  | _ => none }
def fnExactShadowAtRow : OpenClaim := { program := "ytpiahpolmmogbaa", sum := "d8b8f51c852a5a6a33b50cb569ad1e166bac10e0d07d8cbef7ccaafff1d39d05", func := "loop.example/g01351/laws.FnExactShadowAt", spec := "fnExactShadowAt", apart := false }
def FnExactShadowAtSaid : Prop := fnExactShadowAtRow.holds Try.pinned (OpenSpec.ofChange fnExactShadowAtSpec)

/-- ITS FALSE NEIGHBOUR: 'it returns false'. Refute it at one input. -/
def fnExactShadowAtWrong : ChangeSpec := { name := "fnExactShadowAt", fn := fun _ => fun
  | [d1, d2, d3] => { results := [.lit (.bool false)], args := [d1, d2, d3] }
  | _ => none }
def FnExactShadowAtWrongFalsely : Prop := fnExactShadowAtRow.holds Try.pinned (OpenSpec.ofChange fnExactShadowAtWrong)

/-- 'laws.FnExactTipAt': WHATEVER THE INPUT: true; the input reads as it did. -/
def fnExactTipAtSpec : ChangeSpec := { name := "fnExactTipAt", fn := fun _ => fun
  | [d1, d2, d3] => { results := [.lit (.bool true)], args := [d1, d2, d3] }
  | _ => none }
def fnExactTipAtRow : OpenClaim := { program := "ytpiahpolmmogbaa", sum := "d8b8f51c852a5a6a33b50cb569ad1e166bac10e0d07d8cbef7ccaafff1d39d05", func := "loop.example/g01351/laws.FnExactTipAt", spec := "fnExactTipAt", apart := false }
def FnExactTipAtSaid : Prop := fnExactTipAtRow.holds Try.pinned (OpenSpec.ofChange fnExactTipAtSpec)

/-- ITS FALSE NEIGHBOUR: 'it returns false'. Refute it at one input. -/
def fnExactTipAtWrong : ChangeSpec := { name := "fnExactTipAt", fn := fun _ => fun
  | [d1, d2, d3] => { results := [.lit (.bool false)], args := [d1, d2, d3] }
  | _ => none }
def FnExactTipAtWrongFalsely : Prop := fnExactTipAtRow.holds Try.pinned (OpenSpec.ofChange fnExactTipAtWrong)

/-- 'laws.FnExactGrowSpeed': WHATEVER THE INPUT: true; the input reads as it did. -/
def fnExactGrowSpeedSpec : ChangeSpec := { name := "fnExactGrowSpeed", fn := fun _ => fun
  | [d1, d2] => { results := [.lit (.bool true)], args := [d1, d2] }
  | _ => none }
def fnExactGrowSpeedRow : OpenClaim := { program := "ytpiahpolmmogbaa", sum := "d8b8f51c852a5a6a33b50cb569ad1e166bac10e0d07d8cbef7ccaafff1d39d05", func := "loop.example/g01351/laws.FnExactGrowSpeed", spec := "fnExactGrowSpeed", apart := false }
def FnExactGrowSpeedSaid : Prop := fnExactGrowSpeedRow.holds Try.pinned (OpenSpec.ofChange fnExactGrowSpeedSpec)

/-- ITS FALSE NEIGHBOUR: 'it returns false'. Refute it at one input. -/
def fnExactGrowSpeedWrong : ChangeSpec := { name := "fnExactGrowSpeed", fn := fun _ => fun
  | [d1, d2] => { results := [.lit (.bool false)], args := [d1, d2] }
  | _ => none }
def FnExactGrowSpeedWrongFalsely : Prop := fnExactGrowSpeedRow.holds Try.pinned (OpenSpec.ofChange fnExactGrowSpeedWrong)

/-- 'laws.FnExactTipSpeed': WHATEVER THE INPUT: true; the input reads as it did. -/
def fnExactTipSpeedSpec : ChangeSpec := { name := "fnExactTipSpeed", fn := fun _ => fun
  | [d1, d2] => { results := [.lit (.bool true)], args := [d1, d2] }
  | _ => none }
def fnExactTipSpeedRow : OpenClaim := { program := "ytpiahpolmmogbaa", sum := "d8b8f51c852a5a6a33b50cb569ad1e166bac10e0d07d8cbef7ccaafff1d39d05", func := "loop.example/g01351/laws.FnExactTipSpeed", spec := "fnExactTipSpeed", apart := false }
def FnExactTipSpeedSaid : Prop := fnExactTipSpeedRow.holds Try.pinned (OpenSpec.ofChange fnExactTipSpeedSpec)

/-- ITS FALSE NEIGHBOUR: 'it returns false'. Refute it at one input. -/
def fnExactTipSpeedWrong : ChangeSpec := { name := "fnExactTipSpeed", fn := fun _ => fun
  | [d1, d2] => { results := [.lit (.bool false)], args := [d1, d2] }
  | _ => none }
def FnExactTipSpeedWrongFalsely : Prop := fnExactTipSpeedRow.holds Try.pinned (OpenSpec.ofChange fnExactTipSpeedWrong)

/-- 'laws.FnExactSquareLeanSum': WHATEVER THE INPUT: true; the input reads as it did. -/
def fnExactSquareLeanSumSpec : ChangeSpec := { name := "fnExactSquareLeanSum", fn := fun _ => fun
  | [d1, d2] => { results := [.lit (.bool true)], args := [d1, d2] }
  | _ => none }
def fnExactSquareLeanSumRow : OpenClaim := { program := "ytpiahpolmmogbaa", sum := "d8b8f51c852a5a6a33b50cb569ad1e166bac10e0d07d8cbef7ccaafff1d39d05", func := "loop.example/g01351/laws.FnExactSquareLeanSum", spec := "fnExactSquareLeanSum", apart := false }
def FnExactSquareLeanSumSaid : Prop := fnExactSquareLeanSumRow.holds Try.pinned (OpenSpec.ofChange fnExactSquareLeanSumSpec)

/-- ITS FALSE NEIGHBOUR: 'it returns false'. Refute it at one input. -/
def fnExactSquareLeanSumWrong : ChangeSpec := { name := "fnExactSquareLeanSum", fn := fun _ => fun
  | [d1, d2] => { results := [.lit (.bool false)], args := [d1, d2] }
  | _ => none }
def FnExactSquareLeanSumWrongFalsely : Prop := fnExactSquareLeanSumRow.holds Try.pinned (OpenSpec.ofChange fnExactSquareLeanSumWrong)

/- THE SECOND FORM. 'bulk': how many values and letters a reading holds, each counted each time it is reached (what is shared counts as often as it is met; a slice's spare places count too). A statement '..UptoSaid' is the law's where the arguments, and the package variables that the reading takes, are together of bulk at most 1048576: NARROWER than '..Said'. Prove '..Said' where nothing that the law and all that it calls make is longer than what came in: it says more and counts as full. Else prove '..UptoSaid'. A law counts once. -/
mutual
def uptoBulk {H : Type} : DataW H → Nat
  | .lit (.string bytes) => bytes.length + 1
  | .lit _ => 1
  | .nil => 1
  | .ptr d => uptoBulk d + 1
  | .slice elems spare => uptoBulkAll elems + uptoBulkAll spare + 1
  | .agg parts => uptoBulkAll parts + 1
  | .iface _ d => uptoBulk d + 1
  | .map entries => uptoBulkEntries entries + 1
  | .held _ => 1
def uptoBulkAll {H : Type} : List (DataW H) → Nat
  | [] => 0
  | d :: r => uptoBulk d + uptoBulkAll r
def uptoBulkEntries {H : Type} : List (Lit × DataW H) → Nat
  | [] => 0
  | x :: r => uptoBulkEntry x + uptoBulkEntries r
def uptoBulkEntry {H : Type} : Lit × DataW H → Nat
  | (.string bytes, d) => bytes.length + uptoBulk d + 1
  | (_, d) => uptoBulk d + 1
 end
def uptoSmall : (H : Type) → List (DataW H) → Bool := fun _ ds => decide (uptoBulkAll ds ≤ 1048576)
def OpenSpec.upto (s : _root_.Go.ChangeSpec) : _root_.Go.OpenSpec := { _root_.Go.OpenSpec.ofChange s with cond := some uptoSmall }

/-- 'laws.FnExactSumOfShadows', WHERE WHAT IT READS IS OF BULK AT MOST 1048576: true; the input reads as it did. -/
def fnExactSumOfShadowsUptoRow : OpenClaim := { program := "ytpiahpolmmogbaa", sum := "d8b8f51c852a5a6a33b50cb569ad1e166bac10e0d07d8cbef7ccaafff1d39d05", func := "loop.example/g01351/laws.FnExactSumOfShadows", spec := "fnExactSumOfShadows", apart := false, narrowed := true }
def FnExactSumOfShadowsUptoSaid : Prop := fnExactSumOfShadowsUptoRow.holds Try.pinned (OpenSpec.upto fnExactSumOfShadowsSpec)

/-- 'laws.FnExactFootForHeight', WHERE WHAT IT READS IS OF BULK AT MOST 1048576: true; the input reads as it did. -/
def fnExactFootForHeightUptoRow : OpenClaim := { program := "ytpiahpolmmogbaa", sum := "d8b8f51c852a5a6a33b50cb569ad1e166bac10e0d07d8cbef7ccaafff1d39d05", func := "loop.example/g01351/laws.FnExactFootForHeight", spec := "fnExactFootForHeight", apart := false, narrowed := true }
def FnExactFootForHeightUptoSaid : Prop := fnExactFootForHeightUptoRow.holds Try.pinned (OpenSpec.upto fnExactFootForHeightSpec)

/-- 'laws.FnExactGreatestSquareBox', WHERE WHAT IT READS IS OF BULK AT MOST 1048576: true; the input reads as it did. -/
def fnExactGreatestSquareBoxUptoRow : OpenClaim := { program := "ytpiahpolmmogbaa", sum := "d8b8f51c852a5a6a33b50cb569ad1e166bac10e0d07d8cbef7ccaafff1d39d05", func := "loop.example/g01351/laws.FnExactGreatestSquareBox", spec := "fnExactGreatestSquareBox", apart := false, narrowed := true }
def FnExactGreatestSquareBoxUptoSaid : Prop := fnExactGreatestSquareBoxUptoRow.holds Try.pinned (OpenSpec.upto fnExactGreatestSquareBoxSpec)

/-- 'laws.FnExactIsInShadow', WHERE WHAT IT READS IS OF BULK AT MOST 1048576: true; the input reads as it did. -/
def fnExactIsInShadowUptoRow : OpenClaim := { program := "ytpiahpolmmogbaa", sum := "d8b8f51c852a5a6a33b50cb569ad1e166bac10e0d07d8cbef7ccaafff1d39d05", func := "loop.example/g01351/laws.FnExactIsInShadow", spec := "fnExactIsInShadow", apart := false, narrowed := true }
def FnExactIsInShadowUptoSaid : Prop := fnExactIsInShadowUptoRow.holds Try.pinned (OpenSpec.upto fnExactIsInShadowSpec)

/-- 'laws.FnExactConstantSum', WHERE WHAT IT READS IS OF BULK AT MOST 1048576: true; the input reads as it did. -/
def fnExactConstantSumUptoRow : OpenClaim := { program := "ytpiahpolmmogbaa", sum := "d8b8f51c852a5a6a33b50cb569ad1e166bac10e0d07d8cbef7ccaafff1d39d05", func := "loop.example/g01351/laws.FnExactConstantSum", spec := "fnExactConstantSum", apart := false, narrowed := true }
def FnExactConstantSumUptoSaid : Prop := fnExactConstantSumUptoRow.holds Try.pinned (OpenSpec.upto fnExactConstantSumSpec)

/-- 'laws.FnExactLeastLadder', WHERE WHAT IT READS IS OF BULK AT MOST 1048576: true; the input reads as it did. -/
def fnExactLeastLadderUptoRow : OpenClaim := { program := "ytpiahpolmmogbaa", sum := "d8b8f51c852a5a6a33b50cb569ad1e166bac10e0d07d8cbef7ccaafff1d39d05", func := "loop.example/g01351/laws.FnExactLeastLadder", spec := "fnExactLeastLadder", apart := false, narrowed := true }
def FnExactLeastLadderUptoSaid : Prop := fnExactLeastLadderUptoRow.holds Try.pinned (OpenSpec.upto fnExactLeastLadderSpec)

/-- 'laws.FnExactPartOfLadder', WHERE WHAT IT READS IS OF BULK AT MOST 1048576: true; the input reads as it did. -/
def fnExactPartOfLadderUptoRow : OpenClaim := { program := "ytpiahpolmmogbaa", sum := "d8b8f51c852a5a6a33b50cb569ad1e166bac10e0d07d8cbef7ccaafff1d39d05", func := "loop.example/g01351/laws.FnExactPartOfLadder", spec := "fnExactPartOfLadder", apart := false, narrowed := true }
def FnExactPartOfLadderUptoSaid : Prop := fnExactPartOfLadderUptoRow.holds Try.pinned (OpenSpec.upto fnExactPartOfLadderSpec)

/-- 'laws.FnExactShadowAt', WHERE WHAT IT READS IS OF BULK AT MOST 1048576: true; the input reads as it did. -/
def fnExactShadowAtUptoRow : OpenClaim := { program := "ytpiahpolmmogbaa", sum := "d8b8f51c852a5a6a33b50cb569ad1e166bac10e0d07d8cbef7ccaafff1d39d05", func := "loop.example/g01351/laws.FnExactShadowAt", spec := "fnExactShadowAt", apart := false, narrowed := true }
def FnExactShadowAtUptoSaid : Prop := fnExactShadowAtUptoRow.holds Try.pinned (OpenSpec.upto fnExactShadowAtSpec)

/-- 'laws.FnExactTipAt', WHERE WHAT IT READS IS OF BULK AT MOST 1048576: true; the input reads as it did. -/
def fnExactTipAtUptoRow : OpenClaim := { program := "ytpiahpolmmogbaa", sum := "d8b8f51c852a5a6a33b50cb569ad1e166bac10e0d07d8cbef7ccaafff1d39d05", func := "loop.example/g01351/laws.FnExactTipAt", spec := "fnExactTipAt", apart := false, narrowed := true }
def FnExactTipAtUptoSaid : Prop := fnExactTipAtUptoRow.holds Try.pinned (OpenSpec.upto fnExactTipAtSpec)

/-- 'laws.FnExactGrowSpeed', WHERE WHAT IT READS IS OF BULK AT MOST 1048576: true; the input reads as it did. -/
def fnExactGrowSpeedUptoRow : OpenClaim := { program := "ytpiahpolmmogbaa", sum := "d8b8f51c852a5a6a33b50cb569ad1e166bac10e0d07d8cbef7ccaafff1d39d05", func := "loop.example/g01351/laws.FnExactGrowSpeed", spec := "fnExactGrowSpeed", apart := false, narrowed := true }
def FnExactGrowSpeedUptoSaid : Prop := fnExactGrowSpeedUptoRow.holds Try.pinned (OpenSpec.upto fnExactGrowSpeedSpec)

/-- 'laws.FnExactTipSpeed', WHERE WHAT IT READS IS OF BULK AT MOST 1048576: true; the input reads as it did. -/
def fnExactTipSpeedUptoRow : OpenClaim := { program := "ytpiahpolmmogbaa", sum := "d8b8f51c852a5a6a33b50cb569ad1e166bac10e0d07d8cbef7ccaafff1d39d05", func := "loop.example/g01351/laws.FnExactTipSpeed", spec := "fnExactTipSpeed", apart := false, narrowed := true }
def FnExactTipSpeedUptoSaid : Prop := fnExactTipSpeedUptoRow.holds Try.pinned (OpenSpec.upto fnExactTipSpeedSpec)

/-- 'laws.FnExactSquareLeanSum', WHERE WHAT IT READS IS OF BULK AT MOST 1048576: true; the input reads as it did. -/
def fnExactSquareLeanSumUptoRow : OpenClaim := { program := "ytpiahpolmmogbaa", sum := "d8b8f51c852a5a6a33b50cb569ad1e166bac10e0d07d8cbef7ccaafff1d39d05", func := "loop.example/g01351/laws.FnExactSquareLeanSum", spec := "fnExactSquareLeanSum", apart := false, narrowed := true }
def FnExactSquareLeanSumUptoSaid : Prop := fnExactSquareLeanSumUptoRow.holds Try.pinned (OpenSpec.upto fnExactSquareLeanSumSpec)

end Rows
end Go.Proofs.Ytpiahpolmmogbaa
