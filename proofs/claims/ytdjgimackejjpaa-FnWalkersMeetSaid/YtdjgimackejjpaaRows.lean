/-
  No cell of these rows narrows 'for every input' (looked for: loops, veiled, ifaces, maps, wideKeys, modest, calm, conditions, laid).
  DERIVED. THE GIVEN ROWS OF THIS SEAT. 2 by the template 'for every input the law returns true; each argument reads behind the call as it read before'; 0 by the template 'total and deterministic' (their statements: YtdjgimackejjpaaTotals.lean).
  GIVEN WITH THE SEED: the statements are not yours to turn. If you find one false, say at which input.
  Laid BY PROGRAM, IN A SANDBOX (cutbox-rows.mjs): the forced cells as the released guide's own fill.sh prints them over the translation 731d7050a363ac95… (all of the seat's roots in one cut). By AI agents, Wed Nov 11 2026. No macro, syntax, notation, axiom, sorry.
-/
import Derived.Test.YtdjgimackejjpaaChecked
import GoSem.Claim
import GoSem.ClaimJoined
import GoSem.ClaimMapViews
import Derived.JoinedTies
import Derived.KernelRfl
namespace Go.Proofs.Ytdjgimackejjpaa
/- THE CELL 'sum', in the pinned program and in every row, IS THE sha256 OF THE DUMP (.gsa) THAT YtdjgimackejjpaaProg.lean LOADS. Nothing in Lean hashes anything: it is a label: what it is worth is what the hold of that sum in a sandbox is worth. -/
noncomputable def Try.pinned : Pinned := { name := "ytdjgimackejjpaa", sum := "731d7050a363ac95fa713542182a25e88ba0991ec286e3aa3b01ba4a797b3024", checked := Try.checked }
namespace Rows
def none {H : Type} : Left H := { results := [], args := [] }

/-- 'laws.FnWalkersMeetOfAll': WHATEVER THE INPUT: true; the input reads as it did. -/
def fnWalkersMeetOfAllSpec : ChangeSpec := { name := "fnWalkersMeetOfAll", fn := fun _ => fun
  | [d1, d2, d3, d4, d5, d6, d7, d8, d9, d10, d11, d12] => { results := [.lit (.bool true)], args := [d1, d2, d3, d4, d5, d6, d7, d8, d9, d10, d11, d12] }
  | _ => none }
def fnWalkersMeetOfAllRow : OpenClaim := { program := "ytdjgimackejjpaa", sum := "731d7050a363ac95fa713542182a25e88ba0991ec286e3aa3b01ba4a797b3024", func := "loop.example/g01351/laws.FnWalkersMeetOfAll", spec := "fnWalkersMeetOfAll", apart := false }
def FnWalkersMeetOfAllSaid : Prop := fnWalkersMeetOfAllRow.holds Try.pinned (OpenSpec.ofChange fnWalkersMeetOfAllSpec)

/-- ITS FALSE NEIGHBOUR: 'it returns false'. Refute it at one input. -/
def fnWalkersMeetOfAllWrong : ChangeSpec := { name := "fnWalkersMeetOfAll", fn := fun _ => fun
  | [d1, d2, d3, d4, d5, d6, d7, d8, d9, d10, d11, d12] => { results := [.lit (.bool false)], args := [d1, d2, d3, d4, d5, d6, d7, d8, d9, d10, d11, d12] }
  | _ => none }
def FnWalkersMeetOfAllWrongFalsely : Prop := fnWalkersMeetOfAllRow.holds Try.pinned (OpenSpec.ofChange fnWalkersMeetOfAllWrong)

/-- 'laws.FnWalkersMeet': WHATEVER THE INPUT: true; the input reads as it did. -/
def fnWalkersMeetSpec : ChangeSpec := { name := "fnWalkersMeet", fn := fun _ => fun
  | [d1, d2] => { results := [.lit (.bool true)], args := [d1, d2] }
  | _ => none }
def fnWalkersMeetRow : OpenClaim := { program := "ytdjgimackejjpaa", sum := "731d7050a363ac95fa713542182a25e88ba0991ec286e3aa3b01ba4a797b3024", func := "loop.example/g01351/laws.FnWalkersMeet", spec := "fnWalkersMeet", apart := false }
def FnWalkersMeetSaid : Prop := fnWalkersMeetRow.holds Try.pinned (OpenSpec.ofChange fnWalkersMeetSpec)

/-- ITS FALSE NEIGHBOUR: 'it returns false'. Refute it at one input. -/
def fnWalkersMeetWrong : ChangeSpec := { name := "fnWalkersMeet", fn := fun _ => fun
  | [d1, d2] => { results := [.lit (.bool false)], args := [d1, d2] }
  | _ => none }
def FnWalkersMeetWrongFalsely : Prop := fnWalkersMeetRow.holds Try.pinned (OpenSpec.ofChange fnWalkersMeetWrong)

/- THE SECOND FORM. 'bulk': how many values and letters a reading holds, each counted each time it is reached (what is shared counts as often as it is met; a slice's spare places count too). A statement '..UptoSaid' is the law's where the arguments, and the package variables that the reading takes, are together of bulk at most 1048576: NARROWER than '..Said'. Prove '..Said' where nothing that the law and all that it calls make is longer than what came in: it says more and counts as full. Else prove '..UptoSaid'. A law counts once. -/
mutual
def uptoBulk {H : Type} : DataW H → Nat
  | .lit (.string bytes) => bytes.length + 1
  | .lit _ => 1
  | .nil => 1
  | .ptr d => uptoBulk d + 1
  | .slice elems spare => uptoBulkAll elems + uptoBulkAll spare + 1
  | .agg parts => uptoBulkAll parts + 1
  | .iface _ d => uptoBulk d + 1
  | .map entries => uptoBulkEntries entries + 1
  | .held _ => 1
def uptoBulkAll {H : Type} : List (DataW H) → Nat
  | [] => 0
  | d :: r => uptoBulk d + uptoBulkAll r
def uptoBulkEntries {H : Type} : List (Lit × DataW H) → Nat
  | [] => 0
  | x :: r => uptoBulkEntry x + uptoBulkEntries r
def uptoBulkEntry {H : Type} : Lit × DataW H → Nat
  | (.string bytes, d) => bytes.length + uptoBulk d + 1
  | (_, d) => uptoBulk d + 1
 end
def uptoSmall : (H : Type) → List (DataW H) → Bool := fun _ ds => decide (uptoBulkAll ds ≤ 1048576)
def OpenSpec.upto (s : _root_.Go.ChangeSpec) : _root_.Go.OpenSpec := { _root_.Go.OpenSpec.ofChange s with cond := some uptoSmall }

/-- 'laws.FnWalkersMeetOfAll', WHERE WHAT IT READS IS OF BULK AT MOST 1048576: true; the input reads as it did. -/
def fnWalkersMeetOfAllUptoRow : OpenClaim := { program := "ytdjgimackejjpaa", sum := "731d7050a363ac95fa713542182a25e88ba0991ec286e3aa3b01ba4a797b3024", func := "loop.example/g01351/laws.FnWalkersMeetOfAll", spec := "fnWalkersMeetOfAll", apart := false, narrowed := true }
def FnWalkersMeetOfAllUptoSaid : Prop := fnWalkersMeetOfAllUptoRow.holds Try.pinned (OpenSpec.upto fnWalkersMeetOfAllSpec)

/-- 'laws.FnWalkersMeet', WHERE WHAT IT READS IS OF BULK AT MOST 1048576: true; the input reads as it did. -/
def fnWalkersMeetUptoRow : OpenClaim := { program := "ytdjgimackejjpaa", sum := "731d7050a363ac95fa713542182a25e88ba0991ec286e3aa3b01ba4a797b3024", func := "loop.example/g01351/laws.FnWalkersMeet", spec := "fnWalkersMeet", apart := false, narrowed := true }
def FnWalkersMeetUptoSaid : Prop := fnWalkersMeetUptoRow.holds Try.pinned (OpenSpec.upto fnWalkersMeetSpec)

end Rows
end Go.Proofs.Ytdjgimackejjpaa
