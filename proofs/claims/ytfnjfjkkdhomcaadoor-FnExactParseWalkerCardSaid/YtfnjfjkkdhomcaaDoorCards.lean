/-
  DERIVED. GIVEN WITH THE SEED: THE CARDS: each row of YtfnjfjkkdhomcaaDoorRows.lean that lists a variable, with what it lists TIED to the program's text (the seventh form; the later family's looks); each row that meets fmt, with fmt's text TOLD by the authors' own Lean function (tested against real Go, not proved from fmt's source: count such statements apart). THE CARD IS WHAT COUNTS. Prove the row's statement (the work); the ties are given (YtfnjfjkkdhomcaaDoorTie.lean); close each card by the builder's one call (the guide's Derived/Test/ToyasCard.lean, 'card_holds'). Laid BY PROGRAM, IN A SANDBOX (cutbox-door.mjs). By AI agents, Wed Nov 11 2026. No macro, syntax, notation, axiom, sorry.
-/
import Derived.Test.YtfnjfjkkdhomcaaDoorRows
import GoSem.ClaimSeven
namespace Go.Proofs.YtfnjfjkkdhomcaaDoor
namespace Rows

/-- THE TIED CARD OF 'laws.FnExactParseWalker'. -/
def fnExactParseWalkerCard : Claim7 := { stood := { row := fnExactParseWalkerRow, standIns := [], harness := (true, "5e30713bcd76080258d63a0552d89b577874f061f7589b38a8776ae5d136b525"), looks := true }, kinds := [], alts := [], laidByText := true, laidKinds := [.data, .data, .data, .sentinel, .sentinel], laidTests := true, laidLooks := .later }
def FnExactParseWalkerCardSaid : Prop := Claim7.holds Tryd.pinned (.plain (OpenSpec.ofChange fnExactParseWalkerSpec)) fnExactParseWalkerCard

/-- THE SECOND FORM's CARD OF 'laws.FnExactParseWalker'. -/
def fnExactParseWalkerUptoCard : Claim7 := { stood := { row := fnExactParseWalkerUptoRow, standIns := [], harness := (true, "5e30713bcd76080258d63a0552d89b577874f061f7589b38a8776ae5d136b525"), looks := true }, kinds := [], alts := [], laidByText := true, laidKinds := [.data, .data, .data, .sentinel, .sentinel], laidTests := true, laidLooks := .later }
def FnExactParseWalkerUptoCardSaid : Prop := Claim7.holds Tryd.pinned (.plain (OpenSpec.upto fnExactParseWalkerSpec)) fnExactParseWalkerUptoCard
end Rows
end Go.Proofs.YtfnjfjkkdhomcaaDoor
