/-
  DERIVED. GIVEN WITH THE SEED: THE CARDS: each row of YtglndeegcbiooaaDoorRows.lean that lists a variable, with what it lists TIED to the program's text (the seventh form; the later family's looks); each row that meets fmt, with fmt's text TOLD by the authors' own Lean function (tested against real Go, not proved from fmt's source: count such statements apart). THE CARD IS WHAT COUNTS. Prove the row's statement (the work); the ties are given (YtglndeegcbiooaaDoorTie.lean); close each card by the builder's one call (the guide's Derived/Test/ToyasCard.lean, 'card_holds'). Laid BY PROGRAM, IN A SANDBOX (cutbox-door.mjs). By AI agents, Wed Nov 11 2026. No macro, syntax, notation, axiom, sorry.
-/
import Derived.Test.YtglndeegcbiooaaDoorRows
import GoSem.ClaimSeven
namespace Go.Proofs.YtglndeegcbiooaaDoor
namespace Rows

/-- THE TIED CARD OF 'laws.FnExactBoxText'. -/
def fnExactBoxTextCard : Claim7 := { stood := { row := fnExactBoxTextRow, standIns := [], harness := (true, "ab176d21b5c9862ed732797313af89b6323fdc46b5dfc8e4862362bd86439fef"), looks := true }, kinds := [], alts := [], laidByText := true, laidKinds := [.data, .data, .data], laidTests := true, laidLooks := .later }
def FnExactBoxTextCardSaid : Prop := Claim7.holds Tryd.pinned (.plain (OpenSpec.ofChange fnExactBoxTextSpec)) fnExactBoxTextCard

/-- THE TIED CARD OF 'laws.FnExactSpotText'. -/
def fnExactSpotTextCard : Claim7 := { stood := { row := fnExactSpotTextRow, standIns := [], harness := (true, "ab176d21b5c9862ed732797313af89b6323fdc46b5dfc8e4862362bd86439fef"), looks := true }, kinds := [], alts := [], laidByText := true, laidKinds := [.data, .data, .data], laidTests := true, laidLooks := .later }
def FnExactSpotTextCardSaid : Prop := Claim7.holds Tryd.pinned (.plain (OpenSpec.ofChange fnExactSpotTextSpec)) fnExactSpotTextCard

/-- THE TIED CARD OF 'laws.FnExactWalkerText'. -/
def fnExactWalkerTextCard : Claim7 := { stood := { row := fnExactWalkerTextRow, standIns := [], harness := (true, "ab176d21b5c9862ed732797313af89b6323fdc46b5dfc8e4862362bd86439fef"), looks := true }, kinds := [], alts := [], laidByText := true, laidKinds := [.data, .data, .data], laidTests := true, laidLooks := .later }
def FnExactWalkerTextCardSaid : Prop := Claim7.holds Tryd.pinned (.plain (OpenSpec.ofChange fnExactWalkerTextSpec)) fnExactWalkerTextCard

/-- THE TIED CARD OF 'laws.FnExactParseBox'. -/
def fnExactParseBoxCard : Claim7 := { stood := { row := fnExactParseBoxRow, standIns := [], harness := (true, "ab176d21b5c9862ed732797313af89b6323fdc46b5dfc8e4862362bd86439fef"), looks := true }, kinds := [], alts := [], laidByText := true, laidKinds := [.data, .data, .data, .sentinel, .sentinel], laidTests := true, laidLooks := .later }
def FnExactParseBoxCardSaid : Prop := Claim7.holds Tryd.pinned (.plain (OpenSpec.ofChange fnExactParseBoxSpec)) fnExactParseBoxCard

/-- THE TIED CARD OF 'laws.FnExactParseSpot'. -/
def fnExactParseSpotCard : Claim7 := { stood := { row := fnExactParseSpotRow, standIns := [], harness := (true, "ab176d21b5c9862ed732797313af89b6323fdc46b5dfc8e4862362bd86439fef"), looks := true }, kinds := [], alts := [], laidByText := true, laidKinds := [.data, .data, .data, .sentinel, .sentinel], laidTests := true, laidLooks := .later }
def FnExactParseSpotCardSaid : Prop := Claim7.holds Tryd.pinned (.plain (OpenSpec.ofChange fnExactParseSpotSpec)) fnExactParseSpotCard

/-- THE TIED CARD OF 'laws.FnExactParseWalker'. -/
def fnExactParseWalkerCard : Claim7 := { stood := { row := fnExactParseWalkerRow, standIns := [], harness := (true, "ab176d21b5c9862ed732797313af89b6323fdc46b5dfc8e4862362bd86439fef"), looks := true }, kinds := [], alts := [], laidByText := true, laidKinds := [.data, .data, .data, .sentinel, .sentinel], laidTests := true, laidLooks := .later }
def FnExactParseWalkerCardSaid : Prop := Claim7.holds Tryd.pinned (.plain (OpenSpec.ofChange fnExactParseWalkerSpec)) fnExactParseWalkerCard

/-- THE SECOND FORM's CARD OF 'laws.FnExactBoxText'. -/
def fnExactBoxTextUptoCard : Claim7 := { stood := { row := fnExactBoxTextUptoRow, standIns := [], harness := (true, "ab176d21b5c9862ed732797313af89b6323fdc46b5dfc8e4862362bd86439fef"), looks := true }, kinds := [], alts := [], laidByText := true, laidKinds := [.data, .data, .data], laidTests := true, laidLooks := .later }
def FnExactBoxTextUptoCardSaid : Prop := Claim7.holds Tryd.pinned (.plain (OpenSpec.upto fnExactBoxTextSpec)) fnExactBoxTextUptoCard

/-- THE SECOND FORM's CARD OF 'laws.FnExactSpotText'. -/
def fnExactSpotTextUptoCard : Claim7 := { stood := { row := fnExactSpotTextUptoRow, standIns := [], harness := (true, "ab176d21b5c9862ed732797313af89b6323fdc46b5dfc8e4862362bd86439fef"), looks := true }, kinds := [], alts := [], laidByText := true, laidKinds := [.data, .data, .data], laidTests := true, laidLooks := .later }
def FnExactSpotTextUptoCardSaid : Prop := Claim7.holds Tryd.pinned (.plain (OpenSpec.upto fnExactSpotTextSpec)) fnExactSpotTextUptoCard

/-- THE SECOND FORM's CARD OF 'laws.FnExactWalkerText'. -/
def fnExactWalkerTextUptoCard : Claim7 := { stood := { row := fnExactWalkerTextUptoRow, standIns := [], harness := (true, "ab176d21b5c9862ed732797313af89b6323fdc46b5dfc8e4862362bd86439fef"), looks := true }, kinds := [], alts := [], laidByText := true, laidKinds := [.data, .data, .data], laidTests := true, laidLooks := .later }
def FnExactWalkerTextUptoCardSaid : Prop := Claim7.holds Tryd.pinned (.plain (OpenSpec.upto fnExactWalkerTextSpec)) fnExactWalkerTextUptoCard

/-- THE SECOND FORM's CARD OF 'laws.FnExactParseBox'. -/
def fnExactParseBoxUptoCard : Claim7 := { stood := { row := fnExactParseBoxUptoRow, standIns := [], harness := (true, "ab176d21b5c9862ed732797313af89b6323fdc46b5dfc8e4862362bd86439fef"), looks := true }, kinds := [], alts := [], laidByText := true, laidKinds := [.data, .data, .data, .sentinel, .sentinel], laidTests := true, laidLooks := .later }
def FnExactParseBoxUptoCardSaid : Prop := Claim7.holds Tryd.pinned (.plain (OpenSpec.upto fnExactParseBoxSpec)) fnExactParseBoxUptoCard

/-- THE SECOND FORM's CARD OF 'laws.FnExactParseSpot'. -/
def fnExactParseSpotUptoCard : Claim7 := { stood := { row := fnExactParseSpotUptoRow, standIns := [], harness := (true, "ab176d21b5c9862ed732797313af89b6323fdc46b5dfc8e4862362bd86439fef"), looks := true }, kinds := [], alts := [], laidByText := true, laidKinds := [.data, .data, .data, .sentinel, .sentinel], laidTests := true, laidLooks := .later }
def FnExactParseSpotUptoCardSaid : Prop := Claim7.holds Tryd.pinned (.plain (OpenSpec.upto fnExactParseSpotSpec)) fnExactParseSpotUptoCard

/-- THE SECOND FORM's CARD OF 'laws.FnExactParseWalker'. -/
def fnExactParseWalkerUptoCard : Claim7 := { stood := { row := fnExactParseWalkerUptoRow, standIns := [], harness := (true, "ab176d21b5c9862ed732797313af89b6323fdc46b5dfc8e4862362bd86439fef"), looks := true }, kinds := [], alts := [], laidByText := true, laidKinds := [.data, .data, .data, .sentinel, .sentinel], laidTests := true, laidLooks := .later }
def FnExactParseWalkerUptoCardSaid : Prop := Claim7.holds Tryd.pinned (.plain (OpenSpec.upto fnExactParseWalkerSpec)) fnExactParseWalkerUptoCard
end Rows
end Go.Proofs.YtglndeegcbiooaaDoor
