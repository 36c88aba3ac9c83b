/-
  DERIVED. GIVEN WITH THE SEED: THE CARDS: each row of YtncpoffbeipooaaDoorRows.lean that lists a variable, with what it lists TIED to the program's text (the seventh form; the later family's looks); each row that meets fmt, with fmt's text TOLD by the authors' own Lean function (tested against real Go, not proved from fmt's source: count such statements apart). THE CARD IS WHAT COUNTS. Prove the row's statement (the work); the ties are given (YtncpoffbeipooaaDoorTie.lean); close each card by the builder's one call (the guide's Derived/Test/ToyasCard.lean, 'card_holds'). Laid BY PROGRAM, IN A SANDBOX (cutbox-door.mjs). By AI agents, Wed Nov 11 2026. No macro, syntax, notation, axiom, sorry.
-/
import Derived.Test.YtncpoffbeipooaaDoorRows
import GoSem.ClaimSeven
namespace Go.Proofs.YtncpoffbeipooaaDoor
namespace Rows

/-- THE TIED CARD OF 'laws.FnExactWordsOf'. -/
def fnExactWordsOfCard : Claim7 := { stood := { row := fnExactWordsOfRow, standIns := [], harness := (true, "0c0bea90e8b875374c9bd3f8c7354838834758c42b6af66023eb0b5ffac2d95c"), looks := true }, kinds := [], alts := [], laidByText := true, laidKinds := [.listed, .data], laidTests := true, laidLooks := .later }
def FnExactWordsOfCardSaid : Prop := Claim7.holds Tryd.pinned (.plain (OpenSpec.ofChange fnExactWordsOfSpec)) fnExactWordsOfCard

/-- THE TIED CARD OF 'laws.FnExactDotText'. -/
def fnExactDotTextCard : Claim7 := { stood := { row := fnExactDotTextRow, standIns := [], harness := (true, "0c0bea90e8b875374c9bd3f8c7354838834758c42b6af66023eb0b5ffac2d95c"), looks := true }, kinds := [], alts := [], laidByText := true, laidKinds := [.data, .pinned], laidTests := true, laidLooks := .later }
def FnExactDotTextCardSaid : Prop := Claim7.holds Tryd.pinned (.plain (OpenSpec.ofChange fnExactDotTextSpec)) fnExactDotTextCard

/-- THE TIED CARD OF 'laws.FnExactHeadOf'. -/
def fnExactHeadOfCard : Claim7 := { stood := { row := fnExactHeadOfRow, standIns := [], harness := (true, "0c0bea90e8b875374c9bd3f8c7354838834758c42b6af66023eb0b5ffac2d95c"), looks := true }, kinds := [], alts := [], laidByText := true, laidKinds := [.data, .pinned], laidTests := true, laidLooks := .later }
def FnExactHeadOfCardSaid : Prop := Claim7.holds Tryd.pinned (.plain (OpenSpec.ofChange fnExactHeadOfSpec)) fnExactHeadOfCard

/-- THE TIED CARD OF 'laws.FnExactLinesOf'. -/
def fnExactLinesOfCard : Claim7 := { stood := { row := fnExactLinesOfRow, standIns := [], harness := (true, "0c0bea90e8b875374c9bd3f8c7354838834758c42b6af66023eb0b5ffac2d95c"), looks := true }, kinds := [], alts := [], laidByText := true, laidKinds := [.data, .pinned], laidTests := true, laidLooks := .later }
def FnExactLinesOfCardSaid : Prop := Claim7.holds Tryd.pinned (.plain (OpenSpec.ofChange fnExactLinesOfSpec)) fnExactLinesOfCard

/-- THE TIED CARD OF 'laws.FnDots'. -/
def fnDotsCard : Claim7 := { stood := { row := fnDotsRow, standIns := [], harness := (true, "0c0bea90e8b875374c9bd3f8c7354838834758c42b6af66023eb0b5ffac2d95c"), looks := true }, kinds := [], alts := [], laidByText := true, laidKinds := [.data, .pinned], laidTests := true, laidLooks := .later }
def FnDotsCardSaid : Prop := Claim7.holds Tryd.pinned (.plain (OpenSpec.ofChange fnDotsSpec)) fnDotsCard

/-- THE TIED CARD OF 'laws.FnExactNumberOf'. -/
def fnExactNumberOfCard : Claim7 := { stood := { row := fnExactNumberOfRow, standIns := [], harness := (true, "0c0bea90e8b875374c9bd3f8c7354838834758c42b6af66023eb0b5ffac2d95c"), looks := true }, kinds := [], alts := [], laidByText := true, laidKinds := [.data, .data, .data, .sentinel, .sentinel], laidTests := true, laidLooks := .later }
def FnExactNumberOfCardSaid : Prop := Claim7.holds Tryd.pinned (.plain (OpenSpec.ofChange fnExactNumberOfSpec)) fnExactNumberOfCard

/-- THE SECOND FORM's CARD OF 'laws.FnExactWordsOf'. -/
def fnExactWordsOfUptoCard : Claim7 := { stood := { row := fnExactWordsOfUptoRow, standIns := [], harness := (true, "0c0bea90e8b875374c9bd3f8c7354838834758c42b6af66023eb0b5ffac2d95c"), looks := true }, kinds := [], alts := [], laidByText := true, laidKinds := [.listed, .data], laidTests := true, laidLooks := .later }
def FnExactWordsOfUptoCardSaid : Prop := Claim7.holds Tryd.pinned (.plain (OpenSpec.upto fnExactWordsOfSpec)) fnExactWordsOfUptoCard

/-- THE SECOND FORM's CARD OF 'laws.FnExactDotText'. -/
def fnExactDotTextUptoCard : Claim7 := { stood := { row := fnExactDotTextUptoRow, standIns := [], harness := (true, "0c0bea90e8b875374c9bd3f8c7354838834758c42b6af66023eb0b5ffac2d95c"), looks := true }, kinds := [], alts := [], laidByText := true, laidKinds := [.data, .pinned], laidTests := true, laidLooks := .later }
def FnExactDotTextUptoCardSaid : Prop := Claim7.holds Tryd.pinned (.plain (OpenSpec.upto fnExactDotTextSpec)) fnExactDotTextUptoCard

/-- THE SECOND FORM's CARD OF 'laws.FnExactHeadOf'. -/
def fnExactHeadOfUptoCard : Claim7 := { stood := { row := fnExactHeadOfUptoRow, standIns := [], harness := (true, "0c0bea90e8b875374c9bd3f8c7354838834758c42b6af66023eb0b5ffac2d95c"), looks := true }, kinds := [], alts := [], laidByText := true, laidKinds := [.data, .pinned], laidTests := true, laidLooks := .later }
def FnExactHeadOfUptoCardSaid : Prop := Claim7.holds Tryd.pinned (.plain (OpenSpec.upto fnExactHeadOfSpec)) fnExactHeadOfUptoCard

/-- THE SECOND FORM's CARD OF 'laws.FnExactLinesOf'. -/
def fnExactLinesOfUptoCard : Claim7 := { stood := { row := fnExactLinesOfUptoRow, standIns := [], harness := (true, "0c0bea90e8b875374c9bd3f8c7354838834758c42b6af66023eb0b5ffac2d95c"), looks := true }, kinds := [], alts := [], laidByText := true, laidKinds := [.data, .pinned], laidTests := true, laidLooks := .later }
def FnExactLinesOfUptoCardSaid : Prop := Claim7.holds Tryd.pinned (.plain (OpenSpec.upto fnExactLinesOfSpec)) fnExactLinesOfUptoCard

/-- THE SECOND FORM's CARD OF 'laws.FnDots'. -/
def fnDotsUptoCard : Claim7 := { stood := { row := fnDotsUptoRow, standIns := [], harness := (true, "0c0bea90e8b875374c9bd3f8c7354838834758c42b6af66023eb0b5ffac2d95c"), looks := true }, kinds := [], alts := [], laidByText := true, laidKinds := [.data, .pinned], laidTests := true, laidLooks := .later }
def FnDotsUptoCardSaid : Prop := Claim7.holds Tryd.pinned (.plain (OpenSpec.upto fnDotsSpec)) fnDotsUptoCard

/-- THE SECOND FORM's CARD OF 'laws.FnExactNumberOf'. -/
def fnExactNumberOfUptoCard : Claim7 := { stood := { row := fnExactNumberOfUptoRow, standIns := [], harness := (true, "0c0bea90e8b875374c9bd3f8c7354838834758c42b6af66023eb0b5ffac2d95c"), looks := true }, kinds := [], alts := [], laidByText := true, laidKinds := [.data, .data, .data, .sentinel, .sentinel], laidTests := true, laidLooks := .later }
def FnExactNumberOfUptoCardSaid : Prop := Claim7.holds Tryd.pinned (.plain (OpenSpec.upto fnExactNumberOfSpec)) fnExactNumberOfUptoCard
end Rows
end Go.Proofs.YtncpoffbeipooaaDoor
