/-
  DERIVED. GIVEN WITH THE SEED: THE CARDS: each row of YtncpoffbeipooabDoorRows.lean that lists a variable, with what it lists TIED to the program's text (the seventh form; the later family's looks); each row that meets fmt, with fmt's text TOLD by the authors' own Lean function (tested against real Go, not proved from fmt's source: count such statements apart). THE CARD IS WHAT COUNTS. Prove the row's statement (the work); the ties are given (YtncpoffbeipooabDoorTie.lean); close each card by the builder's one call (the guide's Derived/Test/ToyasCard.lean, 'card_holds'). Laid BY PROGRAM, IN A SANDBOX (cutbox-door.mjs). By AI agents, Wed Nov 11 2026. No macro, syntax, notation, axiom, sorry.
-/
import Derived.Test.YtncpoffbeipooabDoorRows
import GoSem.ClaimSeven
namespace Go.Proofs.YtncpoffbeipooabDoor
namespace Rows

/-- THE TIED CARD OF 'laws.FnHeads'. -/
def fnHeadsCard : Claim7 := { stood := { row := fnHeadsRow, standIns := [], harness := (true, "aa5bc8c190d1c0849a7e6b8eb58c3c3308441ea0f9d088cca28a7f0a0d356e95"), looks := true }, kinds := [], alts := [], laidByText := true, laidKinds := [.data, .pinned], laidTests := true, laidLooks := .later }
def FnHeadsCardSaid : Prop := Claim7.holds Tryd.pinned (.plain (OpenSpec.ofChange fnHeadsSpec)) fnHeadsCard

/-- THE TIED CARD OF 'laws.FnWordsTold'. -/
def fnWordsToldCard : Claim7 := { stood := { row := fnWordsToldRow, standIns := [], harness := (true, "aa5bc8c190d1c0849a7e6b8eb58c3c3308441ea0f9d088cca28a7f0a0d356e95"), looks := true }, kinds := [], alts := [], laidByText := true, laidKinds := [.data, .data, .data, .sentinel, .sentinel, .listed, .data], laidTests := true, laidLooks := .later }
def FnWordsToldCardSaid : Prop := Claim7.holds Tryd.pinned (.plain (OpenSpec.ofChange fnWordsToldSpec)) fnWordsToldCard

/-- THE TIED CARD OF 'laws.FnExactStepBring'. -/
def fnExactStepBringCard : Claim7 := { stood := { row := fnExactStepBringRow, standIns := [], harness := (true, "aa5bc8c190d1c0849a7e6b8eb58c3c3308441ea0f9d088cca28a7f0a0d356e95"), looks := true }, kinds := [], alts := [], laidByText := true, laidKinds := [.listed, .data], laidTests := true, laidLooks := .later }
def FnExactStepBringCardSaid : Prop := Claim7.holds Tryd.pinned (.plain (OpenSpec.ofChange fnExactStepBringSpec)) fnExactStepBringCard

/-- THE SECOND FORM's CARD OF 'laws.FnHeads'. -/
def fnHeadsUptoCard : Claim7 := { stood := { row := fnHeadsUptoRow, standIns := [], harness := (true, "aa5bc8c190d1c0849a7e6b8eb58c3c3308441ea0f9d088cca28a7f0a0d356e95"), looks := true }, kinds := [], alts := [], laidByText := true, laidKinds := [.data, .pinned], laidTests := true, laidLooks := .later }
def FnHeadsUptoCardSaid : Prop := Claim7.holds Tryd.pinned (.plain (OpenSpec.upto fnHeadsSpec)) fnHeadsUptoCard

/-- THE SECOND FORM's CARD OF 'laws.FnWordsTold'. -/
def fnWordsToldUptoCard : Claim7 := { stood := { row := fnWordsToldUptoRow, standIns := [], harness := (true, "aa5bc8c190d1c0849a7e6b8eb58c3c3308441ea0f9d088cca28a7f0a0d356e95"), looks := true }, kinds := [], alts := [], laidByText := true, laidKinds := [.data, .data, .data, .sentinel, .sentinel, .listed, .data], laidTests := true, laidLooks := .later }
def FnWordsToldUptoCardSaid : Prop := Claim7.holds Tryd.pinned (.plain (OpenSpec.upto fnWordsToldSpec)) fnWordsToldUptoCard

/-- THE SECOND FORM's CARD OF 'laws.FnExactStepBring'. -/
def fnExactStepBringUptoCard : Claim7 := { stood := { row := fnExactStepBringUptoRow, standIns := [], harness := (true, "aa5bc8c190d1c0849a7e6b8eb58c3c3308441ea0f9d088cca28a7f0a0d356e95"), looks := true }, kinds := [], alts := [], laidByText := true, laidKinds := [.listed, .data], laidTests := true, laidLooks := .later }
def FnExactStepBringUptoCardSaid : Prop := Claim7.holds Tryd.pinned (.plain (OpenSpec.upto fnExactStepBringSpec)) fnExactStepBringUptoCard
end Rows
end Go.Proofs.YtncpoffbeipooabDoor
