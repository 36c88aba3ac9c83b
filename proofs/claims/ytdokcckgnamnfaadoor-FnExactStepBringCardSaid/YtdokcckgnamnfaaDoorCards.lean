/-
  DERIVED. GIVEN WITH THE SEED: THE CARDS: each row of YtdokcckgnamnfaaDoorRows.lean that lists a variable, with what it lists TIED to the program's text (the seventh form; the later family's looks); each row that meets fmt, with fmt's text TOLD by the authors' own Lean function (tested against real Go, not proved from fmt's source: count such statements apart). THE CARD IS WHAT COUNTS. Prove the row's statement (the work); the ties are given (YtdokcckgnamnfaaDoorTie.lean); close each card by the builder's one call (the guide's Derived/Test/ToyasCard.lean, 'card_holds'). Laid BY PROGRAM, IN A SANDBOX (cutbox-door.mjs). By AI agents, Wed Nov 11 2026. No macro, syntax, notation, axiom, sorry.
-/
import Derived.Test.YtdokcckgnamnfaaDoorRows
import GoSem.ClaimSeven
namespace Go.Proofs.YtdokcckgnamnfaaDoor
namespace Rows

/-- THE TIED CARD OF 'laws.FnExactStepBring'. -/
def fnExactStepBringCard : Claim7 := { stood := { row := fnExactStepBringRow, standIns := [], harness := (true, "714d1a9eb15a2c08bd688602be2debca940d39f657923ab2a5d10b416b726a3b"), looks := false }, kinds := [], alts := [], laidByText := true, laidKinds := [.listed, .data], laidTests := true, laidLooks := .later }
def FnExactStepBringCardSaid : Prop := Claim7.holds Tryd.pinned (.plain (OpenSpec.ofChange fnExactStepBringSpec)) fnExactStepBringCard

/-- THE SECOND FORM's CARD OF 'laws.FnExactStepBring'. -/
def fnExactStepBringUptoCard : Claim7 := { stood := { row := fnExactStepBringUptoRow, standIns := [], harness := (true, "714d1a9eb15a2c08bd688602be2debca940d39f657923ab2a5d10b416b726a3b"), looks := false }, kinds := [], alts := [], laidByText := true, laidKinds := [.listed, .data], laidTests := true, laidLooks := .later }
def FnExactStepBringUptoCardSaid : Prop := Claim7.holds Tryd.pinned (.plain (OpenSpec.upto fnExactStepBringSpec)) fnExactStepBringUptoCard
end Rows
end Go.Proofs.YtdokcckgnamnfaaDoor
