/- The goal of a walk is held as a letter, so that what several ways have in common is walked once. -/
import Derived.Test.YtdokcckgnamnfaaDoorWLast
import Derived.Test.YtdokcckgnamnfaaDoorWTab
import Derived.Tactics
namespace Go.Proofs.YtdokcckgnamnfaaDoorW.PrintLast
open Go.RowKit Go.Proofs.YtdokcckgnamnfaaDoorW.PrintWords
/-- The goal, held as a letter. -/
theorem stop_ {P : Prop} (h : ∀ G : Prop, Aside0 (P → G) → G) : P := h P ⟨id⟩
end Go.Proofs.YtdokcckgnamnfaaDoorW.PrintLast
