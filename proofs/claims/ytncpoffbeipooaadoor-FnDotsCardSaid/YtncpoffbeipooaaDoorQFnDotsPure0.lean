-- Written by a program of this session (myprint) out of Lean's own print of the translation. Lean checks it.
import Derived.Test.YtncpoffbeipooaaDoorQFnDotsx4
import Derived.Test.YtncpoffbeipooaaDoorOpens
namespace Go.Proofs.YtncpoffbeipooaaDoor.QFnDots
open Go.RowKit Go.Proofs.YtncpoffbeipooaaDoorW.PrintWords Go.Proofs.YtncpoffbeipooaaDoorW.PrintLast
open Go.Proofs.YtncpoffbeipooaaDoorO
set_option linter.unusedVariables false
/-- The one pure statement. -/
def laws_FnDots.Pure : Prop := ∀ (l0 : List Int), (l0.length ≤ 9223372036854775807 ∧ ∀ y_ ∈ l0, (Lit.int .u8 y_).wf = true) → ∃ k, laws_FnDots.f k l0 = some true
end Go.Proofs.YtncpoffbeipooaaDoor.QFnDots
