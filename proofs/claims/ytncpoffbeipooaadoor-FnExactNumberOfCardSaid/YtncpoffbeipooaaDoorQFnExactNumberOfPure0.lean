-- Written by a program of this session (myprint) out of Lean's own print of the translation. Lean checks it.
import Derived.Test.YtncpoffbeipooaaDoorQFnExactNumberOfx1
import Derived.Test.YtncpoffbeipooaaDoorOpens
namespace Go.Proofs.YtncpoffbeipooaaDoor.QFnExactNumberOf
open Go.RowKit Go.Proofs.YtncpoffbeipooaaDoorW.PrintWords Go.Proofs.YtncpoffbeipooaaDoorW.PrintLast
open Go.Proofs.YtncpoffbeipooaaDoorO
set_option linter.unusedVariables false
/-- The one pure statement. -/
def laws_FnExactNumberOf.Pure : Prop := ∀ (a0 : ByteArray), a0.size ≤ 9223372036854775807 → ∃ k, laws_FnExactNumberOf.f k a0 = some true
end Go.Proofs.YtncpoffbeipooaaDoor.QFnExactNumberOf
