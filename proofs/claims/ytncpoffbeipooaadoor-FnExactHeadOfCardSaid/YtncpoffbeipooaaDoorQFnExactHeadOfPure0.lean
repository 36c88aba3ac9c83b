-- Written by a program of this session (myprint) out of Lean's own print of the translation. Lean checks it.
import Derived.Test.YtncpoffbeipooaaDoorQFnExactHeadOfx1
import Derived.Test.YtncpoffbeipooaaDoorOpens
namespace Go.Proofs.YtncpoffbeipooaaDoor.QFnExactHeadOf
open Go.RowKit Go.Proofs.YtncpoffbeipooaaDoorW.PrintWords Go.Proofs.YtncpoffbeipooaaDoorW.PrintLast
open Go.Proofs.YtncpoffbeipooaaDoorO
set_option linter.unusedVariables false
/-- The one pure statement. -/
def laws_FnExactHeadOf.Pure : Prop := ∀ (a0 : ByteArray) (a1 : ByteArray), a0.size ≤ 9223372036854775807 → a1.size ≤ 9223372036854775807 → ∃ k, laws_FnExactHeadOf.f k a0 a1 = some true
end Go.Proofs.YtncpoffbeipooaaDoor.QFnExactHeadOf
