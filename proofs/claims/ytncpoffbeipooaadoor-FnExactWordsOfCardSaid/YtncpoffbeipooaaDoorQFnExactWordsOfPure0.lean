-- Written by a program of this session (myprint) out of Lean's own print of the translation. Lean checks it.
import Derived.Test.YtncpoffbeipooaaDoorQFnExactWordsOfx2
import Derived.Test.YtncpoffbeipooaaDoorOpens
namespace Go.Proofs.YtncpoffbeipooaaDoor.QFnExactWordsOf
open Go.RowKit Go.Proofs.YtncpoffbeipooaaDoorW.PrintWords Go.Proofs.YtncpoffbeipooaaDoorW.PrintLast
open Go.Proofs.YtncpoffbeipooaaDoorO
set_option linter.unusedVariables false
/-- The one pure statement. -/
def laws_FnExactWordsOf.Pure : Prop := ∀ (a0 : ByteArray), a0.size ≤ 9223372036854775807 → ∃ k, laws_FnExactWordsOf.f k a0 = some true
end Go.Proofs.YtncpoffbeipooaaDoor.QFnExactWordsOf
