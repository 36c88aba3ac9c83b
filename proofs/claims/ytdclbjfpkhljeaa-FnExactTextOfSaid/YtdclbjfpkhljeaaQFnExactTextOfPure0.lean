-- Written by a program of this session (myprint) out of Lean's own print of the translation. Lean checks it.
import Derived.Test.YtdclbjfpkhljeaaQFnExactTextOfx1
import Derived.Test.YtdclbjfpkhljeaaOpens
namespace Go.Proofs.Ytdclbjfpkhljeaa.QFnExactTextOf
open Go.RowKit Go.Proofs.YtdclbjfpkhljeaaW.PrintWords Go.Proofs.YtdclbjfpkhljeaaW.PrintLast
open Go.Proofs.YtdclbjfpkhljeaaO
set_option linter.unusedVariables false
/-- The one pure statement. -/
def laws_FnExactTextOf.Pure : Prop := ∀ (l0 : List ByteArray), (l0.length ≤ 9223372036854775807 ∧ ∀ x ∈ l0, x.size ≤ 9223372036854775807) → ∃ k, laws_FnExactTextOf.f k l0 = some true
end Go.Proofs.Ytdclbjfpkhljeaa.QFnExactTextOf
