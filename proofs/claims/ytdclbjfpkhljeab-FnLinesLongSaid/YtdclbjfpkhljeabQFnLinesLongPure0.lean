-- Written by a program of this session (myprint) out of Lean's own print of the translation. Lean checks it.
import Derived.Test.YtdclbjfpkhljeabQFnLinesLongx2
import Derived.Test.YtdclbjfpkhljeabOpens
namespace Go.Proofs.Ytdclbjfpkhljeab.QFnLinesLong
open Go.RowKit Go.Proofs.YtdclbjfpkhljeabW.PrintWords Go.Proofs.YtdclbjfpkhljeabW.PrintLast
open Go.Proofs.YtdclbjfpkhljeabO
set_option linter.unusedVariables false
/-- The one pure statement. -/
def laws_FnLinesLong.Pure : Prop := ∀ (l0 : List Int), (l0.length ≤ 9223372036854775807 ∧ ∀ y_ ∈ l0, (Lit.int .u8 y_).wf = true) → ∃ k, laws_FnLinesLong.f k l0 = some true
end Go.Proofs.Ytdclbjfpkhljeab.QFnLinesLong
