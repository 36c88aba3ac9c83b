-- Written by a program of this session (myprint) out of Lean's own print of the translation. Lean checks it.
import Derived.Test.YtdclbjfpkhljeabQFnExactTakeLinex1
import Derived.Test.YtdclbjfpkhljeabOpens
namespace Go.Proofs.Ytdclbjfpkhljeab.QFnExactTakeLine
open Go.RowKit Go.Proofs.YtdclbjfpkhljeabW.PrintWords Go.Proofs.YtdclbjfpkhljeabW.PrintLast
open Go.Proofs.YtdclbjfpkhljeabO
set_option linter.unusedVariables false
/-- The one pure statement. -/
def laws_FnExactTakeLine.Pure : Prop := ∀ (a0 : ByteArray), a0.size ≤ 9223372036854775807 → ∃ k, laws_FnExactTakeLine.f k a0 = some true
end Go.Proofs.Ytdclbjfpkhljeab.QFnExactTakeLine
