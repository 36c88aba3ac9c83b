-- Written by a program of this session (myprint) out of Lean's own print of the translation. Lean checks it.
import Derived.Test.YtdclbjfpkhljeaaQFnExactLowWordx1
import Derived.Test.YtdclbjfpkhljeaaOpens
namespace Go.Proofs.Ytdclbjfpkhljeaa.QFnExactLowWord
open Go.RowKit Go.Proofs.YtdclbjfpkhljeaaW.PrintWords Go.Proofs.YtdclbjfpkhljeaaW.PrintLast
open Go.Proofs.YtdclbjfpkhljeaaO
set_option linter.unusedVariables false
/-- The one pure statement. -/
def laws_FnExactLowWord.Pure : Prop := ∀ (a0 : ByteArray), a0.size ≤ 9223372036854775807 → laws_FnExactLowWord.f a0 = some true
end Go.Proofs.Ytdclbjfpkhljeaa.QFnExactLowWord
