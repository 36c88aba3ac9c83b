-- Written by a program of this session (myprint) out of Lean's own print of the translation. Lean checks it.
import Derived.Test.YtdclbjfpkhljeaaQFnExactTracedx1
import Derived.Test.YtdclbjfpkhljeaaOpens
namespace Go.Proofs.Ytdclbjfpkhljeaa.QFnExactTraced
open Go.RowKit Go.Proofs.YtdclbjfpkhljeaaW.PrintWords Go.Proofs.YtdclbjfpkhljeaaW.PrintLast
open Go.Proofs.YtdclbjfpkhljeaaO
set_option linter.unusedVariables false
/-- The one pure statement. -/
def laws_FnExactTraced.Pure : Prop := ∀ (a0 : ByteArray) (a1 : ByteArray) (a2 : ByteArray), a0.size ≤ 9223372036854775807 → a1.size ≤ 9223372036854775807 → a2.size ≤ 9223372036854775807 → laws_FnExactTraced.f a0 a1 a2 = some true
end Go.Proofs.Ytdclbjfpkhljeaa.QFnExactTraced
