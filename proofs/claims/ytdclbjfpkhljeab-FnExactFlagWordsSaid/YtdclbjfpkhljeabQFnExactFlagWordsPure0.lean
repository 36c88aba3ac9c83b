-- Written by a program of this session (myprint) out of Lean's own print of the translation. Lean checks it.
import Derived.Test.YtdclbjfpkhljeabQFnExactFlagWordsx1
import Derived.Test.YtdclbjfpkhljeabOpens
namespace Go.Proofs.Ytdclbjfpkhljeab.QFnExactFlagWords
open Go.RowKit Go.Proofs.YtdclbjfpkhljeabW.PrintWords Go.Proofs.YtdclbjfpkhljeabW.PrintLast
open Go.Proofs.YtdclbjfpkhljeabO
set_option linter.unusedVariables false
/-- The one pure statement. -/
def laws_FnExactFlagWords.Pure : Prop := ∀ (a0 : Int), (Lit.int .i64 a0).wf = true → ∃ k, laws_FnExactFlagWords.f k a0 = some true
end Go.Proofs.Ytdclbjfpkhljeab.QFnExactFlagWords
