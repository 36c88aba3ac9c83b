/- The program's LowWord answers what the reference's answers. Conditions: none beyond the statement's own. -/
import Derived.Test.YtdclbjfpkhljeaaQFnExactLowWordPure0
import Derived.Test.YtdclbjfpkhljeaaBase
namespace Go.Proofs.Ytdclbjfpkhljeaa.Pure
open Go.RowKit Go.Proofs.Ytdclbjfpkhljeaa.QFnExactLowWord Go.Proofs.YtdclbjfpkhljeaaW.PrintWords Go.Proofs.YtdclbjfpkhljeaaW.PrintLast Go.Proofs.YtdclbjfpkhljeaaB Go.Proofs.YtdclbjfpkhljeaaO
set_option linter.unusedVariables false
set_option linter.unusedSimpArgs false


theorem FnExactLowWord : laws_FnExactLowWord.Pure := by
  intro s _
  unfold laws_FnExactLowWord.f
  by_cases h : (s.size : Int) > 1048576
  · rw [if_pos h]
  · rw [if_neg h]
    have hs : spec_LowWord.f s = some (Go.Proofs.YtdclbjfpkhljeaaL.lowered s) := if_pos (by omega)
    have hi : impl_LowWord.f s = some (Go.Proofs.YtdclbjfpkhljeaaL.lowered s) := if_pos (by omega)
    rw [hs, Option.bind_some, hi, Option.bind_some, if_pos rfl]

end Go.Proofs.Ytdclbjfpkhljeaa.Pure
