-- Written by a program of this session (myprint) out of Lean's own print of the translation. Lean checks it.
import Derived.Test.YtenedfmmjfgbaaaDoorQFnHeadsx13
import Derived.Test.YtenedfmmjfgbaaaDoorOpens
namespace Go.Proofs.YtenedfmmjfgbaaaDoor.QFnHeads
open Go.RowKit Go.Proofs.YtenedfmmjfgbaaaDoorW.PrintWords Go.Proofs.YtenedfmmjfgbaaaDoorW.PrintLast
open Go.Proofs.YtenedfmmjfgbaaaDoorO
set_option linter.unusedVariables false
/-- The one pure statement. -/
def laws_FnHeads.Pure : Prop := ∀ (l0 : List Int), (l0.length ≤ 9223372036854775807 ∧ ∀ y_ ∈ l0, (Lit.int .u8 y_).wf = true) → ∃ k, laws_FnHeads.f k l0 = some true
end Go.Proofs.YtenedfmmjfgbaaaDoor.QFnHeads
