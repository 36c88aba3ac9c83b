-- Written by a program of this session (myprint) out of Lean's own print of the translation. Lean checks it.
import Derived.Test.YteblgnkfdkoapaaQFnLinesx3
import Derived.Test.YteblgnkfdkoapaaOpens
namespace Go.Proofs.Yteblgnkfdkoapaa.QFnLines
open Go.RowKit Go.Proofs.YteblgnkfdkoapaaW.PrintWords Go.Proofs.YteblgnkfdkoapaaW.PrintLast
open Go.Proofs.YteblgnkfdkoapaaO
set_option linter.unusedVariables false
/-- The one pure statement. -/
def laws_FnLines.Pure : Prop := ∀ (l0 : List Int), (l0.length ≤ 9223372036854775807 ∧ ∀ y_ ∈ l0, (Lit.int .u8 y_).wf = true) → ∃ k, laws_FnLines.f k l0 = some true
end Go.Proofs.Yteblgnkfdkoapaa.QFnLines
