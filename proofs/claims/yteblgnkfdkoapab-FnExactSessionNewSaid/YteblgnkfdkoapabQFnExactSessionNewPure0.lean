-- Written by a program of this session (myprint) out of Lean's own print of the translation. Lean checks it.
import Derived.Test.YteblgnkfdkoapabQFnExactSessionNewx5
import Derived.Test.YteblgnkfdkoapabOpens
namespace Go.Proofs.Yteblgnkfdkoapab.QFnExactSessionNew
open Go.RowKit Go.Proofs.YteblgnkfdkoapabW.PrintWords Go.Proofs.YteblgnkfdkoapabW.PrintLast
open Go.Proofs.YteblgnkfdkoapabO
set_option linter.unusedVariables false
/-- The one pure statement. -/
def laws_FnExactSessionNew.Pure : Prop := ∀ (a0 : Int), (Lit.int .i64 a0).wf = true → ∃ k, laws_FnExactSessionNew.f k a0 = some true
end Go.Proofs.Yteblgnkfdkoapab.QFnExactSessionNew
