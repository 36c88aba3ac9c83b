-- Written by a program of this session (myprint) out of Lean's own print of the translation. Lean checks it.
import Derived.Test.YtncpoffbeipooabDoorQFnWordsToldx3
import Derived.Test.YtncpoffbeipooabDoorOpens
namespace Go.Proofs.YtncpoffbeipooabDoor.QFnWordsTold
open Go.RowKit Go.Proofs.YtncpoffbeipooabDoorW.PrintWords Go.Proofs.YtncpoffbeipooabDoorW.PrintLast
open Go.Proofs.YtncpoffbeipooabDoorO
set_option linter.unusedVariables false
/-- The one pure statement. -/
def laws_FnWordsTold.Pure : Prop := ∀ (l0 : List Int), (l0.length ≤ 9223372036854775807 ∧ ∀ y_ ∈ l0, (Lit.int .u8 y_).wf = true) → ∃ k, laws_FnWordsTold.f k l0 = some true
end Go.Proofs.YtncpoffbeipooabDoor.QFnWordsTold
