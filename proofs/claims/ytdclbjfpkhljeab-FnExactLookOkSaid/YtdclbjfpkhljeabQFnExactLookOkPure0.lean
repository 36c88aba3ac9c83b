-- Written by a program of this session (myprint) out of Lean's own print of the translation. Lean checks it.
import Derived.Test.YtdclbjfpkhljeabQFnExactLookOkx4
import Derived.Test.YtdclbjfpkhljeabOpens
namespace Go.Proofs.Ytdclbjfpkhljeab.QFnExactLookOk
open Go.RowKit Go.Proofs.YtdclbjfpkhljeabW.PrintWords Go.Proofs.YtdclbjfpkhljeabW.PrintLast
open Go.Proofs.YtdclbjfpkhljeabO
set_option linter.unusedVariables false
def good26 (x : S26) : Prop := (Lit.int .i64 x.f0).wf = true ∧ x.f1.size ≤ 9223372036854775807 ∧ x.f2.size ≤ 9223372036854775807 ∧ (Lit.int .i64 x.f3).wf = true ∧ (x.f4.length ≤ 9223372036854775807 ∧ ∀ y_ ∈ x.f4, (Lit.int .i64 y_).wf = true)
theorem opens26 : Opens Try.prog 26 k26 good26 := opens_struct (P := Try.prog) Try.underlying26 (opens_cons (opens_int Try.underlying3) rfl (by kernel_rfl) (opens_cons (opens_string Try.underlying9) rfl (by kernel_rfl) (opens_cons (opens_string Try.underlying9) rfl (by kernel_rfl) (opens_cons (opens_int Try.underlying3) rfl (by kernel_rfl) (opens_one (opens_slice Try.underlying24 (by kernel_rfl) (opens_int Try.underlying3)) rfl (by kernel_rfl)))))) (by kernel_rfl) (fun x : S26 => (x.f0, x.f1, x.f2, x.f3, x.f4)) (fun z => (⟨z.1, z.2.1, z.2.2.1, z.2.2.2.1, z.2.2.2.2⟩ : S26)) (fun _ => rfl)
/-- The one pure statement. -/
def laws_FnExactLookOk.Pure : Prop := ∀ (x0 : S26), good26 x0 → ∃ k, laws_FnExactLookOk.f k x0.f0 x0.f1 x0.f2 x0.f3 x0.f4 = some true
end Go.Proofs.Ytdclbjfpkhljeab.QFnExactLookOk
