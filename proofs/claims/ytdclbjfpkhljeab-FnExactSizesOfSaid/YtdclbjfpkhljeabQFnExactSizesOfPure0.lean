-- Written by a program of this session (myprint) out of Lean's own print of the translation. Lean checks it.
import Derived.Test.YtdclbjfpkhljeabQFnExactSizesOfx2
import Derived.Test.YtdclbjfpkhljeabOpens
namespace Go.Proofs.Ytdclbjfpkhljeab.QFnExactSizesOf
open Go.RowKit Go.Proofs.YtdclbjfpkhljeabW.PrintWords Go.Proofs.YtdclbjfpkhljeabW.PrintLast
open Go.Proofs.YtdclbjfpkhljeabO
set_option linter.unusedVariables false
def good77 (x : S77) : Prop := (Lit.int .i64 x.f0).wf = true ∧ (Lit.int .i64 x.f1).wf = true ∧ x.f2.size ≤ 9223372036854775807
theorem opens77 : Opens Try.prog 77 k77 good77 := opens_struct (P := Try.prog) Try.underlying77 (opens_cons (opens_int Try.underlying3) rfl (by kernel_rfl) (opens_cons (opens_int Try.underlying3) rfl (by kernel_rfl) (opens_one (opens_string Try.underlying9) rfl (by kernel_rfl)))) (by kernel_rfl) (fun x : S77 => (x.f0, x.f1, x.f2)) (fun z => (⟨z.1, z.2.1, z.2.2⟩ : S77)) (fun _ => rfl)
def good35 (x : S35) : Prop := (Lit.int .i64 x.f0).wf = true ∧ x.f1.size ≤ 9223372036854775807 ∧ x.f2.size ≤ 9223372036854775807 ∧ (Lit.int .i64 x.f3).wf = true ∧ (x.f4.length ≤ 9223372036854775807 ∧ ∀ y_ ∈ x.f4, good77 y_)
theorem opens35 : Opens Try.prog 35 k35 good35 := opens_struct (P := Try.prog) Try.underlying35 (opens_cons (opens_int Try.underlying3) rfl (by kernel_rfl) (opens_cons (opens_string Try.underlying9) rfl (by kernel_rfl) (opens_cons (opens_string Try.underlying9) rfl (by kernel_rfl) (opens_cons (opens_int Try.underlying3) rfl (by kernel_rfl) (opens_one (opens_slice Try.underlying33 (by kernel_rfl) opens77) rfl (by kernel_rfl)))))) (by kernel_rfl) (fun x : S35 => (x.f0, x.f1, x.f2, x.f3, x.f4)) (fun z => (⟨z.1, z.2.1, z.2.2.1, z.2.2.2.1, z.2.2.2.2⟩ : S35)) (fun _ => rfl)
/-- The one pure statement. -/
def laws_FnExactSizesOf.Pure : Prop := ∀ (x0 : S35), good35 x0 → ∃ k, laws_FnExactSizesOf.f k x0.f0 x0.f1 x0.f2 x0.f3 x0.f4 = some true
end Go.Proofs.Ytdclbjfpkhljeab.QFnExactSizesOf
