-- Written by a program of this session (myprint) out of Lean's own print of the translation. Lean checks it.
import Derived.Test.YteblgnkfdkoapaaQFnExactCallOkx5
import Derived.Test.YteblgnkfdkoapaaOpens
namespace Go.Proofs.Yteblgnkfdkoapaa.QFnExactCallOk
open Go.RowKit Go.Proofs.YteblgnkfdkoapaaW.PrintWords Go.Proofs.YteblgnkfdkoapaaW.PrintLast
open Go.Proofs.YteblgnkfdkoapaaO
set_option linter.unusedVariables false
def good33 (x : S33) : Prop := (Lit.int .i64 x.f0).wf = true ∧ x.f1.size ≤ 9223372036854775807 ∧ x.f2.size ≤ 9223372036854775807 ∧ x.f3.size ≤ 9223372036854775807 ∧ (Lit.int .i64 x.f4).wf = true ∧ (x.f5.length ≤ 9223372036854775807 ∧ ∀ y_ ∈ x.f5, (Lit.int .i64 y_).wf = true) ∧ (Lit.int .i64 x.f6).wf = true ∧ x.f7.size ≤ 9223372036854775807
theorem opens33 : Opens Try.prog 33 k33 good33 := opens_struct (P := Try.prog) Try.underlying33 (opens_cons (opens_int Try.underlying3) rfl (by kernel_rfl) (opens_cons (opens_string Try.underlying9) rfl (by kernel_rfl) (opens_cons (opens_string Try.underlying9) rfl (by kernel_rfl) (opens_cons (opens_string Try.underlying9) rfl (by kernel_rfl) (opens_cons (opens_int Try.underlying3) rfl (by kernel_rfl) (opens_cons (opens_slice Try.underlying31 (by kernel_rfl) (opens_int Try.underlying3)) rfl (by kernel_rfl) (opens_cons (opens_int Try.underlying3) rfl (by kernel_rfl) (opens_one (opens_string Try.underlying9) rfl (by kernel_rfl))))))))) (by kernel_rfl) (fun x : S33 => (x.f0, x.f1, x.f2, x.f3, x.f4, x.f5, x.f6, x.f7)) (fun z => (⟨z.1, z.2.1, z.2.2.1, z.2.2.2.1, z.2.2.2.2.1, z.2.2.2.2.2.1, z.2.2.2.2.2.2.1, z.2.2.2.2.2.2.2⟩ : S33)) (fun _ => rfl)
/-- The one pure statement. -/
def laws_FnExactCallOk.Pure : Prop := ∀ (x0 : S33), good33 x0 → ∃ k, laws_FnExactCallOk.f k x0.f0 x0.f1 x0.f2 x0.f3 x0.f4 x0.f5 x0.f6 x0.f7 = some true
end Go.Proofs.Yteblgnkfdkoapaa.QFnExactCallOk
