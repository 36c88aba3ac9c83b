-- Written by a program of this session (myprint) out of Lean's own print of the translation. Lean checks it.
import Derived.Test.YteblgnkfdkoapaaQFnExactBringOkx5
import Derived.Test.YteblgnkfdkoapaaOpens
namespace Go.Proofs.Yteblgnkfdkoapaa.QFnExactBringOk
open Go.RowKit Go.Proofs.YteblgnkfdkoapaaW.PrintWords Go.Proofs.YteblgnkfdkoapaaW.PrintLast
open Go.Proofs.YteblgnkfdkoapaaO
set_option linter.unusedVariables false
def good24 (x : S24) : Prop := (Lit.int .i64 x.f0).wf = true ∧ x.f1.size ≤ 9223372036854775807 ∧ (x.f2.length ≤ 9223372036854775807 ∧ ∀ y_ ∈ x.f2, y_.size ≤ 9223372036854775807) ∧ (x.f3.length ≤ 9223372036854775807 ∧ ∀ y_ ∈ x.f3, y_.size ≤ 9223372036854775807)
theorem opens24 : Opens Try.prog 24 k24 good24 := opens_struct (P := Try.prog) Try.underlying24 (opens_cons (opens_int Try.underlying3) rfl (by kernel_rfl) (opens_cons (opens_string Try.underlying9) rfl (by kernel_rfl) (opens_cons (opens_slice Try.underlying22 (by kernel_rfl) (opens_string Try.underlying9)) rfl (by kernel_rfl) (opens_one (opens_slice Try.underlying22 (by kernel_rfl) (opens_string Try.underlying9)) rfl (by kernel_rfl))))) (by kernel_rfl) (fun x : S24 => (x.f0, x.f1, x.f2, x.f3)) (fun z => (⟨z.1, z.2.1, z.2.2.1, z.2.2.2⟩ : S24)) (fun _ => rfl)
/-- The one pure statement. -/
def laws_FnExactBringOk.Pure : Prop := ∀ (x0 : S24), good24 x0 → ∃ k, laws_FnExactBringOk.f k x0.f0 x0.f1 x0.f2 x0.f3 = some true
end Go.Proofs.Yteblgnkfdkoapaa.QFnExactBringOk
