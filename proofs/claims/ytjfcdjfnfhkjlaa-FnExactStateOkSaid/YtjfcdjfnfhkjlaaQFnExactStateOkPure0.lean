-- Written by a program of this session (myprint) out of Lean's own print of the translation. Lean checks it.
import Derived.Test.YtjfcdjfnfhkjlaaQFnExactStateOkx6
import Derived.Test.YtjfcdjfnfhkjlaaOpens
namespace Go.Proofs.Ytjfcdjfnfhkjlaa.QFnExactStateOk
open Go.RowKit Go.Proofs.YtjfcdjfnfhkjlaaW.PrintWords Go.Proofs.YtjfcdjfnfhkjlaaW.PrintLast
open Go.Proofs.YtjfcdjfnfhkjlaaO
set_option linter.unusedVariables false
def good56 (x : S56) : Prop := (Lit.int .i64 x.f0).wf = true ∧ (Lit.int .i64 x.f1).wf = true ∧ x.f2.size ≤ 9223372036854775807
theorem opens56 : Opens Try.prog 56 k56 good56 := opens_struct (P := Try.prog) Try.underlying56 (opens_cons (opens_int Try.underlying3) rfl (by kernel_rfl) (opens_cons (opens_int Try.underlying3) rfl (by kernel_rfl) (opens_one (opens_string Try.underlying9) rfl (by kernel_rfl)))) (by kernel_rfl) (fun x : S56 => (x.f0, x.f1, x.f2)) (fun z => (⟨z.1, z.2.1, z.2.2⟩ : S56)) (fun _ => rfl)
def good48 (x : S48) : Prop := (Lit.int .i64 x.f0).wf = true ∧ x.f1.size ≤ 9223372036854775807 ∧ x.f2.size ≤ 9223372036854775807 ∧ (Lit.int .i64 x.f3).wf = true ∧ (x.f4.length ≤ 9223372036854775807 ∧ ∀ y_ ∈ x.f4, good56 y_)
theorem opens48 : Opens Try.prog 48 k48 good48 := opens_struct (P := Try.prog) Try.underlying48 (opens_cons (opens_int Try.underlying3) rfl (by kernel_rfl) (opens_cons (opens_string Try.underlying9) rfl (by kernel_rfl) (opens_cons (opens_string Try.underlying9) rfl (by kernel_rfl) (opens_cons (opens_int Try.underlying3) rfl (by kernel_rfl) (opens_one (opens_slice Try.underlying46 (by kernel_rfl) opens56) rfl (by kernel_rfl)))))) (by kernel_rfl) (fun x : S48 => (x.f0, x.f1, x.f2, x.f3, x.f4)) (fun z => (⟨z.1, z.2.1, z.2.2.1, z.2.2.2.1, z.2.2.2.2⟩ : S48)) (fun _ => rfl)
def good24 (x : S24) : Prop := (x.f0.length ≤ 9223372036854775807 ∧ ∀ y_ ∈ x.f0, good48 y_)
theorem opens24 : Opens Try.prog 24 k24 good24 := opens_struct (P := Try.prog) Try.underlying24 (opens_one (opens_slice Try.underlying22 (by kernel_rfl) opens48) rfl (by kernel_rfl)) (by kernel_rfl) (fun x : S24 => x.f0) (fun z => (⟨z⟩ : S24)) (fun _ => rfl)
/-- The one pure statement. -/
def laws_FnExactStateOk.Pure : Prop := ∀ (x0 : S24), good24 x0 → ∃ k, laws_FnExactStateOk.f k x0.f0 = some true
end Go.Proofs.Ytjfcdjfnfhkjlaa.QFnExactStateOk
