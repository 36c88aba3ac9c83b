-- Written by a program of this session (myprint) out of Lean's own print of the translation. Lean checks it.
import Derived.Test.YtgfhgibienfceaaQFnExactBoxOfx4
import Derived.Test.YtgfhgibienfceaaOpens
namespace Go.Proofs.Ytgfhgibienfceaa.QFnExactBoxOf
open Go.RowKit Go.Proofs.YtgfhgibienfceaaW.PrintWords Go.Proofs.YtgfhgibienfceaaW.PrintLast
open Go.Proofs.YtgfhgibienfceaaO
set_option linter.unusedVariables false
def good139 (x : S139) : Prop := (Lit.int .i64 x.f0).wf = true ∧ (Lit.int .i64 x.f1).wf = true ∧ x.f2.size ≤ 9223372036854775807
theorem opens139 : Opens Try.prog 139 k139 good139 := opens_struct (P := Try.prog) Try.underlying139 (opens_cons (opens_int Try.underlying3) rfl (by kernel_rfl) (opens_cons (opens_int Try.underlying3) rfl (by kernel_rfl) (opens_one (opens_string Try.underlying9) rfl (by kernel_rfl)))) (by kernel_rfl) (fun x : S139 => (x.f0, x.f1, x.f2)) (fun z => (⟨z.1, z.2.1, z.2.2⟩ : S139)) (fun _ => rfl)
def good107 (x : S107) : Prop := (Lit.int .i64 x.f0).wf = true ∧ x.f1.size ≤ 9223372036854775807 ∧ x.f2.size ≤ 9223372036854775807 ∧ (Lit.int .i64 x.f3).wf = true ∧ (x.f4.length ≤ 9223372036854775807 ∧ ∀ y_ ∈ x.f4, good139 y_)
theorem opens107 : Opens Try.prog 107 k107 good107 := opens_struct (P := Try.prog) Try.underlying107 (opens_cons (opens_int Try.underlying3) rfl (by kernel_rfl) (opens_cons (opens_string Try.underlying9) rfl (by kernel_rfl) (opens_cons (opens_string Try.underlying9) rfl (by kernel_rfl) (opens_cons (opens_int Try.underlying3) rfl (by kernel_rfl) (opens_one (opens_slice Try.underlying78 (by kernel_rfl) opens139) rfl (by kernel_rfl)))))) (by kernel_rfl) (fun x : S107 => (x.f0, x.f1, x.f2, x.f3, x.f4)) (fun z => (⟨z.1, z.2.1, z.2.2.1, z.2.2.2.1, z.2.2.2.2⟩ : S107)) (fun _ => rfl)
def good24 (x : S24) : Prop := (x.f0.length ≤ 9223372036854775807 ∧ ∀ y_ ∈ x.f0, good107 y_)
theorem opens24 : Opens Try.prog 24 k24 good24 := opens_struct (P := Try.prog) Try.underlying24 (opens_one (opens_slice Try.underlying22 (by kernel_rfl) opens107) rfl (by kernel_rfl)) (by kernel_rfl) (fun x : S24 => x.f0) (fun z => (⟨z⟩ : S24)) (fun _ => rfl)
/-- The one pure statement. -/
def laws_FnExactBoxOf.Pure : Prop := ∀ (x0 : S24) (a1 : ByteArray) (a2 : ByteArray), good24 x0 → a1.size ≤ 9223372036854775807 → a2.size ≤ 9223372036854775807 → ∃ k, laws_FnExactBoxOf.f k x0.f0 a1 a2 = some true
end Go.Proofs.Ytgfhgibienfceaa.QFnExactBoxOf
