-- Written by a program of this session (myprint) out of Lean's own print of the translation. Lean checks it.
import Derived.Test.YteblgnkfdkoapaaQFnExactSameStatex6
import Derived.Test.YteblgnkfdkoapaaOpens
namespace Go.Proofs.Yteblgnkfdkoapaa.QFnExactSameState
open Go.RowKit Go.Proofs.YteblgnkfdkoapaaW.PrintWords Go.Proofs.YteblgnkfdkoapaaW.PrintLast
open Go.Proofs.YteblgnkfdkoapaaO
set_option linter.unusedVariables false
def good109 (x : S109) : Prop := (Lit.int .i64 x.f0).wf = true ∧ (Lit.int .i64 x.f1).wf = true ∧ x.f2.size ≤ 9223372036854775807
theorem opens109 : Opens Try.prog 109 k109 good109 := opens_struct (P := Try.prog) Try.underlying109 (opens_cons (opens_int Try.underlying3) rfl (by kernel_rfl) (opens_cons (opens_int Try.underlying3) rfl (by kernel_rfl) (opens_one (opens_string Try.underlying9) rfl (by kernel_rfl)))) (by kernel_rfl) (fun x : S109 => (x.f0, x.f1, x.f2)) (fun z => (⟨z.1, z.2.1, z.2.2⟩ : S109)) (fun _ => rfl)
def good117 (x : S117) : Prop := (Lit.int .i64 x.f0).wf = true ∧ x.f1.size ≤ 9223372036854775807 ∧ x.f2.size ≤ 9223372036854775807 ∧ (Lit.int .i64 x.f3).wf = true ∧ (x.f4.length ≤ 9223372036854775807 ∧ ∀ y_ ∈ x.f4, good109 y_)
theorem opens117 : Opens Try.prog 117 k117 good117 := opens_struct (P := Try.prog) Try.underlying117 (opens_cons (opens_int Try.underlying3) rfl (by kernel_rfl) (opens_cons (opens_string Try.underlying9) rfl (by kernel_rfl) (opens_cons (opens_string Try.underlying9) rfl (by kernel_rfl) (opens_cons (opens_int Try.underlying3) rfl (by kernel_rfl) (opens_one (opens_slice Try.underlying40 (by kernel_rfl) opens109) rfl (by kernel_rfl)))))) (by kernel_rfl) (fun x : S117 => (x.f0, x.f1, x.f2, x.f3, x.f4)) (fun z => (⟨z.1, z.2.1, z.2.2.1, z.2.2.2.1, z.2.2.2.2⟩ : S117)) (fun _ => rfl)
def good61 (x : S61) : Prop := (x.f0.length ≤ 9223372036854775807 ∧ ∀ y_ ∈ x.f0, good117 y_)
theorem opens61 : Opens Try.prog 61 k61 good61 := opens_struct (P := Try.prog) Try.underlying61 (opens_one (opens_slice Try.underlying59 (by kernel_rfl) opens117) rfl (by kernel_rfl)) (by kernel_rfl) (fun x : S61 => x.f0) (fun z => (⟨z⟩ : S61)) (fun _ => rfl)
/-- The one pure statement. -/
def laws_FnExactSameState.Pure : Prop := ∀ (x0 : S61) (x1 : S61), good61 x0 → good61 x1 → ∃ k, laws_FnExactSameState.f k x0.f0 x1.f0 = some true
end Go.Proofs.Yteblgnkfdkoapaa.QFnExactSameState
