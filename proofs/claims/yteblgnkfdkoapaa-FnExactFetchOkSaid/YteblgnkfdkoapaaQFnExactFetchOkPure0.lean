-- Written by a program of this session (myprint) out of Lean's own print of the translation. Lean checks it.
import Derived.Test.YteblgnkfdkoapaaQFnExactFetchOkx5
import Derived.Test.YteblgnkfdkoapaaOpens
namespace Go.Proofs.Yteblgnkfdkoapaa.QFnExactFetchOk
open Go.RowKit Go.Proofs.YteblgnkfdkoapaaW.PrintWords Go.Proofs.YteblgnkfdkoapaaW.PrintLast
open Go.Proofs.YteblgnkfdkoapaaO
set_option linter.unusedVariables false
def good109 (x : S109) : Prop := (Lit.int .i64 x.f0).wf = true ∧ (Lit.int .i64 x.f1).wf = true ∧ x.f2.size ≤ 9223372036854775807
theorem opens109 : Opens Try.prog 109 k109 good109 := opens_struct (P := Try.prog) Try.underlying109 (opens_cons (opens_int Try.underlying3) rfl (by kernel_rfl) (opens_cons (opens_int Try.underlying3) rfl (by kernel_rfl) (opens_one (opens_string Try.underlying9) rfl (by kernel_rfl)))) (by kernel_rfl) (fun x : S109 => (x.f0, x.f1, x.f2)) (fun z => (⟨z.1, z.2.1, z.2.2⟩ : S109)) (fun _ => rfl)
def good43 (x : S43) : Prop := (Lit.int .i64 x.f0).wf = true ∧ x.f1.size ≤ 9223372036854775807 ∧ (x.f2.length ≤ 9223372036854775807 ∧ ∀ y_ ∈ x.f2, good109 y_) ∧ (x.f3.length ≤ 9223372036854775807 ∧ ∀ y_ ∈ x.f3, True)
theorem opens43 : Opens Try.prog 43 k43 good43 := opens_struct (P := Try.prog) Try.underlying43 (opens_cons (opens_int Try.underlying3) rfl (by kernel_rfl) (opens_cons (opens_string Try.underlying9) rfl (by kernel_rfl) (opens_cons (opens_slice Try.underlying40 (by kernel_rfl) opens109) rfl (by kernel_rfl) (opens_one (opens_slice Try.underlying41 (by kernel_rfl) (opens_bool Try.underlying4)) rfl (by kernel_rfl))))) (by kernel_rfl) (fun x : S43 => (x.f0, x.f1, x.f2, x.f3)) (fun z => (⟨z.1, z.2.1, z.2.2.1, z.2.2.2⟩ : S43)) (fun _ => rfl)
/-- The one pure statement. -/
def laws_FnExactFetchOk.Pure : Prop := ∀ (x0 : S43), good43 x0 → ∃ k, laws_FnExactFetchOk.f k x0.f0 x0.f1 x0.f2 x0.f3 = some true
end Go.Proofs.Yteblgnkfdkoapaa.QFnExactFetchOk
