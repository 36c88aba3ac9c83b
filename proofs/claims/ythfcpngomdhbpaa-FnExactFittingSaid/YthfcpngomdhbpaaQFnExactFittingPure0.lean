-- Written by a program of this session (myprint) out of Lean's own print of the translation. Lean checks it.
import Derived.Test.YthfcpngomdhbpaaQFnExactFittingx10
import Derived.Test.YthfcpngomdhbpaaOpens
namespace Go.Proofs.Ythfcpngomdhbpaa.QFnExactFitting
open Go.RowKit Go.Proofs.YthfcpngomdhbpaaW.PrintWords Go.Proofs.YthfcpngomdhbpaaW.PrintLast
open Go.Proofs.YthfcpngomdhbpaaO
set_option linter.unusedVariables false
def good71 (x : S71) : Prop := (Lit.int .i64 x.f0).wf = true ∧ (Lit.int .i64 x.f1).wf = true ∧ x.f2.size ≤ 9223372036854775807
theorem opens71 : Opens Try.prog 71 k71 good71 := opens_struct (P := Try.prog) Try.underlying71 (opens_cons (opens_int Try.underlying3) rfl (by kernel_rfl) (opens_cons (opens_int Try.underlying3) rfl (by kernel_rfl) (opens_one (opens_string Try.underlying9) rfl (by kernel_rfl)))) (by kernel_rfl) (fun x : S71 => (x.f0, x.f1, x.f2)) (fun z => (⟨z.1, z.2.1, z.2.2⟩ : S71)) (fun _ => rfl)
def good54 (x : S54) : Prop := (Lit.int .i64 x.f0).wf = true ∧ x.f1.size ≤ 9223372036854775807 ∧ x.f2.size ≤ 9223372036854775807 ∧ (Lit.int .i64 x.f3).wf = true ∧ (x.f4.length ≤ 9223372036854775807 ∧ ∀ y_ ∈ x.f4, good71 y_)
theorem opens54 : Opens Try.prog 54 k54 good54 := opens_struct (P := Try.prog) Try.underlying54 (opens_cons (opens_int Try.underlying3) rfl (by kernel_rfl) (opens_cons (opens_string Try.underlying9) rfl (by kernel_rfl) (opens_cons (opens_string Try.underlying9) rfl (by kernel_rfl) (opens_cons (opens_int Try.underlying3) rfl (by kernel_rfl) (opens_one (opens_slice Try.underlying52 (by kernel_rfl) opens71) rfl (by kernel_rfl)))))) (by kernel_rfl) (fun x : S54 => (x.f0, x.f1, x.f2, x.f3, x.f4)) (fun z => (⟨z.1, z.2.1, z.2.2.1, z.2.2.2.1, z.2.2.2.2⟩ : S54)) (fun _ => rfl)
def good24 (x : S24) : Prop := (x.f0.length ≤ 9223372036854775807 ∧ ∀ y_ ∈ x.f0, good54 y_)
theorem opens24 : Opens Try.prog 24 k24 good24 := opens_struct (P := Try.prog) Try.underlying24 (opens_one (opens_slice Try.underlying22 (by kernel_rfl) opens54) rfl (by kernel_rfl)) (by kernel_rfl) (fun x : S24 => x.f0) (fun z => (⟨z⟩ : S24)) (fun _ => rfl)
def good26 (x : S26) : Prop := (Lit.int .i64 x.f0).wf = true ∧ (Lit.int .i64 x.f1).wf = true ∧ (Lit.int .i64 x.f2).wf = true ∧ (Lit.int .i64 x.f3).wf = true ∧ (Lit.int .i64 x.f4).wf = true ∧ x.f5.size ≤ 9223372036854775807 ∧ x.f6.size ≤ 9223372036854775807 ∧ x.f7.size ≤ 9223372036854775807
theorem opens26 : Opens Try.prog 26 k26 good26 := opens_struct (P := Try.prog) Try.underlying26 (opens_cons (opens_int Try.underlying3) rfl (by kernel_rfl) (opens_cons (opens_int Try.underlying3) rfl (by kernel_rfl) (opens_cons (opens_int Try.underlying3) rfl (by kernel_rfl) (opens_cons (opens_int Try.underlying3) rfl (by kernel_rfl) (opens_cons (opens_int Try.underlying3) rfl (by kernel_rfl) (opens_cons (opens_string Try.underlying9) rfl (by kernel_rfl) (opens_cons (opens_string Try.underlying9) rfl (by kernel_rfl) (opens_one (opens_string Try.underlying9) rfl (by kernel_rfl))))))))) (by kernel_rfl) (fun x : S26 => (x.f0, x.f1, x.f2, x.f3, x.f4, x.f5, x.f6, x.f7)) (fun z => (⟨z.1, z.2.1, z.2.2.1, z.2.2.2.1, z.2.2.2.2.1, z.2.2.2.2.2.1, z.2.2.2.2.2.2.1, z.2.2.2.2.2.2.2⟩ : S26)) (fun _ => rfl)
/-- The one pure statement. -/
def laws_FnExactFitting.Pure : Prop := ∀ (x0 : S24) (a1 : Int) (x2 : S26), good24 x0 → (Lit.int .i64 a1).wf = true → good26 x2 → ∃ k, laws_FnExactFitting.f k x0.f0 a1 x2.f0 x2.f1 x2.f2 x2.f3 x2.f4 x2.f5 x2.f6 x2.f7 = some true
end Go.Proofs.Ythfcpngomdhbpaa.QFnExactFitting
