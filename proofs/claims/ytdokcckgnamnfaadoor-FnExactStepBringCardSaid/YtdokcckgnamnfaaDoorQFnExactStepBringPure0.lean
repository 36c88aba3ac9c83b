import Derived.Test.YtdokcckgnamnfaaDoorQFnExactStepBringx15
import Derived.Test.YtdokcckgnamnfaaDoorOpens
namespace Go.Proofs.YtdokcckgnamnfaaDoor.QFnExactStepBring
open Go.RowKit Go.Proofs.YtdokcckgnamnfaaDoorW.PrintWords Go.Proofs.YtdokcckgnamnfaaDoorW.PrintLast
open Go.Proofs.YtdokcckgnamnfaaDoorO
set_option linter.unusedVariables false
def good24 (x : S24) : Prop := (Lit.int .i64 x.f0).wf = true ∧ x.f1.size ≤ 9223372036854775807 ∧ (x.f2.length ≤ 9223372036854775807 ∧ ∀ y_ ∈ x.f2, y_.size ≤ 9223372036854775807) ∧ (x.f3.length ≤ 9223372036854775807 ∧ ∀ y_ ∈ x.f3, y_.size ≤ 9223372036854775807)
theorem opens24 : Opens Tryd.prog 24 k24 good24 := opens_struct (P := Tryd.prog) Tryd.underlying24 (opens_cons (opens_int Tryd.underlying3) rfl (by kernel_rfl) (opens_cons (opens_string Tryd.underlying9) rfl (by kernel_rfl) (opens_cons (opens_slice Tryd.underlying22 (by kernel_rfl) (opens_string Tryd.underlying9)) rfl (by kernel_rfl) (opens_one (opens_slice Tryd.underlying22 (by kernel_rfl) (opens_string Tryd.underlying9)) rfl (by kernel_rfl))))) (by kernel_rfl) (fun x : S24 => (x.f0, x.f1, x.f2, x.f3)) (fun z => (⟨z.1, z.2.1, z.2.2.1, z.2.2.2⟩ : S24)) (fun _ => rfl)
def good103 (x : S103) : Prop := (Lit.int .i64 x.f0).wf = true ∧ (Lit.int .i64 x.f1).wf = true ∧ x.f2.size ≤ 9223372036854775807
theorem opens103 : Opens Tryd.prog 103 k103 good103 := opens_struct (P := Tryd.prog) Tryd.underlying103 (opens_cons (opens_int Tryd.underlying3) rfl (by kernel_rfl) (opens_cons (opens_int Tryd.underlying3) rfl (by kernel_rfl) (opens_one (opens_string Tryd.underlying9) rfl (by kernel_rfl)))) (by kernel_rfl) (fun x : S103 => (x.f0, x.f1, x.f2)) (fun z => (⟨z.1, z.2.1, z.2.2⟩ : S103)) (fun _ => rfl)
def good73 (x : S73) : Prop := (Lit.int .i64 x.f0).wf = true ∧ x.f1.size ≤ 9223372036854775807 ∧ x.f2.size ≤ 9223372036854775807 ∧ (Lit.int .i64 x.f3).wf = true ∧ (x.f4.length ≤ 9223372036854775807 ∧ ∀ y_ ∈ x.f4, good103 y_)
theorem opens73 : Opens Tryd.prog 73 k73 good73 := opens_struct (P := Tryd.prog) Tryd.underlying73 (opens_cons (opens_int Tryd.underlying3) rfl (by kernel_rfl) (opens_cons (opens_string Tryd.underlying9) rfl (by kernel_rfl) (opens_cons (opens_string Tryd.underlying9) rfl (by kernel_rfl) (opens_cons (opens_int Tryd.underlying3) rfl (by kernel_rfl) (opens_one (opens_slice Tryd.underlying71 (by kernel_rfl) opens103) rfl (by kernel_rfl)))))) (by kernel_rfl) (fun x : S73 => (x.f0, x.f1, x.f2, x.f3, x.f4)) (fun z => (⟨z.1, z.2.1, z.2.2.1, z.2.2.2.1, z.2.2.2.2⟩ : S73)) (fun _ => rfl)
def good27 (x : S27) : Prop := (x.f0.length ≤ 9223372036854775807 ∧ ∀ y_ ∈ x.f0, good73 y_)
theorem opens27 : Opens Tryd.prog 27 k27 good27 := opens_struct (P := Tryd.prog) Tryd.underlying27 (opens_one (opens_slice Tryd.underlying25 (by kernel_rfl) opens73) rfl (by kernel_rfl)) (by kernel_rfl) (fun x : S27 => x.f0) (fun z => (⟨z⟩ : S27)) (fun _ => rfl)
def laws_FnExactStepBring.Pure : Prop := ∀ (x0 : S24) (x1 : S27) (a2 : ByteArray), good24 x0 → good27 x1 → a2.size ≤ 9223372036854775807 → ∃ k, laws_FnExactStepBring.f k x0.f0 x0.f1 x0.f2 x0.f3 x1.f0 a2 = some true
end Go.Proofs.YtdokcckgnamnfaaDoor.QFnExactStepBring
