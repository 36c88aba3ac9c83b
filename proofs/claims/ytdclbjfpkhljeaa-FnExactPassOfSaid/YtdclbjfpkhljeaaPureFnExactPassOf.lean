/- The program's PassOf answers what the reference's answers. Conditions: none beyond the statement's own. -/
import Derived.Test.YtdclbjfpkhljeaaPFnExactPassOfx1
namespace Go.Proofs.Ytdclbjfpkhljeaa.Pure
open Go.RowKit Go.Proofs.Ytdclbjfpkhljeaa.PFnExactPassOf Go.Proofs.YtdclbjfpkhljeaaW.PrintWords Go.Proofs.YtdclbjfpkhljeaaW.PrintLast

theorem FnExactPassOf : laws_FnExactPassOf.Pure := by
  intro s hs
  have h1 : s.size + 1 ≤ 9223372036854775807 := by omega
  unfold laws_FnExactPassOf.f spec_PassOf.f impl_PassOf.f
  rw [if_pos h1]
  simp only [Option.bind_some, if_true, ite_self]

end Go.Proofs.Ytdclbjfpkhljeaa.Pure
