/- The program's ReadFlagWord answers what the reference's answers. Conditions: none beyond the statement's own. -/
import Derived.Test.YtdclbjfpkhljeaaPFnExactReadFlagWordx1
namespace Go.Proofs.Ytdclbjfpkhljeaa.Pure
open Go.RowKit Go.Proofs.Ytdclbjfpkhljeaa.PFnExactReadFlagWord Go.Proofs.YtdclbjfpkhljeaaW.PrintWords Go.Proofs.YtdclbjfpkhljeaaW.PrintLast

theorem flag_same (a : ByteArray) : impl_ReadFlagWord.f a = spec_ReadFlagWord.f a := rfl

theorem flag_some (a : ByteArray) : ∃ r, spec_ReadFlagWord.f a = some r := by
  unfold spec_ReadFlagWord.f
  (repeat' split) <;> exact ⟨_, rfl⟩

theorem FnExactReadFlagWord : laws_FnExactReadFlagWord.Pure := by
  intro a ha
  obtain ⟨r, hr⟩ := flag_some a
  unfold laws_FnExactReadFlagWord.f
  rw [flag_same, hr]
  simp only [Option.bind_some, if_true, ite_self]

end Go.Proofs.Ytdclbjfpkhljeaa.Pure
