/- The program's Traced answers what the reference's answers. Conditions: none beyond the statement's own. -/
import Derived.Test.YtdclbjfpkhljeaaQFnExactTracedPure0
import Derived.Test.YtdclbjfpkhljeaaBase
namespace Go.Proofs.Ytdclbjfpkhljeaa.Pure
open Go.RowKit Go.Proofs.Ytdclbjfpkhljeaa.QFnExactTraced Go.Proofs.YtdclbjfpkhljeaaW.PrintWords Go.Proofs.YtdclbjfpkhljeaaW.PrintLast Go.Proofs.YtdclbjfpkhljeaaB Go.Proofs.YtdclbjfpkhljeaaO
set_option linter.unusedVariables false
set_option linter.unusedSimpArgs false


theorem traced_same (a b c : ByteArray) : impl_Traced.f a b c = spec_Traced.f a b c := rfl

theorem FnExactTraced : laws_FnExactTraced.Pure := by
  intro a b c ha hb hc
  unfold laws_FnExactTraced.f
  by_cases h1 : (a.size : Int) > 1048576
  · rw [if_pos h1]
  · by_cases h2 : (b.size : Int) > 1048576
    · rw [if_neg h1, if_pos h2]
    · by_cases h3 : (c.size : Int) > 1048576
      · rw [if_neg h1, if_neg h2, if_pos h3]
      · rw [if_neg h1, if_neg h2, if_neg h3, traced_same]
        have e1 : (⟨#[102, 114, 111, 109, 58, 32]⟩ : ByteArray).size = 6 := rfl
        have e2 : (⟨#[10, 116, 111, 58, 32]⟩ : ByteArray).size = 5 := rfl
        have e3 : (⟨#[10]⟩ : ByteArray).size = 1 := rfl
        have h : ∃ r, spec_Traced.f a b c = some r := by
          unfold spec_Traced.f
          rw [if_pos (by omega), if_pos (by simp only [ByteArray.size_append, e1, e2, e3]; omega), if_pos (by simp only [ByteArray.size_append, e1, e2, e3]; omega),
            if_pos (by simp only [ByteArray.size_append, e1, e2, e3]; omega), if_pos (by simp only [ByteArray.size_append, e1, e2, e3]; omega)]
          exact ⟨_, rfl⟩
        obtain ⟨r, hr⟩ := h
        rw [hr]
        simp only [Option.bind_some, if_true]

end Go.Proofs.Ytdclbjfpkhljeaa.Pure
