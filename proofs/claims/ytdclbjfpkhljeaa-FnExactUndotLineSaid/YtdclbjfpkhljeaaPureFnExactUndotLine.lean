/- The program's UndotLine answers what the reference's answers. Conditions: none beyond the statement's own. -/
import Derived.Test.YtdclbjfpkhljeaaPFnExactUndotLinex1
namespace Go.Proofs.Ytdclbjfpkhljeaa.Pure
open Go.RowKit Go.Proofs.Ytdclbjfpkhljeaa.PFnExactUndotLine Go.Proofs.YtdclbjfpkhljeaaW.PrintWords Go.Proofs.YtdclbjfpkhljeaaW.PrintLast

theorem list_data (s : ByteArray) : s.toList = s.data.toList := ByteArray.toList_eq s

theorem first_of (s : ByteArray) (h : 1 ≤ s.size) : ∃ (x : UInt8) (l : List UInt8), s.data.toList = x :: l ∧ bt s 0 = (x.toNat : Int) := by
  have h' : 0 < s.data.toList.length := by rw [Array.length_toList]; exact h
  cases e : s.data.toList with
  | nil => rw [e] at h'; simp at h'
  | cons x l =>
    refine ⟨x, l, rfl, ?_⟩
    have h0 : (0 : Int).toNat < s.size := h
    rw [← bt_at s 0 h0]
    have g : s[(0 : Int).toNat] = s.data.toList[0] := rfl
    rw [g]; simp only [e]; rfl

theorem head_one (s : ByteArray) : (s.extract 0 1).toList = s.data.toList.take 1 := by
  rw [list_data]; simp

theorem FnExactUndotLine : laws_FnExactUndotLine.Pure := by
  intro s hs
  have hI : impl_UndotLine.f s = spec_UndotLine.f s ∧ ∃ r, spec_UndotLine.f s = some r := by
    unfold impl_UndotLine.f spec_UndotLine.f
    by_cases h1 : s.toList = ([46] : List UInt8)
    · simp only [if_pos h1]; exact ⟨trivial, _, rfl⟩
    · simp only [if_neg h1]
      unfold strings_TrimPrefix.f stringslite_TrimPrefix.f stringslite_HasPrefix.f
      have e1 : ((⟨#[46]⟩ : ByteArray).size : Int) = 1 := rfl
      rw [e1]
      by_cases h2 : (s.size : Int) ≥ 1
      · obtain ⟨x, l, hx, hb⟩ := first_of s (by omega)
        have p0 : 0 < (s.size : Int) := by omega
        have e2 : (s.extract 0 (1 : Int).toNat).toList = [x] := by
          have := head_one s
          rw [hx] at this; simpa using this
        have e3 : ((⟨#[46]⟩ : ByteArray).toList : List UInt8) = [46] := by rw [list_data]
        rw [e2, e3, hb]
        by_cases hx1 : x = 46
        · subst hx1
          have hl : l ≠ [] := fun hl => h1 (by rw [list_data, hx, hl])
          have h3 : (s.size : Int) > 1 := by
            have : s.data.toList.length = s.size := Array.length_toList
            rw [hx] at this
            cases l with
            | nil => exact absurd rfl hl
            | cons y m => simp at this; omega
          simp only [if_pos h2, if_pos p0, if_pos h3, if_pos (show (0 : Int) ≤ 1 by decide), Option.bind_some, beq_self_eq_true, if_true]
          exact ⟨rfl, _, rfl⟩
        · have hx2 : ¬ ((x.toNat : Int) = 46) := fun h => hx1 (UInt8.toNat_inj.mp (show x.toNat = 46 by omega))
          have hx3 : ([x] == ([46] : List UInt8)) = false := by simpa using hx1
          by_cases h3 : (s.size : Int) > 1
          · simp only [if_pos h2, if_pos p0, if_pos h3, if_neg hx2, hx3, if_pos (show (0 : Int) ≤ 1 by decide), Option.bind_some]
            exact ⟨rfl, _, rfl⟩
          · simp only [if_pos h2, if_neg h3, hx3, if_pos (show (0 : Int) ≤ 1 by decide), Option.bind_some]
            exact ⟨rfl, _, rfl⟩
      · have h3 : ¬ (s.size : Int) > 1 := by omega
        simp [h2, h3]
  obtain ⟨hI, r, hr⟩ := hI
  unfold laws_FnExactUndotLine.f
  rw [hI, hr]
  obtain ⟨a, b⟩ := r
  simp only [Option.bind_some, if_true]
  cases b <;> simp

end Go.Proofs.Ytdclbjfpkhljeaa.Pure
