/- The program's SafeText answers what the reference's answers. Conditions: none beyond the statement's own. -/
import Derived.Test.YtdclbjfpkhljeabQFnExactSafeTextPure0
import Derived.Test.YtdclbjfpkhljeabBase
namespace Go.Proofs.Ytdclbjfpkhljeab.Pure
open Go.RowKit Go.Proofs.Ytdclbjfpkhljeab.QFnExactSafeText Go.Proofs.YtdclbjfpkhljeabW.PrintWords Go.Proofs.YtdclbjfpkhljeabW.PrintLast Go.Proofs.YtdclbjfpkhljeabB Go.Proofs.YtdclbjfpkhljeabO
set_option linter.unusedVariables false
set_option linter.unusedSimpArgs false


def lastTen (s : ByteArray) : Bool := if s.toList = ([] : List UInt8) then true else (bt s ((s.size - 1 : Nat) : Int) == 10)
def safeText (s : ByteArray) : Bool := if 0 ≤ Lib.indexByte s.data.toList 13 then false else lastTen s

theorem size_pos (s : ByteArray) (h : ¬ s.toList = ([] : List UInt8)) : 1 ≤ s.size := by
  rw [list_data] at h
  rw [← size_data]
  cases e : s.data.toList with
  | nil => exact absurd e h
  | cons x l => simp
theorem indexByte_cons (c : UInt8) (l : List UInt8) (x : UInt8) : (0 ≤ Lib.indexByte (c :: l) x) ↔ (c = x ∨ 0 ≤ Lib.indexByte l x) := by
  have := Lib.indexByte_ge l x
  by_cases h : c = x
  · simp [Lib.indexByte, h]
  · simp only [Lib.indexByte, beq_iff_eq, h, if_false, false_or]
    by_cases h2 : Lib.indexByte l x = -1
    · simp [h2]
    · simp only [h2, if_false]; omega

theorem spec_SafeText_l0 (s : ByteArray) (hs : s.size ≤ 1048576) :
    ∀ (l : List UInt8) (i : Nat), s.data.toList.drop i = l → i ≤ s.size → Ev (fun k => spec_SafeText.l0 k s i) (if 0 ≤ Lib.indexByte l 13 then false else lastTen s)
  | [], i, h, hi => by
    have e := drop_end h (by rw [size_data]; exact hi)
    rw [size_data] at e
    rw [if_neg (by simp [Lib.indexByte])]
    refine Ev.step (fun k => by rw [spec_SafeText.l0, if_neg (by omega)]) ?_
    unfold lastTen
    by_cases h1 : s.toList = ([] : List UInt8)
    · simp only [if_pos h1]; exact Ev.now _
    · have h2 := size_pos s h1
      have e2 : wrap64 ((s.size : Int) - 1) = ((s.size - 1 : Nat) : Int) := wrap_nat _ _ (by omega) (by omega)
      simp only [if_neg h1, e2]
      refine ev_some (fun k => ?_)
      rw [if_pos (by omega), if_pos (by omega)]
  | c :: l, i, h, hi => by
    have hlt := drop_lt h
    rw [size_data] at hlt
    have hb := bt_cons h
    by_cases h1 : c = 13
    · rw [if_pos ((indexByte_cons c l 13).2 (.inl h1))]
      refine Ev.step (fun k => ?_) (Ev.now _)
      rw [spec_SafeText.l0, if_pos (by omega), if_pos (by omega), hb, if_pos (by subst h1; rfl)]
    · have ih := spec_SafeText_l0 s hs l (i + 1) (drop_tail h) (by omega)
      have e : (0 ≤ Lib.indexByte (c :: l) 13) ↔ 0 ≤ Lib.indexByte l 13 := by rw [indexByte_cons]; simp [h1]
      simp only [e]
      refine Ev.step (fun k => ?_) ih
      have h2 : ¬ ((c.toNat : Int) = 13) := fun h => h1 (UInt8.toNat_inj.mp (show c.toNat = 13 by omega))
      rw [spec_SafeText.l0, if_pos (by omega), if_pos (by omega), hb, if_neg h2, wrap_succ i (by omega)]

theorem impl_SafeText_eq (s : ByteArray) (hs : s.size ≤ 1048576) : impl_SafeText.f s = some (safeText s) := by
  unfold impl_SafeText.f strings_Contains.f safeText
  have h1 : (⟨#[13]⟩ : ByteArray).size = 1 := rfl
  rw [dif_pos h1]
  have e13 : ((⟨#[13]⟩ : ByteArray)[0]'(by omega)) = 13 := rfl
  rw [e13, Option.bind_some]
  by_cases h2 : 0 ≤ Lib.indexByte s.data.toList 13
  · rw [decide_eq_true h2, if_pos rfl, if_pos h2]
  · rw [decide_eq_false h2, if_neg (by decide), if_neg h2]
    unfold lastTen
    by_cases h3 : s.toList = ([] : List UInt8)
    · simp only [if_pos h3]
    · have h4 := size_pos s h3
      have e2 : wrap64 ((s.size : Int) - ((⟨#[10]⟩ : ByteArray).size : Int)) = ((s.size - 1 : Nat) : Int) := wrap_nat _ _ (by show (s.size : Int) - 1 = _; omega) (by omega)
      have g1 : (s.size : Int) ≥ ((⟨#[10]⟩ : ByteArray).size : Int) := by show (s.size : Int) ≥ 1; omega
      have g2 : 0 ≤ ((s.size - 1 : Nat) : Int) := by omega
      have g3 : ((s.size - 1 : Nat) : Int) ≤ (s.size : Int) := by omega
      simp only [if_neg h3, strings_HasSuffix.f, stringslite_HasSuffix.f, if_pos g1, e2, if_pos g2, if_pos g3]
      simp only [Option.bind_some, Int.toNat_natCast]
      have e3 : (s.extract (s.size - 1) s.size).toList = [s.data.toList[s.size - 1]'(by rw [size_data]; omega)] := by
        rw [list_data, extract_data, show s.size - (s.size - 1) = 1 by omega]
        rw [List.drop_eq_getElem_cons (by rw [size_data]; omega)]
        rfl
      have e4 : ((⟨#[10]⟩ : ByteArray).toList : List UInt8) = [10] := by rw [list_data]
      rw [e3, e4, bt_data s (s.size - 1) (by omega)]
      congr 1
      generalize s.data.toList[s.size - 1]'(by rw [size_data]; omega) = x
      by_cases h5 : x = 10
      · subst h5; rfl
      · have h6 : ¬ ((x.toNat : Int) = 10) := fun h => h5 (UInt8.toNat_inj.mp (show x.toNat = 10 by omega))
        have h7 : ([x] == ([10] : List UInt8)) = false := by simpa using h5
        have h8 : ((x.toNat : Int) == 10) = false := by simpa using h6
        rw [h7, h8]

theorem FnExactSafeText : laws_FnExactSafeText.Pure := by
  intro s hs
  refine Ev.rounds (g := fun k => laws_FnExactSafeText.f k s) ?_
  unfold laws_FnExactSafeText.f
  refine ev_ite (fun h => Ev.now _) (fun h => ?_)
  refine Ev.bind (Ev.congr (fun k => rfl) (spec_SafeText_l0 s (by omega) s.data.toList 0 rfl (by omega))) ?_
  refine ev_bind1 (impl_SafeText_eq s (by omega)) ?_
  have e : (safeText s != if 0 ≤ Lib.indexByte s.data.toList 13 then false else lastTen s) = false := by unfold safeText; simp
  simp only [e, if_neg (show ¬ (false = true) by decide)]
  exact Ev.now _

end Go.Proofs.Ytdclbjfpkhljeab.Pure
