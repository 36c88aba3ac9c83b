/- The program's FlagWords answers what the reference's answers. Conditions: none beyond the statement's own. -/
import Derived.Laws.BitsLemmas
import Derived.Test.YtdclbjfpkhljeabQFnExactFlagWordsPure0
import Derived.Test.YtdclbjfpkhljeabBase
namespace Go.Proofs.Ytdclbjfpkhljeab.Pure
open Go.RowKit Go.Proofs.Ytdclbjfpkhljeab.QFnExactFlagWords Go.Proofs.YtdclbjfpkhljeabW.PrintWords Go.Proofs.YtdclbjfpkhljeabW.PrintLast Go.Proofs.YtdclbjfpkhljeabB Go.Proofs.YtdclbjfpkhljeabO
set_option linter.unusedVariables false
set_option linter.unusedSimpArgs false


theorem andz (n : Nat) (h : n < 9223372036854775808) (i : Nat) (hi : i < 3) : Go.bits .and .i64 (n : Int) ((2 ^ i : Nat) : Int) = 0 ↔ n / 2 ^ i % 2 = 0 := by
  have hk : ∀ n : Int, 0 ≤ n → n < 2 ^ 63 → IntKind.i64.wrap n = n := fun n h0 h1 => by rw [IntKind.wrap_i64]; omega
  have h2 : (2 ^ i : Nat) < 2 ^ 63 := Nat.pow_lt_pow_right (by decide) (by omega)
  rw [(bits_nat .i64 63 (by decide) hk n (2 ^ i) (by omega) h2).1]
  have ht : n.testBit i = decide (n / 2 ^ i % 2 = 1) := Nat.testBit_eq_decide_div_mod_eq
  constructor
  · intro h0
    have h1 : (n &&& 2 ^ i).testBit i = false := by rw [show n &&& 2 ^ i = 0 by omega]; simp
    rw [Nat.testBit_and, Nat.testBit_two_pow_self, Bool.and_true, ht] at h1
    have := of_decide_eq_false h1
    omega
  · intro h0
    have : n &&& 2 ^ i = 0 := by
      apply Nat.eq_of_testBit_eq
      intro j
      rw [Nat.testBit_and, Nat.testBit_two_pow]
      by_cases c : i = j
      · subst c; rw [ht]; simp [h0]
      · simp [c]
    omega
theorem wr (x : Int) (h0 : -9223372036854775808 ≤ x) (h1 : x ≤ 9223372036854775807) : wrap64 x = x := wrap_id h0 h1
theorem td (m n : Nat) : Int.tdiv (m : Int) (n : Int) = ((m / n : Nat) : Int) := rfl
theorem tm (m : Nat) : Int.tmod (m : Int) 2 = ((m % 2 : Nat) : Int) := rfl
theorem spz (a : Int) (n i : Nat) (e : a.natAbs = n) (hn : n ≤ 9223372036854775808) (hw : -9223372036854775808 ≤ a) (hw2 : a < 9223372036854775808) : Int.tmod (wrap64 (Int.tdiv a ((2 ^ i : Nat) : Int))) 2 = 0 ↔ n / 2 ^ i % 2 = 0 := by
  have hd : n / 2 ^ i ≤ n := Nat.div_le_self _ _
  have hd1 : Int.tdiv (n : Int) ((2 ^ i : Nat) : Int) = ((n / 2 ^ i : Nat) : Int) := td _ _
  generalize n / 2 ^ i = m at hd hd1
  rcases Int.natAbs_eq a with h | h
  · have ha : a = (n : Int) := by rw [e] at h; exact h
    subst ha
    rw [hd1, wr _ (by omega) (by omega), tm]
    omega
  · have ha : a = -(n : Int) := by rw [e] at h; exact h
    subst ha
    rw [Int.neg_tdiv, hd1, wr _ (by omega) (by omega), Int.neg_tmod, tm]
    omega
def out (p q r : Bool) : ByteArray := ⟨(([40] : List UInt8) ++ Lib.join ((if p then [[115, 101, 101, 110]] else []) ++ (if q then [[102, 108, 97, 103, 103, 101, 100]] else []) ++ (if r then [[100, 101, 108, 101, 116, 101, 100]] else [])) [32] ++ [41]).toArray⟩
def str (p q r : Bool) : ByteArray := ⟨(Lib.join ((if p then [[115, 101, 101, 110]] else []) ++ (if q then [[102, 108, 97, 103, 103, 101, 100]] else []) ++ (if r then [[100, 101, 108, 101, 116, 101, 100]] else [])) [32]).toArray⟩
def ws : List ByteArray := [(⟨#[115, 101, 101, 110]⟩ : ByteArray), (⟨#[102, 108, 97, 103, 103, 101, 100]⟩ : ByteArray), (⟨#[100, 101, 108, 101, 116, 101, 100]⟩ : ByteArray)]
theorem join_eq (l : List ByteArray) (h : (Lib.join (l.map (·.data.toList)) [32]).length ≤ 140737488355328 ∧ l.length ≤ 140737488355328) : strings_Join.f l (⟨#[32]⟩ : ByteArray) = some ⟨(Lib.join (l.map (·.data.toList)) [32]).toArray⟩ := by
  unfold strings_Join.f
  exact if_pos h
theorem step_no (k : Nat) (a : Int) (s : ByteArray) (b c : Int) (h : c < 3) (hb : b ≠ 0) (h0 : Int.tmod (wrap64 (Int.tdiv a b)) 2 = 0) :
    spec_FlagWords.l0 (k + 1) a ws s b c = spec_FlagWords.l0 k a ws s (wrap64 (2 * b)) (wrap64 (c + 1)) := by
  rw [spec_FlagWords.l0, if_pos (show c < (ws.length : Int) from h), if_neg hb, if_pos h0]
theorem step_yes0 (k : Nat) (a : Int) (s : ByteArray) (b c : Int) (h : c < 3) (hc : 0 ≤ c) (hb : b ≠ 0) (h0 : ¬ Int.tmod (wrap64 (Int.tdiv a b)) 2 = 0) (hs : s.toList = []) (hz : s.size + (rdOf ByteArray.empty ws c).size ≤ 9223372036854775807) :
    spec_FlagWords.l0 (k + 1) a ws s b c = spec_FlagWords.l0 k a ws (s ++ rdOf ByteArray.empty ws c) (wrap64 (2 * b)) (wrap64 (c + 1)) := by
  rw [spec_FlagWords.l0, if_pos (show c < (ws.length : Int) from h), if_neg hb, if_neg h0, if_pos hs, if_pos hc, if_pos hz]
theorem step_yes1 (k : Nat) (a : Int) (s : ByteArray) (b c : Int) (h : c < 3) (hc : 0 ≤ c) (hb : b ≠ 0) (h0 : ¬ Int.tmod (wrap64 (Int.tdiv a b)) 2 = 0) (hs : ¬ s.toList = []) (h1 : s.size + 1 ≤ 9223372036854775807) (hz : (s ++ (⟨#[32]⟩ : ByteArray)).size + (rdOf ByteArray.empty ws c).size ≤ 9223372036854775807) :
    spec_FlagWords.l0 (k + 1) a ws s b c = spec_FlagWords.l0 k a ws ((s ++ (⟨#[32]⟩ : ByteArray)) ++ rdOf ByteArray.empty ws c) (wrap64 (2 * b)) (wrap64 (c + 1)) := by
  rw [spec_FlagWords.l0, if_pos (show c < (ws.length : Int) from h), if_neg hb, if_neg h0, if_neg hs, if_pos h1, if_pos hc, if_pos hz]
theorem stop (k : Nat) (a : Int) (s : ByteArray) (b : Int) (h : s.size ≤ 100) : spec_FlagWords.l0 (k + 1) a ws s b 3 = some (((⟨#[40]⟩ : ByteArray) ++ s) ++ (⟨#[41]⟩ : ByteArray)) := by
  have e : ((⟨#[40]⟩ : ByteArray) ++ s).size = 1 + s.size := ByteArray.size_append
  rw [spec_FlagWords.l0, if_neg (show ¬ (3 : Int) < (ws.length : Int) by decide), if_pos (by omega), if_pos (by omega)]
theorem nl (s : ByteArray) (h : s.size ≠ 0) : ¬ s.toList = [] := by
  intro e
  rw [list_data] at e
  have := size_data s
  rw [e] at this
  exact h this.symm
theorem spec_ev (k : Nat) (a : Int) (p q r : Bool) (h0 : (Int.tmod (wrap64 (Int.tdiv a 1)) 2 = 0) ↔ p = false) (h1 : (Int.tmod (wrap64 (Int.tdiv a 2)) 2 = 0) ↔ q = false) (h2 : (Int.tmod (wrap64 (Int.tdiv a 4)) 2 = 0) ↔ r = false) :
    spec_FlagWords.f (k + 4) a = some (out p q r) := by
  have e1 : wrap64 (2 * 1) = 2 := by unfold wrap64; decide
  have e2 : wrap64 (2 * 2) = 4 := by unfold wrap64; decide
  have e4 : wrap64 (2 * 4) = 8 := by unfold wrap64; decide
  have i0 : wrap64 (0 + 1) = 1 := by unfold wrap64; decide
  have i1 : wrap64 (1 + 1) = 2 := by unfold wrap64; decide
  have i2 : wrap64 (2 + 1) = 3 := by unfold wrap64; decide
  have nil : (⟨#[]⟩ : ByteArray).toList = [] := by rw [list_data]
  show spec_FlagWords.l0 (k + 4) a ws (⟨#[]⟩ : ByteArray) 1 0 = _
  cases p <;> cases q <;> cases r <;> simp only [Bool.true_eq_false, iff_true, iff_false] at h0 h1 h2
  · rw [step_no _ _ _ _ _ (by decide) (by decide) h0, e1, i0, step_no _ _ _ _ _ (by decide) (by decide) h1, e2, i1, step_no _ _ _ _ _ (by decide) (by decide) h2, e4, i2, stop _ _ _ _ (by decide)]; rfl
  · rw [step_no _ _ _ _ _ (by decide) (by decide) h0, e1, i0, step_no _ _ _ _ _ (by decide) (by decide) h1, e2, i1, step_yes0 _ _ _ _ _ (by decide) (by decide) (by decide) h2 nil (by decide), e4, i2, stop _ _ _ _ (by decide)]; rfl
  · rw [step_no _ _ _ _ _ (by decide) (by decide) h0, e1, i0, step_yes0 _ _ _ _ _ (by decide) (by decide) (by decide) h1 nil (by decide), e2, i1, step_no _ _ _ _ _ (by decide) (by decide) h2, e4, i2, stop _ _ _ _ (by decide)]; rfl
  · rw [step_no _ _ _ _ _ (by decide) (by decide) h0, e1, i0, step_yes0 _ _ _ _ _ (by decide) (by decide) (by decide) h1 nil (by decide), e2, i1, step_yes1 _ _ _ _ _ (by decide) (by decide) (by decide) h2 (nl _ (by decide)) (by decide) (by decide), e4, i2, stop _ _ _ _ (by decide)]; rfl
  · rw [step_yes0 _ _ _ _ _ (by decide) (by decide) (by decide) h0 nil (by decide), e1, i0, step_no _ _ _ _ _ (by decide) (by decide) h1, e2, i1, step_no _ _ _ _ _ (by decide) (by decide) h2, e4, i2, stop _ _ _ _ (by decide)]; rfl
  · rw [step_yes0 _ _ _ _ _ (by decide) (by decide) (by decide) h0 nil (by decide), e1, i0, step_no _ _ _ _ _ (by decide) (by decide) h1, e2, i1, step_yes1 _ _ _ _ _ (by decide) (by decide) (by decide) h2 (nl _ (by decide)) (by decide) (by decide), e4, i2, stop _ _ _ _ (by decide)]; rfl
  · rw [step_yes0 _ _ _ _ _ (by decide) (by decide) (by decide) h0 nil (by decide), e1, i0, step_yes1 _ _ _ _ _ (by decide) (by decide) (by decide) h1 (nl _ (by decide)) (by decide) (by decide), e2, i1, step_no _ _ _ _ _ (by decide) (by decide) h2, e4, i2, stop _ _ _ _ (by decide)]; rfl
  · rw [step_yes0 _ _ _ _ _ (by decide) (by decide) (by decide) h0 nil (by decide), e1, i0, step_yes1 _ _ _ _ _ (by decide) (by decide) (by decide) h1 (nl _ (by decide)) (by decide) (by decide), e2, i1, step_yes1 _ _ _ _ _ (by decide) (by decide) (by decide) h2 (nl _ (by decide)) (by decide) (by decide), e4, i2, stop _ _ _ _ (by decide)]; rfl
theorem impl_ev (k : Nat) (n : Int) (p q r : Bool) (h0 : Go.bits .and .i64 n 1 = 0 ↔ p = false) (h1 : Go.bits .and .i64 n 2 = 0 ↔ q = false) (h2 : Go.bits .and .i64 n 4 = 0 ↔ r = false) :
    impl_FlagWords.j0 (k + 2) n [] = some (out p q r) := by
  rw [impl_FlagWords.j0]
  cases p <;> cases q <;> cases r <;> simp only [Bool.true_eq_false, iff_true, iff_false] at h0 h1 h2
  · rw [if_pos h0, impl_FlagWords.j1, if_pos h1, if_pos h2, join_eq _ (by decide)]; rfl
  · rw [if_pos h0, impl_FlagWords.j1, if_pos h1, if_neg h2, if_pos (by decide), join_eq _ (by decide)]; rfl
  · rw [if_pos h0, impl_FlagWords.j1, if_neg h1, if_pos (by decide), Option.bind_some, if_pos h2, join_eq _ (by decide)]; rfl
  · rw [if_pos h0, impl_FlagWords.j1, if_neg h1, if_pos (by decide), Option.bind_some, if_neg h2, if_pos (by decide), join_eq _ (by decide)]; rfl
  · rw [if_neg h0, if_pos (by decide), impl_FlagWords.j1, if_pos h1, if_pos h2, join_eq _ (by decide)]; rfl
  · rw [if_neg h0, if_pos (by decide), impl_FlagWords.j1, if_pos h1, if_neg h2, if_pos (by decide), join_eq _ (by decide)]; rfl
  · rw [if_neg h0, if_pos (by decide), impl_FlagWords.j1, if_neg h1, if_pos (by decide), Option.bind_some, if_pos h2, join_eq _ (by decide)]; rfl
  · rw [if_neg h0, if_pos (by decide), impl_FlagWords.j1, if_neg h1, if_pos (by decide), Option.bind_some, if_neg h2, if_pos (by decide), join_eq _ (by decide)]; rfl
theorem bb (n m : Nat) : n / m % 2 = 0 ↔ decide (n / m % 2 = 1) = false := by
  rw [decide_eq_false_iff_not]; omega
theorem mnw : wrap64 ((9223372036854775808 : Nat) : Int) = -9223372036854775808 := by unfold wrap64; decide
theorem mn (m : Nat) (p : Bool) (h : p = false) (x : Int) (e : Go.bits .and .i64 (-9223372036854775808) x = 0) : Go.bits .and .i64 (-9223372036854775808) x = 0 ↔ p = false := ⟨fun _ => h, fun _ => e⟩
theorem mn1 : Go.bits .and .i64 (-9223372036854775808) 1 = 0 := by rfl
theorem mn2 : Go.bits .and .i64 (-9223372036854775808) 2 = 0 := by rfl
theorem mn4 : Go.bits .and .i64 (-9223372036854775808) 4 = 0 := by rfl
theorem mp1 : decide (9223372036854775808 / 1 % 2 = 1) = false := by rfl
theorem mp2 : decide (9223372036854775808 / 2 % 2 = 1) = false := by rfl
theorem mp4 : decide (9223372036854775808 / 4 % 2 = 1) = false := by rfl
theorem impl_all (a : Int) (n : Nat) (e : a.natAbs = n) (hn : n ≤ 9223372036854775808) (hw2 : a < 9223372036854775808) :
    impl_FlagWords.f 4 a = some (out (decide (n / 1 % 2 = 1)) (decide (n / 2 % 2 = 1)) (decide (n / 4 % 2 = 1))) := by
  unfold impl_FlagWords.f
  rw [Option.bind_some]
  have ha : a = -(n : Int) ∧ a < 0 ∨ a = (n : Int) := by omega
  rcases ha with ⟨ha, hl⟩ | ha
  · have h2 : -a = (n : Int) := by omega
    rw [if_pos hl, h2]
    by_cases hm : n = 9223372036854775808
    · clear ha hl e hn hw2 h2
      subst hm
      rw [mnw]
      exact impl_ev 2 _ _ _ _ (mn 0 _ mp1 _ mn1) (mn 0 _ mp2 _ mn2) (mn 0 _ mp4 _ mn4)
    · have hl2 : n < 9223372036854775808 := by omega
      have h3 : wrap64 (n : Int) = (n : Int) := wr n (by omega) (by omega)
      rw [h3]
      exact impl_ev 2 n _ _ _ ((andz n hl2 0 (by decide)).trans (bb n 1)) ((andz n hl2 1 (by decide)).trans (bb n 2)) ((andz n hl2 2 (by decide)).trans (bb n 4))
  · have hl : ¬ a < 0 := by omega
    have hl2 : n < 9223372036854775808 := by omega
    rw [if_neg hl, ha]
    exact impl_ev 2 n _ _ _ ((andz n hl2 0 (by decide)).trans (bb n 1)) ((andz n hl2 1 (by decide)).trans (bb n 2)) ((andz n hl2 2 (by decide)).trans (bb n 4))
theorem FnExactFlagWords : laws_FnExactFlagWords.Pure := by
  intro a hw
  have hw' : -9223372036854775808 ≤ a ∧ a < 9223372036854775808 := by
    simp only [Lit.wf, Bool.and_eq_true, decide_eq_true_eq] at hw
    have h1 : Go.IntKind.i64.min = -9223372036854775808 := by decide
    have h2 : Go.IntKind.i64.max = 9223372036854775807 := by decide
    omega
  obtain ⟨n, e⟩ : ∃ n, a.natAbs = n := ⟨_, rfl⟩
  have hn : n ≤ 9223372036854775808 := by omega
  have hi := impl_all a n e hn hw'.2
  refine ⟨4, ?_⟩
  unfold laws_FnExactFlagWords.f
  rw [spec_ev 0 a _ _ _ ((spz a n 0 e hn hw'.1 hw'.2).trans (bb n 1)) ((spz a n 1 e hn hw'.1 hw'.2).trans (bb n 2)) ((spz a n 2 e hn hw'.1 hw'.2).trans (bb n 4)), Option.bind_some, hi, Option.bind_some, if_pos rfl]

end Go.Proofs.Ytdclbjfpkhljeab.Pure
