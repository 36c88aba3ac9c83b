/- The program's TakeLine answers what the reference's answers. Conditions: none beyond the statement's own. -/
import Derived.Test.YtdclbjfpkhljeabQFnExactTakeLinePure0
import Derived.Test.YtdclbjfpkhljeabBase
namespace Go.Proofs.Ytdclbjfpkhljeab.Pure
open Go.RowKit Go.Proofs.Ytdclbjfpkhljeab.QFnExactTakeLine Go.Proofs.YtdclbjfpkhljeabW.PrintWords Go.Proofs.YtdclbjfpkhljeabW.PrintLast Go.Proofs.YtdclbjfpkhljeabB Go.Proofs.YtdclbjfpkhljeabO
set_option linter.unusedVariables false
set_option linter.unusedSimpArgs false

theorem impl_in_eq (a b c : Int) : impl_in.f a b c = some (decide (b ≤ a ∧ a ≤ c)) := by
  unfold impl_in.f
  by_cases h : a ≥ b
  · rw [if_pos h]; have : b ≤ a := h; simp [this]
  · rw [if_neg h]; have : ¬ b ≤ a := h; simp [this]

def crlf : List UInt8 := [13, 10]
def longOrMore (s : ByteArray) : ByteArray × ByteArray × Int :=
  if (s.size : Int) > 80 then (if (s.size : Int) = 81 ∧ bt s 80 = 13 then ((⟨#[]⟩ : ByteArray), s, 1) else ((⟨#[]⟩ : ByteArray), s.extract 80 s.size, 2)) else ((⟨#[]⟩ : ByteArray), s, 1)
def taken (s : ByteArray) : ByteArray × ByteArray × Int :=
  if 0 ≤ Lib.index s.data.toList crlf ∧ Lib.index s.data.toList crlf ≤ 80 then (s.extract 0 (Lib.index s.data.toList crlf).toNat, s.extract ((Lib.index s.data.toList crlf).toNat + 2) s.size, 0) else longOrMore s

theorem occ_iff (s : ByteArray) (i : Nat) (h : i + 1 < s.size) : Lib.occAt s.data.toList crlf i = true ↔ (bt s (i : Int) = 13 ∧ bt s ((i + 1 : Nat) : Int) = 10) := by
  have h1 : i < s.data.toList.length := by rw [size_data]; omega
  have h2 : i + 1 < s.data.toList.length := by rw [size_data]; omega
  unfold Lib.occAt crlf
  rw [List.drop_eq_getElem_cons h1, List.drop_eq_getElem_cons h2, bt_data s i (by omega), bt_data s (i + 1) h]
  generalize s.data.toList[i] = x
  generalize s.data.toList[i + 1] = y
  simp only [List.isPrefixOf, Bool.and_true, Bool.and_eq_true, beq_iff_eq]
  constructor
  · rintro ⟨rfl, rfl⟩; exact ⟨rfl, rfl⟩
  · rintro ⟨h3, h4⟩
    exact ⟨(UInt8.toNat_inj.mp (show x.toNat = 13 by omega)).symm, (UInt8.toNat_inj.mp (show y.toNat = 10 by omega)).symm⟩
theorem occ_size (s : ByteArray) (i : Nat) (h : Lib.occAt s.data.toList crlf i = true) : i + 1 < s.size := by
  unfold Lib.occAt crlf at h
  rcases Nat.lt_or_ge (i + 1) s.size with h1 | h1
  · exact h1
  · exfalso
    have hl : (s.data.toList.drop i).length ≤ 1 := by rw [List.length_drop, size_data]; omega
    cases e : s.data.toList.drop i with
    | nil => rw [e] at h; simp [List.isPrefixOf] at h
    | cons x l =>
      cases l with
      | nil => rw [e] at h; simp [List.isPrefixOf] at h
      | cons y m => rw [e] at hl; simp at hl
/-- No line's end lies before i, and none begins at i up to 80: what is answered is that there is no line. -/
theorem taken_none (s : ByteArray) (h : ∀ j, j ≤ 80 → Lib.occAt s.data.toList crlf j = false) : taken s = longOrMore s := by
  unfold taken
  rcases Lib.index_spec s.data.toList crlf with ⟨h1, _⟩ | ⟨i, h1, _, h2, _⟩
  · rw [if_neg (by rw [h1]; omega)]
  · rw [if_neg]
    rintro ⟨_, h3⟩
    have := h i (by omega)
    rw [this] at h2
    exact absurd h2 (by simp)
theorem taken_some (s : ByteArray) (i : Nat) (hi : i ≤ 80) (h : Lib.occAt s.data.toList crlf i = true) (hno : ∀ j, j < i → Lib.occAt s.data.toList crlf j = false) :
    taken s = (s.extract 0 i, s.extract (i + 2) s.size, 0) := by
  have hs := occ_size s i h
  have e := Lib.index_first (s := s.data.toList) (sub := crlf) (i := i) (by rw [size_data]; omega) h hno
  unfold taken
  rw [e, if_pos (by omega), Int.toNat_natCast]

theorem spec_TakeLine_end (s : ByteArray) (hs : s.size ≤ 1048576) (i : Int) (k : Nat) : spec_TakeLine.j1 (k + 1) s i false = some (longOrMore s) := by
  rw [spec_TakeLine.j1, if_neg (by decide)]
  unfold longOrMore
  by_cases h1 : (s.size : Int) > 80
  · have q1 : 80 < (s.size : Int) := h1
    have q2 : 80 ≤ (s.size : Int) := by omega
    by_cases h2 : (s.size : Int) = 81
    · by_cases h3 : bt s 80 = 13
      · have c : (s.size : Int) = 81 ∧ bt s 80 = 13 := ⟨h2, h3⟩
        simp only [if_pos h1, if_pos q1, if_pos h2, if_pos h3, if_pos c]
      · have c : ¬ ((s.size : Int) = 81 ∧ bt s 80 = 13) := fun h => h3 h.2
        simp only [if_pos h1, if_pos q1, if_pos q2, if_pos h2, if_neg h3, if_neg c]
    · have c : ¬ ((s.size : Int) = 81 ∧ bt s 80 = 13) := fun h => h2 h.1
      simp only [if_pos h1, if_pos q2, if_neg h2, if_neg c]
  · simp only [if_neg h1]

theorem spec_TakeLine_l0 (s : ByteArray) (hs : s.size ≤ 1048576) :
    ∀ (n i : Nat), i + n = 81 → (∀ j, j < i → Lib.occAt s.data.toList crlf j = false) → Ev (fun k => spec_TakeLine.l0 k s i) (taken s)
  | 0, i, hn, hno => by
    rw [taken_none s (fun j hj => hno j (by omega))]
    refine Ev.step (f := fun k => spec_TakeLine.j1 k s i false) (fun k => ?_) ?_
    · rw [spec_TakeLine.l0]
      by_cases h : wrap64 ((i : Int) + 1) < (s.size : Int)
      · rw [if_pos h, decide_eq_false (by omega)]
      · rw [if_neg h]
    · exact Ev.step (fun k => spec_TakeLine_end s hs i k) (Ev.now _)
  | n + 1, i, hn, hno => by
    have ew : wrap64 ((i : Int) + 1) = ((i + 1 : Nat) : Int) := wrap_succ i (by omega)
    by_cases h : i + 1 < s.size
    · have ew2 : wrap64 ((i : Int) + 2) = ((i + 2 : Nat) : Int) := wrap_nat _ _ (by omega) (by omega)
      have hstep : ∀ k, spec_TakeLine.l0 (k + 1) s i = spec_TakeLine.j1 k s i true := fun k => by
        rw [spec_TakeLine.l0, ew, if_pos (by omega), decide_eq_true (by omega)]
      refine Ev.step hstep ?_
      by_cases h1 : Lib.occAt s.data.toList crlf i = true
      · obtain ⟨b1, b2⟩ := (occ_iff s i h).1 h1
        rw [taken_some s i (by omega) h1 hno]
        refine Ev.step (fun k => ?_) (Ev.now _)
        rw [spec_TakeLine.j1, if_pos rfl, if_pos (by omega), if_pos (by omega), if_pos b1, ew, if_pos (by omega), if_pos (by omega), if_pos b2, if_pos (by omega), ew2, if_pos (by omega), if_pos (by omega), Int.toNat_natCast, Int.toNat_natCast]
      · have h2 : ¬ (bt s (i : Int) = 13 ∧ bt s ((i + 1 : Nat) : Int) = 10) := fun hh => h1 ((occ_iff s i h).2 hh)
        have ih := spec_TakeLine_l0 s hs n (i + 1) (by omega) (fun j hj => by
          rcases Nat.lt_or_ge j i with hj1 | hj1
          · exact hno j hj1
          · have : j = i := by omega
            subst this
            exact Bool.eq_false_iff.mpr h1)
        refine Ev.step (fun k => ?_) ih
        rw [spec_TakeLine.j1, if_pos rfl, if_pos (by omega), if_pos (by omega), ew]
        by_cases b1 : bt s (i : Int) = 13
        · rw [if_pos b1, if_pos (by omega), if_pos (by omega), if_neg (fun b2 => h2 ⟨b1, b2⟩)]
        · rw [if_neg b1]
    · rw [taken_none s (fun j hj => by
        rcases Nat.lt_or_ge j i with hj1 | hj1
        · exact hno j hj1
        · refine Bool.eq_false_iff.mpr (fun ho => ?_)
          have := occ_size s j ho
          omega)]
      refine Ev.step (f := fun k => spec_TakeLine.j1 k s i false) (fun k => ?_) ?_
      · rw [spec_TakeLine.l0, ew, if_neg (by omega)]
      · exact Ev.step (fun k => spec_TakeLine_end s hs i k) (Ev.now _)
theorem spec_TakeLine_ev (s : ByteArray) (hs : s.size ≤ 1048576) : Ev (fun k => spec_TakeLine.f k s) (taken s) :=
  Ev.congr (fun k => rfl) (spec_TakeLine_l0 s hs 81 0 rfl (fun j hj => by omega))

theorem impl_TakeLine_eq (s : ByteArray) (hs : s.size ≤ 1048576) : impl_TakeLine.f s = some (taken s) := by
  unfold impl_TakeLine.f strings_Index.f
  rw [if_pos (by omega), Option.bind_some]
  have ec : (⟨#[13, 10]⟩ : ByteArray).data.toList = crlf := rfl
  rw [ec, impl_in_eq, Option.bind_some]
  have hge := Lib.index_ge s.data.toList crlf
  by_cases h1 : 0 ≤ Lib.index s.data.toList crlf ∧ Lib.index s.data.toList crlf ≤ 80
  · have hr := Lib.index_room s.data.toList crlf h1.1
    rw [size_data] at hr
    have hr2 : Lib.index s.data.toList crlf + 2 ≤ s.size := hr
    have ew : wrap64 (Lib.index s.data.toList crlf + 2) = Lib.index s.data.toList crlf + 2 := wrap_id (by omega) (by omega)
    rw [decide_eq_true h1, if_pos rfl, if_pos h1.1, if_pos (by omega), ew, if_pos (by omega), if_pos (by omega)]
    unfold taken
    rw [if_pos h1, show (Lib.index s.data.toList crlf + 2).toNat = (Lib.index s.data.toList crlf).toNat + 2 by omega]
  · rw [decide_eq_false h1, if_neg (by decide)]
    unfold taken longOrMore
    rw [if_neg h1]
    by_cases h2 : Lib.index s.data.toList crlf < 0
    · rw [if_pos h2]
      by_cases h3 : (s.size : Int) ≤ 80
      · have h1 : ¬ (s.size : Int) > 80 := by omega
        simp only [if_pos h3, if_neg h1]
      · have h1 : (s.size : Int) > 80 := by omega
        have q1 : 80 < (s.size : Int) := h1
        have q2 : 80 ≤ (s.size : Int) := by omega
        by_cases h4 : (s.size : Int) = 81
        · by_cases h5 : bt s 80 = 13
          · have c : (s.size : Int) = 81 ∧ bt s 80 = 13 := ⟨h4, h5⟩
            simp only [if_pos h1, if_neg h3, if_pos q1, if_pos h4, if_pos h5, if_pos c]
          · have c : ¬ ((s.size : Int) = 81 ∧ bt s 80 = 13) := fun h => h5 h.2
            simp only [if_pos h1, if_neg h3, if_pos q1, if_pos q2, if_pos h4, if_neg h5, if_neg c]
        · have c : ¬ ((s.size : Int) = 81 ∧ bt s 80 = 13) := fun h => h4 h.1
          simp only [if_pos h1, if_neg h3, if_pos q2, if_neg h4, if_neg c]
    · have hr := Lib.index_room s.data.toList crlf (by omega)
      rw [size_data] at hr
      have hr2 : Lib.index s.data.toList crlf + 2 ≤ s.size := hr
      rw [if_neg h2, if_pos (by omega), if_pos (by omega), if_neg (fun h => by have := h.1; omega)]

theorem FnExactTakeLine : laws_FnExactTakeLine.Pure := by
  intro s hs
  refine Ev.rounds (g := fun k => laws_FnExactTakeLine.f k s) ?_
  unfold laws_FnExactTakeLine.f
  refine ev_ite (fun h => Ev.now _) (fun h => ?_)
  refine Ev.bind (spec_TakeLine_ev s (by omega)) ?_
  refine ev_bind1 (impl_TakeLine_eq s (by omega)) ?_
  simp only [if_true]
  exact Ev.now _

end Go.Proofs.Ytdclbjfpkhljeab.Pure
