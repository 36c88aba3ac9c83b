/- Lines come out as they were put in, however many there are. Conditions: none beyond the statement's own. -/
import Derived.Laws.BitsLemmas
import Derived.Test.YteblgnkfdkoapaaQFnLinesPure0
import Derived.Test.YteblgnkfdkoapaaBase
namespace Go.Proofs.Yteblgnkfdkoapaa.Pure
open Go.RowKit Go.Proofs.Yteblgnkfdkoapaa.QFnLines Go.Proofs.YteblgnkfdkoapaaW.PrintWords Go.Proofs.YteblgnkfdkoapaaW.PrintLast Go.Proofs.YteblgnkfdkoapaaB Go.Proofs.YteblgnkfdkoapaaO
set_option linter.unusedVariables false
set_option linter.unusedSimpArgs false

theorem impl_in_eq (a b c : Int) : impl_in.f a b c = some (decide (b ≤ a ∧ a ≤ c)) := by
  unfold impl_in.f
  by_cases h : a ≥ b
  · rw [if_pos h]; have : b ≤ a := h; simp [this]
  · rw [if_neg h]; have : ¬ b ≤ a := h; simp [this]

def crlf : List UInt8 := [13, 10]
def longOrMore (s : ByteArray) : ByteArray × ByteArray × Int :=
  if (s.size : Int) > 80 then (if (s.size : Int) = 81 ∧ bt s 80 = 13 then ((⟨#[]⟩ : ByteArray), s, 1) else ((⟨#[]⟩ : ByteArray), s.extract 80 s.size, 2)) else ((⟨#[]⟩ : ByteArray), s, 1)
def taken (s : ByteArray) : ByteArray × ByteArray × Int :=
  if 0 ≤ Lib.index s.data.toList crlf ∧ Lib.index s.data.toList crlf ≤ 80 then (s.extract 0 (Lib.index s.data.toList crlf).toNat, s.extract ((Lib.index s.data.toList crlf).toNat + 2) s.size, 0) else longOrMore s

theorem occ_iff (s : ByteArray) (i : Nat) (h : i + 1 < s.size) : Lib.occAt s.data.toList crlf i = true ↔ (bt s (i : Int) = 13 ∧ bt s ((i + 1 : Nat) : Int) = 10) := by
  have h1 : i < s.data.toList.length := by rw [size_data]; omega
  have h2 : i + 1 < s.data.toList.length := by rw [size_data]; omega
  unfold Lib.occAt crlf
  rw [List.drop_eq_getElem_cons h1, List.drop_eq_getElem_cons h2, bt_data s i (by omega), bt_data s (i + 1) h]
  generalize s.data.toList[i] = x
  generalize s.data.toList[i + 1] = y
  simp only [List.isPrefixOf, Bool.and_true, Bool.and_eq_true, beq_iff_eq]
  constructor
  · rintro ⟨rfl, rfl⟩; exact ⟨rfl, rfl⟩
  · rintro ⟨h3, h4⟩
    exact ⟨(UInt8.toNat_inj.mp (show x.toNat = 13 by omega)).symm, (UInt8.toNat_inj.mp (show y.toNat = 10 by omega)).symm⟩
theorem occ_size (s : ByteArray) (i : Nat) (h : Lib.occAt s.data.toList crlf i = true) : i + 1 < s.size := by
  unfold Lib.occAt crlf at h
  rcases Nat.lt_or_ge (i + 1) s.size with h1 | h1
  · exact h1
  · exfalso
    have hl : (s.data.toList.drop i).length ≤ 1 := by rw [List.length_drop, size_data]; omega
    cases e : s.data.toList.drop i with
    | nil => rw [e] at h; simp [List.isPrefixOf] at h
    | cons x l =>
      cases l with
      | nil => rw [e] at h; simp [List.isPrefixOf] at h
      | cons y m => rw [e] at hl; simp at hl
/-- No line's end lies before i, and none begins at i up to 80: what is answered is that there is no line. -/
theorem taken_none (s : ByteArray) (h : ∀ j, j ≤ 80 → Lib.occAt s.data.toList crlf j = false) : taken s = longOrMore s := by
  unfold taken
  rcases Lib.index_spec s.data.toList crlf with ⟨h1, _⟩ | ⟨i, h1, _, h2, _⟩
  · rw [if_neg (by rw [h1]; omega)]
  · rw [if_neg]
    rintro ⟨_, h3⟩
    have := h i (by omega)
    rw [this] at h2
    exact absurd h2 (by simp)
theorem taken_some (s : ByteArray) (i : Nat) (hi : i ≤ 80) (h : Lib.occAt s.data.toList crlf i = true) (hno : ∀ j, j < i → Lib.occAt s.data.toList crlf j = false) :
    taken s = (s.extract 0 i, s.extract (i + 2) s.size, 0) := by
  have hs := occ_size s i h
  have e := Lib.index_first (s := s.data.toList) (sub := crlf) (i := i) (by rw [size_data]; omega) h hno
  unfold taken
  rw [e, if_pos (by omega), Int.toNat_natCast]


theorem impl_TakeLine_eq (s : ByteArray) (hs : s.size ≤ 1048576) : impl_TakeLine.f s = some (taken s) := by
  unfold impl_TakeLine.f strings_Index.f
  rw [if_pos (by omega), Option.bind_some]
  have ec : (⟨#[13, 10]⟩ : ByteArray).data.toList = crlf := rfl
  rw [ec, impl_in_eq, Option.bind_some]
  have hge := Lib.index_ge s.data.toList crlf
  by_cases h1 : 0 ≤ Lib.index s.data.toList crlf ∧ Lib.index s.data.toList crlf ≤ 80
  · have hr := Lib.index_room s.data.toList crlf h1.1
    rw [size_data] at hr
    have hr2 : Lib.index s.data.toList crlf + 2 ≤ s.size := hr
    have ew : wrap64 (Lib.index s.data.toList crlf + 2) = Lib.index s.data.toList crlf + 2 := wrap_id (by omega) (by omega)
    rw [decide_eq_true h1, if_pos rfl, if_pos h1.1, if_pos (by omega), ew, if_pos (by omega), if_pos (by omega)]
    unfold taken
    rw [if_pos h1, show (Lib.index s.data.toList crlf + 2).toNat = (Lib.index s.data.toList crlf).toNat + 2 by omega]
  · rw [decide_eq_false h1, if_neg (by decide)]
    unfold taken longOrMore
    rw [if_neg h1]
    by_cases h2 : Lib.index s.data.toList crlf < 0
    · rw [if_pos h2]
      by_cases h3 : (s.size : Int) ≤ 80
      · have h1 : ¬ (s.size : Int) > 80 := by omega
        simp only [if_pos h3, if_neg h1]
      · have h1 : (s.size : Int) > 80 := by omega
        have q1 : 80 < (s.size : Int) := h1
        have q2 : 80 ≤ (s.size : Int) := by omega
        by_cases h4 : (s.size : Int) = 81
        · by_cases h5 : bt s 80 = 13
          · have c : (s.size : Int) = 81 ∧ bt s 80 = 13 := ⟨h4, h5⟩
            simp only [if_pos h1, if_neg h3, if_pos q1, if_pos h4, if_pos h5, if_pos c]
          · have c : ¬ ((s.size : Int) = 81 ∧ bt s 80 = 13) := fun h => h5 h.2
            simp only [if_pos h1, if_neg h3, if_pos q1, if_pos q2, if_pos h4, if_neg h5, if_neg c]
        · have c : ¬ ((s.size : Int) = 81 ∧ bt s 80 = 13) := fun h => h4 h.1
          simp only [if_pos h1, if_neg h3, if_pos q2, if_neg h4, if_neg c]
    · have hr := Lib.index_room s.data.toList crlf (by omega)
      rw [size_data] at hr
      have hr2 : Lib.index s.data.toList crlf + 2 ≤ s.size := hr
      rw [if_neg h2, if_pos (by omega), if_pos (by omega), if_neg (fun h => by have := h.1; omega)]

theorem spec_TakeLine_end (s : ByteArray) (hs : s.size ≤ 1048576) (i : Int) (k : Nat) : spec_TakeLine.j1 (k + 1) s i false = some (longOrMore s) := by
  rw [spec_TakeLine.j1, if_neg (by decide)]
  unfold longOrMore
  by_cases h1 : (s.size : Int) > 80
  · have q1 : 80 < (s.size : Int) := h1
    have q2 : 80 ≤ (s.size : Int) := by omega
    by_cases h2 : (s.size : Int) = 81
    · by_cases h3 : bt s 80 = 13
      · have c : (s.size : Int) = 81 ∧ bt s 80 = 13 := ⟨h2, h3⟩
        simp only [if_pos h1, if_pos q1, if_pos h2, if_pos h3, if_pos c]
      · have c : ¬ ((s.size : Int) = 81 ∧ bt s 80 = 13) := fun h => h3 h.2
        simp only [if_pos h1, if_pos q1, if_pos q2, if_pos h2, if_neg h3, if_neg c]
    · have c : ¬ ((s.size : Int) = 81 ∧ bt s 80 = 13) := fun h => h2 h.1
      simp only [if_pos h1, if_pos q2, if_neg h2, if_neg c]
  · simp only [if_neg h1]

theorem spec_TakeLine_l0 (s : ByteArray) (hs : s.size ≤ 1048576) :
    ∀ (n i : Nat), i + n = 81 → (∀ j, j < i → Lib.occAt s.data.toList crlf j = false) → Ev (fun k => spec_TakeLine.l0 k s i) (taken s)
  | 0, i, hn, hno => by
    rw [taken_none s (fun j hj => hno j (by omega))]
    refine Ev.step (f := fun k => spec_TakeLine.j1 k s i false) (fun k => ?_) ?_
    · rw [spec_TakeLine.l0]
      by_cases h : wrap64 ((i : Int) + 1) < (s.size : Int)
      · rw [if_pos h, decide_eq_false (by omega)]
      · rw [if_neg h]
    · exact Ev.step (fun k => spec_TakeLine_end s hs i k) (Ev.now _)
  | n + 1, i, hn, hno => by
    have ew : wrap64 ((i : Int) + 1) = ((i + 1 : Nat) : Int) := wrap_succ i (by omega)
    by_cases h : i + 1 < s.size
    · have ew2 : wrap64 ((i : Int) + 2) = ((i + 2 : Nat) : Int) := wrap_nat _ _ (by omega) (by omega)
      have hstep : ∀ k, spec_TakeLine.l0 (k + 1) s i = spec_TakeLine.j1 k s i true := fun k => by
        rw [spec_TakeLine.l0, ew, if_pos (by omega), decide_eq_true (by omega)]
      refine Ev.step hstep ?_
      by_cases h1 : Lib.occAt s.data.toList crlf i = true
      · obtain ⟨b1, b2⟩ := (occ_iff s i h).1 h1
        rw [taken_some s i (by omega) h1 hno]
        refine Ev.step (fun k => ?_) (Ev.now _)
        rw [spec_TakeLine.j1, if_pos rfl, if_pos (by omega), if_pos (by omega), if_pos b1, ew, if_pos (by omega), if_pos (by omega), if_pos b2, if_pos (by omega), ew2, if_pos (by omega), if_pos (by omega), Int.toNat_natCast, Int.toNat_natCast]
      · have h2 : ¬ (bt s (i : Int) = 13 ∧ bt s ((i + 1 : Nat) : Int) = 10) := fun hh => h1 ((occ_iff s i h).2 hh)
        have ih := spec_TakeLine_l0 s hs n (i + 1) (by omega) (fun j hj => by
          rcases Nat.lt_or_ge j i with hj1 | hj1
          · exact hno j hj1
          · have : j = i := by omega
            subst this
            exact Bool.eq_false_iff.mpr h1)
        refine Ev.step (fun k => ?_) ih
        rw [spec_TakeLine.j1, if_pos rfl, if_pos (by omega), if_pos (by omega), ew]
        by_cases b1 : bt s (i : Int) = 13
        · rw [if_pos b1, if_pos (by omega), if_pos (by omega), if_neg (fun b2 => h2 ⟨b1, b2⟩)]
        · rw [if_neg b1]
    · rw [taken_none s (fun j hj => by
        rcases Nat.lt_or_ge j i with hj1 | hj1
        · exact hno j hj1
        · refine Bool.eq_false_iff.mpr (fun ho => ?_)
          have := occ_size s j ho
          omega)]
      refine Ev.step (f := fun k => spec_TakeLine.j1 k s i false) (fun k => ?_) ?_
      · rw [spec_TakeLine.l0, ew, if_neg (by omega)]
      · exact Ev.step (fun k => spec_TakeLine_end s hs i k) (Ev.now _)
theorem spec_TakeLine_ev (s : ByteArray) (hs : s.size ≤ 1048576) : Ev (fun k => spec_TakeLine.f k s) (taken s) :=
  Ev.congr (fun k => rfl) (spec_TakeLine_l0 s hs 81 0 rfl (fun j hj => by omega))

theorem and_range (x : Int) : 0 ≤ Go.bits .and .i64 x 255 ∧ Go.bits .and .i64 x 255 ≤ 255 := by
  have hm : ((BitVec.ofInt 64 x) &&& (BitVec.ofInt 64 255)).toNat ≤ 255 := by
    rw [BitVec.toNat_and]
    exact Nat.and_le_right
  have e : Go.bits .and .i64 x 255 = IntKind.i64.wrap ((((BitVec.ofInt 64 x) &&& (BitVec.ofInt 64 255)).toNat : Nat) : Int) := rfl
  rw [e, IntKind.wrap_i64]
  omega
theorem l01New_ev (xs : List Int) (hx : xs.length ≤ 1048576) : ∃ h : Int, Ev (fun k => spec_l01New.f k xs) (xs, 0, h) := by
  suffices H : ∀ (l : List Int) (i : Nat) (y : Int), xs.drop i = l → i ≤ xs.length → ∃ h : Int, Ev (fun k => spec_l01New.l0 k xs y i) (xs, 0, h) by
    obtain ⟨h, hh⟩ := H xs 0 (wrap64 (76001 + (xs.length : Int))) rfl (by omega)
    exact ⟨h, Ev.congr (fun k => rfl) hh⟩
  intro l
  induction l with
  | nil =>
    intro i y hd hi
    have e := drop_end hd hi
    exact ⟨y, Ev.step (fun k => by rw [spec_l01New.l0, if_neg (by omega)]) (Ev.now _)⟩
  | cons x l ih =>
    intro i y hd hi
    have hlt := drop_lt hd
    by_cases h4 : (i : Int) < 4000
    · obtain ⟨h, hh⟩ := ih (i + 1) (Go.bits .and .i64 (wrap64 ((wrap64 ((wrap64 (y * 131)) + (wrap64 (rd xs i)))) + 7)) 1073741823) (drop_tail hd) (by omega)
      refine ⟨h, Ev.step (fun k => ?_) hh⟩
      rw [spec_l01New.l0, if_pos (by omega), if_pos h4, if_pos (by omega), wrap_succ i (by omega)]
    · exact ⟨y, Ev.step (fun k => by rw [spec_l01New.l0, if_pos (by omega), if_neg h4]) (Ev.now _)⟩
theorem l01Byte_eq (xs : List Int) (hx : xs.length ≤ 1048576) (i h : Int) (hi : 0 ≤ i) : ∃ x j g : Int, spec_l01Byte.f xs i h = some (x, j, g) ∧ 0 ≤ x ∧ x ≤ 255 ∧ 0 ≤ j := by
  unfold spec_l01Byte.f
  by_cases c : i < (xs.length : Int)
  · rw [if_pos c, if_pos hi]
    exact ⟨_, _, _, rfl, (and_range _).1, (and_range _).2, by rw [wrap_id (by omega) (by omega)]; omega⟩
  · rw [if_neg c]
    exact ⟨_, _, _, rfl, (and_range _).1, (and_range _).2, hi⟩
theorem l01Below_eq (xs : List Int) (hx : xs.length ≤ 1048576) (i h : Int) (hi : 0 ≤ i) (n : Int) (hn : 0 < n) : ∃ x j g : Int, spec_l01Below.f xs i h n = some (x, j, g) ∧ 0 ≤ x ∧ x < n ∧ 0 ≤ j := by
  unfold spec_l01Below.f
  rw [if_neg (by omega)]
  by_cases c : n ≤ 256
  · rw [if_pos c]
    obtain ⟨x, j, g, e, h1, h2, h3⟩ := l01Byte_eq xs hx i h hi
    rw [e, Option.bind_some, if_neg (by omega)]
    exact ⟨_, _, _, rfl, Int.tmod_nonneg _ h1, Int.tmod_lt_of_pos _ hn, h3⟩
  · rw [if_neg c]
    obtain ⟨x1, j1, g1, e1, a1, b1, c1⟩ := l01Byte_eq xs hx i h hi
    obtain ⟨x2, j2, g2, e2, a2, b2, c2⟩ := l01Byte_eq xs hx j1 g1 c1
    obtain ⟨x3, j3, g3, e3, a3, b3, c3⟩ := l01Byte_eq xs hx j2 g2 c2
    obtain ⟨x4, j4, g4, e4, a4, b4, c4⟩ := l01Byte_eq xs hx j3 g3 c3
    simp only [e1, e2, e3, e4, Option.bind_some]
    rw [if_neg (by omega)]
    have w1 : wrap64 (x1 * 16777216) = x1 * 16777216 := wrap_id (by omega) (by omega)
    have w2 : wrap64 (x2 * 65536) = x2 * 65536 := wrap_id (by omega) (by omega)
    have w3 : wrap64 (x3 * 256) = x3 * 256 := wrap_id (by omega) (by omega)
    rw [w1, w2, w3]
    have w4 : wrap64 (x1 * 16777216 + x2 * 65536) = x1 * 16777216 + x2 * 65536 := wrap_id (by omega) (by omega)
    rw [w4]
    have w5 : wrap64 (x1 * 16777216 + x2 * 65536 + x3 * 256) = x1 * 16777216 + x2 * 65536 + x3 * 256 := wrap_id (by omega) (by omega)
    rw [w5]
    have w6 : wrap64 (x1 * 16777216 + x2 * 65536 + x3 * 256 + x4) = x1 * 16777216 + x2 * 65536 + x3 * 256 + x4 := wrap_id (by omega) (by omega)
    rw [w6]
    exact ⟨_, _, _, rfl, Int.tmod_nonneg _ (by omega), Int.tmod_lt_of_pos _ hn, c4⟩

theorem DrawPlaces_l0 (xs : List Int) (hx : xs.length ≤ 1048576) : ∀ (n i : Nat) (acc : List Int) (j g : Int), i + n = 12 → acc.length = i → (∀ y ∈ acc, 0 ≤ y ∧ y < 10000) → 0 ≤ j →
    ∃ out : List Int, out.length = 12 ∧ (∀ y ∈ out, 0 ≤ y ∧ y < 10000) ∧ Ev (fun k => spec_DrawPlaces.l0 k acc i xs j g) out
  | 0, i, acc, j, g, hn, ha, hy, hj => ⟨acc, by omega, hy, Ev.step (fun k => by rw [spec_DrawPlaces.l0, if_neg (by omega)]) (Ev.now _)⟩
  | n + 1, i, acc, j, g, hn, ha, hy, hj => by
    obtain ⟨x, j2, g2, e, h1, h2, h3⟩ := l01Below_eq xs hx j g hj 10000 (by omega)
    obtain ⟨out, o1, o2, o3⟩ := DrawPlaces_l0 xs hx n (i + 1) (acc ++ [x]) j2 g2 (by omega) (by simp [ha]) (fun y hm => by
      rcases List.mem_append.mp hm with hm | hm
      · exact hy y hm
      · have := List.mem_singleton.mp hm; subst this; exact ⟨h1, h2⟩) h3
    refine ⟨out, o1, o2, Ev.step (fun k => ?_) o3⟩
    rw [spec_DrawPlaces.l0, if_pos (by omega), e, Option.bind_some, if_pos (by omega), wrap_succ i (by omega)]
theorem DrawPlaces_ev (xs : List Int) (hx : xs.length ≤ 1048576) : ∃ out : List Int, out.length = 12 ∧ (∀ y ∈ out, 0 ≤ y ∧ y < 10000) ∧ Ev (fun k => spec_DrawPlaces.f k xs) out := by
  obtain ⟨h, hh⟩ := l01New_ev xs hx
  obtain ⟨x, j, g, e, _, _, hj⟩ := l01Byte_eq xs hx 0 h (by omega)
  obtain ⟨out, o1, o2, o3⟩ := DrawPlaces_l0 xs hx 12 0 [] j g rfl rfl (by simp) hj
  exact ⟨out, o1, o2, Ev.congr (fun k => rfl) (Ev.bind hh (ev_bind1 e (Ev.congr (fun k => rfl) o3)))⟩

theorem pick_eq (xs : List Int) (hx : xs.length ≤ 1048576) (i h : Int) (hi : 0 ≤ i) (l : List ByteArray) (hl : 0 < l.length) : ∃ (x : ByteArray) (j g : Int), spec_l01Pick.f xs i h l = some (x, j, g) ∧ x ∈ l ∧ 0 ≤ j := by
  obtain ⟨n, j, g, e, h1, h2, h3⟩ := l01Below_eq xs hx i h hi (l.length : Int) (by omega)
  have hn : n.toNat < l.length := by omega
  refine ⟨l[n.toNat]'hn, j, g, ?_, List.getElem_mem hn, h3⟩
  unfold spec_l01Pick.f
  rw [e, Option.bind_some, if_pos h1, if_pos h2]
  have er : rdOf ByteArray.empty l n = l[n.toNat]'hn := by
    unfold rdOf
    rw [List.getD_eq_getElem?_getD, List.getElem?_eq_getElem hn]
    rfl
  rw [er]

/-- A line that holds no carriage return and is short. -/
def plain (y : ByteArray) : Prop := y.size ≤ 16 ∧ ∀ c ∈ y.data.toList, c ≠ 13
def joinL : List ByteArray → ByteArray
  | [] => (⟨#[]⟩ : ByteArray)
  | y :: l => (y ++ (⟨#[13, 10]⟩ : ByteArray)) ++ joinL l
theorem join_size : ∀ l : List ByteArray, (∀ y ∈ l, plain y) → (joinL l).size ≤ 18 * l.length
  | [], _ => by simp [joinL, ByteArray.size]
  | y :: l, h => by
    have ih := join_size l (fun z hz => h z (List.mem_cons_of_mem _ hz))
    have hy := (h y List.mem_cons_self).1
    have e2 : (⟨#[13, 10]⟩ : ByteArray).size = 2 := rfl
    unfold joinL
    rw [ByteArray.size_append, ByteArray.size_append, e2, List.length_cons]
    omega
theorem lines_l0 (ls : List ByteArray) (hx : ls.length ≤ 100) (hp : ∀ y ∈ ls, plain y) :
    ∀ (l : List ByteArray) (i : Nat) (acc : ByteArray), ls.drop i = l → i ≤ ls.length → acc.size ≤ 18 * i → Ev (fun k => laws_lines.l0 k ls acc (i : Int)) (acc ++ joinL l)
  | [], i, acc, h, hi, ha => by
    have e := drop_end h hi
    refine Ev.step (fun k => by rw [laws_lines.l0, if_neg (by omega)]) (ev_now ?_)
    show acc = acc ++ (⟨#[]⟩ : ByteArray)
    rw [append_empty]
  | y :: l, i, acc, h, hi, ha => by
    have hlt := drop_lt h
    have hy := hp y (List.mem_of_mem_drop (i := i) (by rw [h]; exact List.mem_cons_self))
    have e2 : (⟨#[13, 10]⟩ : ByteArray).size = 2 := rfl
    have es : (acc ++ y).size = acc.size + y.size := ByteArray.size_append
    have h1 := hy.1
    have ih := lines_l0 ls hx hp l (i + 1) ((acc ++ y) ++ (⟨#[13, 10]⟩ : ByteArray)) (drop_tail h) (by omega) (by rw [ByteArray.size_append, es, e2]; omega)
    refine Ev.step (fun k => by rw [laws_lines.l0, if_pos (by omega), if_pos (by omega), rdOf_drop _ h, if_pos (by omega), if_pos (by omega), wrap_succ i (by omega)]) ?_
    have ej : acc ++ joinL (y :: l) = ((acc ++ y) ++ (⟨#[13, 10]⟩ : ByteArray)) ++ joinL l := by
      show acc ++ ((y ++ (⟨#[13, 10]⟩ : ByteArray)) ++ joinL l) = _
      rw [append_assoc (acc ++ y), append_assoc acc, append_assoc y]
    rw [ej]; exact ih
theorem join_data (y : ByteArray) (l : List ByteArray) : (joinL (y :: l)).data.toList = y.data.toList ++ (13 :: 10 :: (joinL l).data.toList) := by
  show ((y ++ (⟨#[13, 10]⟩ : ByteArray)) ++ joinL l).data.toList = _
  rw [data_append, data_append, List.append_assoc]
  rfl
theorem occ_at (a r : List UInt8) : Lib.occAt (a ++ (13 :: 10 :: r)) crlf a.length = true := by
  unfold Lib.occAt crlf
  rw [List.drop_left']
  · rfl
  · rfl
theorem occ_no (a r : List UInt8) (ha : ∀ c ∈ a, c ≠ 13) (j : Nat) (hj : j < a.length) : Lib.occAt (a ++ r) crlf j = false := by
  unfold Lib.occAt crlf
  rw [List.drop_append_of_le_length (by omega), List.drop_eq_getElem_cons hj]
  have := ha _ (List.getElem_mem hj)
  simp only [List.cons_append, List.isPrefixOf, Bool.and_eq_false_iff]
  left
  exact beq_eq_false_iff_ne.mpr (fun e => this e.symm)
theorem take_join (y : ByteArray) (l : List ByteArray) (hy : plain y) : taken (joinL (y :: l)) = (y, joinL l, 0) := by
  have hd := join_data y l
  have hs := size_data y
  have h1 := hy.1
  have hz : (joinL (y :: l)).size = y.size + 2 + (joinL l).size := by
    show ((y ++ (⟨#[13, 10]⟩ : ByteArray)) ++ joinL l).size = _
    rw [ByteArray.size_append, ByteArray.size_append]; rfl
  rw [taken_some (joinL (y :: l)) y.size (by omega) (by rw [hd, ← hs]; exact occ_at _ _) (fun j hj => by rw [hd]; exact occ_no _ _ hy.2 j (by rw [hs]; exact hj))]
  have e1 : (joinL (y :: l)).extract 0 y.size = y := bytes_ext (by rw [extract_data, hd, ← hs]; simp)
  have e2 : (joinL (y :: l)).extract (y.size + 2) (joinL (y :: l)).size = joinL l := bytes_ext (by
    rw [extract_data, hd, hz, ← hs, List.drop_append, List.drop_of_length_le (by omega), show y.data.toList.length + 2 - y.data.toList.length = 2 by omega, List.nil_append]
    simp only [List.drop_succ_cons, List.drop_zero]
    rw [List.take_of_length_le (by rw [size_data]; omega)])
  rw [e1, e2]
def fourteen : List ByteArray := [(⟨#[104, 101, 108, 111, 32, 97, 110, 110]⟩ : ByteArray), (⟨#[109, 97, 105, 108, 32, 98, 111, 98]⟩ : ByteArray), (⟨#[114, 99, 112, 116, 32, 97, 110, 110]⟩ : ByteArray), (⟨#[100, 97, 116, 97]⟩ : ByteArray), (⟨#[113, 117, 105, 116]⟩ : ByteArray), (⟨#[117, 115, 101, 114, 32, 97, 110, 110]⟩ : ByteArray), (⟨#[112, 97, 115, 115, 32, 97, 110, 110, 120]⟩ : ByteArray), (⟨#[115, 116, 97, 116]⟩ : ByteArray), (⟨#[97, 32, 108, 111, 103, 105, 110, 32, 97, 110, 110, 32, 97, 110, 110, 120]⟩ : ByteArray), (⟨#[97, 32, 115, 101, 108, 101, 99, 116, 32, 105, 110, 98, 111, 120]⟩ : ByteArray), (⟨#[]⟩ : ByteArray), (⟨#[78, 111, 111, 112]⟩ : ByteArray), (⟨#[46]⟩ : ByteArray), (⟨#[46, 46, 120]⟩ : ByteArray)]
theorem fourteen_size : ∀ x ∈ fourteen, x.size ≤ 16 := by
  intro x hx
  have : (fourteen.all fun x => decide (x.size ≤ 16)) = true := by decide
  exact of_decide_eq_true (List.all_eq_true.mp this x hx)
theorem line16_eq (xs : List Int) (hx : xs.length ≤ 1048576) (i h : Int) (hi : 0 ≤ i) : ∃ (x : ByteArray) (j g : Int), spec_l16Line.f xs i h = some (x, j, g) ∧ x.size ≤ 16 ∧ 0 ≤ j := by
  obtain ⟨x, j, g, e, hm, hj⟩ := pick_eq xs hx i h hi fourteen (by decide)
  refine ⟨x, j, g, ?_, fourteen_size x hm, hj⟩
  have e' : spec_l16Line.f xs i h = (spec_l01Pick.f xs i h fourteen).bind fun bt => some (bt.1, bt.2.1, bt.2.2) := rfl
  rw [e', e]; rfl
theorem long_l0 (n : Nat) (hn : n ≤ 1000) (c : Int) : ∀ (m i : Nat) (ys : List Int), i + m = n → ys.length = n → ∃ t : ByteArray, t.size = n ∧ Ev (fun k => spec_l01Long.l0 k (n : Int) c ys (i : Int)) t
  | 0, i, ys, h, hy => ⟨strOfNums ys, by rw [strOfNums_size]; exact hy, Ev.step (fun k => by rw [spec_l01Long.l0, if_neg (by omega)]) (Ev.now _)⟩
  | m + 1, i, ys, h, hy => by
    obtain ⟨t, h1, h2⟩ := long_l0 n hn c m (i + 1) (ys.set i c) (by omega) (by rw [List.length_set]; exact hy)
    exact ⟨t, h1, Ev.step (fun k => by rw [spec_l01Long.l0, if_pos (by omega), if_pos (by omega), if_pos (by omega), wrap_succ i (by omega), Int.toNat_natCast]) h2⟩
theorem long_ev (n : Nat) (hn : n ≤ 1000) (c : Int) : ∃ t : ByteArray, t.size = n ∧ Ev (fun k => spec_l01Long.f k (n : Int) c) t := by
  obtain ⟨t, h1, h2⟩ := long_l0 n hn c n 0 (List.replicate n 0) (by omega) (by simp)
  refine ⟨t, h1, Ev.congr (fun k => ?_) h2⟩
  rw [spec_l01Long.f, if_pos (by omega), Int.toNat_natCast, if_pos (by omega)]
  rfl
def four : List ByteArray := [(⟨#[]⟩ : ByteArray), (⟨#[13]⟩ : ByteArray), (⟨#[13, 10]⟩ : ByteArray), (⟨#[120]⟩ : ByteArray)]
theorem four_size : ∀ x ∈ four, x.size ≤ 16 := by
  intro x hx
  have : (four.all fun x => decide (x.size ≤ 16)) = true := by decide
  exact of_decide_eq_true (List.all_eq_true.mp this x hx)
theorem DrawTakeLine_ev (xs : List Int) (hx : xs.length ≤ 1048576) : ∃ t : ByteArray, t.size ≤ 1000 ∧ Ev (fun k => spec_DrawTakeLine.f k xs) t := by
  obtain ⟨h, hh⟩ := l01New_ev xs hx
  obtain ⟨a, j1, g1, e1, s1, p1⟩ := line16_eq xs hx 0 h (by omega)
  obtain ⟨b, j2, g2, e2, s2, p2⟩ := line16_eq xs hx j1 g1 p1
  obtain ⟨n, j3, g3, e3, n1, n2, p3⟩ := l01Below_eq xs hx j2 g2 p2 8 (by omega)
  have z2 : (⟨#[13, 10]⟩ : ByteArray).size = 2 := rfl
  have z3 : (a ++ (⟨#[13, 10]⟩ : ByteArray)).size = a.size + 2 := by rw [ByteArray.size_append, z2]
  unfold spec_DrawTakeLine.f
  by_cases c0 : n = 0
  · obtain ⟨x, j4, g4, e4, s4, _⟩ := line16_eq xs hx j3 g3 p3
    refine ⟨x, by omega, Ev.bind hh ?_⟩
    refine ev_some (fun k => ?_)
    simp only [e1, Option.bind_some, if_pos (show a.size + 2 ≤ 9223372036854775807 by omega), e2, if_pos (show (a ++ (⟨#[13, 10]⟩ : ByteArray)).size + b.size ≤ 9223372036854775807 by omega), e3, if_pos c0, e4]
  by_cases c1 : n = 1
  · obtain ⟨m, j4, g4, e4, m1, m2, p4⟩ := l01Below_eq xs hx j3 g3 p3 5 (by omega)
    obtain ⟨x, j5, g5, e5, hm, _⟩ := pick_eq xs hx j4 g4 p4 four (by decide)
    have e5' : spec_l01Pick.f xs j4 g4 ([(⟨#[]⟩ : ByteArray), (⟨#[13]⟩ : ByteArray), (⟨#[13, 10]⟩ : ByteArray), (⟨#[120]⟩ : ByteArray)] : List ByteArray) = some (x, j5, g5) := e5
    have hw : wrap64 (78 + m) = (((78 + m).toNat : Nat) : Int) := by rw [wrap_id (by omega) (by omega)]; omega
    obtain ⟨t, t1, t2⟩ := long_ev (78 + m).toNat (by omega) 97
    have s5 := four_size x hm
    refine ⟨t ++ x, by rw [ByteArray.size_append]; omega, Ev.bind hh ?_⟩
    simp only [e1, Option.bind_some, if_pos (show a.size + 2 ≤ 9223372036854775807 by omega), e2, if_pos (show (a ++ (⟨#[13, 10]⟩ : ByteArray)).size + b.size ≤ 9223372036854775807 by omega), e3, if_neg c0, if_pos c1, e4, hw]
    refine Ev.bind t2 ?_
    simp only [e5', Option.bind_some, if_pos (show t.size + x.size ≤ 9223372036854775807 by omega)]
    exact Ev.now _
  by_cases c2 : n = 2
  · refine ⟨(⟨#[97, 10, 98, 13, 13, 10]⟩ : ByteArray), by decide, Ev.bind hh ?_⟩
    refine ev_some (fun k => ?_)
    simp only [e1, Option.bind_some, if_pos (show a.size + 2 ≤ 9223372036854775807 by omega), e2, if_pos (show (a ++ (⟨#[13, 10]⟩ : ByteArray)).size + b.size ≤ 9223372036854775807 by omega), e3, if_neg c0, if_neg c1, if_pos c2]
  · refine ⟨(a ++ (⟨#[13, 10]⟩ : ByteArray)) ++ b, by rw [ByteArray.size_append]; omega, Ev.bind hh ?_⟩
    refine ev_some (fun k => ?_)
    simp only [e1, Option.bind_some, if_pos (show a.size + 2 ≤ 9223372036854775807 by omega), e2, if_pos (show (a ++ (⟨#[13, 10]⟩ : ByteArray)).size + b.size ≤ 9223372036854775807 by omega), e3, if_neg c0, if_neg c1, if_neg c2]
theorem take_half : taken (⟨#[104, 97, 108, 102]⟩ : ByteArray) = ((⟨#[]⟩ : ByteArray), (⟨#[104, 97, 108, 102]⟩ : ByteArray), 1) := by
  unfold taken longOrMore
  rw [if_neg (by decide), if_neg (by decide)]
theorem law_l0 (xs : List Int) (hx : xs.length ≤ 1048576) (ls : List ByteArray) (hl : ls.length ≤ 100) (hp : ∀ y ∈ ls, plain y) :
    ∀ (l : List ByteArray) (i : Nat), ls.drop i = l → i ≤ ls.length → Ev (fun k => laws_FnLines.l0 k xs ls (joinL l) (i : Int)) true
  | [], i, h, hi => by
    have e := drop_end h hi
    obtain ⟨t, t1, t2⟩ := DrawTakeLine_ev xs hx
    refine Ev.step (f := fun k => (spec_DrawTakeLine.f k xs).bind fun t207 => ((impl_TakeLine.f t207).bind fun bt208 => ((spec_TakeLine.f k t207).bind fun bt211 => (if bt208.1.toList = bt211.1.toList then (if bt208.2.1.toList = bt211.2.1.toList then (some (bt208.2.2 == bt211.2.2)) else (some false)) else (some false))))) (fun k => ?_) ?_
    · rw [laws_FnLines.l0, if_neg (by omega), impl_TakeLine_eq _ (by decide), take_half, Option.bind_some]
      have q1 : (joinL []).toList = ([] : List UInt8) := by rw [list_data]; rfl
      have q3 : (⟨#[104, 97, 108, 102]⟩ : ByteArray).toList = ([104, 97, 108, 102] : List UInt8) := by rw [list_data]
      simp only [if_pos q1, if_true, if_pos q3]
    · refine Ev.bind t2 ?_
      simp only [impl_TakeLine_eq t (by omega), Option.bind_some]
      refine Ev.bind (spec_TakeLine_ev t (by omega)) ?_
      simp only [if_true, beq_self_eq_true]
      exact Ev.now _
  | y :: l, i, h, hi => by
    have hlt := drop_lt h
    have hy := hp y (List.mem_of_mem_drop (i := i) (by rw [h]; exact List.mem_cons_self))
    have hs := join_size (y :: l) (fun z hz => hp z (List.mem_of_mem_drop (i := i) (by rw [h]; exact hz)))
    have hll : (y :: l).length ≤ 100 := by rw [← h, List.length_drop]; omega
    refine Ev.step (fun k => ?_) (law_l0 xs hx ls hl hp l (i + 1) (drop_tail h) (by omega))
    rw [laws_FnLines.l0, if_pos (by omega), impl_TakeLine_eq _ (by omega), take_join y l hy, Option.bind_some, if_pos rfl, if_pos (by omega), rdOf_drop _ h, if_pos rfl, wrap_succ i (by omega)]
def sixL : List ByteArray := [(⟨#[104, 101, 108, 111, 32, 97, 110, 110]⟩ : ByteArray), (⟨#[]⟩ : ByteArray), (⟨#[97, 32, 98, 32, 32, 99]⟩ : ByteArray), (⟨#[120]⟩ : ByteArray), (⟨#[46, 46]⟩ : ByteArray), (⟨#[110, 111]⟩ : ByteArray)]
theorem six_plain : ∀ y ∈ sixL, plain y := by
  intro y hy
  have : (sixL.all fun x => decide (x.size ≤ 16) && x.data.toList.all fun c => c != 13) = true := by decide
  have h := List.all_eq_true.mp this y hy
  rw [Bool.and_eq_true] at h
  refine ⟨of_decide_eq_true h.1, fun c hc => ?_⟩
  have := List.all_eq_true.mp h.2 c hc
  simpa using this
theorem FnLines : laws_FnLines.Pure := by
  intro xs ⟨_, _⟩
  refine Ev.rounds (g := fun k => laws_FnLines.f k xs) ?_
  unfold laws_FnLines.f laws_big.f
  by_cases h : (xs.length : Int) > 1048576
  · exact Ev.bind (ev_some (fun _ => by rw [decide_eq_true h])) (by simp only [if_true]; exact Ev.now _)
  · refine ev_bind1 (a := false) (by rw [decide_eq_false h]) ?_
    simp only [Bool.false_eq_true, if_false]
    refine ev_bind1 (a := sixL) rfl ?_
    obtain ⟨out, o1, o2, o3⟩ := DrawPlaces_ev xs (by omega)
    refine Ev.bind o3 ?_
    obtain ⟨p, q, rest, e⟩ : ∃ p q rest, out = p :: q :: rest := by
      cases out with
      | nil => simp at o1
      | cons p rest =>
        cases rest with
        | nil => simp at o1
        | cons q rest => exact ⟨p, q, rest, rfl⟩
    have hp := o2 p (by rw [e]; simp)
    have hq := o2 q (by rw [e]; simp)
    have ep : rd out 0 = p := by rw [e]; rfl
    have eq : rd out 1 = q := by rw [e]; rfl
    have p1 := Int.tmod_nonneg (6 : Int) hp.1
    have p2 := Int.tmod_lt_of_pos p (show (0 : Int) < 6 by decide)
    have q1 := Int.tmod_nonneg (6 : Int) hq.1
    have q2 := Int.tmod_lt_of_pos q (show (0 : Int) < 6 by decide)
    have hs : sixL.length = 6 := rfl
    simp only [ep, eq, if_pos (show 0 < (out.length : Int) by omega), if_pos (show 1 < (out.length : Int) by omega), if_pos p1, if_pos q1, if_pos (show Int.tmod p 6 ≤ (sixL.length : Int) by omega), if_pos (show Int.tmod q 6 ≤ (sixL.length : Int) by omega)]
    have hL : (sixL.drop (Int.tmod p 6).toNat ++ sixL.take (Int.tmod q 6).toNat).length ≤ 12 := by rw [List.length_append, List.length_drop, List.length_take]; omega
    have hP : ∀ y ∈ sixL.drop (Int.tmod p 6).toNat ++ sixL.take (Int.tmod q 6).toNat, plain y := by
      intro y hy
      rcases List.mem_append.mp hy with hy | hy
      · exact six_plain y (List.mem_of_mem_drop hy)
      · exact six_plain y (List.mem_of_mem_take hy)
    have hz : (sixL.drop (Int.tmod p 6).toNat).length + (sixL.take (Int.tmod q 6).toNat).length < 8796093022208 := by rw [List.length_append] at hL; omega
    simp only [Option.bind_some, if_pos hz]
    generalize sixL.drop (Int.tmod p 6).toNat ++ sixL.take (Int.tmod q 6).toNat = ls at hL hP
    have hj := lines_l0 ls (by omega) hP ls 0 (⟨#[]⟩ : ByteArray) rfl (by omega) (by decide)
    rw [empty_append] at hj
    exact Ev.bind (Ev.congr (fun k => rfl) hj) (law_l0 xs (by omega) ls (by omega) hP ls 0 rfl (by omega))

end Go.Proofs.Yteblgnkfdkoapaa.Pure
