/- Of a line that is too long its beginning goes, and what is behind it comes out. Conditions: none beyond the statement's own. -/
import Derived.Laws.BitsLemmas
import Derived.Test.YtdclbjfpkhljeabQFnLinesLongPure0
import Derived.Test.YtdclbjfpkhljeabBase
namespace Go.Proofs.Ytdclbjfpkhljeab.Pure
open Go.RowKit Go.Proofs.Ytdclbjfpkhljeab.QFnLinesLong Go.Proofs.YtdclbjfpkhljeabW.PrintWords Go.Proofs.YtdclbjfpkhljeabW.PrintLast Go.Proofs.YtdclbjfpkhljeabB Go.Proofs.YtdclbjfpkhljeabO
set_option linter.unusedVariables false
set_option linter.unusedSimpArgs false

theorem impl_in_eq (a b c : Int) : impl_in.f a b c = some (decide (b ≤ a ∧ a ≤ c)) := by
  unfold impl_in.f
  by_cases h : a ≥ b
  · rw [if_pos h]; have : b ≤ a := h; simp [this]
  · rw [if_neg h]; have : ¬ b ≤ a := h; simp [this]

def crlf : List UInt8 := [13, 10]
def longOrMore (s : ByteArray) : ByteArray × ByteArray × Int :=
  if (s.size : Int) > 80 then (if (s.size : Int) = 81 ∧ bt s 80 = 13 then ((⟨#[]⟩ : ByteArray), s, 1) else ((⟨#[]⟩ : ByteArray), s.extract 80 s.size, 2)) else ((⟨#[]⟩ : ByteArray), s, 1)
def taken (s : ByteArray) : ByteArray × ByteArray × Int :=
  if 0 ≤ Lib.index s.data.toList crlf ∧ Lib.index s.data.toList crlf ≤ 80 then (s.extract 0 (Lib.index s.data.toList crlf).toNat, s.extract ((Lib.index s.data.toList crlf).toNat + 2) s.size, 0) else longOrMore s

theorem occ_iff (s : ByteArray) (i : Nat) (h : i + 1 < s.size) : Lib.occAt s.data.toList crlf i = true ↔ (bt s (i : Int) = 13 ∧ bt s ((i + 1 : Nat) : Int) = 10) := by
  have h1 : i < s.data.toList.length := by rw [size_data]; omega
  have h2 : i + 1 < s.data.toList.length := by rw [size_data]; omega
  unfold Lib.occAt crlf
  rw [List.drop_eq_getElem_cons h1, List.drop_eq_getElem_cons h2, bt_data s i (by omega), bt_data s (i + 1) h]
  generalize s.data.toList[i] = x
  generalize s.data.toList[i + 1] = y
  simp only [List.isPrefixOf, Bool.and_true, Bool.and_eq_true, beq_iff_eq]
  constructor
  · rintro ⟨rfl, rfl⟩; exact ⟨rfl, rfl⟩
  · rintro ⟨h3, h4⟩
    exact ⟨(UInt8.toNat_inj.mp (show x.toNat = 13 by omega)).symm, (UInt8.toNat_inj.mp (show y.toNat = 10 by omega)).symm⟩
theorem occ_size (s : ByteArray) (i : Nat) (h : Lib.occAt s.data.toList crlf i = true) : i + 1 < s.size := by
  unfold Lib.occAt crlf at h
  rcases Nat.lt_or_ge (i + 1) s.size with h1 | h1
  · exact h1
  · exfalso
    have hl : (s.data.toList.drop i).length ≤ 1 := by rw [List.length_drop, size_data]; omega
    cases e : s.data.toList.drop i with
    | nil => rw [e] at h; simp [List.isPrefixOf] at h
    | cons x l =>
      cases l with
      | nil => rw [e] at h; simp [List.isPrefixOf] at h
      | cons y m => rw [e] at hl; simp at hl
/-- No line's end lies before i, and none begins at i up to 80: what is answered is that there is no line. -/
theorem taken_none (s : ByteArray) (h : ∀ j, j ≤ 80 → Lib.occAt s.data.toList crlf j = false) : taken s = longOrMore s := by
  unfold taken
  rcases Lib.index_spec s.data.toList crlf with ⟨h1, _⟩ | ⟨i, h1, _, h2, _⟩
  · rw [if_neg (by rw [h1]; omega)]
  · rw [if_neg]
    rintro ⟨_, h3⟩
    have := h i (by omega)
    rw [this] at h2
    exact absurd h2 (by simp)
theorem taken_some (s : ByteArray) (i : Nat) (hi : i ≤ 80) (h : Lib.occAt s.data.toList crlf i = true) (hno : ∀ j, j < i → Lib.occAt s.data.toList crlf j = false) :
    taken s = (s.extract 0 i, s.extract (i + 2) s.size, 0) := by
  have hs := occ_size s i h
  have e := Lib.index_first (s := s.data.toList) (sub := crlf) (i := i) (by rw [size_data]; omega) h hno
  unfold taken
  rw [e, if_pos (by omega), Int.toNat_natCast]


theorem impl_TakeLine_eq (s : ByteArray) (hs : s.size ≤ 1048576) : impl_TakeLine.f s = some (taken s) := by
  unfold impl_TakeLine.f strings_Index.f
  rw [if_pos (by omega), Option.bind_some]
  have ec : (⟨#[13, 10]⟩ : ByteArray).data.toList = crlf := rfl
  rw [ec, impl_in_eq, Option.bind_some]
  have hge := Lib.index_ge s.data.toList crlf
  by_cases h1 : 0 ≤ Lib.index s.data.toList crlf ∧ Lib.index s.data.toList crlf ≤ 80
  · have hr := Lib.index_room s.data.toList crlf h1.1
    rw [size_data] at hr
    have hr2 : Lib.index s.data.toList crlf + 2 ≤ s.size := hr
    have ew : wrap64 (Lib.index s.data.toList crlf + 2) = Lib.index s.data.toList crlf + 2 := wrap_id (by omega) (by omega)
    rw [decide_eq_true h1, if_pos rfl, if_pos h1.1, if_pos (by omega), ew, if_pos (by omega), if_pos (by omega)]
    unfold taken
    rw [if_pos h1, show (Lib.index s.data.toList crlf + 2).toNat = (Lib.index s.data.toList crlf).toNat + 2 by omega]
  · rw [decide_eq_false h1, if_neg (by decide)]
    unfold taken longOrMore
    rw [if_neg h1]
    by_cases h2 : Lib.index s.data.toList crlf < 0
    · rw [if_pos h2]
      by_cases h3 : (s.size : Int) ≤ 80
      · have h1 : ¬ (s.size : Int) > 80 := by omega
        simp only [if_pos h3, if_neg h1]
      · have h1 : (s.size : Int) > 80 := by omega
        have q1 : 80 < (s.size : Int) := h1
        have q2 : 80 ≤ (s.size : Int) := by omega
        by_cases h4 : (s.size : Int) = 81
        · by_cases h5 : bt s 80 = 13
          · have c : (s.size : Int) = 81 ∧ bt s 80 = 13 := ⟨h4, h5⟩
            simp only [if_pos h1, if_neg h3, if_pos q1, if_pos h4, if_pos h5, if_pos c]
          · have c : ¬ ((s.size : Int) = 81 ∧ bt s 80 = 13) := fun h => h5 h.2
            simp only [if_pos h1, if_neg h3, if_pos q1, if_pos q2, if_pos h4, if_neg h5, if_neg c]
        · have c : ¬ ((s.size : Int) = 81 ∧ bt s 80 = 13) := fun h => h4 h.1
          simp only [if_pos h1, if_neg h3, if_pos q2, if_neg h4, if_neg c]
    · have hr := Lib.index_room s.data.toList crlf (by omega)
      rw [size_data] at hr
      have hr2 : Lib.index s.data.toList crlf + 2 ≤ s.size := hr
      rw [if_neg h2, if_pos (by omega), if_pos (by omega), if_neg (fun h => by have := h.1; omega)]

theorem and_range (x : Int) : 0 ≤ Go.bits .and .i64 x 255 ∧ Go.bits .and .i64 x 255 ≤ 255 := by
  have hm : ((BitVec.ofInt 64 x) &&& (BitVec.ofInt 64 255)).toNat ≤ 255 := by
    rw [BitVec.toNat_and]
    exact Nat.and_le_right
  have e : Go.bits .and .i64 x 255 = IntKind.i64.wrap ((((BitVec.ofInt 64 x) &&& (BitVec.ofInt 64 255)).toNat : Nat) : Int) := rfl
  rw [e, IntKind.wrap_i64]
  omega
theorem l01New_ev (xs : List Int) (hx : xs.length ≤ 1048576) : ∃ h : Int, Ev (fun k => spec_l01New.f k xs) (xs, 0, h) := by
  suffices H : ∀ (l : List Int) (i : Nat) (y : Int), xs.drop i = l → i ≤ xs.length → ∃ h : Int, Ev (fun k => spec_l01New.l0 k xs y i) (xs, 0, h) by
    obtain ⟨h, hh⟩ := H xs 0 (wrap64 (76001 + (xs.length : Int))) rfl (by omega)
    exact ⟨h, Ev.congr (fun k => rfl) hh⟩
  intro l
  induction l with
  | nil =>
    intro i y hd hi
    have e := drop_end hd hi
    exact ⟨y, Ev.step (fun k => by rw [spec_l01New.l0, if_neg (by omega)]) (Ev.now _)⟩
  | cons x l ih =>
    intro i y hd hi
    have hlt := drop_lt hd
    by_cases h4 : (i : Int) < 4000
    · obtain ⟨h, hh⟩ := ih (i + 1) (Go.bits .and .i64 (wrap64 ((wrap64 ((wrap64 (y * 131)) + (wrap64 (rd xs i)))) + 7)) 1073741823) (drop_tail hd) (by omega)
      refine ⟨h, Ev.step (fun k => ?_) hh⟩
      rw [spec_l01New.l0, if_pos (by omega), if_pos h4, if_pos (by omega), wrap_succ i (by omega)]
    · exact ⟨y, Ev.step (fun k => by rw [spec_l01New.l0, if_pos (by omega), if_neg h4]) (Ev.now _)⟩
theorem l01Byte_eq (xs : List Int) (hx : xs.length ≤ 1048576) (i h : Int) (hi : 0 ≤ i) : ∃ x j g : Int, spec_l01Byte.f xs i h = some (x, j, g) ∧ 0 ≤ x ∧ x ≤ 255 ∧ 0 ≤ j := by
  unfold spec_l01Byte.f
  by_cases c : i < (xs.length : Int)
  · rw [if_pos c, if_pos hi]
    exact ⟨_, _, _, rfl, (and_range _).1, (and_range _).2, by rw [wrap_id (by omega) (by omega)]; omega⟩
  · rw [if_neg c]
    exact ⟨_, _, _, rfl, (and_range _).1, (and_range _).2, hi⟩
theorem l01Below_eq (xs : List Int) (hx : xs.length ≤ 1048576) (i h : Int) (hi : 0 ≤ i) (n : Int) (hn : 0 < n) : ∃ x j g : Int, spec_l01Below.f xs i h n = some (x, j, g) ∧ 0 ≤ x ∧ x < n ∧ 0 ≤ j := by
  unfold spec_l01Below.f
  rw [if_neg (by omega)]
  by_cases c : n ≤ 256
  · rw [if_pos c]
    obtain ⟨x, j, g, e, h1, h2, h3⟩ := l01Byte_eq xs hx i h hi
    rw [e, Option.bind_some, if_neg (by omega)]
    exact ⟨_, _, _, rfl, Int.tmod_nonneg _ h1, Int.tmod_lt_of_pos _ hn, h3⟩
  · rw [if_neg c]
    obtain ⟨x1, j1, g1, e1, a1, b1, c1⟩ := l01Byte_eq xs hx i h hi
    obtain ⟨x2, j2, g2, e2, a2, b2, c2⟩ := l01Byte_eq xs hx j1 g1 c1
    obtain ⟨x3, j3, g3, e3, a3, b3, c3⟩ := l01Byte_eq xs hx j2 g2 c2
    obtain ⟨x4, j4, g4, e4, a4, b4, c4⟩ := l01Byte_eq xs hx j3 g3 c3
    simp only [e1, e2, e3, e4, Option.bind_some]
    rw [if_neg (by omega)]
    have w1 : wrap64 (x1 * 16777216) = x1 * 16777216 := wrap_id (by omega) (by omega)
    have w2 : wrap64 (x2 * 65536) = x2 * 65536 := wrap_id (by omega) (by omega)
    have w3 : wrap64 (x3 * 256) = x3 * 256 := wrap_id (by omega) (by omega)
    rw [w1, w2, w3]
    have w4 : wrap64 (x1 * 16777216 + x2 * 65536) = x1 * 16777216 + x2 * 65536 := wrap_id (by omega) (by omega)
    rw [w4]
    have w5 : wrap64 (x1 * 16777216 + x2 * 65536 + x3 * 256) = x1 * 16777216 + x2 * 65536 + x3 * 256 := wrap_id (by omega) (by omega)
    rw [w5]
    have w6 : wrap64 (x1 * 16777216 + x2 * 65536 + x3 * 256 + x4) = x1 * 16777216 + x2 * 65536 + x3 * 256 + x4 := wrap_id (by omega) (by omega)
    rw [w6]
    exact ⟨_, _, _, rfl, Int.tmod_nonneg _ (by omega), Int.tmod_lt_of_pos _ hn, c4⟩

theorem DrawPlaces_l0 (xs : List Int) (hx : xs.length ≤ 1048576) : ∀ (n i : Nat) (acc : List Int) (j g : Int), i + n = 12 → acc.length = i → (∀ y ∈ acc, 0 ≤ y ∧ y < 10000) → 0 ≤ j →
    ∃ out : List Int, out.length = 12 ∧ (∀ y ∈ out, 0 ≤ y ∧ y < 10000) ∧ Ev (fun k => spec_DrawPlaces.l0 k acc i xs j g) out
  | 0, i, acc, j, g, hn, ha, hy, hj => ⟨acc, by omega, hy, Ev.step (fun k => by rw [spec_DrawPlaces.l0, if_neg (by omega)]) (Ev.now _)⟩
  | n + 1, i, acc, j, g, hn, ha, hy, hj => by
    obtain ⟨x, j2, g2, e, h1, h2, h3⟩ := l01Below_eq xs hx j g hj 10000 (by omega)
    obtain ⟨out, o1, o2, o3⟩ := DrawPlaces_l0 xs hx n (i + 1) (acc ++ [x]) j2 g2 (by omega) (by simp [ha]) (fun y hm => by
      rcases List.mem_append.mp hm with hm | hm
      · exact hy y hm
      · have := List.mem_singleton.mp hm; subst this; exact ⟨h1, h2⟩) h3
    refine ⟨out, o1, o2, Ev.step (fun k => ?_) o3⟩
    rw [spec_DrawPlaces.l0, if_pos (by omega), e, Option.bind_some, if_pos (by omega), wrap_succ i (by omega)]
theorem DrawPlaces_ev (xs : List Int) (hx : xs.length ≤ 1048576) : ∃ out : List Int, out.length = 12 ∧ (∀ y ∈ out, 0 ≤ y ∧ y < 10000) ∧ Ev (fun k => spec_DrawPlaces.f k xs) out := by
  obtain ⟨h, hh⟩ := l01New_ev xs hx
  obtain ⟨x, j, g, e, _, _, hj⟩ := l01Byte_eq xs hx 0 h (by omega)
  obtain ⟨out, o1, o2, o3⟩ := DrawPlaces_l0 xs hx 12 0 [] j g rfl rfl (by simp) hj
  exact ⟨out, o1, o2, Ev.congr (fun k => rfl) (Ev.bind hh (ev_bind1 e (Ev.congr (fun k => rfl) o3)))⟩

def xs_ (q : Nat) : ByteArray := ⟨(List.replicate q 120).toArray⟩
def tail_ : ByteArray := (⟨#[13, 10, 110, 101, 120, 116, 13, 10]⟩ : ByteArray)
def line_ (q : Nat) : ByteArray := xs_ q ++ tail_
theorem xs_size (q : Nat) : (xs_ q).size = q := by show (List.replicate q (120 : UInt8)).toArray.size = q; simp
theorem tail_size : tail_.size = 8 := rfl
theorem line_size (q : Nat) : (line_ q).size = q + 8 := by unfold line_; rw [ByteArray.size_append, xs_size, tail_size]
theorem xs_data (q : Nat) : (xs_ q).data.toList = List.replicate q 120 := rfl
theorem line_data (q : Nat) : (line_ q).data.toList = List.replicate q 120 ++ [13, 10, 110, 101, 120, 116, 13, 10] := by unfold line_; rw [data_append]; rfl
theorem xs_succ (q : Nat) : xs_ q ++ (⟨#[120]⟩ : ByteArray) = xs_ (q + 1) := bytes_ext (by rw [data_append, xs_data, xs_data, List.replicate_succ'])
theorem occ_line (q : Nat) : Lib.occAt (line_ q).data.toList crlf q = true := by
  unfold Lib.occAt
  rw [line_data, List.drop_append_of_le_length (by simp), List.drop_of_length_le (by simp)]
  rfl
theorem no_line (q j : Nat) (h : j < q) : Lib.occAt (line_ q).data.toList crlf j = false := by
  unfold Lib.occAt
  rw [line_data, List.drop_append_of_le_length (by simp; omega), List.drop_replicate, show q - j = (q - j - 1) + 1 by omega, List.replicate_succ]
  rfl
theorem take_short (q : Nat) (h : q ≤ 80) : taken (line_ q) = (xs_ q, (⟨#[110, 101, 120, 116, 13, 10]⟩ : ByteArray), 0) := by
  rw [taken_some (line_ q) q h (occ_line q) (fun j hj => no_line q j hj)]
  have e1 : (line_ q).extract 0 q = xs_ q := bytes_ext (by rw [extract_data, line_data, xs_data]; simp)
  have e2 : (line_ q).extract (q + 2) (line_ q).size = (⟨#[110, 101, 120, 116, 13, 10]⟩ : ByteArray) := bytes_ext (by
    rw [extract_data, line_data, line_size, List.drop_append, List.drop_of_length_le (by simp), List.length_replicate, show q + 2 - q = 2 by omega, show q + 8 - (q + 2) = 6 by omega]
    rfl)
  rw [e1, e2]
theorem take_long (q : Nat) (h : 80 < q) : taken (line_ q) = ((⟨#[]⟩ : ByteArray), line_ (q - 80), 2) := by
  rw [taken_none (line_ q) (fun j hj => no_line q j (by omega))]
  unfold longOrMore
  have hs := line_size q
  rw [if_pos (by omega), if_neg (by omega)]
  have e1 : (line_ q).extract 80 (line_ q).size = line_ (q - 80) := bytes_ext (by
    rw [extract_data, line_data, line_data, hs, List.drop_append_of_le_length (by simp; omega), List.drop_replicate, List.take_of_length_le (by simp; omega)])
  rw [e1]
theorem take_next : taken (⟨#[110, 101, 120, 116, 13, 10]⟩ : ByteArray) = ((⟨#[110, 101, 120, 116]⟩ : ByteArray), (⟨#[]⟩ : ByteArray), 0) := by
  rw [taken_some _ 4 (by omega) (by rfl) (fun j hj => by
    rcases j with _ | _ | _ | _ | j
    · rfl
    · rfl
    · rfl
    · rfl
    · omega)]
  rfl
theorem xs_ne (q : Nat) : ¬ (xs_ q).toList = ([110, 101, 120, 116] : List UInt8) := by
  rw [list_data, xs_data]
  intro e
  cases q with
  | zero => simp at e
  | succ q => rw [List.replicate_succ] at e; injection e with e _; exact absurd e (by decide)
theorem end_ev (seen i : Nat) (h1 : 0 < seen) (h2 : i < 9) : Ev (fun k => laws_FnLinesLong.l1 k (⟨#[110, 101, 120, 116, 13, 10]⟩ : ByteArray) seen i) true := by
  refine Ev.step (fun k => ?_) (Ev.now _)
  rw [laws_FnLinesLong.l1, if_pos (by omega), impl_TakeLine_eq _ (by decide), take_next, Option.bind_some, if_neg (by decide), if_pos rfl, if_pos (by rw [list_data]), if_pos (by omega), list_data]
  rfl
theorem long_ev : ∀ (m q seen i : Nat), q ≤ 80 * m + 80 → i + m + 2 ≤ 9 → q ≤ 300 → seen ≤ i → i ≤ 100 → Ev (fun k => laws_FnLinesLong.l1 k (line_ q) seen i) true
  | m, q, seen, i, hq, hi, hq3, hs, hi2 => by
    have hz := line_size q
    by_cases h : q ≤ 80
    · refine Ev.step (fun k => ?_) (end_ev (seen + 1) (i + 1) (by omega) (by omega))
      rw [laws_FnLinesLong.l1, if_pos (by omega), impl_TakeLine_eq _ (by omega), take_short q h, Option.bind_some, if_neg (show ¬ (0 : Int) = 1 by decide), if_pos (show (0 : Int) = 0 from rfl), if_neg (xs_ne q), wrap_succ seen (by omega), wrap_succ i (by omega)]
    · cases m with
      | zero => omega
      | succ m =>
        refine Ev.step (fun k => ?_) (long_ev m (q - 80) (seen + 1) (i + 1) (by omega) (by omega) (by omega) (by omega) (by omega))
        rw [laws_FnLinesLong.l1, if_pos (by omega), impl_TakeLine_eq _ (by omega), take_long q (by omega), Option.bind_some, if_neg (show ¬ (2 : Int) = 1 by decide), if_neg (show ¬ (2 : Int) = 0 by decide), wrap_succ seen (by omega), wrap_succ i (by omega)]
theorem build_ev (n : Nat) (hn : n ≤ 280) : ∀ (m i : Nat), i + m = n → Ev (fun k => laws_FnLinesLong.l0 k n (xs_ i) i) true
  | 0, i, h => by
    have hz := xs_size i
    refine Ev.step (fun k => ?_) (long_ev 3 i 0 0 (by omega) (by omega) (by omega) (by omega) (by omega))
    rw [laws_FnLinesLong.l0, if_neg (by omega), if_pos (by omega)]
    rfl
  | m + 1, i, h => by
    have hz := xs_size i
    refine Ev.step (fun k => ?_) (build_ev n hn m (i + 1) (by omega))
    rw [laws_FnLinesLong.l0, if_pos (by omega), if_pos (by omega), xs_succ, wrap_succ i (by omega)]
theorem FnLinesLong : laws_FnLinesLong.Pure := by
  intro xs ⟨_, _⟩
  refine Ev.rounds (g := fun k => laws_FnLinesLong.f k xs) ?_
  unfold laws_FnLinesLong.f laws_big.f
  by_cases h : (xs.length : Int) > 1048576
  · exact Ev.bind (ev_some (fun _ => by rw [decide_eq_true h])) (by simp only [if_true]; exact Ev.now _)
  · refine ev_bind1 (a := false) (by rw [decide_eq_false h]) ?_
    simp only [Bool.false_eq_true, if_false]
    obtain ⟨out, o1, o2, o3⟩ := DrawPlaces_ev xs (by omega)
    refine Ev.bind o3 ?_
    simp only [if_pos (show 0 < (out.length : Int) by omega)]
    obtain ⟨p, rest, e⟩ : ∃ p rest, out = p :: rest := by
      cases out with
      | nil => simp at o1
      | cons p rest => exact ⟨p, rest, rfl⟩
    have hp := o2 p (by rw [e]; simp)
    have er : rd out 0 = p := by rw [e]; rfl
    obtain ⟨n, hn⟩ : ∃ n : Nat, wrap64 (81 + Int.tmod p 200) = (n : Int) ∧ n ≤ 280 := by
      have h1 := Int.tmod_nonneg (200 : Int) hp.1
      have h2 := Int.tmod_lt_of_pos p (show (0 : Int) < 200 by decide)
      refine ⟨(81 + Int.tmod p 200).toNat, ?_, by omega⟩
      rw [wrap_id (by omega) (by omega)]
      omega
    simp only [er, hn.1]
    exact Ev.congr (fun k => rfl) (build_ev n hn.2 n 0 (by omega))

end Go.Proofs.Ytdclbjfpkhljeab.Pure
