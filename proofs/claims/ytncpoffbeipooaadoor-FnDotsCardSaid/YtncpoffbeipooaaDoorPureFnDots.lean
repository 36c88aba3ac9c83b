/- The lines of a drawn text come back from its dots; no line of it ends it. Conditions: none beyond the statement's own. -/
import Derived.Laws.BitsLemmas
import Derived.Test.YtncpoffbeipooaaDoorQFnDotsPure0
import Derived.Test.YtncpoffbeipooaaDoorBase
namespace Go.Proofs.YtncpoffbeipooaaDoor.Pure
open Go.RowKit Go.Proofs.YtncpoffbeipooaaDoor.QFnDots Go.Proofs.YtncpoffbeipooaaDoorW.PrintWords Go.Proofs.YtncpoffbeipooaaDoorW.PrintLast Go.Proofs.YtncpoffbeipooaaDoorB Go.Proofs.YtncpoffbeipooaaDoorO
set_option linter.unusedVariables false
set_option linter.unusedSimpArgs false

theorem and_range (x : Int) : 0 ≤ Go.bits .and .i64 x 255 ∧ Go.bits .and .i64 x 255 ≤ 255 := by
  have hm : ((BitVec.ofInt 64 x) &&& (BitVec.ofInt 64 255)).toNat ≤ 255 := by
    rw [BitVec.toNat_and]
    exact Nat.and_le_right
  have e : Go.bits .and .i64 x 255 = IntKind.i64.wrap ((((BitVec.ofInt 64 x) &&& (BitVec.ofInt 64 255)).toNat : Nat) : Int) := rfl
  rw [e, IntKind.wrap_i64]
  omega
theorem l01New_ev (xs : List Int) (hx : xs.length ≤ 1048576) : ∃ h : Int, Ev (fun k => spec_l01New.f k xs) (xs, 0, h) := by
  suffices H : ∀ (l : List Int) (i : Nat) (y : Int), xs.drop i = l → i ≤ xs.length → ∃ h : Int, Ev (fun k => spec_l01New.l0 k xs y i) (xs, 0, h) by
    obtain ⟨h, hh⟩ := H xs 0 (wrap64 (76001 + (xs.length : Int))) rfl (by omega)
    exact ⟨h, Ev.congr (fun k => rfl) hh⟩
  intro l
  induction l with
  | nil =>
    intro i y hd hi
    have e := drop_end hd hi
    exact ⟨y, Ev.step (fun k => by rw [spec_l01New.l0, if_neg (by omega)]) (Ev.now _)⟩
  | cons x l ih =>
    intro i y hd hi
    have hlt := drop_lt hd
    by_cases h4 : (i : Int) < 4000
    · obtain ⟨h, hh⟩ := ih (i + 1) (Go.bits .and .i64 (wrap64 ((wrap64 ((wrap64 (y * 131)) + (wrap64 (rd xs i)))) + 7)) 1073741823) (drop_tail hd) (by omega)
      refine ⟨h, Ev.step (fun k => ?_) hh⟩
      rw [spec_l01New.l0, if_pos (by omega), if_pos h4, if_pos (by omega), wrap_succ i (by omega)]
    · exact ⟨y, Ev.step (fun k => by rw [spec_l01New.l0, if_pos (by omega), if_neg h4]) (Ev.now _)⟩
theorem l01Byte_eq (xs : List Int) (hx : xs.length ≤ 1048576) (i h : Int) (hi : 0 ≤ i) : ∃ x j g : Int, spec_l01Byte.f xs i h = some (x, j, g) ∧ 0 ≤ x ∧ x ≤ 255 ∧ 0 ≤ j := by
  unfold spec_l01Byte.f
  by_cases c : i < (xs.length : Int)
  · rw [if_pos c, if_pos hi]
    exact ⟨_, _, _, rfl, (and_range _).1, (and_range _).2, by rw [wrap_id (by omega) (by omega)]; omega⟩
  · rw [if_neg c]
    exact ⟨_, _, _, rfl, (and_range _).1, (and_range _).2, hi⟩
theorem l01Below_eq (xs : List Int) (hx : xs.length ≤ 1048576) (i h : Int) (hi : 0 ≤ i) (n : Int) (hn : 0 < n) : ∃ x j g : Int, spec_l01Below.f xs i h n = some (x, j, g) ∧ 0 ≤ x ∧ x < n ∧ 0 ≤ j := by
  unfold spec_l01Below.f
  rw [if_neg (by omega)]
  by_cases c : n ≤ 256
  · rw [if_pos c]
    obtain ⟨x, j, g, e, h1, h2, h3⟩ := l01Byte_eq xs hx i h hi
    rw [e, Option.bind_some, if_neg (by omega)]
    exact ⟨_, _, _, rfl, Int.tmod_nonneg _ h1, Int.tmod_lt_of_pos _ hn, h3⟩
  · rw [if_neg c]
    obtain ⟨x1, j1, g1, e1, a1, b1, c1⟩ := l01Byte_eq xs hx i h hi
    obtain ⟨x2, j2, g2, e2, a2, b2, c2⟩ := l01Byte_eq xs hx j1 g1 c1
    obtain ⟨x3, j3, g3, e3, a3, b3, c3⟩ := l01Byte_eq xs hx j2 g2 c2
    obtain ⟨x4, j4, g4, e4, a4, b4, c4⟩ := l01Byte_eq xs hx j3 g3 c3
    simp only [e1, e2, e3, e4, Option.bind_some]
    rw [if_neg (by omega)]
    have w1 : wrap64 (x1 * 16777216) = x1 * 16777216 := wrap_id (by omega) (by omega)
    have w2 : wrap64 (x2 * 65536) = x2 * 65536 := wrap_id (by omega) (by omega)
    have w3 : wrap64 (x3 * 256) = x3 * 256 := wrap_id (by omega) (by omega)
    rw [w1, w2, w3]
    have w4 : wrap64 (x1 * 16777216 + x2 * 65536) = x1 * 16777216 + x2 * 65536 := wrap_id (by omega) (by omega)
    rw [w4]
    have w5 : wrap64 (x1 * 16777216 + x2 * 65536 + x3 * 256) = x1 * 16777216 + x2 * 65536 + x3 * 256 := wrap_id (by omega) (by omega)
    rw [w5]
    have w6 : wrap64 (x1 * 16777216 + x2 * 65536 + x3 * 256 + x4) = x1 * 16777216 + x2 * 65536 + x3 * 256 + x4 := wrap_id (by omega) (by omega)
    rw [w6]
    exact ⟨_, _, _, rfl, Int.tmod_nonneg _ (by omega), Int.tmod_lt_of_pos _ hn, c4⟩

def crlf : List UInt8 := [13, 10]
def longOrMore (s : ByteArray) : ByteArray × ByteArray × Int :=
  if (s.size : Int) > 80 then (if (s.size : Int) = 81 ∧ bt s 80 = 13 then ((⟨#[]⟩ : ByteArray), s, 1) else ((⟨#[]⟩ : ByteArray), s.extract 80 s.size, 2)) else ((⟨#[]⟩ : ByteArray), s, 1)
def taken (s : ByteArray) : ByteArray × ByteArray × Int :=
  if 0 ≤ Lib.index s.data.toList crlf ∧ Lib.index s.data.toList crlf ≤ 80 then (s.extract 0 (Lib.index s.data.toList crlf).toNat, s.extract ((Lib.index s.data.toList crlf).toNat + 2) s.size, 0) else longOrMore s

theorem occ_iff (s : ByteArray) (i : Nat) (h : i + 1 < s.size) : Lib.occAt s.data.toList crlf i = true ↔ (bt s (i : Int) = 13 ∧ bt s ((i + 1 : Nat) : Int) = 10) := by
  have h1 : i < s.data.toList.length := by rw [size_data]; omega
  have h2 : i + 1 < s.data.toList.length := by rw [size_data]; omega
  unfold Lib.occAt crlf
  rw [List.drop_eq_getElem_cons h1, List.drop_eq_getElem_cons h2, bt_data s i (by omega), bt_data s (i + 1) h]
  generalize s.data.toList[i] = x
  generalize s.data.toList[i + 1] = y
  simp only [List.isPrefixOf, Bool.and_true, Bool.and_eq_true, beq_iff_eq]
  constructor
  · rintro ⟨rfl, rfl⟩; exact ⟨rfl, rfl⟩
  · rintro ⟨h3, h4⟩
    exact ⟨(UInt8.toNat_inj.mp (show x.toNat = 13 by omega)).symm, (UInt8.toNat_inj.mp (show y.toNat = 10 by omega)).symm⟩
theorem occ_size (s : ByteArray) (i : Nat) (h : Lib.occAt s.data.toList crlf i = true) : i + 1 < s.size := by
  unfold Lib.occAt crlf at h
  rcases Nat.lt_or_ge (i + 1) s.size with h1 | h1
  · exact h1
  · exfalso
    have hl : (s.data.toList.drop i).length ≤ 1 := by rw [List.length_drop, size_data]; omega
    cases e : s.data.toList.drop i with
    | nil => rw [e] at h; simp [List.isPrefixOf] at h
    | cons x l =>
      cases l with
      | nil => rw [e] at h; simp [List.isPrefixOf] at h
      | cons y m => rw [e] at hl; simp at hl
/-- No line's end lies before i, and none begins at i up to 80: what is answered is that there is no line. -/
theorem taken_none (s : ByteArray) (h : ∀ j, j ≤ 80 → Lib.occAt s.data.toList crlf j = false) : taken s = longOrMore s := by
  unfold taken
  rcases Lib.index_spec s.data.toList crlf with ⟨h1, _⟩ | ⟨i, h1, _, h2, _⟩
  · rw [if_neg (by rw [h1]; omega)]
  · rw [if_neg]
    rintro ⟨_, h3⟩
    have := h i (by omega)
    rw [this] at h2
    exact absurd h2 (by simp)
theorem taken_some (s : ByteArray) (i : Nat) (hi : i ≤ 80) (h : Lib.occAt s.data.toList crlf i = true) (hno : ∀ j, j < i → Lib.occAt s.data.toList crlf j = false) :
    taken s = (s.extract 0 i, s.extract (i + 2) s.size, 0) := by
  have hs := occ_size s i h
  have e := Lib.index_first (s := s.data.toList) (sub := crlf) (i := i) (by rw [size_data]; omega) h hno
  unfold taken
  rw [e, if_pos (by omega), Int.toNat_natCast]


theorem spec_TakeLine_end (s : ByteArray) (hs : s.size ≤ 1048576) (i : Int) (k : Nat) : spec_TakeLine.j1 (k + 1) s i false = some (longOrMore s) := by
  rw [spec_TakeLine.j1, if_neg (by decide)]
  unfold longOrMore
  by_cases h1 : (s.size : Int) > 80
  · have q1 : 80 < (s.size : Int) := h1
    have q2 : 80 ≤ (s.size : Int) := by omega
    by_cases h2 : (s.size : Int) = 81
    · by_cases h3 : bt s 80 = 13
      · have c : (s.size : Int) = 81 ∧ bt s 80 = 13 := ⟨h2, h3⟩
        simp only [if_pos h1, if_pos q1, if_pos h2, if_pos h3, if_pos c]
      · have c : ¬ ((s.size : Int) = 81 ∧ bt s 80 = 13) := fun h => h3 h.2
        simp only [if_pos h1, if_pos q1, if_pos q2, if_pos h2, if_neg h3, if_neg c]
    · have c : ¬ ((s.size : Int) = 81 ∧ bt s 80 = 13) := fun h => h2 h.1
      simp only [if_pos h1, if_pos q2, if_neg h2, if_neg c]
  · simp only [if_neg h1]

theorem spec_TakeLine_l0 (s : ByteArray) (hs : s.size ≤ 1048576) :
    ∀ (n i : Nat), i + n = 81 → (∀ j, j < i → Lib.occAt s.data.toList crlf j = false) → Ev (fun k => spec_TakeLine.l0 k s i) (taken s)
  | 0, i, hn, hno => by
    rw [taken_none s (fun j hj => hno j (by omega))]
    refine Ev.step (f := fun k => spec_TakeLine.j1 k s i false) (fun k => ?_) ?_
    · rw [spec_TakeLine.l0]
      by_cases h : wrap64 ((i : Int) + 1) < (s.size : Int)
      · rw [if_pos h, decide_eq_false (by omega)]
      · rw [if_neg h]
    · exact Ev.step (fun k => spec_TakeLine_end s hs i k) (Ev.now _)
  | n + 1, i, hn, hno => by
    have ew : wrap64 ((i : Int) + 1) = ((i + 1 : Nat) : Int) := wrap_succ i (by omega)
    by_cases h : i + 1 < s.size
    · have ew2 : wrap64 ((i : Int) + 2) = ((i + 2 : Nat) : Int) := wrap_nat _ _ (by omega) (by omega)
      have hstep : ∀ k, spec_TakeLine.l0 (k + 1) s i = spec_TakeLine.j1 k s i true := fun k => by
        rw [spec_TakeLine.l0, ew, if_pos (by omega), decide_eq_true (by omega)]
      refine Ev.step hstep ?_
      by_cases h1 : Lib.occAt s.data.toList crlf i = true
      · obtain ⟨b1, b2⟩ := (occ_iff s i h).1 h1
        rw [taken_some s i (by omega) h1 hno]
        refine Ev.step (fun k => ?_) (Ev.now _)
        rw [spec_TakeLine.j1, if_pos rfl, if_pos (by omega), if_pos (by omega), if_pos b1, ew, if_pos (by omega), if_pos (by omega), if_pos b2, if_pos (by omega), ew2, if_pos (by omega), if_pos (by omega), Int.toNat_natCast, Int.toNat_natCast]
      · have h2 : ¬ (bt s (i : Int) = 13 ∧ bt s ((i + 1 : Nat) : Int) = 10) := fun hh => h1 ((occ_iff s i h).2 hh)
        have ih := spec_TakeLine_l0 s hs n (i + 1) (by omega) (fun j hj => by
          rcases Nat.lt_or_ge j i with hj1 | hj1
          · exact hno j hj1
          · have : j = i := by omega
            subst this
            exact Bool.eq_false_iff.mpr h1)
        refine Ev.step (fun k => ?_) ih
        rw [spec_TakeLine.j1, if_pos rfl, if_pos (by omega), if_pos (by omega), ew]
        by_cases b1 : bt s (i : Int) = 13
        · rw [if_pos b1, if_pos (by omega), if_pos (by omega), if_neg (fun b2 => h2 ⟨b1, b2⟩)]
        · rw [if_neg b1]
    · rw [taken_none s (fun j hj => by
        rcases Nat.lt_or_ge j i with hj1 | hj1
        · exact hno j hj1
        · refine Bool.eq_false_iff.mpr (fun ho => ?_)
          have := occ_size s j ho
          omega)]
      refine Ev.step (f := fun k => spec_TakeLine.j1 k s i false) (fun k => ?_) ?_
      · rw [spec_TakeLine.l0, ew, if_neg (by omega)]
      · exact Ev.step (fun k => spec_TakeLine_end s hs i k) (Ev.now _)
theorem spec_TakeLine_ev (s : ByteArray) (hs : s.size ≤ 1048576) : Ev (fun k => spec_TakeLine.f k s) (taken s) :=
  Ev.congr (fun k => rfl) (spec_TakeLine_l0 s hs 81 0 rfl (fun j hj => by omega))

def mk (l : List UInt8) : ByteArray := ⟨l.toArray⟩
theorem mk_data (l : List UInt8) : (mk l).data.toList = l := rfl
theorem mk_of (s : ByteArray) : mk s.data.toList = s := bytes_ext rfl
theorem mk_size (l : List UInt8) : (mk l).size = l.length := by rw [← size_data]; rfl
def consHead (cur : List UInt8) : List (List UInt8) → List (List UInt8)
  | [] => [cur]
  | h :: t => (cur ++ h) :: t
def splits : List UInt8 → List (List UInt8)
  | [] => [[]]
  | c :: l => if c = 10 then [] :: splits l else consHead [c] (splits l)
def trim : List (List UInt8) → List (List UInt8)
  | [] => []
  | [x] => if x = [] then [] else [x]
  | x :: y :: l => x :: trim (y :: l)
theorem splits_ne : ∀ l, splits l ≠ []
  | [] => by simp [splits]
  | c :: l => by
    unfold splits
    split
    · simp
    · cases splits l <;> simp [consHead]
theorem consHead_nil {xs : List (List UInt8)} (h : xs ≠ []) : consHead [] xs = xs := by
  cases xs with
  | nil => exact absurd rfl h
  | cons x l => simp [consHead]
theorem consHead_two (a b : List UInt8) {xs : List (List UInt8)} : consHead a (consHead b xs) = consHead (a ++ b) xs := by
  cases xs <;> simp [consHead]
theorem trim_cons (x : List UInt8) {xs : List (List UInt8)} (h : xs ≠ []) : trim (x :: xs) = x :: trim xs := by
  cases xs with
  | nil => exact absurd rfl h
  | cons y l => rfl
theorem splitK_splits : ∀ l : List UInt8, Lib.splitK [10] 0 (Lib.count l [10]) l = splits l
  | [] => rfl
  | c :: l => by
    have ih := splitK_splits l
    by_cases h : c = 10
    · subst h
      have e0 : Lib.index (10 :: l) [10] = 0 := by rw [Lib.index_one]; simp [Lib.indexByte]
      rw [Lib.count_cons_eq, show 1 + Lib.count l [10] = Lib.count l [10] + 1 by omega, Lib.splitK, e0, if_neg (by decide)]
      simp only [splits, if_true]
      show (10 :: l).take 0 :: Lib.splitK [10] 0 (Lib.count l [10]) l = _
      rw [ih]; rfl
    · rw [Lib.count_cons_ne c 10 l h]
      unfold splits
      rw [if_neg h, ← ih]
      cases e : Lib.count l [10] with
      | zero => rfl
      | succ m =>
        simp only [Lib.splitK]
        have hi : Lib.index (c :: l) [10] = if Lib.index l [10] = -1 then -1 else Lib.index l [10] + 1 := by
          rw [Lib.index_one, Lib.index_one]; simp [Lib.indexByte, h]
        have hge := Lib.index_ge l [10]
        by_cases h1 : Lib.index l [10] = -1
        · rw [hi, if_pos h1, h1]; simp [consHead]
        · have h2 : Lib.index (c :: l) [10] = Lib.index l [10] + 1 := by rw [hi, if_neg h1]
          have h3 : ¬ (Lib.index (c :: l) [10] == -1) = true := by rw [beq_iff_eq]; omega
          have h4 : ¬ (Lib.index l [10] == -1) = true := by rw [beq_iff_eq]; omega
          have h5 : (Lib.index (c :: l) [10]).toNat = (Lib.index l [10]).toNat + 1 := by omega
          rw [if_neg h3, if_neg h4, h5]
          simp [consHead, List.take_succ_cons, List.drop_succ_cons]
theorem map_mk (xs : List ByteArray) : (xs.map (·.data.toList)).map mk = xs := by
  rw [List.map_map]
  conv => rhs; rw [← List.map_id xs]
  exact List.map_congr_left (fun x _ => mk_of x)
theorem splitB_splits (s : ByteArray) : Lib.splitB (⟨#[10]⟩ : ByteArray) 0 (Lib.countB s (⟨#[10]⟩ : ByteArray)) s = (splits s.data.toList).map mk := by
  rw [← map_mk (Lib.splitB (⟨#[10]⟩ : ByteArray) 0 (Lib.countB s (⟨#[10]⟩ : ByteArray)) s), Lib.splitB_data]
  exact congrArg _ (splitK_splits s.data.toList)
theorem splits_length : ∀ l, (splits l).length ≤ l.length + 1
  | [] => by simp [splits]
  | c :: l => by
    have ih := splits_length l
    unfold splits
    split
    · simp only [List.length_cons]; omega
    · cases e : splits l with
      | nil => simp [consHead]
      | cons x t => rw [e] at ih; simp only [consHead, List.length_cons] at ih ⊢; omega
theorem splits_size : ∀ l, ∀ x ∈ splits l, x.length ≤ l.length
  | [], x, h => by simp [splits] at h; subst h; simp
  | c :: l, x, h => by
    have ih := splits_size l
    unfold splits at h
    split at h
    · rcases List.mem_cons.mp h with h | h
      · subst h; simp
      · have := ih x h; simp only [List.length_cons]; omega
    · cases e : splits l with
      | nil => rw [e] at h; simp [consHead] at h; subst h; simp
      | cons y t =>
        rw [e] at h ih
        simp only [consHead] at h
        rcases List.mem_cons.mp h with h | h
        · subst h
          have := ih y (by simp)
          simp only [List.length_append, List.length_cons, List.length_nil]; omega
        · have := ih x (by simp [h]); simp only [List.length_cons]; omega
theorem trim_sub : ∀ xs, ∀ x ∈ trim xs, x ∈ xs
  | [], x, h => h
  | [y], x, h => by
    unfold trim at h
    split at h
    · simp at h
    · exact h
  | y :: z :: l, x, h => by
    rw [trim] at h
    rcases List.mem_cons.mp h with h | h
    · subst h; simp
    · exact List.mem_cons_of_mem _ (trim_sub (z :: l) x h)
theorem trim_length : ∀ xs, (trim xs).length ≤ xs.length
  | [] => Nat.le_refl _
  | [y] => by unfold trim; split <;> simp
  | y :: z :: l => by rw [trim]; have := trim_length (z :: l); simp only [List.length_cons] at this ⊢; omega
/-- What trim leaves, told by the last. -/
theorem trim_last : ∀ (xs : List (List UInt8)) (h : xs ≠ []), trim xs = if xs[xs.length - 1]'(by have := List.length_pos_iff.2 h; omega) = [] then xs.take (xs.length - 1) else xs
  | [], h => absurd rfl h
  | [y], _ => by unfold trim; simp
  | y :: z :: l, _ => by
    have ih := trim_last (z :: l) (by simp)
    rw [trim, ih]
    simp only [List.length_cons, Nat.add_sub_cancel, List.getElem_cons_succ]
    split
    · simp
    · rfl
def lines (s : ByteArray) : List ByteArray := (trim (splits s.data.toList)).map mk
theorem lines_length (s : ByteArray) : (lines s).length ≤ s.size + 1 := by
  unfold lines
  rw [List.length_map]
  have h1 := trim_length (splits s.data.toList)
  have h2 := splits_length s.data.toList
  rw [size_data] at h2
  omega
theorem lines_size (s : ByteArray) : ∀ x ∈ lines s, x.size ≤ s.size := by
  intro x hx
  obtain ⟨y, hy, rfl⟩ := List.mem_map.mp hx
  have := splits_size s.data.toList y (trim_sub _ y hy)
  rw [size_data] at this
  rw [mk_size]
  exact this

theorem impl_LinesOf_eq (s : ByteArray) (hs : s.size ≤ 1048576) : impl_LinesOf.f s = some (lines s) := by
  unfold impl_LinesOf.f strings_Split.f
  have hc := Lib.countB_le (⟨#[10]⟩ : ByteArray) (by decide) s.size s (Nat.le_refl _)
  rw [if_pos ⟨by omega, by decide, by omega⟩, Option.bind_some, splitB_splits]
  unfold lines
  have hne := splits_ne s.data.toList
  have hlen := splits_length s.data.toList
  rw [size_data] at hlen
  rw [trim_last _ hne]
  generalize splits s.data.toList = X at hne hlen ⊢
  have hpos := List.length_pos_iff.2 hne
  have ew : wrap64 (((X.map mk).length : Int) - 1) = ((X.length - 1 : Nat) : Int) := by
    rw [List.length_map]
    exact wrap_nat _ _ (by omega) (by omega)
  have er : rdOf ByteArray.empty (X.map mk) ((X.length - 1 : Nat) : Int) = mk (X[X.length - 1]'(by omega)) := by
    unfold rdOf
    rw [Int.toNat_natCast, List.getD_eq_getElem?_getD, List.getElem?_map, List.getElem?_eq_getElem (by omega)]
    rfl
  rw [ew, List.length_map, if_pos (by omega), if_pos (by omega), er, list_data, mk_data]
  split
  · rw [if_pos (by omega), Int.toNat_natCast, List.map_take]
  · rfl

theorem take_snoc {s : List UInt8} {b i : Nat} {c : UInt8} {l : List UInt8} (h : s.drop i = c :: l) (hb : b ≤ i) : (s.drop b).take (i + 1 - b) = (s.drop b).take (i - b) ++ [c] := by
  have e : i + 1 - b = (i - b) + 1 := by omega
  have hg : (s.drop b)[i - b]? = some c := by
    rw [List.getElem?_drop, show b + (i - b) = i by omega]
    have := congrArg List.head? h
    rw [List.head?_drop] at this
    simpa using this
  rw [e, List.take_add_one, hg]
  rfl
theorem spec_LinesOf_l0 (s : ByteArray) (hs : s.size ≤ 1048576) :
    ∀ (l : List UInt8) (i b : Nat) (acc : List ByteArray), s.data.toList.drop i = l → i ≤ s.size → b ≤ i → acc.length ≤ i →
      Ev (fun k => spec_LinesOf.l0 k s acc b i) (acc ++ (trim (consHead ((s.data.toList.drop b).take (i - b)) (splits l))).map mk)
  | [], i, b, acc, h, hi, hb, ha => by
    have e := drop_end h (by rw [size_data]; exact hi)
    rw [size_data] at e
    subst e
    have ec : consHead ((s.data.toList.drop b).take (s.size - b)) (splits []) = [s.data.toList.drop b] := by
      simp only [splits, consHead, List.append_nil]
      rw [List.take_of_length_le (by rw [List.length_drop, size_data]; omega)]
    rw [ec]
    by_cases hlt : b < s.size
    · have hne : s.data.toList.drop b ≠ [] := by
        intro e
        have := congrArg List.length e
        rw [List.length_drop, size_data, List.length_nil] at this
        omega
      have ex : s.extract b s.size = mk (s.data.toList.drop b) := bytes_ext (by
        rw [extract_data, mk_data, List.take_of_length_le (by rw [List.length_drop, size_data]; omega)])
      simp only [trim, if_neg hne, List.map_cons, List.map_nil]
      refine Ev.step (fun k => ?_) (Ev.now _)
      rw [spec_LinesOf.l0, if_neg (by omega), if_pos (by omega), if_pos (by omega), if_pos (by omega), if_pos (by omega), Int.toNat_natCast, ex]
    · have he : s.data.toList.drop b = [] := List.drop_of_length_le (by rw [size_data]; omega)
      rw [he]
      simp only [trim, if_true, List.map_nil, List.append_nil]
      exact Ev.step (fun k => by rw [spec_LinesOf.l0, if_neg (by omega), if_neg (by omega)]) (Ev.now _)
  | c :: l, i, b, acc, h, hi, hb, ha => by
    have hlt := drop_lt h
    rw [size_data] at hlt
    have hbt := bt_cons h
    by_cases hc : c = 10
    · subst hc
      have ih := spec_LinesOf_l0 s hs l (i + 1) (i + 1) (acc ++ [mk ((s.data.toList.drop b).take (i - b))]) (drop_tail h) (by omega) (Nat.le_refl _) (by rw [List.length_append, List.length_singleton]; omega)
      rw [show i + 1 - (i + 1) = 0 by omega, List.take_zero, consHead_nil (splits_ne l)] at ih
      have e : acc ++ (trim (consHead ((s.data.toList.drop b).take (i - b)) (splits (10 :: l)))).map mk = acc ++ [mk ((s.data.toList.drop b).take (i - b))] ++ (trim (splits l)).map mk := by
        simp only [splits, if_true, consHead, List.append_nil]
        rw [trim_cons _ (splits_ne l), List.map_cons, List.append_assoc]
        rfl
      rw [e]
      have ex : s.extract b i = mk ((s.data.toList.drop b).take (i - b)) := bytes_ext (by rw [extract_data, mk_data])
      refine Ev.step (fun k => ?_) ih
      rw [spec_LinesOf.l0, if_pos (by omega), if_pos (by omega), if_pos (by rw [hbt]; rfl), if_pos (by omega), if_pos (by omega), if_pos (by omega), if_pos (by omega), Int.toNat_natCast, Int.toNat_natCast, ex, wrap_succ i (by omega)]
    · have ih := spec_LinesOf_l0 s hs l (i + 1) b acc (drop_tail h) (by omega) (by omega) (by omega)
      rw [take_snoc h hb] at ih
      have e : consHead ((s.data.toList.drop b).take (i - b)) (splits (c :: l)) = consHead ((s.data.toList.drop b).take (i - b) ++ [c]) (splits l) := by
        rw [splits, if_neg hc, consHead_two]
      rw [e]
      refine Ev.step (fun k => ?_) ih
      have hne : ¬ bt s (i : Int) = 10 := by
        rw [hbt]
        intro e
        exact hc (UInt8.toNat_inj.mp (show c.toNat = 10 by omega))
      rw [spec_LinesOf.l0, if_pos (by omega), if_pos (by omega), if_neg hne, wrap_succ i (by omega)]
theorem spec_LinesOf_ev (s : ByteArray) (hs : s.size ≤ 1048576) : Ev (fun k => spec_LinesOf.f k s) (lines s) := by
  have h := spec_LinesOf_l0 s hs s.data.toList 0 0 [] rfl (by omega) (Nat.le_refl _) (by simp)
  rw [show (s.data.toList.drop 0).take (0 - 0) = [] by simp, consHead_nil (splits_ne _), List.nil_append] at h
  exact Ev.congr (fun k => rfl) h

def dl (x : ByteArray) : ByteArray := if Lib.hasPrefix x.data.toList [46] = true then ((⟨#[46]⟩ : ByteArray) ++ x) ++ (⟨#[13, 10]⟩ : ByteArray) else x ++ (⟨#[13, 10]⟩ : ByteArray)
def dotAll : List ByteArray → ByteArray
  | [] => (⟨#[46, 13, 10]⟩ : ByteArray)
  | x :: l => dl x ++ dotAll l
theorem prefix_iff (x : ByteArray) : Lib.hasPrefix x.data.toList [46] = true ↔ (0 < x.size ∧ bt x 0 = 46) := by
  unfold Lib.hasPrefix
  have hs := size_data x
  cases e : x.data.toList with
  | nil => rw [e] at hs; simp at hs; simp [← hs]
  | cons c l =>
    rw [e] at hs
    simp at hs
    have hb : bt x ((0 : Nat) : Int) = (c.toNat : Int) := bt_cons (l := l) (by rw [e]; rfl)
    have hb2 : bt x 0 = (c.toNat : Int) := hb
    rw [hb2]
    simp only [List.isPrefixOf, Bool.and_true, beq_iff_eq]
    constructor
    · intro h; subst h; exact ⟨by omega, rfl⟩
    · intro h; exact (UInt8.toNat_inj.mp (show c.toNat = 46 by omega)).symm
theorem dl_size (x : ByteArray) : (dl x).size ≤ x.size + 3 := by
  have h1 : (⟨#[46]⟩ : ByteArray).size = 1 := rfl
  have h2 : (⟨#[13, 10]⟩ : ByteArray).size = 2 := rfl
  unfold dl
  split
  · rw [ByteArray.size_append, ByteArray.size_append, h1, h2]; omega
  · rw [ByteArray.size_append, h2]; omega
theorem drop_mem {α : Type} {xs : List α} {i : Nat} {x : α} {l : List α} (h : xs.drop i = x :: l) : x ∈ xs := List.mem_of_mem_drop (show x ∈ xs.drop i by rw [h]; simp)
theorem spec_DotText_l0 (xs : List ByteArray) (hx : xs.length ≤ 1048577) (hz : ∀ x ∈ xs, x.size ≤ 1048576) :
    ∀ (l : List ByteArray) (i : Nat) (out : ByteArray), xs.drop i = l → i ≤ xs.length → out.size ≤ i * 1048579 → Ev (fun k => spec_DotText.l0 k out xs i) (out ++ dotAll l)
  | [], i, out, h, hi, ho => by
    have e := drop_end h hi
    exact Ev.step (fun k => by rw [spec_DotText.l0, if_neg (by omega), if_pos (by omega)]; rfl) (Ev.now _)
  | x :: l, i, out, h, hi, ho => by
    have hlt := drop_lt h
    have hxs := hz x (drop_mem h)
    have hd := dl_size x
    have ih := spec_DotText_l0 xs hx hz l (i + 1) (out ++ dl x) (drop_tail h) (by omega) (by rw [ByteArray.size_append]; omega)
    rw [show out ++ dotAll (x :: l) = out ++ dl x ++ dotAll l by rw [dotAll, append_assoc]]
    refine Ev.step (fun k => ?_) ih
    have h1 : (⟨#[46]⟩ : ByteArray).size = 1 := rfl
    have h2 : (⟨#[13, 10]⟩ : ByteArray).size = 2 := rfl
    have er : rdOf ByteArray.empty xs (i : Int) = x := rdOf_drop _ h
    rw [spec_DotText.l0, if_pos (by omega), if_pos (by omega), er, wrap_succ i (by omega)]
    have s1 : (out ++ x).size = out.size + x.size := ByteArray.size_append
    have s2 : (out ++ (⟨#[46]⟩ : ByteArray)).size = out.size + 1 := ByteArray.size_append
    have s3 : (out ++ (⟨#[46]⟩ : ByteArray) ++ x).size = out.size + 1 + x.size := by rw [ByteArray.size_append, s2]
    by_cases hp : Lib.hasPrefix x.data.toList [46] = true
    · obtain ⟨p1, p2⟩ := (prefix_iff x).1 hp
      have e : dl x = ((⟨#[46]⟩ : ByteArray) ++ x) ++ (⟨#[13, 10]⟩ : ByteArray) := if_pos hp
      rw [if_pos (by omega), if_pos (by omega), if_pos p2, if_pos (by omega), if_pos (by omega), if_pos (by omega), e]
      simp only [append_assoc]
    · have e : dl x = x ++ (⟨#[13, 10]⟩ : ByteArray) := if_neg hp
      by_cases hpos : (x.size : Int) > 0
      · have hb : ¬ bt x 0 = 46 := fun hb => hp ((prefix_iff x).2 ⟨by omega, hb⟩)
        rw [if_pos hpos, if_pos (by omega), if_neg hb, if_pos (by omega), if_pos (by omega), e, append_assoc]
      · rw [if_neg hpos, if_pos (by omega), if_pos (by omega), e, append_assoc]
theorem impl_DotText_l0 (xs : List ByteArray) (hx : xs.length ≤ 1048577) (hz : ∀ x ∈ xs, x.size ≤ 1048576) :
    ∀ (l : List ByteArray) (i : Nat) (out : ByteArray), xs.drop i = l → i ≤ xs.length → out.size ≤ i * 1048579 → Ev (fun k => impl_DotText.l0 k out xs (xs.length : Int) i) (out ++ dotAll l)
  | [], i, out, h, hi, ho => by
    have e := drop_end h hi
    have s2 : (out ++ (⟨#[46]⟩ : ByteArray)).size = out.size + 1 := ByteArray.size_append
    exact Ev.step (fun k => by rw [impl_DotText.l0, if_neg (by omega), if_pos (by omega), if_pos (by omega), append_assoc]; rfl) (Ev.now _)
  | x :: l, i, out, h, hi, ho => by
    have hlt := drop_lt h
    have hxs := hz x (drop_mem h)
    have hd := dl_size x
    have ih := impl_DotText_l0 xs hx hz l (i + 1) (out ++ dl x) (drop_tail h) (by omega) (by rw [ByteArray.size_append]; omega)
    rw [show out ++ dotAll (x :: l) = out ++ dl x ++ dotAll l by rw [dotAll, append_assoc]]
    refine Ev.step (fun k => ?_) ih
    have er : rdOf ByteArray.empty xs (i : Int) = x := rdOf_drop _ h
    have s2 : ((⟨#[46]⟩ : ByteArray) ++ x).size = 1 + x.size := ByteArray.size_append
    have ef : strings_HasPrefix.f x (⟨#[46]⟩ : ByteArray) = some (Lib.hasPrefix x.data.toList [46]) := rfl
    rw [impl_DotText.l0, if_pos (by omega), if_pos (by omega), if_pos (by omega), er, wrap_succ i (by omega), ef, Option.bind_some]
    by_cases hp : Lib.hasPrefix x.data.toList [46] = true
    · have e : dl x = ((⟨#[46]⟩ : ByteArray) ++ x) ++ (⟨#[13, 10]⟩ : ByteArray) := if_pos hp
      rw [if_pos hp, if_pos (by omega), if_pos (by omega), ← e, if_pos (by omega)]
    · have e : dl x = x ++ (⟨#[13, 10]⟩ : ByteArray) := if_neg hp
      rw [if_neg hp, if_pos (by omega), ← e, if_pos (by omega)]
theorem lines_len (s : ByteArray) (hs : s.size ≤ 1048576) : (lines s).length ≤ 1048577 := by have := lines_length s; omega
theorem lines_sz (s : ByteArray) (hs : s.size ≤ 1048576) : ∀ x ∈ lines s, x.size ≤ 1048576 := fun x hx => by have := lines_size s x hx; omega
theorem spec_DotText_ev (s : ByteArray) (hs : s.size ≤ 1048576) : Ev (fun k => spec_DotText.f k s) (dotAll (lines s)) := by
  have h := spec_DotText_l0 (lines s) (lines_len s hs) (lines_sz s hs) (lines s) 0 (⟨#[]⟩ : ByteArray) rfl (by omega) (by decide)
  rw [empty_append] at h
  exact Ev.congr (fun k => rfl) (Ev.bind (spec_LinesOf_ev s hs) (Ev.congr (fun k => rfl) h))
theorem impl_DotText_ev (s : ByteArray) (hs : s.size ≤ 1048576) : Ev (fun k => impl_DotText.f k s) (dotAll (lines s)) := by
  have h := impl_DotText_l0 (lines s) (lines_len s hs) (lines_sz s hs) (lines s) 0 (⟨#[]⟩ : ByteArray) rfl (by omega) (by decide)
  rw [empty_append] at h
  exact Ev.congr (fun k => rfl) (ev_bind1 (impl_LinesOf_eq s hs) (Ev.congr (fun k => rfl) h))

def lastTen (s : ByteArray) : Bool := if s.toList = ([] : List UInt8) then true else (bt s ((s.size - 1 : Nat) : Int) == 10)
def safeText (s : ByteArray) : Bool := if 0 ≤ Lib.indexByte s.data.toList 13 then false else lastTen s

theorem size_pos (s : ByteArray) (h : ¬ s.toList = ([] : List UInt8)) : 1 ≤ s.size := by
  rw [list_data] at h
  rw [← size_data]
  cases e : s.data.toList with
  | nil => exact absurd e h
  | cons x l => simp
theorem indexByte_cons (c : UInt8) (l : List UInt8) (x : UInt8) : (0 ≤ Lib.indexByte (c :: l) x) ↔ (c = x ∨ 0 ≤ Lib.indexByte l x) := by
  have := Lib.indexByte_ge l x
  by_cases h : c = x
  · simp [Lib.indexByte, h]
  · simp only [Lib.indexByte, beq_iff_eq, h, if_false, false_or]
    by_cases h2 : Lib.indexByte l x = -1
    · simp [h2]
    · simp only [h2, if_false]; omega

theorem spec_SafeText_l0 (s : ByteArray) (hs : s.size ≤ 1048576) :
    ∀ (l : List UInt8) (i : Nat), s.data.toList.drop i = l → i ≤ s.size → Ev (fun k => spec_SafeText.l0 k s i) (if 0 ≤ Lib.indexByte l 13 then false else lastTen s)
  | [], i, h, hi => by
    have e := drop_end h (by rw [size_data]; exact hi)
    rw [size_data] at e
    rw [if_neg (by simp [Lib.indexByte])]
    refine Ev.step (fun k => by rw [spec_SafeText.l0, if_neg (by omega)]) ?_
    unfold lastTen
    by_cases h1 : s.toList = ([] : List UInt8)
    · simp only [if_pos h1]; exact Ev.now _
    · have h2 := size_pos s h1
      have e2 : wrap64 ((s.size : Int) - 1) = ((s.size - 1 : Nat) : Int) := wrap_nat _ _ (by omega) (by omega)
      simp only [if_neg h1, e2]
      refine ev_some (fun k => ?_)
      rw [if_pos (by omega), if_pos (by omega)]
  | c :: l, i, h, hi => by
    have hlt := drop_lt h
    rw [size_data] at hlt
    have hb := bt_cons h
    by_cases h1 : c = 13
    · rw [if_pos ((indexByte_cons c l 13).2 (.inl h1))]
      refine Ev.step (fun k => ?_) (Ev.now _)
      rw [spec_SafeText.l0, if_pos (by omega), if_pos (by omega), hb, if_pos (by subst h1; rfl)]
    · have ih := spec_SafeText_l0 s hs l (i + 1) (drop_tail h) (by omega)
      have e : (0 ≤ Lib.indexByte (c :: l) 13) ↔ 0 ≤ Lib.indexByte l 13 := by rw [indexByte_cons]; simp [h1]
      simp only [e]
      refine Ev.step (fun k => ?_) ih
      have h2 : ¬ ((c.toNat : Int) = 13) := fun h => h1 (UInt8.toNat_inj.mp (show c.toNat = 13 by omega))
      rw [spec_SafeText.l0, if_pos (by omega), if_pos (by omega), hb, if_neg h2, wrap_succ i (by omega)]

theorem impl_SafeText_eq (s : ByteArray) (hs : s.size ≤ 1048576) : impl_SafeText.f s = some (safeText s) := by
  unfold impl_SafeText.f strings_Contains.f safeText
  have h1 : (⟨#[13]⟩ : ByteArray).size = 1 := rfl
  rw [dif_pos h1]
  have e13 : ((⟨#[13]⟩ : ByteArray)[0]'(by omega)) = 13 := rfl
  rw [e13, Option.bind_some]
  by_cases h2 : 0 ≤ Lib.indexByte s.data.toList 13
  · rw [decide_eq_true h2, if_pos rfl, if_pos h2]
  · rw [decide_eq_false h2, if_neg (by decide), if_neg h2]
    unfold lastTen
    by_cases h3 : s.toList = ([] : List UInt8)
    · simp only [if_pos h3]
    · have h4 := size_pos s h3
      have e2 : wrap64 ((s.size : Int) - ((⟨#[10]⟩ : ByteArray).size : Int)) = ((s.size - 1 : Nat) : Int) := wrap_nat _ _ (by show (s.size : Int) - 1 = _; omega) (by omega)
      have g1 : (s.size : Int) ≥ ((⟨#[10]⟩ : ByteArray).size : Int) := by show (s.size : Int) ≥ 1; omega
      have g2 : 0 ≤ ((s.size - 1 : Nat) : Int) := by omega
      have g3 : ((s.size - 1 : Nat) : Int) ≤ (s.size : Int) := by omega
      simp only [if_neg h3, strings_HasSuffix.f, stringslite_HasSuffix.f, if_pos g1, e2, if_pos g2, if_pos g3]
      simp only [Option.bind_some, Int.toNat_natCast]
      have e3 : (s.extract (s.size - 1) s.size).toList = [s.data.toList[s.size - 1]'(by rw [size_data]; omega)] := by
        rw [list_data, extract_data, show s.size - (s.size - 1) = 1 by omega]
        rw [List.drop_eq_getElem_cons (by rw [size_data]; omega)]
        rfl
      have e4 : ((⟨#[10]⟩ : ByteArray).toList : List UInt8) = [10] := by rw [list_data]
      rw [e3, e4, bt_data s (s.size - 1) (by omega)]
      congr 1
      generalize s.data.toList[s.size - 1]'(by rw [size_data]; omega) = x
      by_cases h5 : x = 10
      · subst h5; rfl
      · have h6 : ¬ ((x.toNat : Int) = 10) := fun h => h5 (UInt8.toNat_inj.mp (show x.toNat = 10 by omega))
        have h7 : ([x] == ([10] : List UInt8)) = false := by simpa using h5
        have h8 : ((x.toNat : Int) == 10) = false := by simpa using h6
        rw [h7, h8]

theorem spec_SafeText_ev (s : ByteArray) (hs : s.size ≤ 1048576) : Ev (fun k => spec_SafeText.f k s) (safeText s) := by
  have h := spec_SafeText_l0 s (by omega) s.data.toList 0 rfl (by omega)
  exact Ev.congr (fun k => rfl) h

theorem first_of (s : ByteArray) (h : 1 ≤ s.size) : ∃ (x : UInt8) (l : List UInt8), s.data.toList = x :: l ∧ bt s 0 = (x.toNat : Int) := by
  have h' : 0 < s.data.toList.length := by rw [Array.length_toList]; exact h
  cases e : s.data.toList with
  | nil => rw [e] at h'; simp at h'
  | cons x l =>
    refine ⟨x, l, rfl, ?_⟩
    have h0 : (0 : Int).toNat < s.size := h
    rw [← bt_at s 0 h0]
    have g : s[(0 : Int).toNat] = s.data.toList[0] := rfl
    rw [g]; simp only [e]; rfl

theorem head_one (s : ByteArray) : (s.extract 0 1).toList = s.data.toList.take 1 := by
  rw [list_data]; simp

theorem impl_UndotLine_eq (s : ByteArray) : impl_UndotLine.f s = spec_UndotLine.f s ∧ ∃ r, spec_UndotLine.f s = some r := by
  unfold impl_UndotLine.f spec_UndotLine.f
  by_cases h1 : s.toList = ([46] : List UInt8)
  · simp only [if_pos h1]; exact ⟨trivial, _, rfl⟩
  · simp only [if_neg h1]
    unfold strings_TrimPrefix.f stringslite_TrimPrefix.f stringslite_HasPrefix.f
    have e1 : ((⟨#[46]⟩ : ByteArray).size : Int) = 1 := rfl
    rw [e1]
    by_cases h2 : (s.size : Int) ≥ 1
    · obtain ⟨x, l, hx, hb⟩ := first_of s (by omega)
      have p0 : 0 < (s.size : Int) := by omega
      have e2 : (s.extract 0 (1 : Int).toNat).toList = [x] := by
        have := head_one s
        rw [hx] at this; simpa using this
      have e3 : ((⟨#[46]⟩ : ByteArray).toList : List UInt8) = [46] := by rw [list_data]
      rw [e2, e3, hb]
      by_cases hx1 : x = 46
      · subst hx1
        have hl : l ≠ [] := fun hl => h1 (by rw [list_data, hx, hl])
        have h3 : (s.size : Int) > 1 := by
          have : s.data.toList.length = s.size := Array.length_toList
          rw [hx] at this
          cases l with
          | nil => exact absurd rfl hl
          | cons y m => simp at this; omega
        simp only [if_pos h2, if_pos p0, if_pos h3, if_pos (show (0 : Int) ≤ 1 by decide), Option.bind_some, beq_self_eq_true, if_true]
        exact ⟨rfl, _, rfl⟩
      · have hx2 : ¬ ((x.toNat : Int) = 46) := fun h => hx1 (UInt8.toNat_inj.mp (show x.toNat = 46 by omega))
        have hx3 : ([x] == ([46] : List UInt8)) = false := by simpa using hx1
        by_cases h3 : (s.size : Int) > 1
        · simp only [if_pos h2, if_pos p0, if_pos h3, if_neg hx2, hx3, if_pos (show (0 : Int) ≤ 1 by decide), Option.bind_some]
          exact ⟨rfl, _, rfl⟩
        · simp only [if_pos h2, if_neg h3, hx3, if_pos (show (0 : Int) ≤ 1 by decide), Option.bind_some]
          exact ⟨rfl, _, rfl⟩
    · have h3 : ¬ (s.size : Int) > 1 := by omega
      simp [h2, h3]

def pieces : List ByteArray := [(⟨#[104, 101, 108, 108, 111]⟩ : ByteArray), (⟨#[46]⟩ : ByteArray), (⟨#[46, 46]⟩ : ByteArray), (⟨#[46, 120]⟩ : ByteArray), (⟨#[]⟩ : ByteArray), (⟨#[115, 117, 98, 106, 101, 99, 116, 58, 32, 97]⟩ : ByteArray)]
def pieces7 : List ByteArray := [(⟨#[104, 101, 108, 108, 111]⟩ : ByteArray), (⟨#[46]⟩ : ByteArray), (⟨#[46, 46]⟩ : ByteArray), (⟨#[46, 120]⟩ : ByteArray), (⟨#[]⟩ : ByteArray), (⟨#[115, 117, 98, 106, 101, 99, 116, 58, 32, 97]⟩ : ByteArray), (⟨#[102, 114, 111, 109, 58, 32, 98]⟩ : ByteArray)]
def ends : List ByteArray := [(⟨#[46]⟩ : ByteArray), (⟨#[46, 46]⟩ : ByteArray), (⟨#[46, 46, 46]⟩ : ByteArray), (⟨#[46, 120]⟩ : ByteArray), (⟨#[]⟩ : ByteArray), (⟨#[120, 46]⟩ : ByteArray), (⟨#[104, 101, 108, 108, 111]⟩ : ByteArray)]
def Clean (x : ByteArray) : Prop := x.size ≤ 10 ∧ ∀ c ∈ x.data.toList, c ≠ 10 ∧ c ≠ 13
theorem pieces_clean : ∀ x ∈ pieces, Clean x := by
  intro x hx
  simp only [pieces, List.mem_cons, List.mem_nil_iff, or_false] at hx
  rcases hx with rfl | rfl | rfl | rfl | rfl | rfl <;> exact ⟨by decide, by decide⟩
theorem pieces7_size : ∀ x ∈ pieces7, x.size ≤ 10 := by
  intro x hx
  simp only [pieces7, List.mem_cons, List.mem_nil_iff, or_false] at hx
  rcases hx with rfl | rfl | rfl | rfl | rfl | rfl | rfl <;> decide
theorem ends_size : ∀ x ∈ ends, x.size ≤ 10 := by
  intro x hx
  simp only [ends, List.mem_cons, List.mem_nil_iff, or_false] at hx
  rcases hx with rfl | rfl | rfl | rfl | rfl | rfl | rfl <;> decide
theorem pick_eq (xs : List Int) (hx : xs.length ≤ 1048576) (i h : Int) (hi : 0 ≤ i) (l : List ByteArray) (hl : 0 < l.length) : ∃ (x : ByteArray) (j g : Int), spec_l01Pick.f xs i h l = some (x, j, g) ∧ x ∈ l ∧ 0 ≤ j := by
  obtain ⟨n, j, g, e, h1, h2, h3⟩ := l01Below_eq xs hx i h hi (l.length : Int) (by omega)
  have hn : n.toNat < l.length := by omega
  refine ⟨l[n.toNat]'hn, j, g, ?_, List.getElem_mem hn, h3⟩
  unfold spec_l01Pick.f
  rw [e, Option.bind_some, if_pos h1, if_pos h2]
  have er : rdOf ByteArray.empty l n = l[n.toNat]'hn := by
    unfold rdOf
    rw [List.getD_eq_getElem?_getD, List.getElem?_eq_getElem hn]
    rfl
  rw [er]
theorem once_eq (xs : List Int) (hx : xs.length ≤ 1048576) (i h : Int) (hi : 0 ≤ i) (n : Int) (hn : 0 < n) : ∃ (b : Bool) (j g : Int), spec_l01Once.f xs i h n = some (b, j, g) ∧ 0 ≤ j := by
  obtain ⟨m, j, g, e, _, _, h3⟩ := l01Below_eq xs hx i h hi n hn
  exact ⟨_, _, _, by unfold spec_l01Once.f; rw [e, Option.bind_some], h3⟩
def joinN : List ByteArray → ByteArray
  | [] => (⟨#[]⟩ : ByteArray)
  | x :: l => x ++ (⟨#[10]⟩ : ByteArray) ++ joinN l
theorem mail_l0 (xs : List Int) (hx : xs.length ≤ 1048576) : ∀ (n j : Nat) (acc : ByteArray) (i h : Int), j + n = 4 → acc.size ≤ 11 * j → 0 ≤ i →
    ∃ ps : List ByteArray, ps.length ≤ n ∧ (∀ x ∈ ps, Clean x) ∧ Ev (fun k => spec_DrawMailText.l0 k acc j xs i h) (acc ++ joinN ps)
  | n, j, acc, i, h, hn, ha, hi => by
    obtain ⟨m, i1, h1, e1, b1, b2, b3⟩ := l01Below_eq xs hx i h hi 5 (by omega)
    by_cases c : (j : Int) < m
    · cases n with
      | zero => omega
      | succ n =>
        obtain ⟨x, i2, h2, e2, m2, b4⟩ := pick_eq xs hx i1 h1 b3 pieces (by decide)
        have hc := pieces_clean x m2
        have hz : (⟨#[10]⟩ : ByteArray).size = 1 := rfl
        have hs : (acc ++ x).size = acc.size + x.size := ByteArray.size_append
        obtain ⟨ps, q1, q2, q3⟩ := mail_l0 xs hx n (j + 1) (acc ++ x ++ (⟨#[10]⟩ : ByteArray)) i2 h2 (by omega) (by rw [ByteArray.size_append, hs, hz]; have := hc.1; omega) b4
        refine ⟨x :: ps, by simp only [List.length_cons]; omega, fun y hy => ?_, ?_⟩
        · rcases List.mem_cons.mp hy with hy | hy
          · subst hy; exact hc
          · exact q2 y hy
        · rw [show acc ++ joinN (x :: ps) = acc ++ x ++ (⟨#[10]⟩ : ByteArray) ++ joinN ps by rw [joinN, append_assoc, append_assoc, append_assoc]]
          have := hc.1
          refine Ev.step (fun k => ?_) q3
          unfold pieces at e2
          rw [spec_DrawMailText.l0, e1, Option.bind_some]
          dsimp only
          rw [if_pos c, e2, Option.bind_some]
          dsimp only
          rw [if_pos (by omega), if_pos (by omega), wrap_succ j (by omega)]
    · refine ⟨[], by simp, by simp, ?_⟩
      rw [show acc ++ joinN [] = acc from append_empty acc]
      exact Ev.step (fun k => by rw [spec_DrawMailText.l0, e1, Option.bind_some]; dsimp only; rw [if_neg c]) (Ev.now _)
theorem mail_ev (xs : List Int) (hx : xs.length ≤ 1048576) : ∃ ps : List ByteArray, ps.length ≤ 4 ∧ (∀ x ∈ ps, Clean x) ∧ Ev (fun k => spec_DrawMailText.f k xs) (joinN ps) := by
  obtain ⟨h, hh⟩ := l01New_ev xs hx
  obtain ⟨ps, q1, q2, q3⟩ := mail_l0 xs hx 4 0 (⟨#[]⟩ : ByteArray) 0 h rfl (by decide) (by omega)
  rw [empty_append] at q3
  exact ⟨ps, q1, q2, Ev.congr (fun k => rfl) (Ev.bind hh (Ev.congr (fun k => rfl) q3))⟩
theorem l17_l0 (xs : List Int) (hx : xs.length ≤ 1048576) : ∀ (n j : Nat) (acc : ByteArray) (i h : Int), j + n = 4 → acc.size ≤ 11 * j → 0 ≤ i →
    ∃ (x : ByteArray) (i2 h2 : Int), x.size ≤ 100 ∧ Ev (fun k => spec_l17Text.l0 k acc j xs i h) (x, i2, h2)
  | n, j, acc, i, h, hn, ha, hi => by
    obtain ⟨m, i1, h1, e1, b1, b2, b3⟩ := l01Below_eq xs hx i h hi 5 (by omega)
    by_cases c : (j : Int) < m
    · cases n with
      | zero => omega
      | succ n =>
        obtain ⟨x, i2, h2, e2, m2, b4⟩ := pick_eq xs hx i1 h1 b3 pieces7 (by decide)
        have hc := pieces7_size x m2
        have hz : (⟨#[10]⟩ : ByteArray).size = 1 := rfl
        have hs : (acc ++ x).size = acc.size + x.size := ByteArray.size_append
        obtain ⟨y, i3, h3, q1, q3⟩ := l17_l0 xs hx n (j + 1) (acc ++ x ++ (⟨#[10]⟩ : ByteArray)) i2 h2 (by omega) (by rw [ByteArray.size_append, hs, hz]; omega) b4
        refine ⟨y, i3, h3, q1, Ev.step (fun k => ?_) q3⟩
        unfold pieces7 at e2
        rw [spec_l17Text.l0, e1, Option.bind_some]
        dsimp only
        rw [if_pos c, e2, Option.bind_some]
        dsimp only
        rw [if_pos (by omega), if_pos (by omega), wrap_succ j (by omega)]
    · obtain ⟨b, i2, h2, e2, b4⟩ := once_eq xs hx i1 h1 b3 5 (by omega)
      obtain ⟨d, i3, h3, e3, b5⟩ := once_eq xs hx i2 h2 b4 10 (by omega)
      have hs : (acc ++ (⟨#[101, 110, 100]⟩ : ByteArray)).size = acc.size + 3 := ByteArray.size_append
      have hs2 : (acc ++ (⟨#[101, 110, 100]⟩ : ByteArray) ++ (⟨#[13]⟩ : ByteArray)).size = acc.size + 3 + 1 := by rw [ByteArray.size_append, hs]; rfl
      have hs3 : (acc ++ (⟨#[13]⟩ : ByteArray)).size = acc.size + 1 := ByteArray.size_append
      cases b with
      | true =>
        cases d with
        | true => exact ⟨_, _, _, by rw [hs2]; omega, Ev.step (fun k => by rw [spec_l17Text.l0, e1, Option.bind_some]; dsimp only; rw [if_neg c, e2, Option.bind_some]; dsimp only; rw [if_pos rfl, if_pos (by omega), e3, Option.bind_some]; dsimp only; rw [if_pos rfl, if_pos (by omega)]) (Ev.now _)⟩
        | false => exact ⟨_, _, _, by rw [hs]; omega, Ev.step (fun k => by rw [spec_l17Text.l0, e1, Option.bind_some]; dsimp only; rw [if_neg c, e2, Option.bind_some]; dsimp only; rw [if_pos rfl, if_pos (by omega), e3, Option.bind_some]; dsimp only; rw [if_neg (by decide)]) (Ev.now _)⟩
      | false =>
        cases d with
        | true => exact ⟨_, _, _, by rw [hs3]; omega, Ev.step (fun k => by rw [spec_l17Text.l0, e1, Option.bind_some]; dsimp only; rw [if_neg c, e2, Option.bind_some]; dsimp only; rw [if_neg (by decide), e3, Option.bind_some]; dsimp only; rw [if_pos rfl, if_pos (by omega)]) (Ev.now _)⟩
        | false => exact ⟨_, _, _, by show acc.size ≤ 100; omega, Ev.step (fun k => by rw [spec_l17Text.l0, e1, Option.bind_some]; dsimp only; rw [if_neg c, e2, Option.bind_some]; dsimp only; rw [if_neg (by decide), e3, Option.bind_some]; dsimp only; rw [if_neg (by decide)]) (Ev.now _)⟩
theorem dotText_ev (xs : List Int) (hx : xs.length ≤ 1048576) : ∃ x : ByteArray, x.size ≤ 100 ∧ Ev (fun k => spec_DrawDotText.f k xs) x := by
  obtain ⟨h, hh⟩ := l01New_ev xs hx
  obtain ⟨x, i, g, q1, q2⟩ := l17_l0 xs hx 4 0 (⟨#[]⟩ : ByteArray) 0 h rfl (by decide) (by omega)
  exact ⟨x, q1, Ev.congr (fun k => rfl) (Ev.bind hh (Ev.bind (Ev.congr (fun k => rfl) q2) (Ev.now _)))⟩
theorem undotLine_ev (xs : List Int) (hx : xs.length ≤ 1048576) : ∃ x : ByteArray, x.size ≤ 10 ∧ Ev (fun k => spec_DrawUndotLine.f k xs) x := by
  obtain ⟨h, hh⟩ := l01New_ev xs hx
  obtain ⟨x, i, g, e, hm, _⟩ := pick_eq xs hx 0 h (by omega) ends (by decide)
  refine ⟨x, ends_size x hm, Ev.congr (fun k => rfl) (Ev.bind hh (ev_bind1 (show spec_l01Pick.f xs 0 h _ = some (x, i, g) from e) (Ev.now _)))⟩
theorem splits_line : ∀ (x r : List UInt8), (∀ c ∈ x, c ≠ 10) → splits (x ++ 10 :: r) = x :: splits r
  | [], r, _ => by rw [List.nil_append, splits, if_pos rfl]
  | c :: x, r, h => by
    rw [List.cons_append, splits, if_neg (h c (by simp)), splits_line x r (fun d hd => h d (by simp [hd]))]
    rfl
theorem lines_join : ∀ ps : List ByteArray, (∀ x ∈ ps, Clean x) → trim (splits (joinN ps).data.toList) = ps.map (·.data.toList)
  | [], _ => by
    show trim (splits []) = []
    simp [splits, trim]
  | x :: l, h => by
    have e : (joinN (x :: l)).data.toList = x.data.toList ++ 10 :: (joinN l).data.toList := by
      rw [joinN, data_append, data_append, List.append_assoc]; rfl
    rw [e, splits_line _ _ (fun c hc => ((h x (by simp)).2 c hc).1), trim_cons _ (splits_ne _), lines_join l (fun y hy => h y (by simp [hy]))]
    rfl
theorem lines_joinN (ps : List ByteArray) (h : ∀ x ∈ ps, Clean x) : lines (joinN ps) = ps := by
  unfold lines
  rw [lines_join ps h, map_mk]
theorem joinN_size : ∀ ps : List ByteArray, (∀ x ∈ ps, Clean x) → (joinN ps).size ≤ 11 * ps.length
  | [], _ => by decide
  | x :: l, h => by
    have := joinN_size l (fun y hy => h y (by simp [hy]))
    have h2 := (h x (by simp)).1
    have hz : (⟨#[10]⟩ : ByteArray).size = 1 := rfl
    rw [joinN, ByteArray.size_append, ByteArray.size_append, hz, List.length_cons]
    omega
theorem dotAll_size : ∀ ps : List ByteArray, (∀ x ∈ ps, Clean x) → (dotAll ps).size ≤ 13 * ps.length + 3
  | [], _ => by decide
  | x :: l, h => by
    have := dotAll_size l (fun y hy => h y (by simp [hy]))
    have h2 := (h x (by simp)).1
    have h3 := dl_size x
    rw [dotAll, ByteArray.size_append, List.length_cons]
    omega
theorem taken_line (y r : ByteArray) (hy : y.size ≤ 80) (hc : ∀ c ∈ y.data.toList, c ≠ 13) : taken (y ++ (⟨#[13, 10]⟩ : ByteArray) ++ r) = (y, r, 0) := by
  have ed : (y ++ (⟨#[13, 10]⟩ : ByteArray) ++ r).data.toList = y.data.toList ++ (13 :: 10 :: r.data.toList) := by
    rw [data_append, data_append, List.append_assoc]; rfl
  have hs := size_data y
  have h1 : Lib.occAt (y ++ (⟨#[13, 10]⟩ : ByteArray) ++ r).data.toList crlf y.size = true := by
    unfold Lib.occAt
    rw [ed, ← hs, List.drop_left]
    simp [crlf, List.isPrefixOf]
  have h2 : ∀ j, j < y.size → Lib.occAt (y ++ (⟨#[13, 10]⟩ : ByteArray) ++ r).data.toList crlf j = false := by
    intro j hj
    unfold Lib.occAt
    have hj2 : j < y.data.toList.length := by omega
    rw [ed, List.drop_append_of_le_length (by omega), List.drop_eq_getElem_cons hj2]
    have := hc _ (List.getElem_mem hj2)
    generalize y.data.toList[j] = z at this ⊢
    simp only [crlf, List.cons_append, List.isPrefixOf, Bool.and_eq_false_iff, beq_eq_false_iff_ne]
    exact .inl (fun e => this e.symm)
  rw [taken_some _ y.size hy h1 h2]
  have e1 : (y ++ (⟨#[13, 10]⟩ : ByteArray) ++ r).extract 0 y.size = y := bytes_ext (by
    rw [extract_data, ed, List.drop_zero, Nat.sub_zero, ← hs, List.take_left])
  have e2 : (y ++ (⟨#[13, 10]⟩ : ByteArray) ++ r).extract (y.size + 2) (y ++ (⟨#[13, 10]⟩ : ByteArray) ++ r).size = r := bytes_ext (by
    have h4 : (y ++ (⟨#[13, 10]⟩ : ByteArray) ++ r).size = y.size + 2 + r.size := by rw [ByteArray.size_append, ByteArray.size_append]; rfl
    rw [extract_data, ed, ← List.drop_drop, ← hs, List.drop_left, hs, h4]
    have h5 := size_data r
    show r.data.toList.take (y.size + 2 + r.size - (y.size + 2)) = _
    rw [List.take_of_length_le (by omega)])
  rw [e1, e2]
def dotted (x : ByteArray) : ByteArray := if Lib.hasPrefix x.data.toList [46] = true then (⟨#[46]⟩ : ByteArray) ++ x else x
theorem dl_dotted (x : ByteArray) : dl x = dotted x ++ (⟨#[13, 10]⟩ : ByteArray) := by
  unfold dl dotted; split <;> rfl
theorem undot_dotted (x : ByteArray) : spec_UndotLine.f (dotted x) = some (x, true) := by
  unfold dotted
  by_cases hp : Lib.hasPrefix x.data.toList [46] = true
  · obtain ⟨p1, p2⟩ := (prefix_iff x).1 hp
    rw [if_pos hp]
    have hs : ((⟨#[46]⟩ : ByteArray) ++ x).size = 1 + x.size := ByteArray.size_append
    have hne : ¬ ((⟨#[46]⟩ : ByteArray) ++ x).toList = ([46] : List UInt8) := by
      intro e
      have h5 := size_data ((⟨#[46]⟩ : ByteArray) ++ x)
      rw [list_data] at e
      rw [e, hs] at h5
      simp only [List.length_cons, List.length_nil] at h5
      omega
    have hb : bt ((⟨#[46]⟩ : ByteArray) ++ x) ((0 : Nat) : Int) = ((46 : UInt8).toNat : Int) := bt_cons (l := x.data.toList) (by rw [data_append]; rfl)
    have hb2 : bt ((⟨#[46]⟩ : ByteArray) ++ x) 0 = 46 := hb
    have ex : ((⟨#[46]⟩ : ByteArray) ++ x).extract 1 ((⟨#[46]⟩ : ByteArray) ++ x).size = x := bytes_ext (by
      rw [extract_data, data_append, hs]
      show x.data.toList.take (1 + x.size - 1) = _
      rw [List.take_of_length_le (by rw [size_data]; omega)])
    unfold spec_UndotLine.f
    rw [if_neg hne, if_pos (by omega), if_pos (by omega), if_pos hb2, if_pos (by omega), ex]
  · rw [if_neg hp]
    have hne : ¬ x.toList = ([46] : List UInt8) := by
      intro e
      rw [list_data] at e
      apply hp
      rw [e]
      rfl
    unfold spec_UndotLine.f
    rw [if_neg hne]
    by_cases h1 : (x.size : Int) > 1
    · have hb : ¬ bt x 0 = 46 := fun hb => hp ((prefix_iff x).2 ⟨by omega, hb⟩)
      rw [if_pos h1, if_pos (by omega), if_neg hb]
    · rw [if_neg h1]
theorem undot_one : spec_UndotLine.f (⟨#[46]⟩ : ByteArray) = some ((⟨#[]⟩ : ByteArray), false) := by
  unfold spec_UndotLine.f
  rw [if_pos (by rw [list_data])]
theorem textOf_l0 (xs : List ByteArray) (hx : xs.length ≤ 4) (hc : ∀ x ∈ xs, Clean x) :
    ∀ (l : List ByteArray) (i : Nat) (s : ByteArray), xs.drop i = l → i ≤ xs.length → s.size ≤ 11 * i → Ev (fun k => impl_TextOf.l0 k s xs (xs.length : Int) i) (s ++ joinN l)
  | [], i, s, h, hi, hs => by
    have e := drop_end h hi
    rw [show s ++ joinN [] = s from append_empty s]
    exact Ev.step (fun k => by rw [impl_TextOf.l0, if_neg (by omega)]) (Ev.now _)
  | x :: l, i, s, h, hi, hs => by
    have hlt := drop_lt h
    have e := rdOf_drop ByteArray.empty h
    have hz := (hc x (drop_mem h)).1
    have h10 : (x ++ (⟨#[10]⟩ : ByteArray)).size = x.size + 1 := ByteArray.size_append
    have ih := textOf_l0 xs hx hc l (i + 1) (s ++ (x ++ (⟨#[10]⟩ : ByteArray))) (drop_tail h) (by omega) (by rw [ByteArray.size_append, h10]; omega)
    rw [show s ++ joinN (x :: l) = s ++ (x ++ (⟨#[10]⟩ : ByteArray)) ++ joinN l by simp only [joinN, append_assoc]]
    refine Ev.step (fun k => ?_) ih
    rw [impl_TextOf.l0, if_pos (by omega), if_pos (by omega), if_pos (by omega), e, if_pos (by omega), if_pos (by rw [h10]; omega), wrap_succ i (by omega)]
theorem textOf_ev (xs : List ByteArray) (hx : xs.length ≤ 4) (hc : ∀ x ∈ xs, Clean x) : Ev (fun k => impl_TextOf.f k xs) (joinN xs) := by
  have h := textOf_l0 xs hx hc xs 0 (⟨#[]⟩ : ByteArray) rfl (by omega) (by decide)
  rw [empty_append] at h
  exact Ev.congr (fun k => rfl) h
theorem no_cr : ∀ ps : List ByteArray, (∀ x ∈ ps, Clean x) → ∀ c ∈ (joinN ps).data.toList, c ≠ 13
  | [], _, c, hc => by simp [joinN] at hc
  | x :: l, h, c, hc => by
    rw [joinN, data_append, data_append] at hc
    rcases List.mem_append.mp hc with hc | hc
    · rcases List.mem_append.mp hc with hc | hc
      · exact ((h x (by simp)).2 c hc).2
      · simp at hc; subst hc; decide
    · exact no_cr l (fun y hy => h y (by simp [hy])) c hc
theorem indexByte_no : ∀ l : List UInt8, (∀ c ∈ l, c ≠ 13) → ¬ 0 ≤ Lib.indexByte l 13
  | [], _ => by simp [Lib.indexByte]
  | c :: l, h => by
    rw [indexByte_cons]
    rintro (h1 | h1)
    · exact h c (by simp) h1
    · exact indexByte_no l (fun d hd => h d (by simp [hd])) h1
theorem last_ten : ∀ ps : List ByteArray, ps ≠ [] → ∃ r : List UInt8, (joinN ps).data.toList = r ++ [10]
  | [], h => absurd rfl h
  | [x], _ => ⟨x.data.toList, by rw [joinN, data_append, data_append]; simp [joinN]⟩
  | x :: y :: l, _ => by
    obtain ⟨r, hr⟩ := last_ten (y :: l) (by simp)
    exact ⟨x.data.toList ++ [10] ++ r, by rw [joinN, data_append, data_append, hr]; simp⟩
theorem safe_join (ps : List ByteArray) (h : ∀ x ∈ ps, Clean x) : safeText (joinN ps) = true := by
  unfold safeText lastTen
  rw [if_neg (indexByte_no _ (no_cr ps h))]
  by_cases e : ps = []
  · subst e
    rw [if_pos (by rw [list_data]; rfl)]
  · obtain ⟨r, hr⟩ := last_ten ps e
    have hs := size_data (joinN ps)
    rw [hr] at hs
    simp only [List.length_append, List.length_singleton] at hs
    rw [if_neg (by rw [list_data, hr]; simp)]
    have hb : bt (joinN ps) (((joinN ps).size - 1 : Nat) : Int) = ((10 : UInt8).toNat : Int) := bt_cons (l := []) (by
      rw [hr, ← hs, Nat.add_sub_cancel, List.drop_left])
    rw [hb]
    rfl
theorem sameTexts_l0 (xs : List ByteArray) (hx : xs.length ≤ 1048577) : ∀ (l : List ByteArray) (i : Nat), xs.drop i = l → i ≤ xs.length → Ev (fun k => laws_sameTexts.l0 k xs xs i) true
  | [], i, h, hi => by
    have e := drop_end h hi
    exact Ev.step (fun k => by rw [laws_sameTexts.l0, if_neg (by omega)]) (Ev.now _)
  | x :: l, i, h, hi => by
    have hlt := drop_lt h
    have ih := sameTexts_l0 xs hx l (i + 1) (drop_tail h) (by omega)
    refine Ev.step (fun k => ?_) ih
    rw [laws_sameTexts.l0, if_pos (by omega), if_pos (by omega), if_pos (by omega), if_pos rfl, wrap_succ i (by omega)]
theorem sameTexts_ev (xs : List ByteArray) (hx : xs.length ≤ 1048577) : Ev (fun k => laws_sameTexts.f k xs xs) true := by
  unfold laws_sameTexts.f
  simp only [if_true]
  exact sameTexts_l0 xs hx xs 0 rfl (by omega)
theorem loop_end (xs : List Int) (hx : xs.length ≤ 1048576) (ps : List ByteArray) (h4 : ps.length ≤ 4) (hc : ∀ x ∈ ps, Clean x) :
    Ev (fun k => laws_FnDots.l0 k xs (joinN ps) (dotAll []) ps) true := by
  have ht : taken (dotAll []) = ((⟨#[46]⟩ : ByteArray), (⟨#[]⟩ : ByteArray), 0) := by
    have := taken_line (⟨#[46]⟩ : ByteArray) (⟨#[]⟩ : ByteArray) (by decide) (by decide)
    rw [append_empty] at this
    exact this
  have hsz := joinN_size ps hc
  have h0 := spec_TakeLine_ev (dotAll []) (by decide)
  rw [ht] at h0
  obtain ⟨x, hx1, hx2⟩ := dotText_ev xs hx
  obtain ⟨y, hy1, hy2⟩ := undotLine_ev xs hx
  obtain ⟨hI, r, hr⟩ := impl_UndotLine_eq y
  have hl := lines_length x
  refine Ev.step (f := fun k => (spec_TakeLine.f k (dotAll [])).bind fun bt219 => (if bt219.2.2 = 0 then ((impl_UndotLine.f bt219.1).bind fun bt222 => (if bt222.2 = true then (if ps.length < 8796093022208 then (laws_FnDots.l0 k xs (joinN ps) bt219.2.1 (ps ++ [bt222.1])) else (none)) else ((spec_DrawDotText.f k xs).bind fun t227 => ((spec_DrawUndotLine.f k xs).bind fun t228 => ((impl_UndotLine.f t228).bind fun bt229 => ((spec_UndotLine.f t228).bind fun bt231 => (if bt219.2.1.toList = ([] : List UInt8) then ((impl_TextOf.f k ps).bind fun t233 => (if t233.toList = (joinN ps).toList then ((impl_SafeText.f (joinN ps)).bind fun t234 => (if t234 = true then ((impl_LinesOf.f (joinN ps)).bind fun t235 => ((laws_sameTexts.f k t235 ps).bind fun t238 => (if t238 = true then ((impl_DotText.f k t227).bind fun t239 => ((spec_DotText.f k t227).bind fun t240 => (if t239.toList = t240.toList then (if (bt229.2 == bt231.2) = true then (if bt229.1.toList = bt231.1.toList then ((impl_SafeText.f t227).bind fun t241 => ((spec_SafeText.f k t227).bind fun t242 => (if (t241 == t242) = true then ((impl_LinesOf.f t227).bind fun t243 => ((spec_LinesOf.f k t227).bind fun t246 => ((laws_sameTexts.f k t243 t246).bind fun t249 => (some t249)))) else (some false)))) else (some false)) else (some false)) else (some false)))) else (some false)))) else (some false))) else (some false))) else (some false)))))))) else (some false))) (fun k => by rw [laws_FnDots.l0]) ?_
  refine Ev.bind h0 ?_
  simp only [if_true, (impl_UndotLine_eq (⟨#[46]⟩ : ByteArray)).1, undot_one, Option.bind_some, Bool.false_eq_true, if_false]
  refine Ev.bind hx2 ?_
  refine Ev.bind hy2 ?_
  simp only [hI, hr, Option.bind_some, if_pos (show (⟨#[]⟩ : ByteArray).toList = ([] : List UInt8) by rw [list_data])]
  refine Ev.bind (textOf_ev ps h4 hc) ?_
  simp only [if_true, impl_SafeText_eq (joinN ps) (by omega), safe_join ps hc, Option.bind_some, impl_LinesOf_eq (joinN ps) (by omega), lines_joinN ps hc]
  refine Ev.bind (sameTexts_ev ps (by omega)) ?_
  simp only [if_true]
  refine Ev.bind (impl_DotText_ev x (by omega)) ?_
  refine Ev.bind (spec_DotText_ev x (by omega)) ?_
  simp only [if_true, beq_self_eq_true, impl_SafeText_eq x (by omega), Option.bind_some]
  refine Ev.bind (spec_SafeText_ev x (by omega)) ?_
  simp only [if_true, beq_self_eq_true, impl_LinesOf_eq x (by omega), Option.bind_some]
  refine Ev.bind (spec_LinesOf_ev x (by omega)) ?_
  refine Ev.bind (sameTexts_ev (lines x) (by omega)) ?_
  exact Ev.now _
theorem dotted_clean (x : ByteArray) (h : Clean x) : (dotted x).size ≤ 80 ∧ ∀ c ∈ (dotted x).data.toList, c ≠ 13 := by
  have h1 := h.1
  unfold dotted
  split
  · refine ⟨by rw [ByteArray.size_append]; show 1 + x.size ≤ 80; omega, fun c hc => ?_⟩
    rw [data_append] at hc
    rcases List.mem_append.mp hc with hc | hc
    · simp at hc; subst hc; decide
    · exact (h.2 c hc).2
  · exact ⟨by omega, fun c hc => (h.2 c hc).2⟩
theorem loop_ev (xs : List Int) (hx : xs.length ≤ 1048576) (ps : List ByteArray) (h4 : ps.length ≤ 4) (hc : ∀ x ∈ ps, Clean x) :
    ∀ (l got : List ByteArray), got ++ l = ps → Ev (fun k => laws_FnDots.l0 k xs (joinN ps) (dotAll l) got) true
  | [], got, h => by
    rw [List.append_nil] at h
    subst h
    exact loop_end xs hx got h4 hc
  | x :: l, got, h => by
    have hxc : Clean x := hc x (by rw [← h]; simp)
    have hd := dotted_clean x hxc
    have ih := loop_ev xs hx ps h4 hc l (got ++ [x]) (by rw [← h]; simp)
    have hz := dotAll_size (x :: l) (fun y hy => hc y (by rw [← h]; exact List.mem_append.mpr (.inr hy)))
    have hlen : got.length + (x :: l).length = ps.length := by rw [← h, List.length_append]
    have ht : taken (dotAll (x :: l)) = (dotted x, dotAll l, 0) := by
      rw [dotAll, dl_dotted]
      exact taken_line (dotted x) (dotAll l) hd.1 hd.2
    have h0 := spec_TakeLine_ev (dotAll (x :: l)) (by omega)
    rw [ht] at h0
    obtain ⟨n0, hn0⟩ := h0
    obtain ⟨n1, hn1⟩ := ih
    refine ⟨max n0 n1 + 1, fun k hk => ?_⟩
    obtain ⟨m, rfl⟩ : ∃ m, k = m + 1 := ⟨k - 1, by omega⟩
    have a0 := hn0 m (by omega)
    have a1 := hn1 m (by omega)
    show laws_FnDots.l0 (m + 1) xs (joinN ps) (dotAll (x :: l)) got = some true
    rw [laws_FnDots.l0, show spec_TakeLine.f m (dotAll (x :: l)) = some (dotted x, dotAll l, 0) from a0, Option.bind_some, if_pos rfl, (impl_UndotLine_eq (dotted x)).1, undot_dotted, Option.bind_some, if_pos rfl, if_pos (by omega)]
    exact a1
theorem FnDots : laws_FnDots.Pure := by
  intro xs ⟨_, _⟩
  refine Ev.rounds (g := fun k => laws_FnDots.f k xs) ?_
  unfold laws_FnDots.f laws_big.f
  by_cases h : (xs.length : Int) > 1048576
  · exact Ev.bind (ev_some (fun _ => by rw [decide_eq_true h])) (by simp only [if_true]; exact Ev.now _)
  · refine ev_bind1 (a := false) (by rw [decide_eq_false h]) ?_
    simp only [Bool.false_eq_true, if_false]
    obtain ⟨ps, q1, q2, q3⟩ := mail_ev xs (by omega)
    have hz := joinN_size ps q2
    refine Ev.bind q3 ?_
    have hd := impl_DotText_ev (joinN ps) (by omega)
    rw [lines_joinN ps q2] at hd
    refine Ev.bind hd ?_
    exact loop_ev xs (by omega) ps q1 q2 ps [] rfl

end Go.Proofs.YtncpoffbeipooaaDoor.Pure
