/- What is brought has the head of who brought it; flags come back from their words. Conditions: none beyond the statement's own. -/
import Derived.Laws.BitsLemmas
import Derived.Test.YtenedfmmjfgbaaaDoorQFnHeadsPure0
import Derived.Test.YtenedfmmjfgbaaaDoorBase
namespace Go.Proofs.YtenedfmmjfgbaaaDoor.Pure
open Go.RowKit Go.Proofs.YtenedfmmjfgbaaaDoor.QFnHeads Go.Proofs.YtenedfmmjfgbaaaDoorW.PrintWords Go.Proofs.YtenedfmmjfgbaaaDoorW.PrintLast Go.Proofs.YtenedfmmjfgbaaaDoorB Go.Proofs.YtenedfmmjfgbaaaDoorO
set_option linter.unusedVariables false
set_option linter.unusedSimpArgs false

theorem and_range (x : Int) : 0 ≤ Go.bits .and .i64 x 255 ∧ Go.bits .and .i64 x 255 ≤ 255 := by
  have hm : ((BitVec.ofInt 64 x) &&& (BitVec.ofInt 64 255)).toNat ≤ 255 := by
    rw [BitVec.toNat_and]
    exact Nat.and_le_right
  have e : Go.bits .and .i64 x 255 = IntKind.i64.wrap ((((BitVec.ofInt 64 x) &&& (BitVec.ofInt 64 255)).toNat : Nat) : Int) := rfl
  rw [e, IntKind.wrap_i64]
  omega
theorem l01New_ev (xs : List Int) (hx : xs.length ≤ 1048576) : ∃ h : Int, Ev (fun k => spec_l01New.f k xs) (xs, 0, h) := by
  suffices H : ∀ (l : List Int) (i : Nat) (y : Int), xs.drop i = l → i ≤ xs.length → ∃ h : Int, Ev (fun k => spec_l01New.l0 k xs y i) (xs, 0, h) by
    obtain ⟨h, hh⟩ := H xs 0 (wrap64 (76001 + (xs.length : Int))) rfl (by omega)
    exact ⟨h, Ev.congr (fun k => rfl) hh⟩
  intro l
  induction l with
  | nil =>
    intro i y hd hi
    have e := drop_end hd hi
    exact ⟨y, Ev.step (fun k => by rw [spec_l01New.l0, if_neg (by omega)]) (Ev.now _)⟩
  | cons x l ih =>
    intro i y hd hi
    have hlt := drop_lt hd
    by_cases h4 : (i : Int) < 4000
    · obtain ⟨h, hh⟩ := ih (i + 1) (Go.bits .and .i64 (wrap64 ((wrap64 ((wrap64 (y * 131)) + (wrap64 (rd xs i)))) + 7)) 1073741823) (drop_tail hd) (by omega)
      refine ⟨h, Ev.step (fun k => ?_) hh⟩
      rw [spec_l01New.l0, if_pos (by omega), if_pos h4, if_pos (by omega), wrap_succ i (by omega)]
    · exact ⟨y, Ev.step (fun k => by rw [spec_l01New.l0, if_pos (by omega), if_neg h4]) (Ev.now _)⟩
theorem l01Byte_eq (xs : List Int) (hx : xs.length ≤ 1048576) (i h : Int) (hi : 0 ≤ i) : ∃ x j g : Int, spec_l01Byte.f xs i h = some (x, j, g) ∧ 0 ≤ x ∧ x ≤ 255 ∧ 0 ≤ j := by
  unfold spec_l01Byte.f
  by_cases c : i < (xs.length : Int)
  · rw [if_pos c, if_pos hi]
    exact ⟨_, _, _, rfl, (and_range _).1, (and_range _).2, by rw [wrap_id (by omega) (by omega)]; omega⟩
  · rw [if_neg c]
    exact ⟨_, _, _, rfl, (and_range _).1, (and_range _).2, hi⟩
theorem l01Below_eq (xs : List Int) (hx : xs.length ≤ 1048576) (i h : Int) (hi : 0 ≤ i) (n : Int) (hn : 0 < n) : ∃ x j g : Int, spec_l01Below.f xs i h n = some (x, j, g) ∧ 0 ≤ x ∧ x < n ∧ 0 ≤ j := by
  unfold spec_l01Below.f
  rw [if_neg (by omega)]
  by_cases c : n ≤ 256
  · rw [if_pos c]
    obtain ⟨x, j, g, e, h1, h2, h3⟩ := l01Byte_eq xs hx i h hi
    rw [e, Option.bind_some, if_neg (by omega)]
    exact ⟨_, _, _, rfl, Int.tmod_nonneg _ h1, Int.tmod_lt_of_pos _ hn, h3⟩
  · rw [if_neg c]
    obtain ⟨x1, j1, g1, e1, a1, b1, c1⟩ := l01Byte_eq xs hx i h hi
    obtain ⟨x2, j2, g2, e2, a2, b2, c2⟩ := l01Byte_eq xs hx j1 g1 c1
    obtain ⟨x3, j3, g3, e3, a3, b3, c3⟩ := l01Byte_eq xs hx j2 g2 c2
    obtain ⟨x4, j4, g4, e4, a4, b4, c4⟩ := l01Byte_eq xs hx j3 g3 c3
    simp only [e1, e2, e3, e4, Option.bind_some]
    rw [if_neg (by omega)]
    have w1 : wrap64 (x1 * 16777216) = x1 * 16777216 := wrap_id (by omega) (by omega)
    have w2 : wrap64 (x2 * 65536) = x2 * 65536 := wrap_id (by omega) (by omega)
    have w3 : wrap64 (x3 * 256) = x3 * 256 := wrap_id (by omega) (by omega)
    rw [w1, w2, w3]
    have w4 : wrap64 (x1 * 16777216 + x2 * 65536) = x1 * 16777216 + x2 * 65536 := wrap_id (by omega) (by omega)
    rw [w4]
    have w5 : wrap64 (x1 * 16777216 + x2 * 65536 + x3 * 256) = x1 * 16777216 + x2 * 65536 + x3 * 256 := wrap_id (by omega) (by omega)
    rw [w5]
    have w6 : wrap64 (x1 * 16777216 + x2 * 65536 + x3 * 256 + x4) = x1 * 16777216 + x2 * 65536 + x3 * 256 + x4 := wrap_id (by omega) (by omega)
    rw [w6]
    exact ⟨_, _, _, rfl, Int.tmod_nonneg _ (by omega), Int.tmod_lt_of_pos _ hn, c4⟩

theorem pick_eq (xs : List Int) (hx : xs.length ≤ 1048576) (i h : Int) (hi : 0 ≤ i) (l : List ByteArray) (hl : 0 < l.length) : ∃ (x : ByteArray) (j g : Int), spec_l01Pick.f xs i h l = some (x, j, g) ∧ x ∈ l ∧ 0 ≤ j := by
  obtain ⟨n, j, g, e, h1, h2, h3⟩ := l01Below_eq xs hx i h hi (l.length : Int) (by omega)
  have hn : n.toNat < l.length := by omega
  refine ⟨l[n.toNat]'hn, j, g, ?_, List.getElem_mem hn, h3⟩
  unfold spec_l01Pick.f
  rw [e, Option.bind_some, if_pos h1, if_pos h2]
  have er : rdOf ByteArray.empty l n = l[n.toNat]'hn := by
    unfold rdOf
    rw [List.getD_eq_getElem?_getD, List.getElem?_eq_getElem hn]
    rfl
  rw [er]

theorem once_eq (xs : List Int) (hx : xs.length ≤ 1048576) (i h : Int) (hi : 0 ≤ i) (n : Int) (hn : 0 < n) : ∃ (b : Bool) (j g : Int), spec_l01Once.f xs i h n = some (b, j, g) ∧ 0 ≤ j := by
  obtain ⟨m, j, g, e, _, _, h3⟩ := l01Below_eq xs hx i h hi n hn
  exact ⟨_, _, _, by unfold spec_l01Once.f; rw [e, Option.bind_some], h3⟩

def mk (l : List UInt8) : ByteArray := ⟨l.toArray⟩
theorem mk_data (l : List UInt8) : (mk l).data.toList = l := rfl
theorem mk_of (s : ByteArray) : mk s.data.toList = s := bytes_ext rfl
theorem mk_size (l : List UInt8) : (mk l).size = l.length := by rw [← size_data]; rfl
theorem map_mk (xs : List ByteArray) : (xs.map (·.data.toList)).map mk = xs := by
  rw [List.map_map]
  conv => rhs; rw [← List.map_id xs]
  exact List.map_congr_left (fun x _ => mk_of x)
theorem take_snoc {s : List UInt8} {b i : Nat} {c : UInt8} {l : List UInt8} (h : s.drop i = c :: l) (hb : b ≤ i) : (s.drop b).take (i + 1 - b) = (s.drop b).take (i - b) ++ [c] := by
  have e : i + 1 - b = (i - b) + 1 := by omega
  have hg : (s.drop b)[i - b]? = some c := by
    rw [List.getElem?_drop, show b + (i - b) = i by omega]
    have := congrArg List.head? h
    rw [List.head?_drop] at this
    simpa using this
  rw [e, List.take_add_one, hg]
  rfl

def consHead (cur : List UInt8) : List (List UInt8) → List (List UInt8)
  | [] => [cur]
  | h :: t => (cur ++ h) :: t
def splits : List UInt8 → List (List UInt8)
  | [] => [[]]
  | c :: l => if c = 10 then [] :: splits l else consHead [c] (splits l)
def trim : List (List UInt8) → List (List UInt8)
  | [] => []
  | [x] => if x = [] then [] else [x]
  | x :: y :: l => x :: trim (y :: l)
theorem splits_ne : ∀ l, splits l ≠ []
  | [] => by simp [splits]
  | c :: l => by
    unfold splits
    split
    · simp
    · cases splits l <;> simp [consHead]
theorem consHead_nil {xs : List (List UInt8)} (h : xs ≠ []) : consHead [] xs = xs := by
  cases xs with
  | nil => exact absurd rfl h
  | cons x l => simp [consHead]
theorem consHead_two (a b : List UInt8) {xs : List (List UInt8)} : consHead a (consHead b xs) = consHead (a ++ b) xs := by
  cases xs <;> simp [consHead]
theorem trim_cons (x : List UInt8) {xs : List (List UInt8)} (h : xs ≠ []) : trim (x :: xs) = x :: trim xs := by
  cases xs with
  | nil => exact absurd rfl h
  | cons y l => rfl
theorem splitK_splits : ∀ l : List UInt8, Lib.splitK [10] 0 (Lib.count l [10]) l = splits l
  | [] => rfl
  | c :: l => by
    have ih := splitK_splits l
    by_cases h : c = 10
    · subst h
      have e0 : Lib.index (10 :: l) [10] = 0 := by rw [Lib.index_one]; simp [Lib.indexByte]
      rw [Lib.count_cons_eq, show 1 + Lib.count l [10] = Lib.count l [10] + 1 by omega, Lib.splitK, e0, if_neg (by decide)]
      simp only [splits, if_true]
      show (10 :: l).take 0 :: Lib.splitK [10] 0 (Lib.count l [10]) l = _
      rw [ih]; rfl
    · rw [Lib.count_cons_ne c 10 l h]
      unfold splits
      rw [if_neg h, ← ih]
      cases e : Lib.count l [10] with
      | zero => rfl
      | succ m =>
        simp only [Lib.splitK]
        have hi : Lib.index (c :: l) [10] = if Lib.index l [10] = -1 then -1 else Lib.index l [10] + 1 := by
          rw [Lib.index_one, Lib.index_one]; simp [Lib.indexByte, h]
        have hge := Lib.index_ge l [10]
        by_cases h1 : Lib.index l [10] = -1
        · rw [hi, if_pos h1, h1]; simp [consHead]
        · have h2 : Lib.index (c :: l) [10] = Lib.index l [10] + 1 := by rw [hi, if_neg h1]
          have h3 : ¬ (Lib.index (c :: l) [10] == -1) = true := by rw [beq_iff_eq]; omega
          have h4 : ¬ (Lib.index l [10] == -1) = true := by rw [beq_iff_eq]; omega
          have h5 : (Lib.index (c :: l) [10]).toNat = (Lib.index l [10]).toNat + 1 := by omega
          rw [if_neg h3, if_neg h4, h5]
          simp [consHead, List.take_succ_cons, List.drop_succ_cons]
theorem splitB_splits (s : ByteArray) : Lib.splitB (⟨#[10]⟩ : ByteArray) 0 (Lib.countB s (⟨#[10]⟩ : ByteArray)) s = (splits s.data.toList).map mk := by
  rw [← map_mk (Lib.splitB (⟨#[10]⟩ : ByteArray) 0 (Lib.countB s (⟨#[10]⟩ : ByteArray)) s), Lib.splitB_data]
  exact congrArg _ (splitK_splits s.data.toList)
theorem splits_length : ∀ l, (splits l).length ≤ l.length + 1
  | [] => by simp [splits]
  | c :: l => by
    have ih := splits_length l
    unfold splits
    split
    · simp only [List.length_cons]; omega
    · cases e : splits l with
      | nil => simp [consHead]
      | cons x t => rw [e] at ih; simp only [consHead, List.length_cons] at ih ⊢; omega
theorem splits_size : ∀ l, ∀ x ∈ splits l, x.length ≤ l.length
  | [], x, h => by simp [splits] at h; subst h; simp
  | c :: l, x, h => by
    have ih := splits_size l
    unfold splits at h
    split at h
    · rcases List.mem_cons.mp h with h | h
      · subst h; simp
      · have := ih x h; simp only [List.length_cons]; omega
    · cases e : splits l with
      | nil => rw [e] at h; simp [consHead] at h; subst h; simp
      | cons y t =>
        rw [e] at h ih
        simp only [consHead] at h
        rcases List.mem_cons.mp h with h | h
        · subst h
          have := ih y (by simp)
          simp only [List.length_append, List.length_cons, List.length_nil]; omega
        · have := ih x (by simp [h]); simp only [List.length_cons]; omega
theorem trim_sub : ∀ xs, ∀ x ∈ trim xs, x ∈ xs
  | [], x, h => h
  | [y], x, h => by
    unfold trim at h
    split at h
    · simp at h
    · exact h
  | y :: z :: l, x, h => by
    rw [trim] at h
    rcases List.mem_cons.mp h with h | h
    · subst h; simp
    · exact List.mem_cons_of_mem _ (trim_sub (z :: l) x h)
theorem trim_length : ∀ xs, (trim xs).length ≤ xs.length
  | [] => Nat.le_refl _
  | [y] => by unfold trim; split <;> simp
  | y :: z :: l => by rw [trim]; have := trim_length (z :: l); simp only [List.length_cons] at this ⊢; omega
/-- What trim leaves, told by the last. -/
theorem trim_last : ∀ (xs : List (List UInt8)) (h : xs ≠ []), trim xs = if xs[xs.length - 1]'(by have := List.length_pos_iff.2 h; omega) = [] then xs.take (xs.length - 1) else xs
  | [], h => absurd rfl h
  | [y], _ => by unfold trim; simp
  | y :: z :: l, _ => by
    have ih := trim_last (z :: l) (by simp)
    rw [trim, ih]
    simp only [List.length_cons, Nat.add_sub_cancel, List.getElem_cons_succ]
    split
    · simp
    · rfl
def lines (s : ByteArray) : List ByteArray := (trim (splits s.data.toList)).map mk
theorem lines_length (s : ByteArray) : (lines s).length ≤ s.size + 1 := by
  unfold lines
  rw [List.length_map]
  have h1 := trim_length (splits s.data.toList)
  have h2 := splits_length s.data.toList
  rw [size_data] at h2
  omega
theorem lines_size (s : ByteArray) : ∀ x ∈ lines s, x.size ≤ s.size := by
  intro x hx
  obtain ⟨y, hy, rfl⟩ := List.mem_map.mp hx
  have := splits_size s.data.toList y (trim_sub _ y hy)
  rw [size_data] at this
  rw [mk_size]
  exact this

theorem impl_LinesOf_eq (s : ByteArray) (hs : s.size ≤ 1048576) : impl_LinesOf.f s = some (lines s) := by
  unfold impl_LinesOf.f strings_Split.f
  have hc := Lib.countB_le (⟨#[10]⟩ : ByteArray) (by decide) s.size s (Nat.le_refl _)
  rw [if_pos ⟨by omega, by decide, by omega⟩, Option.bind_some, splitB_splits]
  unfold lines
  have hne := splits_ne s.data.toList
  have hlen := splits_length s.data.toList
  rw [size_data] at hlen
  rw [trim_last _ hne]
  generalize splits s.data.toList = X at hne hlen ⊢
  have hpos := List.length_pos_iff.2 hne
  have ew : wrap64 (((X.map mk).length : Int) - 1) = ((X.length - 1 : Nat) : Int) := by
    rw [List.length_map]
    exact wrap_nat _ _ (by omega) (by omega)
  have er : rdOf ByteArray.empty (X.map mk) ((X.length - 1 : Nat) : Int) = mk (X[X.length - 1]'(by omega)) := by
    unfold rdOf
    rw [Int.toNat_natCast, List.getD_eq_getElem?_getD, List.getElem?_map, List.getElem?_eq_getElem (by omega)]
    rfl
  rw [ew, List.length_map, if_pos (by omega), if_pos (by omega), er, list_data, mk_data]
  split
  · rw [if_pos (by omega), Int.toNat_natCast, List.map_take]
  · rfl

theorem spec_LinesOf_l0 (s : ByteArray) (hs : s.size ≤ 1048576) :
    ∀ (l : List UInt8) (i b : Nat) (acc : List ByteArray), s.data.toList.drop i = l → i ≤ s.size → b ≤ i → acc.length ≤ i →
      Ev (fun k => spec_LinesOf.l0 k s acc b i) (acc ++ (trim (consHead ((s.data.toList.drop b).take (i - b)) (splits l))).map mk)
  | [], i, b, acc, h, hi, hb, ha => by
    have e := drop_end h (by rw [size_data]; exact hi)
    rw [size_data] at e
    subst e
    have ec : consHead ((s.data.toList.drop b).take (s.size - b)) (splits []) = [s.data.toList.drop b] := by
      simp only [splits, consHead, List.append_nil]
      rw [List.take_of_length_le (by rw [List.length_drop, size_data]; omega)]
    rw [ec]
    by_cases hlt : b < s.size
    · have hne : s.data.toList.drop b ≠ [] := by
        intro e
        have := congrArg List.length e
        rw [List.length_drop, size_data, List.length_nil] at this
        omega
      have ex : s.extract b s.size = mk (s.data.toList.drop b) := bytes_ext (by
        rw [extract_data, mk_data, List.take_of_length_le (by rw [List.length_drop, size_data]; omega)])
      simp only [trim, if_neg hne, List.map_cons, List.map_nil]
      refine Ev.step (fun k => ?_) (Ev.now _)
      rw [spec_LinesOf.l0, if_neg (by omega), if_pos (by omega), if_pos (by omega), if_pos (by omega), if_pos (by omega), Int.toNat_natCast, ex]
    · have he : s.data.toList.drop b = [] := List.drop_of_length_le (by rw [size_data]; omega)
      rw [he]
      simp only [trim, if_true, List.map_nil, List.append_nil]
      exact Ev.step (fun k => by rw [spec_LinesOf.l0, if_neg (by omega), if_neg (by omega)]) (Ev.now _)
  | c :: l, i, b, acc, h, hi, hb, ha => by
    have hlt := drop_lt h
    rw [size_data] at hlt
    have hbt := bt_cons h
    by_cases hc : c = 10
    · subst hc
      have ih := spec_LinesOf_l0 s hs l (i + 1) (i + 1) (acc ++ [mk ((s.data.toList.drop b).take (i - b))]) (drop_tail h) (by omega) (Nat.le_refl _) (by rw [List.length_append, List.length_singleton]; omega)
      rw [show i + 1 - (i + 1) = 0 by omega, List.take_zero, consHead_nil (splits_ne l)] at ih
      have e : acc ++ (trim (consHead ((s.data.toList.drop b).take (i - b)) (splits (10 :: l)))).map mk = acc ++ [mk ((s.data.toList.drop b).take (i - b))] ++ (trim (splits l)).map mk := by
        simp only [splits, if_true, consHead, List.append_nil]
        rw [trim_cons _ (splits_ne l), List.map_cons, List.append_assoc]
        rfl
      rw [e]
      have ex : s.extract b i = mk ((s.data.toList.drop b).take (i - b)) := bytes_ext (by rw [extract_data, mk_data])
      refine Ev.step (fun k => ?_) ih
      rw [spec_LinesOf.l0, if_pos (by omega), if_pos (by omega), if_pos (by rw [hbt]; rfl), if_pos (by omega), if_pos (by omega), if_pos (by omega), if_pos (by omega), Int.toNat_natCast, Int.toNat_natCast, ex, wrap_succ i (by omega)]
    · have ih := spec_LinesOf_l0 s hs l (i + 1) b acc (drop_tail h) (by omega) (by omega) (by omega)
      rw [take_snoc h hb] at ih
      have e : consHead ((s.data.toList.drop b).take (i - b)) (splits (c :: l)) = consHead ((s.data.toList.drop b).take (i - b) ++ [c]) (splits l) := by
        rw [splits, if_neg hc, consHead_two]
      rw [e]
      refine Ev.step (fun k => ?_) ih
      have hne : ¬ bt s (i : Int) = 10 := by
        rw [hbt]
        intro e
        exact hc (UInt8.toNat_inj.mp (show c.toNat = 10 by omega))
      rw [spec_LinesOf.l0, if_pos (by omega), if_pos (by omega), if_neg hne, wrap_succ i (by omega)]
theorem spec_LinesOf_ev (s : ByteArray) (hs : s.size ≤ 1048576) : Ev (fun k => spec_LinesOf.f k s) (lines s) := by
  have h := spec_LinesOf_l0 s hs s.data.toList 0 0 [] rfl (by omega) (Nat.le_refl _) (by simp)
  rw [show (s.data.toList.drop 0).take (0 - 0) = [] by simp, consHead_nil (splits_ne _), List.nil_append] at h
  exact Ev.congr (fun k => rfl) h

def pieces : List ByteArray := [(⟨#[104, 101, 108, 108, 111]⟩ : ByteArray), (⟨#[46]⟩ : ByteArray), (⟨#[46, 46]⟩ : ByteArray), (⟨#[46, 120]⟩ : ByteArray), (⟨#[]⟩ : ByteArray), (⟨#[115, 117, 98, 106, 101, 99, 116, 58, 32, 97]⟩ : ByteArray)]
def pieces7 : List ByteArray := [(⟨#[104, 101, 108, 108, 111]⟩ : ByteArray), (⟨#[46]⟩ : ByteArray), (⟨#[46, 46]⟩ : ByteArray), (⟨#[46, 120]⟩ : ByteArray), (⟨#[]⟩ : ByteArray), (⟨#[115, 117, 98, 106, 101, 99, 116, 58, 32, 97]⟩ : ByteArray), (⟨#[102, 114, 111, 109, 58, 32, 98]⟩ : ByteArray)]
def Clean (x : ByteArray) : Prop := x.size ≤ 10 ∧ ∀ c ∈ x.data.toList, c ≠ 10 ∧ c ≠ 13
theorem pieces_clean : ∀ x ∈ pieces, Clean x := by
  intro x hx
  simp only [pieces, List.mem_cons, List.mem_nil_iff, or_false] at hx
  rcases hx with rfl | rfl | rfl | rfl | rfl | rfl <;> exact ⟨by decide, by decide⟩
theorem pieces7_size : ∀ x ∈ pieces7, x.size ≤ 10 := by
  intro x hx
  simp only [pieces7, List.mem_cons, List.mem_nil_iff, or_false] at hx
  rcases hx with rfl | rfl | rfl | rfl | rfl | rfl | rfl <;> decide
def joinN : List ByteArray → ByteArray
  | [] => (⟨#[]⟩ : ByteArray)
  | x :: l => x ++ (⟨#[10]⟩ : ByteArray) ++ joinN l
theorem mail_l0 (xs : List Int) (hx : xs.length ≤ 1048576) : ∀ (n j : Nat) (acc : ByteArray) (i h : Int), j + n = 4 → acc.size ≤ 11 * j → 0 ≤ i →
    ∃ ps : List ByteArray, ps.length ≤ n ∧ (∀ x ∈ ps, Clean x) ∧ Ev (fun k => spec_DrawMailText.l0 k acc j xs i h) (acc ++ joinN ps)
  | n, j, acc, i, h, hn, ha, hi => by
    obtain ⟨m, i1, h1, e1, b1, b2, b3⟩ := l01Below_eq xs hx i h hi 5 (by omega)
    by_cases c : (j : Int) < m
    · cases n with
      | zero => omega
      | succ n =>
        obtain ⟨x, i2, h2, e2, m2, b4⟩ := pick_eq xs hx i1 h1 b3 pieces (by decide)
        have hc := pieces_clean x m2
        have hz : (⟨#[10]⟩ : ByteArray).size = 1 := rfl
        have hs : (acc ++ x).size = acc.size + x.size := ByteArray.size_append
        obtain ⟨ps, q1, q2, q3⟩ := mail_l0 xs hx n (j + 1) (acc ++ x ++ (⟨#[10]⟩ : ByteArray)) i2 h2 (by omega) (by rw [ByteArray.size_append, hs, hz]; have := hc.1; omega) b4
        refine ⟨x :: ps, by simp only [List.length_cons]; omega, fun y hy => ?_, ?_⟩
        · rcases List.mem_cons.mp hy with hy | hy
          · subst hy; exact hc
          · exact q2 y hy
        · rw [show acc ++ joinN (x :: ps) = acc ++ x ++ (⟨#[10]⟩ : ByteArray) ++ joinN ps by rw [joinN, append_assoc, append_assoc, append_assoc]]
          have := hc.1
          refine Ev.step (fun k => ?_) q3
          unfold pieces at e2
          rw [spec_DrawMailText.l0, e1, Option.bind_some]
          dsimp only
          rw [if_pos c, e2, Option.bind_some]
          dsimp only
          rw [if_pos (by omega), if_pos (by omega), wrap_succ j (by omega)]
    · refine ⟨[], by simp, by simp, ?_⟩
      rw [show acc ++ joinN [] = acc from append_empty acc]
      exact Ev.step (fun k => by rw [spec_DrawMailText.l0, e1, Option.bind_some]; dsimp only; rw [if_neg c]) (Ev.now _)
theorem mail_ev (xs : List Int) (hx : xs.length ≤ 1048576) : ∃ ps : List ByteArray, ps.length ≤ 4 ∧ (∀ x ∈ ps, Clean x) ∧ Ev (fun k => spec_DrawMailText.f k xs) (joinN ps) := by
  obtain ⟨h, hh⟩ := l01New_ev xs hx
  obtain ⟨ps, q1, q2, q3⟩ := mail_l0 xs hx 4 0 (⟨#[]⟩ : ByteArray) 0 h rfl (by decide) (by omega)
  rw [empty_append] at q3
  exact ⟨ps, q1, q2, Ev.congr (fun k => rfl) (Ev.bind hh (Ev.congr (fun k => rfl) q3))⟩
theorem l17_l0 (xs : List Int) (hx : xs.length ≤ 1048576) : ∀ (n j : Nat) (acc : ByteArray) (i h : Int), j + n = 4 → acc.size ≤ 11 * j → 0 ≤ i →
    ∃ (x : ByteArray) (i2 h2 : Int), x.size ≤ 100 ∧ Ev (fun k => spec_l17Text.l0 k acc j xs i h) (x, i2, h2)
  | n, j, acc, i, h, hn, ha, hi => by
    obtain ⟨m, i1, h1, e1, b1, b2, b3⟩ := l01Below_eq xs hx i h hi 5 (by omega)
    by_cases c : (j : Int) < m
    · cases n with
      | zero => omega
      | succ n =>
        obtain ⟨x, i2, h2, e2, m2, b4⟩ := pick_eq xs hx i1 h1 b3 pieces7 (by decide)
        have hc := pieces7_size x m2
        have hz : (⟨#[10]⟩ : ByteArray).size = 1 := rfl
        have hs : (acc ++ x).size = acc.size + x.size := ByteArray.size_append
        obtain ⟨y, i3, h3, q1, q3⟩ := l17_l0 xs hx n (j + 1) (acc ++ x ++ (⟨#[10]⟩ : ByteArray)) i2 h2 (by omega) (by rw [ByteArray.size_append, hs, hz]; omega) b4
        refine ⟨y, i3, h3, q1, Ev.step (fun k => ?_) q3⟩
        unfold pieces7 at e2
        rw [spec_l17Text.l0, e1, Option.bind_some]
        dsimp only
        rw [if_pos c, e2, Option.bind_some]
        dsimp only
        rw [if_pos (by omega), if_pos (by omega), wrap_succ j (by omega)]
    · obtain ⟨b, i2, h2, e2, b4⟩ := once_eq xs hx i1 h1 b3 5 (by omega)
      obtain ⟨d, i3, h3, e3, b5⟩ := once_eq xs hx i2 h2 b4 10 (by omega)
      have hs : (acc ++ (⟨#[101, 110, 100]⟩ : ByteArray)).size = acc.size + 3 := ByteArray.size_append
      have hs2 : (acc ++ (⟨#[101, 110, 100]⟩ : ByteArray) ++ (⟨#[13]⟩ : ByteArray)).size = acc.size + 3 + 1 := by rw [ByteArray.size_append, hs]; rfl
      have hs3 : (acc ++ (⟨#[13]⟩ : ByteArray)).size = acc.size + 1 := ByteArray.size_append
      cases b with
      | true =>
        cases d with
        | true => exact ⟨_, _, _, by rw [hs2]; omega, Ev.step (fun k => by rw [spec_l17Text.l0, e1, Option.bind_some]; dsimp only; rw [if_neg c, e2, Option.bind_some]; dsimp only; rw [if_pos rfl, if_pos (by omega), e3, Option.bind_some]; dsimp only; rw [if_pos rfl, if_pos (by omega)]) (Ev.now _)⟩
        | false => exact ⟨_, _, _, by rw [hs]; omega, Ev.step (fun k => by rw [spec_l17Text.l0, e1, Option.bind_some]; dsimp only; rw [if_neg c, e2, Option.bind_some]; dsimp only; rw [if_pos rfl, if_pos (by omega), e3, Option.bind_some]; dsimp only; rw [if_neg (by decide)]) (Ev.now _)⟩
      | false =>
        cases d with
        | true => exact ⟨_, _, _, by rw [hs3]; omega, Ev.step (fun k => by rw [spec_l17Text.l0, e1, Option.bind_some]; dsimp only; rw [if_neg c, e2, Option.bind_some]; dsimp only; rw [if_neg (by decide), e3, Option.bind_some]; dsimp only; rw [if_pos rfl, if_pos (by omega)]) (Ev.now _)⟩
        | false => exact ⟨_, _, _, by show acc.size ≤ 100; omega, Ev.step (fun k => by rw [spec_l17Text.l0, e1, Option.bind_some]; dsimp only; rw [if_neg c, e2, Option.bind_some]; dsimp only; rw [if_neg (by decide), e3, Option.bind_some]; dsimp only; rw [if_neg (by decide)]) (Ev.now _)⟩
theorem splits_line : ∀ (x r : List UInt8), (∀ c ∈ x, c ≠ 10) → splits (x ++ 10 :: r) = x :: splits r
  | [], r, _ => by rw [List.nil_append, splits, if_pos rfl]
  | c :: x, r, h => by
    rw [List.cons_append, splits, if_neg (h c (by simp)), splits_line x r (fun d hd => h d (by simp [hd]))]
    rfl
theorem joinN_size : ∀ ps : List ByteArray, (∀ x ∈ ps, Clean x) → (joinN ps).size ≤ 11 * ps.length
  | [], _ => by decide
  | x :: l, h => by
    have := joinN_size l (fun y hy => h y (by simp [hy]))
    have h2 := (h x (by simp)).1
    have hz : (⟨#[10]⟩ : ByteArray).size = 1 := rfl
    rw [joinN, ByteArray.size_append, ByteArray.size_append, hz, List.length_cons]
    omega

theorem DrawPlaces_l0 (xs : List Int) (hx : xs.length ≤ 1048576) : ∀ (n i : Nat) (acc : List Int) (j g : Int), i + n = 12 → acc.length = i → (∀ y ∈ acc, 0 ≤ y ∧ y < 10000) → 0 ≤ j →
    ∃ out : List Int, out.length = 12 ∧ (∀ y ∈ out, 0 ≤ y ∧ y < 10000) ∧ Ev (fun k => spec_DrawPlaces.l0 k acc i xs j g) out
  | 0, i, acc, j, g, hn, ha, hy, hj => ⟨acc, by omega, hy, Ev.step (fun k => by rw [spec_DrawPlaces.l0, if_neg (by omega)]) (Ev.now _)⟩
  | n + 1, i, acc, j, g, hn, ha, hy, hj => by
    obtain ⟨x, j2, g2, e, h1, h2, h3⟩ := l01Below_eq xs hx j g hj 10000 (by omega)
    obtain ⟨out, o1, o2, o3⟩ := DrawPlaces_l0 xs hx n (i + 1) (acc ++ [x]) j2 g2 (by omega) (by simp [ha]) (fun y hm => by
      rcases List.mem_append.mp hm with hm | hm
      · exact hy y hm
      · have := List.mem_singleton.mp hm; subst this; exact ⟨h1, h2⟩) h3
    refine ⟨out, o1, o2, Ev.step (fun k => ?_) o3⟩
    rw [spec_DrawPlaces.l0, if_pos (by omega), e, Option.bind_some, if_pos (by omega), wrap_succ i (by omega)]
theorem DrawPlaces_ev (xs : List Int) (hx : xs.length ≤ 1048576) : ∃ out : List Int, out.length = 12 ∧ (∀ y ∈ out, 0 ≤ y ∧ y < 10000) ∧ Ev (fun k => spec_DrawPlaces.f k xs) out := by
  obtain ⟨h, hh⟩ := l01New_ev xs hx
  obtain ⟨x, j, g, e, _, _, hj⟩ := l01Byte_eq xs hx 0 h (by omega)
  obtain ⟨out, o1, o2, o3⟩ := DrawPlaces_l0 xs hx 12 0 [] j g rfl rfl (by simp) hj
  exact ⟨out, o1, o2, Ev.congr (fun k => rfl) (Ev.bind hh (ev_bind1 e (Ev.congr (fun k => rfl) o3)))⟩

def headL (p : ByteArray) : List ByteArray → ByteArray × Bool
  | [] => ((⟨#[]⟩ : ByteArray), false)
  | x :: l => if x.toList = ([] : List UInt8) then ((⟨#[]⟩ : ByteArray), false) else if Lib.hasPrefix x.data.toList p.data.toList = true then ((⟨(Lib.trimPrefix x.data.toList p.data.toList).toArray⟩ : ByteArray), true) else headL p l
theorem begins_eq (x p : ByteArray) : spec_l18Begins.f x p = some (Lib.hasPrefix x.data.toList p.data.toList) := by
  rw [← Lib.hasPrefix_raw]
  unfold spec_l18Begins.f
  by_cases h : (x.size : Int) ≥ (p.size : Int)
  · rw [if_pos h, if_pos (by omega), if_pos (by omega), decide_eq_true (show p.size ≤ x.size by omega), Bool.true_and, Int.toNat_natCast]
  · rw [if_neg h, decide_eq_false (show ¬ p.size ≤ x.size by omega), Bool.false_and]
theorem trim_eq (x p : ByteArray) (h : Lib.hasPrefix x.data.toList p.data.toList = true) : (⟨(Lib.trimPrefix x.data.toList p.data.toList).toArray⟩ : ByteArray) = x.extract p.size x.size := by
  apply bytes_ext
  rw [extract_data]
  show Lib.trimPrefix x.data.toList p.data.toList = _
  unfold Lib.trimPrefix
  rw [if_pos h, size_data, List.take_of_length_le (by rw [List.length_drop, size_data]; omega)]
theorem prefix_le (x p : ByteArray) (h : Lib.hasPrefix x.data.toList p.data.toList = true) : p.size ≤ x.size := by
  have h1 : p.data.toList.isPrefixOf x.data.toList = true := h
  have := (List.isPrefixOf_iff_prefix.1 h1).length_le
  rwa [size_data, size_data] at this
theorem spec_HeadOf_l0 (xs : List ByteArray) (p : ByteArray) (hx : xs.length ≤ 1048577) :
    ∀ (l : List ByteArray) (i : Nat), xs.drop i = l → i ≤ xs.length → Ev (fun k => spec_HeadOf.l0 k xs p i) (headL p l)
  | [], i, h, hi => by
    have e := drop_end h hi
    refine Ev.step (f := fun k => spec_HeadOf.j1 k xs p i false) (fun k => by rw [spec_HeadOf.l0, if_neg (by omega)]) ?_
    exact Ev.step (fun k => by rw [spec_HeadOf.j1, if_neg (by decide)]; rfl) (Ev.now _)
  | x :: l, i, h, hi => by
    have hlt := drop_lt h
    have er : rdOf ByteArray.empty xs (i : Int) = x := rdOf_drop _ h
    refine Ev.step (f := fun k => spec_HeadOf.j1 k xs p i (x.toList != ([] : List UInt8))) (fun k => by rw [spec_HeadOf.l0, if_pos (by omega), if_pos (by omega), er]) ?_
    unfold headL
    by_cases he : x.toList = ([] : List UInt8)
    · have hb : (x.toList != ([] : List UInt8)) = false := by rw [he]; rfl
      rw [if_pos he, hb]
      exact Ev.step (fun k => by rw [spec_HeadOf.j1, if_neg (by decide)]) (Ev.now _)
    · have hb : (x.toList != ([] : List UInt8)) = true := bne_iff_ne.mpr he
      rw [if_neg he, hb]
      by_cases hp : Lib.hasPrefix x.data.toList p.data.toList = true
      · have hle := prefix_le x p hp
        rw [if_pos hp, trim_eq x p hp]
        refine Ev.step (fun k => ?_) (Ev.now _)
        rw [spec_HeadOf.j1, if_pos rfl, if_pos (by omega), if_pos (by omega), er, begins_eq, hp, Option.bind_some, if_pos rfl, if_pos (by omega), if_pos (by omega), Int.toNat_natCast]
      · have ih := spec_HeadOf_l0 xs p hx l (i + 1) (drop_tail h) (by omega)
        rw [if_neg hp]
        refine Ev.step (fun k => ?_) ih
        rw [spec_HeadOf.j1, if_pos rfl, if_pos (by omega), if_pos (by omega), er, begins_eq, Option.bind_some, if_neg hp, wrap_succ i (by omega)]
theorem impl_HeadOf_l0 (xs : List ByteArray) (a : ByteArray) (ha : a.size ≤ 1048576) (hx : xs.length ≤ 1048577) :
    ∀ (l : List ByteArray) (i : Nat), xs.drop i = l → i ≤ xs.length → Ev (fun k => impl_HeadOf.l0 k a xs (xs.length : Int) i) (headL (a ++ (⟨#[58, 32]⟩ : ByteArray)) l)
  | [], i, h, hi => by
    have e := drop_end h hi
    exact Ev.step (fun k => by rw [impl_HeadOf.l0, if_neg (by omega)]; rfl) (Ev.now _)
  | x :: l, i, h, hi => by
    have hlt := drop_lt h
    have er : rdOf ByteArray.empty xs (i : Int) = x := rdOf_drop _ h
    unfold headL
    by_cases he : x.toList = ([] : List UInt8)
    · rw [if_pos he]
      exact Ev.step (fun k => by rw [impl_HeadOf.l0, if_pos (by omega), if_pos (by omega), if_pos (by omega), er, if_pos he]) (Ev.now _)
    · rw [if_neg he]
      have ec : strings_CutPrefix.f x (a ++ (⟨#[58, 32]⟩ : ByteArray)) = some ((⟨(Lib.trimPrefix x.data.toList (a ++ (⟨#[58, 32]⟩ : ByteArray)).data.toList).toArray⟩ : ByteArray), Lib.hasPrefix x.data.toList (a ++ (⟨#[58, 32]⟩ : ByteArray)).data.toList) := rfl
      by_cases hp : Lib.hasPrefix x.data.toList (a ++ (⟨#[58, 32]⟩ : ByteArray)).data.toList = true
      · rw [if_pos hp]
        refine Ev.step (fun k => ?_) (Ev.now _)
        rw [impl_HeadOf.l0, if_pos (by omega), if_pos (by omega), if_pos (by omega), er, if_neg he, if_pos (by omega), ec, Option.bind_some, if_pos hp]
      · have ih := impl_HeadOf_l0 xs a ha hx l (i + 1) (drop_tail h) (by omega)
        rw [if_neg hp]
        refine Ev.step (fun k => ?_) ih
        rw [impl_HeadOf.l0, if_pos (by omega), if_pos (by omega), if_pos (by omega), er, if_neg he, if_pos (by omega), ec, Option.bind_some, if_neg hp, wrap_succ i (by omega)]
theorem spec_HeadOf_ev (s a : ByteArray) (hs : s.size ≤ 1048576) (ha : a.size ≤ 1048576) : Ev (fun k => spec_HeadOf.f k s a) (headL (a ++ (⟨#[58, 32]⟩ : ByteArray)) (lines s)) := by
  have hl := lines_length s
  unfold spec_HeadOf.f
  refine Ev.bind (spec_LinesOf_ev s (by omega)) ?_
  simp only [if_pos (show a.size + 2 ≤ 9223372036854775807 by omega)]
  exact spec_HeadOf_l0 (lines s) _ (by omega) (lines s) 0 rfl (by omega)
theorem impl_HeadOf_ev (s a : ByteArray) (hs : s.size ≤ 1048576) (ha : a.size ≤ 1048576) : Ev (fun k => impl_HeadOf.f k s a) (headL (a ++ (⟨#[58, 32]⟩ : ByteArray)) (lines s)) := by
  have hl := lines_length s
  unfold impl_HeadOf.f
  simp only [impl_LinesOf_eq s (by omega), Option.bind_some]
  exact impl_HeadOf_l0 (lines s) a (by omega) (by omega) (lines s) 0 rfl (by omega)

def Good (c : UInt8) : Prop := 32 ≤ c.toNat ∧ c.toNat ≤ 126
instance (c : UInt8) : Decidable (Good c) := inferInstanceAs (Decidable (_ ∧ _))
def AllGood (l : List UInt8) : Prop := ∀ c ∈ l, Good c
theorem allGood_dec (l : List UInt8) : AllGood l ∨ ∃ c ∈ l, ¬ Good c := by
  by_cases h : ∃ c ∈ l, ¬ Good c
  · exact .inr h
  · exact .inl (fun c hc => Classical.byContradiction fun hg => h ⟨c, hc, hg⟩)
def endOf (X : List ByteArray) : List ByteArray × Bool := if (X.length : Int) > 10 then ([], false) else (X, true)
theorem isSp_good (c : UInt8) (h : Good c) : Lib.isSp c = true ↔ c = 32 := by
  obtain ⟨h1, h2⟩ := h
  unfold Lib.isSp
  simp only [Bool.or_eq_true, beq_iff_eq]
  constructor
  · rintro (((((h | h) | h) | h) | h) | h)
    · subst h; exact absurd h1 (by decide)
    · subst h; exact absurd h1 (by decide)
    · subst h; exact absurd h1 (by decide)
    · subst h; exact absurd h1 (by decide)
    · subst h; exact absurd h1 (by decide)
    · exact h
  · intro h; exact .inr h
theorem fields_len : ∀ (l cur : List UInt8), (Lib.fieldsGo cur l).length ≤ l.length + 1
  | [], cur => by unfold Lib.fieldsGo; split <;> simp
  | b :: l, cur => by
    have h1 := fields_len l []
    have h2 := fields_len l (cur ++ [b])
    unfold Lib.fieldsGo
    split
    · split
      · simp only [List.length_cons]; omega
      · simp only [List.length_cons]; omega
    · simp only [List.length_cons]; omega

theorem spec_good (s : ByteArray) (hs : s.size ≤ 600) (acc : List ByteArray) (b i : Nat) (c : UInt8) (l : List UInt8) (h : s.data.toList.drop i = c :: l) (hb : b ≤ i) (ha : acc.length ≤ i) (hg : Good c) {r : List ByteArray × Bool}
    (h1 : c = 32 → b < i → Ev (fun k => spec_PartsOf.l0 k s (acc ++ [s.extract b i]) ((i + 1 : Nat) : Int) ((i + 1 : Nat) : Int)) r)
    (h2 : c = 32 → ¬ b < i → Ev (fun k => spec_PartsOf.l0 k s acc ((i + 1 : Nat) : Int) ((i + 1 : Nat) : Int)) r)
    (h3 : ¬ c = 32 → Ev (fun k => spec_PartsOf.l0 k s acc b ((i + 1 : Nat) : Int)) r) : Ev (fun k => spec_PartsOf.l0 k s acc b i) r := by
  have hlt := drop_lt h
  rw [size_data] at hlt
  have hbt := bt_cons h
  obtain ⟨g1, g2⟩ := hg
  refine Ev.step (f := fun k => spec_PartsOf.j1 k s acc b i false) (fun k => ?_) ?_
  · rw [spec_PartsOf.l0, if_pos (by omega), if_pos (by omega), if_pos (by omega), hbt, if_neg (by omega), decide_eq_false (by omega)]
  refine Ev.step (f := fun k => spec_PartsOf.j2 k s acc b i (bt s (i : Int) != 32)) (fun k => ?_) ?_
  · rw [spec_PartsOf.j1, if_neg (by decide), if_pos (by omega), if_pos (by omega)]
  by_cases hc : c = 32
  · have hz : (bt s (i : Int) != 32) = false := by rw [hbt, hc]; rfl
    rw [hz]
    by_cases hbi : b < i
    · refine Ev.step (fun k => ?_) (h1 hc hbi)
      rw [spec_PartsOf.j2, if_neg (by decide), if_pos (by omega), if_pos (by omega), if_pos (by omega), if_pos (by omega), if_pos (by omega), Int.toNat_natCast, Int.toNat_natCast, wrap_succ i (by omega)]
    · refine Ev.step (fun k => ?_) (h2 hc hbi)
      rw [spec_PartsOf.j2, if_neg (by decide), if_neg (by omega), wrap_succ i (by omega)]
  · have hz : (bt s (i : Int) != 32) = true := by
      rw [hbt]
      exact bne_iff_ne.mpr (fun e => hc (UInt8.toNat_inj.mp (show c.toNat = 32 by omega)))
    rw [hz]
    refine Ev.step (fun k => ?_) (h3 hc)
    rw [spec_PartsOf.j2, if_pos rfl, wrap_succ i (by omega)]
theorem spec_PartsOf_bad (s : ByteArray) (hs : s.size ≤ 600) :
    ∀ (l : List UInt8) (i b : Nat) (acc : List ByteArray), s.data.toList.drop i = l → i ≤ s.size → b ≤ i → acc.length ≤ i → (∃ c ∈ l, ¬ Good c) → Ev (fun k => spec_PartsOf.l0 k s acc b i) ([], false)
  | [], i, b, acc, h, hi, hb, ha, hx => absurd hx (by simp)
  | c :: l, i, b, acc, h, hi, hb, ha, hx => by
    have hlt := drop_lt h
    rw [size_data] at hlt
    have hbt := bt_cons h
    by_cases hg : Good c
    · have hb2 : ∃ d ∈ l, ¬ Good d := by
        obtain ⟨d, hd, hn⟩ := hx
        rcases List.mem_cons.mp hd with hd | hd
        · subst hd; exact absurd hg hn
        · exact ⟨d, hd, hn⟩
      exact spec_good s hs acc b i c l h hb ha hg
        (fun _ _ => spec_PartsOf_bad s hs l (i + 1) (i + 1) _ (drop_tail h) (by omega) (Nat.le_refl _) (by rw [List.length_append, List.length_singleton]; omega) hb2)
        (fun _ _ => spec_PartsOf_bad s hs l (i + 1) (i + 1) _ (drop_tail h) (by omega) (Nat.le_refl _) (by omega) hb2)
        (fun _ => spec_PartsOf_bad s hs l (i + 1) b _ (drop_tail h) (by omega) (by omega) (by omega) hb2)
    · refine Ev.step (f := fun k => spec_PartsOf.j1 k s acc b i true) (fun k => ?_) (Ev.step (fun k => by rw [spec_PartsOf.j1, if_pos rfl]) (Ev.now _))
      rw [spec_PartsOf.l0, if_pos (by omega), if_pos (by omega), if_pos (by omega), hbt]
      by_cases h1 : c.toNat < 32
      · rw [if_pos (by omega)]
      · have h2 : c.toNat > 126 := by
          rcases Nat.lt_or_ge 126 c.toNat with h2 | h2
          · exact h2
          · exact absurd ⟨by omega, h2⟩ hg
        rw [if_neg (by omega), decide_eq_true (by omega)]
theorem cur_empty (s : List UInt8) (b i : Nat) (hi : i ≤ s.length) : ((s.drop b).take (i - b)).isEmpty = true ↔ ¬ b < i := by
  rw [List.isEmpty_iff_length_eq_zero, List.length_take, List.length_drop]
  omega
theorem spec_PartsOf_good (s : ByteArray) (hs : s.size ≤ 600) (hgs : AllGood s.data.toList) :
    ∀ (l : List UInt8) (i b : Nat) (acc : List ByteArray), s.data.toList.drop i = l → i ≤ s.size → b ≤ i → acc.length ≤ i →
      Ev (fun k => spec_PartsOf.l0 k s acc b i) (endOf (acc ++ (Lib.fieldsGo ((s.data.toList.drop b).take (i - b)) l).map mk))
  | [], i, b, acc, h, hi, hb, ha => by
    have e := drop_end h (by rw [size_data]; exact hi)
    rw [size_data] at e
    have hlast : ∀ X : List ByteArray, Ev (fun k => spec_PartsOf.l0 k s X ((i + 1 : Nat) : Int) ((i + 1 : Nat) : Int)) (endOf X) := fun X => by
      refine Ev.step (fun k => ?_) (Ev.now _)
      rw [spec_PartsOf.l0, if_neg (by omega)]
      unfold endOf
      split <;> rfl
    refine Ev.step (f := fun k => spec_PartsOf.j1 k s acc b i false) (fun k => by rw [spec_PartsOf.l0, if_pos (by omega), if_neg (by omega)]) ?_
    refine Ev.step (f := fun k => spec_PartsOf.j2 k s acc b i false) (fun k => by rw [spec_PartsOf.j1, if_neg (by decide), if_neg (by omega)]) ?_
    have hce := cur_empty s.data.toList b i (by rw [size_data]; exact hi)
    have ex : s.extract b i = mk ((s.data.toList.drop b).take (i - b)) := bytes_ext (by rw [extract_data, mk_data])
    unfold Lib.fieldsGo
    by_cases hbi : b < i
    · rw [if_neg (fun hh => hce.1 hh hbi)]
      refine Ev.step (fun k => ?_) (hlast _)
      rw [spec_PartsOf.j2, if_neg (by decide), if_pos (by omega), if_pos (by omega), if_pos (by omega), if_pos (by omega), if_pos (by omega), Int.toNat_natCast, Int.toNat_natCast, wrap_succ i (by omega), ex]
      rfl
    · rw [if_pos (hce.2 hbi), List.map_nil, List.append_nil]
      refine Ev.step (fun k => ?_) (hlast _)
      rw [spec_PartsOf.j2, if_neg (by decide), if_neg (by omega), wrap_succ i (by omega)]
  | c :: l, i, b, acc, h, hi, hb, ha => by
    have hlt := drop_lt h
    rw [size_data] at hlt
    have hgc := hgs c (List.mem_of_mem_drop (show c ∈ s.data.toList.drop i by rw [h]; simp))
    have hsp := isSp_good c hgc
    have hce := cur_empty s.data.toList b i (by rw [size_data]; exact hi)
    have ex : s.extract b i = mk ((s.data.toList.drop b).take (i - b)) := bytes_ext (by rw [extract_data, mk_data])
    refine spec_good s hs acc b i c l h hb ha hgc (fun hc hbi => ?_) (fun hc hbi => ?_) (fun hc => ?_)
    · have ih := spec_PartsOf_good s hs hgs l (i + 1) (i + 1) (acc ++ [s.extract b i]) (drop_tail h) (by omega) (Nat.le_refl _) (by rw [List.length_append, List.length_singleton]; omega)
      rw [show i + 1 - (i + 1) = 0 by omega, List.take_zero] at ih
      have e : acc ++ (Lib.fieldsGo ((s.data.toList.drop b).take (i - b)) (c :: l)).map mk = acc ++ [s.extract b i] ++ (Lib.fieldsGo [] l).map mk := by
        rw [Lib.fieldsGo, if_pos (hsp.2 hc), if_neg (fun hh => hce.1 hh hbi), List.map_cons, ex, List.append_assoc]
        rfl
      rw [e]
      exact ih
    · have ih := spec_PartsOf_good s hs hgs l (i + 1) (i + 1) acc (drop_tail h) (by omega) (Nat.le_refl _) (by omega)
      rw [show i + 1 - (i + 1) = 0 by omega, List.take_zero] at ih
      rw [Lib.fieldsGo, if_pos (hsp.2 hc), if_pos (hce.2 hbi)]
      exact ih
    · have ih := spec_PartsOf_good s hs hgs l (i + 1) b acc (drop_tail h) (by omega) (by omega) (by omega)
      rw [take_snoc h hb] at ih
      rw [Lib.fieldsGo, if_neg (fun hh => hc (hsp.1 hh))]
      exact ih
open Classical in
noncomputable def parts (s : ByteArray) : List ByteArray × Bool := if (s.size : Int) > 600 then ([], false) else if AllGood s.data.toList then endOf ((Lib.fields s.data.toList).map mk) else ([], false)
theorem spec_PartsOf_ev (s : ByteArray) : Ev (fun k => spec_PartsOf.f k s) (parts s) := by
  unfold spec_PartsOf.f parts
  simp only [Option.bind_some]
  by_cases h : (s.size : Int) > 600
  · simp only [if_pos h]; exact Ev.now _
  · simp only [if_neg h]
    rcases allGood_dec s.data.toList with hg | hb
    · rw [if_pos hg]
      have := spec_PartsOf_good s (by omega) hg s.data.toList 0 0 [] rfl (by omega) (Nat.le_refl _) (by simp)
      rw [show (s.data.toList.drop 0).take (0 - 0) = [] by simp, List.nil_append] at this
      exact this
    · rw [if_neg (fun hg => by obtain ⟨c, hc, hn⟩ := hb; exact hn (hg c hc))]
      exact spec_PartsOf_bad s (by omega) s.data.toList 0 0 [] rfl (by omega) (Nat.le_refl _) (by simp) hb
theorem parts_len (s : ByteArray) : (parts s).1.length ≤ 10 := by
  unfold parts endOf
  split
  · simp
  · split
    · split
      · simp
      · show ((Lib.fields s.data.toList).map mk).length ≤ 10
        omega
    · simp
theorem parts_no (s : ByteArray) (h : ¬ (parts s).2 = true) : (parts s).1 = [] := by
  unfold parts endOf at h ⊢
  split
  · rfl
  · rename_i h1
    rw [if_neg h1] at h
    split
    · rename_i h2
      rw [if_pos h2] at h
      split
      · rfl
      · rename_i h3
        rw [if_neg h3] at h
        exact absurd rfl h
    · rfl
theorem spec_WordsOf_ev (s : ByteArray) : Ev (fun k => spec_WordsOf.f k s) (parts s).1 := by
  unfold spec_WordsOf.f
  refine Ev.bind (spec_PartsOf_ev s) ?_
  have hl := parts_len s
  by_cases h : (parts s).2 = true
  · simp only [if_pos h, Option.bind_some, List.length_nil, Nat.zero_add, if_pos (show (parts s).1.length < 8796093022208 by omega), List.nil_append]
    exact Ev.now _
  · simp only [if_neg h, parts_no s h]
    exact Ev.now _

theorem andz (n : Nat) (h : n < 9223372036854775808) (i : Nat) (hi : i < 3) : Go.bits .and .i64 (n : Int) ((2 ^ i : Nat) : Int) = 0 ↔ n / 2 ^ i % 2 = 0 := by
  have hk : ∀ n : Int, 0 ≤ n → n < 2 ^ 63 → IntKind.i64.wrap n = n := fun n h0 h1 => by rw [IntKind.wrap_i64]; omega
  have h2 : (2 ^ i : Nat) < 2 ^ 63 := Nat.pow_lt_pow_right (by decide) (by omega)
  rw [(bits_nat .i64 63 (by decide) hk n (2 ^ i) (by omega) h2).1]
  have ht : n.testBit i = decide (n / 2 ^ i % 2 = 1) := Nat.testBit_eq_decide_div_mod_eq
  constructor
  · intro h0
    have h1 : (n &&& 2 ^ i).testBit i = false := by rw [show n &&& 2 ^ i = 0 by omega]; simp
    rw [Nat.testBit_and, Nat.testBit_two_pow_self, Bool.and_true, ht] at h1
    have := of_decide_eq_false h1
    omega
  · intro h0
    have : n &&& 2 ^ i = 0 := by
      apply Nat.eq_of_testBit_eq
      intro j
      rw [Nat.testBit_and, Nat.testBit_two_pow]
      by_cases c : i = j
      · subst c; rw [ht]; simp [h0]
      · simp [c]
    omega
theorem wr (x : Int) (h0 : -9223372036854775808 ≤ x) (h1 : x ≤ 9223372036854775807) : wrap64 x = x := wrap_id h0 h1
def out (p q r : Bool) : ByteArray := ⟨(([40] : List UInt8) ++ Lib.join ((if p then [[115, 101, 101, 110]] else []) ++ (if q then [[102, 108, 97, 103, 103, 101, 100]] else []) ++ (if r then [[100, 101, 108, 101, 116, 101, 100]] else [])) [32] ++ [41]).toArray⟩
def str (p q r : Bool) : ByteArray := ⟨(Lib.join ((if p then [[115, 101, 101, 110]] else []) ++ (if q then [[102, 108, 97, 103, 103, 101, 100]] else []) ++ (if r then [[100, 101, 108, 101, 116, 101, 100]] else [])) [32]).toArray⟩
theorem join_eq (l : List ByteArray) (h : (Lib.join (l.map (·.data.toList)) [32]).length ≤ 140737488355328 ∧ l.length ≤ 140737488355328) : strings_Join.f l (⟨#[32]⟩ : ByteArray) = some ⟨(Lib.join (l.map (·.data.toList)) [32]).toArray⟩ := by
  unfold strings_Join.f
  exact if_pos h
theorem impl_ev (k : Nat) (n : Int) (p q r : Bool) (h0 : Go.bits .and .i64 n 1 = 0 ↔ p = false) (h1 : Go.bits .and .i64 n 2 = 0 ↔ q = false) (h2 : Go.bits .and .i64 n 4 = 0 ↔ r = false) :
    impl_FlagWords.j0 (k + 2) n [] = some (out p q r) := by
  rw [impl_FlagWords.j0]
  cases p <;> cases q <;> cases r <;> simp only [Bool.true_eq_false, iff_true, iff_false] at h0 h1 h2
  · rw [if_pos h0, impl_FlagWords.j1, if_pos h1, if_pos h2, join_eq _ (by decide)]; rfl
  · rw [if_pos h0, impl_FlagWords.j1, if_pos h1, if_neg h2, if_pos (by decide), join_eq _ (by decide)]; rfl
  · rw [if_pos h0, impl_FlagWords.j1, if_neg h1, if_pos (by decide), Option.bind_some, if_pos h2, join_eq _ (by decide)]; rfl
  · rw [if_pos h0, impl_FlagWords.j1, if_neg h1, if_pos (by decide), Option.bind_some, if_neg h2, if_pos (by decide), join_eq _ (by decide)]; rfl
  · rw [if_neg h0, if_pos (by decide), impl_FlagWords.j1, if_pos h1, if_pos h2, join_eq _ (by decide)]; rfl
  · rw [if_neg h0, if_pos (by decide), impl_FlagWords.j1, if_pos h1, if_neg h2, if_pos (by decide), join_eq _ (by decide)]; rfl
  · rw [if_neg h0, if_pos (by decide), impl_FlagWords.j1, if_neg h1, if_pos (by decide), Option.bind_some, if_pos h2, join_eq _ (by decide)]; rfl
  · rw [if_neg h0, if_pos (by decide), impl_FlagWords.j1, if_neg h1, if_pos (by decide), Option.bind_some, if_neg h2, if_pos (by decide), join_eq _ (by decide)]; rfl
theorem bb (n m : Nat) : n / m % 2 = 0 ↔ decide (n / m % 2 = 1) = false := by
  rw [decide_eq_false_iff_not]; omega
theorem mnw : wrap64 ((9223372036854775808 : Nat) : Int) = -9223372036854775808 := by unfold wrap64; decide
theorem mn (m : Nat) (p : Bool) (h : p = false) (x : Int) (e : Go.bits .and .i64 (-9223372036854775808) x = 0) : Go.bits .and .i64 (-9223372036854775808) x = 0 ↔ p = false := ⟨fun _ => h, fun _ => e⟩
theorem mn1 : Go.bits .and .i64 (-9223372036854775808) 1 = 0 := by rfl
theorem mn2 : Go.bits .and .i64 (-9223372036854775808) 2 = 0 := by rfl
theorem mn4 : Go.bits .and .i64 (-9223372036854775808) 4 = 0 := by rfl
theorem mp1 : decide (9223372036854775808 / 1 % 2 = 1) = false := by rfl
theorem mp2 : decide (9223372036854775808 / 2 % 2 = 1) = false := by rfl
theorem mp4 : decide (9223372036854775808 / 4 % 2 = 1) = false := by rfl
theorem impl_all (k : Nat) (a : Int) (n : Nat) (e : a.natAbs = n) (hn : n ≤ 9223372036854775808) (hw2 : a < 9223372036854775808) :
    impl_FlagWords.f (k + 4) a = some (out (decide (n / 1 % 2 = 1)) (decide (n / 2 % 2 = 1)) (decide (n / 4 % 2 = 1))) := by
  unfold impl_FlagWords.f
  rw [Option.bind_some]
  have ha : a = -(n : Int) ∧ a < 0 ∨ a = (n : Int) := by omega
  rcases ha with ⟨ha, hl⟩ | ha
  · have h2 : -a = (n : Int) := by omega
    rw [if_pos hl, h2]
    by_cases hm : n = 9223372036854775808
    · clear ha hl e hn hw2 h2
      subst hm
      rw [mnw]
      exact impl_ev (k + 2) _ _ _ _ (mn 0 _ mp1 _ mn1) (mn 0 _ mp2 _ mn2) (mn 0 _ mp4 _ mn4)
    · have hl2 : n < 9223372036854775808 := by omega
      have h3 : wrap64 (n : Int) = (n : Int) := wr n (by omega) (by omega)
      rw [h3]
      exact impl_ev (k + 2) n _ _ _ ((andz n hl2 0 (by decide)).trans (bb n 1)) ((andz n hl2 1 (by decide)).trans (bb n 2)) ((andz n hl2 2 (by decide)).trans (bb n 4))
  · have hl : ¬ a < 0 := by omega
    have hl2 : n < 9223372036854775808 := by omega
    rw [if_neg hl, ha]
    exact impl_ev (k + 2) n _ _ _ ((andz n hl2 0 (by decide)).trans (bb n 1)) ((andz n hl2 1 (by decide)).trans (bb n 2)) ((andz n hl2 2 (by decide)).trans (bb n 4))

theorem spec_in (a b c : Int) : spec_l01In.f a b c = some (decide (b ≤ a ∧ a ≤ c)) := by
  unfold spec_l01In.f
  by_cases h : a ≥ b
  · rw [if_pos h]; have : b ≤ a := h; simp [this]
  · rw [if_neg h]; have : ¬ b ≤ a := h; simp [this]

def Ends {α : Type} (P : α → Prop) (g : Nat → Option α) : Prop := ∃ r, P r ∧ Ev g r
def Any {α : Type} (_ : α) : Prop := True
theorem Ends.now {α : Type} {P : α → Prop} {a : α} (h : P a) : Ends P (fun _ => some a) := ⟨a, h, Ev.now _⟩
theorem Ends.up {α : Type} {P : α → Prop} {g : Nat → Option α} (h : Ends P (fun k => g (k + 1))) : Ends P g := by
  obtain ⟨r, p, e⟩ := h
  exact ⟨r, p, Ev.step (fun k => rfl) e⟩
theorem Ends.ite {α : Type} {P : α → Prop} {c : Prop} [Decidable c] {f g : Nat → Option α} (h1 : c → Ends P f) (h2 : ¬ c → Ends P g) : Ends P (fun k => if c then f k else g k) := by
  by_cases h : c
  · simp only [if_pos h]; exact h1 h
  · simp only [if_neg h]; exact h2 h
theorem Ends.pos {α : Type} {P : α → Prop} {c : Prop} [Decidable c] {f g : Nat → Option α} (h : c) (e : Ends P f) : Ends P (fun k => if c then f k else g k) := Ends.ite (fun _ => e) (fun n => absurd h n)
theorem Ends.bind {α β : Type} {P : α → Prop} {Q : β → Prop} {g : Nat → Option α} {f : Nat → α → Option β} (h : Ends P g) (h2 : ∀ r, P r → Ends Q (fun k => f k r)) : Ends Q (fun k => (g k).bind (f k)) := by
  obtain ⟨r, p, e⟩ := h
  obtain ⟨q, p2, e2⟩ := h2 r p
  exact ⟨q, p2, Ev.bind e e2⟩
theorem Ends.of {α : Type} {P : α → Prop} {o : Option α} {a : α} (h : o = some a) (p : P a) : Ends P (fun _ => o) := ⟨a, p, ev_some fun _ => h⟩
theorem Ends.weaken {α : Type} {P Q : α → Prop} {g : Nat → Option α} (h : Ends P g) (q : ∀ a, P a → Q a) : Ends Q g := by
  obtain ⟨r, p, e⟩ := h
  exact ⟨r, q r p, e⟩

theorem in_ends (a b c : Int) : Ends Any (fun _ => spec_l01In.f a b c) := Ends.of (spec_in a b c) trivial
theorem word_ends (s : ByteArray) (hs : s.size ≤ 1048576) : ∀ (n i : Nat), i + n = s.size → Ends Any (fun k => spec_WordOk.l0 k s i)
  | n, i, e => by
    refine Ends.up ?_
    simp only [spec_WordOk.l0]
    refine Ends.ite (fun c => ?_) (fun c => Ends.bind (in_ends _ _ _) (fun _ _ => Ends.now trivial))
    cases n with
    | zero => omega
    | succ n =>
      simp only [wrap_succ i (by omega)]
      exact Ends.pos (by omega) (Ends.ite (fun _ => Ends.now trivial) (fun _ => Ends.ite (fun _ => Ends.now trivial) (fun _ => word_ends s hs n (i + 1) (by omega))))
theorem wordOk_ends (s : ByteArray) (hs : s.size ≤ 1048576) : Ends Any (fun k => spec_WordOk.f k s) := word_ends s hs s.size 0 (by omega)
section
variable (K v u n f : Int) (us na te : ByteArray)
theorem rec5 (b : Bool) : Ends Any (fun k => spec_RecOk.j5 k b K v u n f us na te) := by
  refine Ends.up ?_
  simp only [spec_RecOk.j5, Option.bind_some]
  exact Ends.ite (fun _ => Ends.now trivial) (fun _ => Ends.ite (fun _ => Ends.now trivial) (fun _ => Ends.now trivial))
theorem rec4 (a b : Bool) : Ends Any (fun k => spec_RecOk.j4 k a b K v u n f us na te) := by
  refine Ends.up ?_
  simp only [spec_RecOk.j4]
  have h := rec5 K v u n f us na te
  exact Ends.ite (fun _ => Ends.now trivial) (fun _ => Ends.ite (fun _ => Ends.bind (in_ends _ _ _) (fun _ _ => Ends.ite (fun _ => h _) (fun _ => h _))) (fun _ => h _))
theorem rec3 (a b c : Bool) : Ends Any (fun k => spec_RecOk.j3 k a b c K v u n f us na te) := by
  refine Ends.up ?_
  simp only [spec_RecOk.j3]
  have h := rec4 K v u n f us na te
  exact Ends.ite (fun _ => Ends.now trivial) (fun _ => Ends.ite (fun _ => Ends.bind (in_ends _ _ _) (fun _ _ => Ends.ite (fun _ => h _ _) (fun _ => h _ _))) (fun _ => h _ _))
theorem rec2 (hu : us.size ≤ 1048576) (hn : na.size ≤ 1048576) (a b c : Bool) : Ends Any (fun k => spec_RecOk.j2 k a b c K v u n f us na te) := by
  refine Ends.up ?_
  simp only [spec_RecOk.j2]
  have h := rec3 K v u n f us na te
  refine Ends.ite (fun _ => Ends.bind (wordOk_ends us hu) (fun _ _ => Ends.ite (fun _ => Ends.bind (wordOk_ends na hn) (fun _ _ => Ends.ite (fun _ => Ends.bind (in_ends _ _ _) (fun _ _ => Ends.ite (fun _ => h _ _ _) (fun _ => h _ _ _))) (fun _ => h _ _ _))) (fun _ => h _ _ _))) (fun _ => ?_)
  exact Ends.ite (fun _ => Ends.ite (fun _ => h _ _ _) (fun _ => h _ _ _)) (fun _ => h _ _ _)
theorem rec1 (hu : us.size ≤ 1048576) (hn : na.size ≤ 1048576) (a b : Bool) : Ends Any (fun k => spec_RecOk.j1 k a b K v u n f us na te) := by
  refine Ends.up ?_
  simp only [spec_RecOk.j1, Option.bind_some]
  have h := rec2 K v u n f us na te hu hn
  exact Ends.ite (fun _ => h _ _ _) (fun _ => h _ _ _)
theorem rec0 (hu : us.size ≤ 1048576) (hn : na.size ≤ 1048576) (a : Bool) : Ends Any (fun k => spec_RecOk.j0 k a K v u n f us na te) := by
  refine Ends.up ?_
  simp only [spec_RecOk.j0, Option.bind_some]
  have h := rec1 K v u n f us na te hu hn
  exact Ends.ite (fun _ => Ends.now trivial) (fun _ => Ends.ite (fun _ => h _ _) (fun _ => Ends.ite (fun _ => h _ _) (fun _ => h _ _)))
theorem recOk_ends (hu : us.size ≤ 1048576) (hn : na.size ≤ 1048576) : Ends Any (fun k => spec_RecOk.f k K v u n f us na te) := by
  unfold spec_RecOk.f
  have h := rec0 K v u n f us na te hu hn
  exact Ends.bind (in_ends _ _ _) (fun _ _ => Ends.ite (fun _ => Ends.bind (in_ends _ _ _) (fun _ _ => h _)) (fun _ => h _))
end
def Small (y : S77) : Prop := y.f1.f5.size ≤ 100 ∧ y.f1.f6.size ≤ 100
theorem rdI_small (xs : List S77) (h : ∀ y ∈ xs, Small y) (i : Int) : Small (rd_T77 xs i) := by
  unfold rd_T77
  rw [List.getD_eq_getElem?_getD]
  cases e : xs[i.toNat]? with
  | none => exact ⟨by decide, by decide⟩
  | some y => exact h y (List.mem_of_getElem? e)
theorem items_l1 (xs : List S77) (hx : xs.length ≤ 1048576) (i : Nat) (hi : i < xs.length) (h : Ends Any (fun k => spec_ItemsOk.l0 k xs ((i + 1 : Nat) : Int))) : ∀ (m j : Nat), j + m = i → Ends Any (fun k => spec_ItemsOk.l1 k xs i j)
  | m, j, e => by
    refine Ends.up ?_
    simp only [spec_ItemsOk.l1]
    refine Ends.ite (fun c => ?_) (fun c => ?_)
    · cases m with
      | zero => omega
      | succ m =>
        have ih := items_l1 xs hx i hi h m (j + 1) (by omega)
        simp only [wrap_succ j (by omega)]
        refine Ends.pos (by omega) (Ends.pos (by omega) (Ends.pos (by omega) (Ends.pos (by omega) ?_)))
        exact Ends.ite (fun _ => Ends.ite (fun _ => Ends.now trivial) (fun _ => ih)) (fun _ => ih)
    · simp only [wrap_succ i (by omega)]
      exact h
theorem items_l0 (xs : List S77) (hx : xs.length ≤ 1048576) (hz : ∀ y ∈ xs, Small y) : ∀ (n i : Nat), i + n = xs.length → Ends Any (fun k => spec_ItemsOk.l0 k xs i)
  | n, i, e => by
    refine Ends.up ?_
    simp only [spec_ItemsOk.l0]
    refine Ends.ite (fun c => ?_) (fun c => Ends.now trivial)
    cases n with
    | zero => omega
    | succ n =>
      have ih := items_l0 xs hx hz n (i + 1) (by omega)
      have hj : ∀ b : Bool, Ends Any (fun k => spec_ItemsOk.j1 k xs i b) := fun b => by
        refine Ends.up ?_
        simp only [spec_ItemsOk.j1]
        exact Ends.ite (fun _ => Ends.now trivial) (fun _ => items_l1 xs hx i (by omega) ih i 0 (by omega))
      have hs := rdI_small xs hz i
      have h1 := hs.1
      have h2 := hs.2
      exact Ends.pos (by omega) (Ends.bind (in_ends _ _ _) (fun _ _ => Ends.ite (fun _ => Ends.bind (recOk_ends _ _ _ _ _ _ _ _ (by omega) (by omega)) (fun _ _ => hj _)) (fun _ => hj _)))
theorem itemsOk_ends (xs : List S77) (hx : xs.length ≤ 1048576) (hz : ∀ y ∈ xs, Small y) : Ends Any (fun k => spec_ItemsOk.f k xs) := items_l0 xs hx hz xs.length 0 (by omega)
theorem best_l0 (xs : List S77) (hx : xs.length ≤ 1048576) (a b c : Int) : ∀ (n i : Nat) (d : Bool) (p0 p1 p2 p3 p4 p5 : Int) (q0 q1 q2 : ByteArray), i + n = xs.length → Ends Any (fun k => spec_l07Best.l0 k xs a b c d i p0 p1 p2 p3 p4 p5 q0 q1 q2)
  | n, i, d, p0, p1, p2, p3, p4, p5, q0, q1, q2, e => by
    refine Ends.up ?_
    simp only [spec_l07Best.l0]
    refine Ends.ite (fun h => ?_) (fun h => Ends.now trivial)
    cases n with
    | zero => omega
    | succ n =>
      have ih := fun d p0 p1 p2 p3 p4 p5 q0 q1 q2 => best_l0 xs hx a b c n (i + 1) d p0 p1 p2 p3 p4 p5 q0 q1 q2 (by omega)
      simp only [wrap_succ i (by omega)]
      refine Ends.pos (by omega) (Ends.ite (fun _ => Ends.ite (fun _ => Ends.ite (fun _ => Ends.ite (fun _ => Ends.ite (fun _ => ?_) (fun _ => ?_)) (fun _ => ?_)) (fun _ => ?_)) (fun _ => ?_)) (fun _ => ?_)) <;> exact ih _ _ _ _ _ _ _ _ _ _
theorem best_ends (xs : List S77) (hx : xs.length ≤ 1048576) (a b c : Int) : Ends Any (fun k => spec_l07Best.f k xs a b c) := best_l0 xs hx a b c xs.length 0 _ _ _ _ _ _ _ _ _ _ (by omega)
theorem sorted_l1 (xs : List Int) (hx : xs.length ≤ 8388608) (x : Int) : ∀ (n i : Nat) (acc : List Int), i + n = xs.length → acc.length ≤ 16777217 + i → Ends (fun r : List Int => r.length ≤ acc.length + n) (fun k => spec_l07Sorted.l1 k xs x acc i)
  | n, i, acc, e, ha => by
    refine Ends.up ?_
    simp only [spec_l07Sorted.l1]
    refine Ends.ite (fun h => ?_) (fun h => Ends.now (by omega))
    cases n with
    | zero => omega
    | succ n =>
      simp only [wrap_succ i (by omega)]
      refine Ends.pos (by omega) (Ends.ite (fun _ => Ends.pos (by omega) ?_) (fun _ => ?_))
      · exact (sorted_l1 xs hx x n (i + 1) _ (by omega) (by rw [List.length_append, List.length_singleton]; omega)).weaken (fun r h => by rw [List.length_append, List.length_singleton] at h; omega)
      · exact (sorted_l1 xs hx x n (i + 1) _ (by omega) (by omega)).weaken (fun r h => by omega)
theorem sorted_l0 (xs : List Int) (hx : xs.length ≤ 8388608) (x : Int) : ∀ (n i : Nat) (acc : List Int), i + n = xs.length → acc.length ≤ i → Ends (fun r : List Int => r.length ≤ acc.length + n + 1 + xs.length) (fun k => spec_l07Sorted.l0 k xs x acc i)
  | n, i, acc, e, ha => by
    refine Ends.up ?_
    simp only [spec_l07Sorted.l0]
    refine Ends.ite (fun h => ?_) (fun h => Ends.pos (by omega) ?_)
    · cases n with
      | zero => omega
      | succ n =>
        simp only [wrap_succ i (by omega)]
        refine Ends.pos (by omega) (Ends.ite (fun _ => Ends.pos (by omega) ?_) (fun _ => ?_))
        · exact (sorted_l0 xs hx x n (i + 1) _ (by omega) (by rw [List.length_append, List.length_singleton]; omega)).weaken (fun r h => by rw [List.length_append, List.length_singleton] at h; omega)
        · exact (sorted_l0 xs hx x n (i + 1) _ (by omega) (by omega)).weaken (fun r h => by omega)
    · exact (sorted_l1 xs hx x xs.length 0 _ (by omega) (by rw [List.length_append, List.length_singleton]; omega)).weaken (fun r h => by rw [List.length_append, List.length_singleton] at h; omega)
theorem sorted_ends (xs : List Int) (hx : xs.length ≤ 8388608) (x : Int) : Ends (fun r : List Int => r.length ≤ 2 * xs.length + 1) (fun k => spec_l07Sorted.f k xs x) :=
  (sorted_l0 xs hx x xs.length 0 [] (by omega) (by simp)).weaken (fun r h => by simp only [List.length_nil] at h; omega)
theorem tell_l0 (xs : List S77) (hx : xs.length ≤ 1048576) (v : Int) : ∀ (n i : Nat) (p0 p1 p2 p3 p4 p5 : Int) (q0 q1 q2 : ByteArray), i + n = xs.length → Ends Any (fun k => spec_l07Tell.l0 k xs v i p0 p1 p2 p3 p4 p5 q0 q1 q2)
  | n, i, p0, p1, p2, p3, p4, p5, q0, q1, q2, e => by
    refine Ends.up ?_
    simp only [spec_l07Tell.l0]
    refine Ends.ite (fun h => ?_) (fun h => Ends.now trivial)
    cases n with
    | zero => omega
    | succ n =>
      have ih := fun p0 p1 p2 p3 p4 p5 q0 q1 q2 => tell_l0 xs hx v n (i + 1) p0 p1 p2 p3 p4 p5 q0 q1 q2 (by omega)
      have hj : ∀ (b : Bool) (p0 p1 p2 p3 p4 p5 : Int) (q0 q1 q2 : ByteArray) (r0 r1 r2 r3 r4 r5 : Int) (t0 t1 t2 : ByteArray), Ends Any (fun k => spec_l07Tell.j1 k xs v i b p0 p1 p2 p3 p4 p5 q0 q1 q2 r0 r1 r2 r3 r4 r5 t0 t1 t2) := by
        intros
        refine Ends.up ?_
        simp only [spec_l07Tell.j1, wrap_succ i (show i < 9223372036854775807 by omega)]
        refine Ends.ite (fun _ => ?_) (fun _ => Ends.ite (fun _ => ?_) (fun _ => Ends.ite (fun _ => ?_) (fun _ => Ends.ite (fun _ => Ends.ite (fun _ => ?_) (fun _ => ?_)) (fun _ => ?_)))) <;> exact ih _ _ _ _ _ _ _ _ _
      exact Ends.pos (by omega) (Ends.ite (fun _ => hj _ _ _ _ _ _ _ _ _ _ _ _ _ _ _ _ _ _ _) (fun _ => hj _ _ _ _ _ _ _ _ _ _ _ _ _ _ _ _ _ _ _))
theorem tell_ends (xs : List S77) (hx : xs.length ≤ 1048576) (v : Int) : Ends Any (fun k => spec_l07Tell.f k xs v) := tell_l0 xs hx v xs.length 0 _ _ _ _ _ _ _ _ _ (by omega)
theorem next_l0 (xs : List S77) (hx : xs.length ≤ 1048576) (v : Int) : ∀ (n i : Nat) (m : Int), i + n = xs.length → Ends Any (fun k => spec_l07Next.l0 k xs v m i)
  | n, i, m, e => by
    refine Ends.up ?_
    simp only [spec_l07Next.l0]
    refine Ends.ite (fun h => ?_) (fun h => Ends.now trivial)
    cases n with
    | zero => omega
    | succ n =>
      have ih := fun m => next_l0 xs hx v n (i + 1) m (by omega)
      have hj : ∀ (m c : Int) (b : Bool) (r0 r1 r2 r3 r4 : Int) (t0 t1 t2 : ByteArray), Ends Any (fun k => spec_l07Next.j1 k xs v m i c b r0 r1 r2 r3 r4 t0 t1 t2) := by
        intros
        refine Ends.up ?_
        simp only [spec_l07Next.j1, wrap_succ i (show i < 9223372036854775807 by omega)]
        exact Ends.ite (fun _ => Ends.ite (fun _ => ih _) (fun _ => ih _)) (fun _ => Ends.ite (fun _ => ih _) (fun _ => ih _))
      simp only [wrap_succ i (show i < 9223372036854775807 by omega)]
      exact Ends.pos (by omega) (Ends.ite (fun _ => Ends.ite (fun _ => Ends.ite (fun _ => ih _) (fun _ => ih _)) (fun _ => Ends.ite (fun _ => hj _ _ _ _ _ _ _ _ _ _ _) (fun _ => hj _ _ _ _ _ _ _ _ _ _ _))) (fun _ => ih _))
theorem next_ends (xs : List S77) (hx : xs.length ≤ 1048576) (v : Int) : Ends Any (fun k => spec_l07Next.f k xs v) := next_l0 xs hx v xs.length 0 _ (by omega)
def MailsOk (r : List S58) : Prop := r.length ≤ 4194304
theorem mails_l1 (xs : List S77) (hx : xs.length ≤ 22) (v : Int) (us : List Int) (hu : us.length ≤ 4194304) : ∀ (n i : Nat) (acc : List S58), i + n = us.length → acc.length = i → Ends MailsOk (fun k => spec_l07Mails.l1 k xs v us acc i)
  | n, i, acc, e, ha => by
    refine Ends.up ?_
    simp only [spec_l07Mails.l1]
    refine Ends.ite (fun h => ?_) (fun h => Ends.now (by unfold MailsOk; omega))
    cases n with
    | zero => omega
    | succ n =>
      have ih := fun acc h => mails_l1 xs hx v us hu n (i + 1) acc (by omega) h
      simp only [wrap_succ i (show i < 9223372036854775807 by omega)]
      exact Ends.pos (by omega) (Ends.bind (best_ends xs (by omega) _ _ _) (fun _ _ => Ends.bind (best_ends xs (by omega) _ _ _) (fun _ _ => Ends.ite
        (fun _ => Ends.pos (by omega) (ih _ (by rw [List.length_append, List.length_singleton, ha])))
        (fun _ => Ends.pos (by omega) (ih _ (by rw [List.length_append, List.length_singleton, ha]))))))
theorem two_le (i : Nat) (h : i ≤ 22) : 2 ^ i ≤ 4194304 := Nat.pow_le_pow_right (by decide) h
theorem mails_l0 (xs : List S77) (hx : xs.length ≤ 22) (v : Int) : ∀ (n i : Nat) (us : List Int), i + n = xs.length → us.length + 1 ≤ 2 ^ i → Ends MailsOk (fun k => spec_l07Mails.l0 k xs v us i)
  | n, i, us, e, hu => by
    have h2 := two_le i (by omega)
    refine Ends.up ?_
    simp only [spec_l07Mails.l0]
    refine Ends.ite (fun h => ?_) (fun h => mails_l1 xs hx v us (by omega) us.length 0 [] (by omega) rfl)
    cases n with
    | zero => omega
    | succ n =>
      have ih := fun us h => mails_l0 xs hx v n (i + 1) us (by omega) h
      have hp : 2 ^ (i + 1) = 2 ^ i * 2 := Nat.pow_succ _ _
      have hs := ih us (by omega)
      simp only [wrap_succ i (show i < 9223372036854775807 by omega)]
      exact Ends.pos (by omega) (Ends.bind (best_ends xs (by omega) _ _ _) (fun _ _ => Ends.ite (fun _ => Ends.ite (fun _ => Ends.ite (fun _ => hs) (fun _ => Ends.bind (sorted_ends us (by omega) _) (fun r hr => ih r (by omega)))) (fun _ => hs)) (fun _ => hs)))
theorem mails_ends (xs : List S77) (hx : xs.length ≤ 22) (v : Int) : Ends MailsOk (fun k => spec_l07Mails.f k xs v) := mails_l0 xs hx v xs.length 0 [] (by omega) (by decide)
def BoxesOk (r : List S38) : Prop := ∀ b ∈ r, MailsOk b.f4
theorem state_l1 (xs : List S77) (hx : xs.length ≤ 22) (us : List Int) (hu : us.length ≤ 4194304) : ∀ (n i : Nat) (acc : List S38), i + n = us.length → acc.length = i → BoxesOk acc → Ends BoxesOk (fun k => spec_StateOf.l1 k xs us i acc)
  | n, i, acc, e, ha, hb => by
    refine Ends.up ?_
    simp only [spec_StateOf.l1]
    refine Ends.ite (fun h => ?_) (fun h => Ends.now hb)
    cases n with
    | zero => omega
    | succ n =>
      simp only [wrap_succ i (show i < 9223372036854775807 by omega)]
      refine Ends.pos (by omega) (Ends.bind (tell_ends xs (by omega) _) (fun _ _ => Ends.bind (next_ends xs (by omega) _) (fun _ _ => Ends.bind (mails_ends xs hx _) (fun r hr => Ends.pos (by omega) ?_))))
      refine state_l1 xs hx us hu n (i + 1) _ (by omega) (by rw [List.length_append, List.length_singleton, ha]) (fun b hm => ?_)
      rcases List.mem_append.mp hm with hm | hm
      · exact hb b hm
      · have := List.mem_singleton.mp hm; subst this; exact hr
theorem state_l0 (xs : List S77) (hx : xs.length ≤ 22) : ∀ (n i : Nat) (us : List Int), i + n = xs.length → us.length + 1 ≤ 2 ^ i → Ends BoxesOk (fun k => spec_StateOf.l0 k xs us i)
  | n, i, us, e, hu => by
    have h2 := two_le i (by omega)
    refine Ends.up ?_
    simp only [spec_StateOf.l0]
    refine Ends.ite (fun h => ?_) (fun h => state_l1 xs hx us (by omega) us.length 0 [] (by omega) rfl (by intro b hb; simp at hb))
    cases n with
    | zero => omega
    | succ n =>
      have ih := fun us h => state_l0 xs hx n (i + 1) us (by omega) h
      have hp : 2 ^ (i + 1) = 2 ^ i * 2 := Nat.pow_succ _ _
      have hs := ih us (by omega)
      simp only [wrap_succ i (show i < 9223372036854775807 by omega)]
      exact Ends.pos (by omega) (Ends.bind (best_ends xs (by omega) _ _ _) (fun _ _ => Ends.ite (fun _ => Ends.ite (fun _ => hs) (fun _ => Ends.bind (sorted_ends us (by omega) _) (fun r hr => ih r (by omega)))) (fun _ => hs)))
theorem stateOf_ends (xs : List S77) (hx : xs.length ≤ 22) (hz : ∀ y ∈ xs, Small y) : Ends BoxesOk (fun k => spec_StateOf.f k xs) := by
  unfold spec_StateOf.f
  exact Ends.bind (itemsOk_ends xs (by omega) hz) (fun _ _ => Ends.ite (fun _ => state_l0 xs hx xs.length 0 [] (by omega) (by decide)) (fun _ => Ends.now (by intro b hb; simp at hb)))
theorem pickInt_eq (xs : List Int) (hx : xs.length ≤ 1048576) (i h : Int) (hi : 0 ≤ i) (l : List Int) (hl : 0 < l.length) : ∃ (x : Int) (j g : Int), spec_l01PickInt.f xs i h l = some (x, j, g) ∧ 0 ≤ j := by
  obtain ⟨n, j, g, e, h1, h2, h3⟩ := l01Below_eq xs hx i h hi (l.length : Int) (by omega)
  exact ⟨_, _, _, by unfold spec_l01PickInt.f; rw [e, Option.bind_some, if_pos h1, if_pos h2], h3⟩
theorem small_of {l : List ByteArray} (h : ∀ y ∈ l, y.size ≤ 100) {x : ByteArray} (m : x ∈ l) : x.size ≤ 100 := h x m
theorem rec_ex (xs : List Int) (hx : xs.length ≤ 1048576) (i h : Int) (hi : 0 ≤ i) : ∃ (K v u n f : Int) (a b c : ByteArray) (j g : Int), spec_l06Rec.f xs i h = some (K, v, u, n, f, a, b, c, j, g) ∧ a.size ≤ 100 ∧ b.size ≤ 100 ∧ 0 ≤ j := by
  obtain ⟨K, j1, g1, e1, k1⟩ := pickInt_eq xs hx i h hi ([1, 1, 2, 3, 3, 3, 3, 4, 4, 5, 5] : List Int) (by decide)
  obtain ⟨v, j2, g2, e2, _, _, k2⟩ := l01Below_eq xs hx j1 g1 k1 3 (by omega)
  unfold spec_l06Rec.f
  simp only [e1, e2, Option.bind_some]
  by_cases c1 : K = 1
  · obtain ⟨a, j3, g3, e3, m3, k3⟩ := pick_eq xs hx j2 g2 k2 [(⟨#[97, 110, 110]⟩ : ByteArray), (⟨#[98, 111, 98]⟩ : ByteArray)] (by decide)
    obtain ⟨b, j4, g4, e4, m4, k4⟩ := pick_eq xs hx j3 g3 k3 [(⟨#[105, 110, 98, 111, 120]⟩ : ByteArray), (⟨#[119, 111, 114, 107]⟩ : ByteArray)] (by decide)
    obtain ⟨n, j5, g5, e5, _, _, k5⟩ := l01Below_eq xs hx j4 g4 k4 6 (by omega)
    have ha : a.size ≤ 100 := by
      simp only [List.mem_cons, List.mem_nil_iff, or_false] at m3
      rcases m3 with rfl | rfl <;> decide
    have hb : b.size ≤ 100 := by
      simp only [List.mem_cons, List.mem_nil_iff, or_false] at m4
      rcases m4 with rfl | rfl <;> decide
    simp only [if_pos c1, e3, e4, e5, Option.bind_some]
    exact ⟨_, _, _, _, _, _, _, _, _, _, rfl, ha, hb, k5⟩
  simp only [if_neg c1]
  have he : (⟨#[]⟩ : ByteArray).size ≤ 100 := by decide
  obtain ⟨u, j3, g3, e3, _, _, k3⟩ := l01Below_eq xs hx j2 g2 k2 5 (by omega)
  obtain ⟨f, j4, g4, e4, _, _, k4⟩ := l01Below_eq xs hx j3 g3 k3 8 (by omega)
  by_cases c3 : K = 3
  · obtain ⟨t, j5, g5, e5, m5, k5⟩ := pick_eq xs hx j4 g4 k4 [(⟨#[104, 101, 108, 108, 111]⟩ : ByteArray), (⟨#[102, 114, 111, 109, 58, 32, 97, 110, 110, 10, 10, 104, 105]⟩ : ByteArray), (⟨#[115, 117, 98, 106, 101, 99, 116, 58, 32, 120, 10, 10, 98, 111, 100, 121, 32, 111, 102, 32, 105, 116, 10, 46, 100, 111, 116, 10]⟩ : ByteArray), (⟨#[]⟩ : ByteArray), (⟨#[120, 10, 46, 46, 10]⟩ : ByteArray)] (by decide)
    have e6 : spec_l06Text.f xs j4 g4 = some (t, j5, g5) := by unfold spec_l06Text.f; rw [e5, Option.bind_some]
    simp only [if_pos c3, e3, e4, e6, Option.bind_some]
    exact ⟨_, _, _, _, _, _, _, _, _, _, rfl, he, he, k5⟩
  simp only [if_neg c3]
  by_cases c4 : K = 4
  · simp only [if_pos c4, e3, e4, Option.bind_some]
    exact ⟨_, _, _, _, _, _, _, _, _, _, rfl, he, he, k4⟩
  simp only [if_neg c4]
  by_cases c5 : K = 5
  · simp only [if_pos c5, e3, Option.bind_some]
    exact ⟨_, _, _, _, _, _, _, _, _, _, rfl, he, he, k3⟩
  simp only [if_neg c5]
  exact ⟨_, _, _, _, _, _, _, _, _, _, rfl, he, he, k2⟩
def ItemsDrawn (r : List S77 × Int × Int) : Prop := r.1.length ≤ 22 ∧ (∀ y ∈ r.1, Small y) ∧ 0 ≤ r.2.1
theorem drawn_l0 (xs : List Int) (hx : xs.length ≤ 1048576) : ∀ (n i : Nat) (acc : List S77) (j g : Int), i + n = 21 → acc.length = i → (∀ y ∈ acc, Small y) → 0 ≤ j → Ends ItemsDrawn (fun k => spec_l07Items.l0 k acc i xs j g)
  | n, i, acc, j, g, e, ha, hs, hj => by
    obtain ⟨m, j1, g1, e1, _, b1, k1⟩ := l01Below_eq xs hx j g hj 22 (by omega)
    refine Ends.up ?_
    simp only [spec_l07Items.l0, e1, Option.bind_some]
    refine Ends.ite (fun h => ?_) (fun h => ?_)
    · cases n with
      | zero => omega
      | succ n =>
        obtain ⟨K, v, u, q, f, a, b, c, j2, g2, e2, ha2, hb2, k2⟩ := rec_ex xs hx j1 g1 k1
        simp only [e2, Option.bind_some, wrap_succ i (show i < 9223372036854775807 by omega)]
        refine Ends.pos (by omega) (drawn_l0 xs hx n (i + 1) _ _ _ (by omega) (by rw [List.length_append, List.length_singleton, ha]) (fun y hm => ?_) k2)
        rcases List.mem_append.mp hm with hm | hm
        · exact hs y hm
        · have := List.mem_singleton.mp hm; subst this; exact ⟨ha2, hb2⟩
    · refine Ends.ite (fun h1 => ?_) (fun h1 => Ends.now ⟨(show acc.length ≤ 22 by omega), hs, k1⟩)
      obtain ⟨b, j2, g2, e2, k2⟩ := once_eq xs hx j1 g1 k1 3 (by omega)
      simp only [e2, Option.bind_some]
      refine Ends.ite (fun _ => ?_) (fun _ => Ends.now ⟨(show acc.length ≤ 22 by omega), hs, k2⟩)
      obtain ⟨t, j3, g3, e3, b3, b4, k3⟩ := l01Below_eq xs hx j2 g2 k2 (acc.length : Int) (by omega)
      simp only [e3, Option.bind_some]
      refine Ends.pos b3 (Ends.pos b4 (Ends.pos (by omega) (Ends.now ⟨?_, fun y hm => ?_, k3⟩)))
      · show (acc ++ [_]).length ≤ 22
        rw [List.length_append, List.length_singleton]; omega
      · rcases List.mem_append.mp hm with hm | hm
        · exact hs y hm
        · have := List.mem_singleton.mp hm; subst this; exact rdI_small acc hs t
theorem drawn_ends (xs : List Int) (hx : xs.length ≤ 1048576) (j g : Int) (hj : 0 ≤ j) : Ends ItemsDrawn (fun k => spec_l07Items.f k xs j g) := drawn_l0 xs hx 21 0 [] j g rfl rfl (by intro y hy; simp at hy) hj

theorem sizes_same (xs : List S58) (hx : xs.length ≤ 4194304) (a : Int) (b c : ByteArray) (d : Int) : ∀ (n i : Nat) (s : Int), i + n = xs.length →
    ∃ r, Ev (fun k => impl_SizesOf.l0 k s xs (xs.length : Int) i) r ∧ Ev (fun k => spec_SizesOf.l0 k s i a b c d xs) r
  | 0, i, s, e => ⟨s, Ev.step (fun k => by rw [impl_SizesOf.l0, if_neg (by omega)]) (Ev.now _), Ev.step (fun k => by rw [spec_SizesOf.l0, if_neg (by omega)]) (Ev.now _)⟩
  | n + 1, i, s, e => by
    obtain ⟨r, h1, h2⟩ := sizes_same xs hx a b c d n (i + 1) (wrap64 (s + ((rd_T58 xs i).f2.size : Int))) (by omega)
    refine ⟨r, Ev.step (fun k => ?_) h1, Ev.step (fun k => ?_) h2⟩
    · rw [impl_SizesOf.l0, if_pos (by omega), if_pos (by omega), if_pos (by omega), wrap_succ i (by omega)]
    · rw [spec_SizesOf.l0, if_pos (by omega), if_pos (by omega), wrap_succ i (by omega)]
theorem drawSizes_ends (xs : List Int) (hx : xs.length ≤ 1048576) : Ends (fun r : Int × ByteArray × ByteArray × Int × List S58 => MailsOk r.2.2.2.2) (fun k => spec_DrawSizesOf.f k xs) := by
  obtain ⟨h, hh⟩ := l01New_ev xs hx
  unfold spec_DrawSizesOf.f
  refine Ends.bind (P := fun r => r = (xs, 0, h)) ⟨_, rfl, hh⟩ (fun r hr => ?_)
  subst hr
  refine Ends.bind (drawn_ends xs hx 0 h (by omega)) (fun r hr => ?_)
  refine Ends.bind (stateOf_ends r.1 hr.1 hr.2.1) (fun bs hb => ?_)
  refine Ends.ite (fun _ => Ends.now (show MailsOk [] by unfold MailsOk; decide)) (fun hne => Ends.pos (by omega) (Ends.now ?_))
  show MailsOk (rd_T38 bs 0).f4
  unfold rd_T38
  rw [List.getD_eq_getElem?_getD]
  cases e : bs[(0 : Int).toNat]? with
  | none => show MailsOk []; unfold MailsOk; decide
  | some y => exact hb y (List.mem_of_getElem? e)
def rf (x : ByteArray) : Int := if x.toList = ([115, 101, 101, 110] : List UInt8) then 1 else if x.toList = ([102, 108, 97, 103, 103, 101, 100] : List UInt8) then 2 else if x.toList = ([100, 101, 108, 101, 116, 101, 100] : List UInt8) then 4 else 0
theorem rf_eq (x : ByteArray) : impl_ReadFlagWord.f x = some (rf x) := by
  unfold impl_ReadFlagWord.f rf
  split
  · rfl
  · split
    · rfl
    · split <;> rfl
theorem rfx : rf (⟨#[120]⟩ : ByteArray) = 0 := by unfold rf; rw [list_data]; rfl
def tot : Int → List ByteArray → Int
  | a, [] => a
  | a, x :: l => tot (wrap64 (a + rf x)) l
theorem loop_ev (xs : List Int) (hx : xs.length ≤ 1048576) (t s c : ByteArray) (may : Bool) (N : Int) (w : List ByteArray) (hw : w.length ≤ 100) (hs : s.size = t.size + 18) (ht : t.size ≤ 1048576) (he : s.extract 18 s.size = t) :
    ∀ (l : List ByteArray) (i : Nat) (acc : Int), w.drop i = l → i ≤ w.length → tot acc l = N → Ev (fun k => laws_FnHeads.l0 k xs t s (⟨#[98, 111, 98]⟩ : ByteArray) true (⟨#[97, 110, 110]⟩ : ByteArray) true c may c may N w acc i) true
  | [], i, acc, h, hi, hN => by
    have e := drop_end h hi
    subst hN
    obtain ⟨r, hr, hE⟩ := drawSizes_ends xs hx
    obtain ⟨q, q1, q2⟩ := sizes_same r.2.2.2.2 hr r.1 r.2.1 r.2.2.1 r.2.2.2.1 r.2.2.2.2.length 0 0 (by omega)
    have hz : wrap64 ((s.size : Int) - (t.size : Int)) = ((18 : Nat) : Int) := wrap_nat _ 18 (by omega) (by omega)
    have e1 : (⟨#[98, 111, 98]⟩ : ByteArray).toList = ([98, 111, 98] : List UInt8) := by rw [list_data]
    have e2 : (⟨#[97, 110, 110]⟩ : ByteArray).toList = ([97, 110, 110] : List UInt8) := by rw [list_data]
    suffices H : Ends (fun r => r = true) (fun k => laws_FnHeads.l0 k xs t s (⟨#[98, 111, 98]⟩ : ByteArray) true (⟨#[97, 110, 110]⟩ : ByteArray) true c may c may (tot acc []) w acc i) by
      obtain ⟨_, rfl, h⟩ := H
      exact h
    refine Ends.up ?_
    simp only [laws_FnHeads.l0]
    rw [show (i : Int) = (w.length : Int) by omega]
    simp only [if_neg (show ¬ ((w.length : Int) < (w.length : Int)) by omega)]
    refine Ends.bind (P := fun x => x = r) ⟨r, rfl, hE⟩ (fun x hx2 => ?_)
    subst hx2
    simp only [if_true, e1, e2, hz, he, Int.toNat_natCast, beq_self_eq_true, if_pos (show (0 : Int) ≤ ((18 : Nat) : Int) by omega), if_pos (show ((18 : Nat) : Int) ≤ (s.size : Int) by omega), if_pos (show acc = tot acc [] from rfl)]
    refine Ends.bind (P := fun y => y = q) ⟨q, rfl, Ev.congr (fun k => rfl) q1⟩ (fun y hy => ?_)
    subst hy
    refine Ends.bind (P := fun z => z = y) ⟨y, rfl, Ev.congr (fun k => rfl) q2⟩ (fun z hz2 => ?_)
    subst hz2
    simp only [if_true, rf_eq, Option.bind_some, rfx]
    exact Ends.now (by decide)
  | x :: l, i, acc, h, hi, hN => by
    have hlt := drop_lt h
    have er : rdOf ByteArray.empty w (i : Int) = x := rdOf_drop _ h
    refine Ev.step (fun k => ?_) (loop_ev xs hx t s c may N w hw hs ht he l (i + 1) (wrap64 (acc + rf x)) (drop_tail h) (by omega) hN)
    rw [laws_FnHeads.l0, if_pos (by omega), if_pos (by omega), er, rf_eq, Option.bind_some, wrap_succ i (by omega)]
def wl (p q r : Bool) : List ByteArray := (if p then [(⟨#[115, 101, 101, 110]⟩ : ByteArray)] else []) ++ (if q then [(⟨#[102, 108, 97, 103, 103, 101, 100]⟩ : ByteArray)] else []) ++ (if r then [(⟨#[100, 101, 108, 101, 116, 101, 100]⟩ : ByteArray)] else [])
theorem out_facts (p q r : Bool) : 2 ≤ (out p q r).size ∧ (out p q r).size ≤ 100 ∧ (out p q r).extract 1 ((out p q r).size - 1) = str p q r := by
  cases p <;> cases q <;> cases r <;> exact ⟨by decide, by decide, bytes_ext (by rfl)⟩
theorem words_str (p q r : Bool) : (parts (str p q r)).1 = wl p q r := by
  have h : AllGood (str p q r).data.toList := by
    unfold AllGood
    cases p <;> cases q <;> cases r <;> decide
  have h6 : ¬ ((str p q r).size : Int) > 600 := by cases p <;> cases q <;> cases r <;> decide
  unfold parts
  rw [if_neg h6, if_pos h]
  cases p <;> cases q <;> cases r <;> rfl
theorem rf1 : rf (⟨#[115, 101, 101, 110]⟩ : ByteArray) = 1 := by unfold rf; rw [list_data]; rfl
theorem rf2 : rf (⟨#[102, 108, 97, 103, 103, 101, 100]⟩ : ByteArray) = 2 := by unfold rf; rw [list_data]; rfl
theorem rf4 : rf (⟨#[100, 101, 108, 101, 116, 101, 100]⟩ : ByteArray) = 4 := by unfold rf; rw [list_data]; rfl
theorem tot_wl (n : Nat) (h : n < 8) : tot 0 (wl (decide (n / 1 % 2 = 1)) (decide (n / 2 % 2 = 1)) (decide (n / 4 % 2 = 1))) = (n : Int) := by
  have hc : n = 0 ∨ n = 1 ∨ n = 2 ∨ n = 3 ∨ n = 4 ∨ n = 5 ∨ n = 6 ∨ n = 7 := by omega
  rcases hc with rfl | rfl | rfl | rfl | rfl | rfl | rfl | rfl <;> simp [wl, tot, rf1, rf2, rf4, wrap64]
theorem drawHead_ev (xs : List Int) (hx : xs.length ≤ 1048576) : ∃ (x name : ByteArray), x.size ≤ 100 ∧ name.size ≤ 100 ∧ Ev (fun k => spec_DrawHeadOf.f k xs) (x, name) := by
  obtain ⟨h, hh⟩ := l01New_ev xs hx
  obtain ⟨name, i, g, e, hm, hi⟩ := pick_eq xs hx 0 h (by omega) ([(⟨#[102, 114, 111, 109]⟩ : ByteArray), (⟨#[115, 117, 98, 106, 101, 99, 116]⟩ : ByteArray), (⟨#[110, 111, 110, 101]⟩ : ByteArray), (⟨#[]⟩ : ByteArray)] : List ByteArray) (by decide)
  obtain ⟨x, i2, g2, q1, q2⟩ := l17_l0 xs hx 4 0 (⟨#[]⟩ : ByteArray) i g rfl (by decide) hi
  refine ⟨x, name, q1, ?_, Ev.congr (fun k => rfl) (Ev.bind hh (ev_bind1 e (Ev.bind (Ev.congr (fun k => rfl) q2) (Ev.now _))))⟩
  simp only [List.mem_cons, List.mem_nil_iff, or_false] at hm
  rcases hm with rfl | rfl | rfl | rfl <;> decide
def headText (t : ByteArray) : ByteArray := (((((⟨#[102, 114, 111, 109, 58, 32]⟩ : ByteArray) ++ (⟨#[98, 111, 98]⟩ : ByteArray)) ++ (⟨#[10, 116, 111, 58, 32]⟩ : ByteArray)) ++ (⟨#[97, 110, 110]⟩ : ByteArray)) ++ (⟨#[10]⟩ : ByteArray)) ++ t
theorem headText_data (t : ByteArray) : (headText t).data.toList = ([102, 114, 111, 109, 58, 32, 98, 111, 98] : List UInt8) ++ 10 :: (([116, 111, 58, 32, 97, 110, 110] : List UInt8) ++ 10 :: t.data.toList) := by
  unfold headText
  simp only [data_append]
  rfl
theorem headText_size (t : ByteArray) : (headText t).size = t.size + 18 := by
  rw [← size_data, headText_data, ← size_data]
  simp only [List.length_append, List.length_cons, List.length_nil]
  omega
theorem headText_back (t : ByteArray) : (headText t).extract 18 (headText t).size = t := bytes_ext (by
  have h := size_data t
  rw [extract_data, headText_size, headText_data]
  show t.data.toList.take (t.size + 18 - 18) = _
  rw [List.take_of_length_le (by omega)])
theorem headText_lines (t : ByteArray) : lines (headText t) = (⟨#[102, 114, 111, 109, 58, 32, 98, 111, 98]⟩ : ByteArray) :: (⟨#[116, 111, 58, 32, 97, 110, 110]⟩ : ByteArray) :: lines t := by
  unfold lines
  rw [headText_data, splits_line _ _ (by decide), splits_line _ _ (by decide), trim_cons _ (by simp), trim_cons _ (splits_ne _)]
  rfl
theorem traced_eq (t : ByteArray) (ht : t.size ≤ 1048576) : impl_Traced.f t (⟨#[98, 111, 98]⟩ : ByteArray) (⟨#[97, 110, 110]⟩ : ByteArray) = some (headText t) := by
  have e1 : (⟨#[102, 114, 111, 109, 58, 32]⟩ : ByteArray).size = 6 := rfl
  have e2 : (⟨#[10, 116, 111, 58, 32]⟩ : ByteArray).size = 5 := rfl
  have e3 : (⟨#[10]⟩ : ByteArray).size = 1 := rfl
  have e4 : (⟨#[98, 111, 98]⟩ : ByteArray).size = 3 := rfl
  have e5 : (⟨#[97, 110, 110]⟩ : ByteArray).size = 3 := rfl
  unfold impl_Traced.f
  rw [if_pos (by omega), if_pos (by simp only [ByteArray.size_append, e1, e2, e3, e4, e5]; omega), if_pos (by simp only [ByteArray.size_append, e1, e2, e3, e4, e5]; omega),
    if_pos (by simp only [ByteArray.size_append, e1, e2, e3, e4, e5]; omega), if_pos (by simp only [ByteArray.size_append, e1, e2, e3, e4, e5]; omega)]
  rfl
theorem head_from (t : ByteArray) : headL ((⟨#[102, 114, 111, 109]⟩ : ByteArray) ++ (⟨#[58, 32]⟩ : ByteArray)) (lines (headText t)) = ((⟨#[98, 111, 98]⟩ : ByteArray), true) := by
  have e : ((⟨#[102, 114, 111, 109]⟩ : ByteArray) ++ (⟨#[58, 32]⟩ : ByteArray)).data.toList = ([102, 114, 111, 109, 58, 32] : List UInt8) := by rw [data_append]; rfl
  rw [headText_lines, headL, list_data, e, if_neg (by decide), if_pos (by decide)]
  rfl
theorem head_to (t : ByteArray) : headL ((⟨#[116, 111]⟩ : ByteArray) ++ (⟨#[58, 32]⟩ : ByteArray)) (lines (headText t)) = ((⟨#[97, 110, 110]⟩ : ByteArray), true) := by
  have e : ((⟨#[116, 111]⟩ : ByteArray) ++ (⟨#[58, 32]⟩ : ByteArray)).data.toList = ([116, 111, 58, 32] : List UInt8) := by rw [data_append]; rfl
  rw [headText_lines, headL, list_data, e, if_neg (by decide), if_neg (by decide), headL, list_data, e, if_neg (by decide), if_pos (by decide)]
  rfl
theorem FnHeads : laws_FnHeads.Pure := by
  intro xs ⟨_, _⟩
  refine Ev.rounds (g := fun k => laws_FnHeads.f k xs) ?_
  unfold laws_FnHeads.f laws_big.f
  by_cases hb : (xs.length : Int) > 1048576
  · exact Ev.bind (ev_some (fun _ => by rw [decide_eq_true hb])) (by simp only [if_true]; exact Ev.now _)
  · refine ev_bind1 (a := false) (by rw [decide_eq_false hb]) ?_
    simp only [Bool.false_eq_true, if_false]
    have hx : xs.length ≤ 1048576 := by omega
    obtain ⟨ps, q1, q2, q3⟩ := mail_ev xs hx
    have hz := joinN_size ps q2
    have hsz := headText_size (joinN ps)
    obtain ⟨x, name, hx1, hn1, hE⟩ := drawHead_ev xs hx
    obtain ⟨pl, p1, p2, p3⟩ := DrawPlaces_ev xs hx
    refine Ev.bind q3 (ev_bind1 (traced_eq (joinN ps) (by omega)) ?_)
    refine Ev.bind (impl_HeadOf_ev _ _ (by omega) (by decide)) ?_
    refine Ev.bind (impl_HeadOf_ev _ _ (by omega) (by decide)) ?_
    rw [head_from, head_to]
    refine Ev.bind hE (Ev.bind (impl_HeadOf_ev _ _ (by show x.size ≤ 1048576; omega) (by show name.size ≤ 1048576; omega)) (Ev.bind (spec_HeadOf_ev _ _ (by show x.size ≤ 1048576; omega) (by show name.size ≤ 1048576; omega)) (Ev.bind p3 ?_)))
    simp only [if_pos (show (0 : Int) < (pl.length : Int) by omega)]
    obtain ⟨y, hy⟩ : ∃ y, rd pl 0 = y := ⟨_, rfl⟩
    have hyr : 0 ≤ y ∧ y < 10000 := by
      cases pl with
      | nil => simp at p1
      | cons z l =>
        have : z = y := hy
        subst this
        exact p2 z (by simp)
    rw [hy]
    obtain ⟨m, rfl⟩ : ∃ m : Nat, y = (m : Int) := ⟨y.toNat, by omega⟩
    have hm : Int.tmod (m : Int) 8 = ((m % 8 : Nat) : Int) := rfl
    rw [hm]
    have h8 : m % 8 < 8 := Nat.mod_lt _ (by decide)
    generalize m % 8 = n at h8
    have hf := fun k => impl_all k (n : Int) n rfl (by omega) (by omega)
    have hF : Ev (fun k => impl_FlagWords.f k (n : Int)) (out (decide (n / 1 % 2 = 1)) (decide (n / 2 % 2 = 1)) (decide (n / 4 % 2 = 1))) := ⟨4, fun k hk => by obtain ⟨j, rfl⟩ : ∃ j, k = j + 4 := ⟨k - 4, by omega⟩; exact hf j⟩
    have ht := tot_wl n h8
    generalize decide (n / 1 % 2 = 1) = p at hF ht
    generalize decide (n / 2 % 2 = 1) = q at hF ht
    generalize decide (n / 4 % 2 = 1) = r at hF ht
    obtain ⟨o1, o2, o3⟩ := out_facts p q r
    refine Ev.bind hF (Ev.bind hF ?_)
    have hw : wrap64 (((out p q r).size : Int) - 1) = (((out p q r).size - 1 : Nat) : Int) := wrap_nat _ _ (by omega) (by omega)
    simp only [hw, Int.toNat_natCast, if_pos (show (1 : Int) ≤ (((out p q r).size - 1 : Nat) : Int) by omega), if_pos (show (((out p q r).size - 1 : Nat) : Int) ≤ ((out p q r).size : Int) by omega), o3]
    refine Ev.bind (spec_WordsOf_ev (str p q r)) ?_
    rw [words_str]
    have hl : (wl p q r).length ≤ 100 := by cases p <;> cases q <;> cases r <;> decide
    exact loop_ev xs hx (joinN ps) (headText (joinN ps)) _ _ (n : Int) (wl p q r) hl hsz (by omega) (headText_back _) (wl p q r) 0 0 rfl (by omega) ht

end Go.Proofs.YtenedfmmjfgbaaaDoor.Pure
