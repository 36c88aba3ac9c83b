/- The program's LinesOf answers what the reference's answers, and hands out memory of its own. Conditions: none beyond the statement's own. -/
import Derived.Test.YtncpoffbeipooaaDoorQFnExactLinesOfPure0
import Derived.Test.YtncpoffbeipooaaDoorBase
namespace Go.Proofs.YtncpoffbeipooaaDoor.Pure
open Go.RowKit Go.Proofs.YtncpoffbeipooaaDoor.QFnExactLinesOf Go.Proofs.YtncpoffbeipooaaDoorW.PrintWords Go.Proofs.YtncpoffbeipooaaDoorW.PrintLast Go.Proofs.YtncpoffbeipooaaDoorB Go.Proofs.YtncpoffbeipooaaDoorO
set_option linter.unusedVariables false
set_option linter.unusedSimpArgs false

def mk (l : List UInt8) : ByteArray := ⟨l.toArray⟩
theorem mk_data (l : List UInt8) : (mk l).data.toList = l := rfl
theorem mk_of (s : ByteArray) : mk s.data.toList = s := bytes_ext rfl
theorem mk_size (l : List UInt8) : (mk l).size = l.length := by rw [← size_data]; rfl
def consHead (cur : List UInt8) : List (List UInt8) → List (List UInt8)
  | [] => [cur]
  | h :: t => (cur ++ h) :: t
def splits : List UInt8 → List (List UInt8)
  | [] => [[]]
  | c :: l => if c = 10 then [] :: splits l else consHead [c] (splits l)
def trim : List (List UInt8) → List (List UInt8)
  | [] => []
  | [x] => if x = [] then [] else [x]
  | x :: y :: l => x :: trim (y :: l)
theorem splits_ne : ∀ l, splits l ≠ []
  | [] => by simp [splits]
  | c :: l => by
    unfold splits
    split
    · simp
    · cases splits l <;> simp [consHead]
theorem consHead_nil {xs : List (List UInt8)} (h : xs ≠ []) : consHead [] xs = xs := by
  cases xs with
  | nil => exact absurd rfl h
  | cons x l => simp [consHead]
theorem consHead_two (a b : List UInt8) {xs : List (List UInt8)} : consHead a (consHead b xs) = consHead (a ++ b) xs := by
  cases xs <;> simp [consHead]
theorem trim_cons (x : List UInt8) {xs : List (List UInt8)} (h : xs ≠ []) : trim (x :: xs) = x :: trim xs := by
  cases xs with
  | nil => exact absurd rfl h
  | cons y l => rfl
theorem splitK_splits : ∀ l : List UInt8, Lib.splitK [10] 0 (Lib.count l [10]) l = splits l
  | [] => rfl
  | c :: l => by
    have ih := splitK_splits l
    by_cases h : c = 10
    · subst h
      have e0 : Lib.index (10 :: l) [10] = 0 := by rw [Lib.index_one]; simp [Lib.indexByte]
      rw [Lib.count_cons_eq, show 1 + Lib.count l [10] = Lib.count l [10] + 1 by omega, Lib.splitK, e0, if_neg (by decide)]
      simp only [splits, if_true]
      show (10 :: l).take 0 :: Lib.splitK [10] 0 (Lib.count l [10]) l = _
      rw [ih]; rfl
    · rw [Lib.count_cons_ne c 10 l h]
      unfold splits
      rw [if_neg h, ← ih]
      cases e : Lib.count l [10] with
      | zero => rfl
      | succ m =>
        simp only [Lib.splitK]
        have hi : Lib.index (c :: l) [10] = if Lib.index l [10] = -1 then -1 else Lib.index l [10] + 1 := by
          rw [Lib.index_one, Lib.index_one]; simp [Lib.indexByte, h]
        have hge := Lib.index_ge l [10]
        by_cases h1 : Lib.index l [10] = -1
        · rw [hi, if_pos h1, h1]; simp [consHead]
        · have h2 : Lib.index (c :: l) [10] = Lib.index l [10] + 1 := by rw [hi, if_neg h1]
          have h3 : ¬ (Lib.index (c :: l) [10] == -1) = true := by rw [beq_iff_eq]; omega
          have h4 : ¬ (Lib.index l [10] == -1) = true := by rw [beq_iff_eq]; omega
          have h5 : (Lib.index (c :: l) [10]).toNat = (Lib.index l [10]).toNat + 1 := by omega
          rw [if_neg h3, if_neg h4, h5]
          simp [consHead, List.take_succ_cons, List.drop_succ_cons]
theorem map_mk (xs : List ByteArray) : (xs.map (·.data.toList)).map mk = xs := by
  rw [List.map_map]
  conv => rhs; rw [← List.map_id xs]
  exact List.map_congr_left (fun x _ => mk_of x)
theorem splitB_splits (s : ByteArray) : Lib.splitB (⟨#[10]⟩ : ByteArray) 0 (Lib.countB s (⟨#[10]⟩ : ByteArray)) s = (splits s.data.toList).map mk := by
  rw [← map_mk (Lib.splitB (⟨#[10]⟩ : ByteArray) 0 (Lib.countB s (⟨#[10]⟩ : ByteArray)) s), Lib.splitB_data]
  exact congrArg _ (splitK_splits s.data.toList)
theorem splits_length : ∀ l, (splits l).length ≤ l.length + 1
  | [] => by simp [splits]
  | c :: l => by
    have ih := splits_length l
    unfold splits
    split
    · simp only [List.length_cons]; omega
    · cases e : splits l with
      | nil => simp [consHead]
      | cons x t => rw [e] at ih; simp only [consHead, List.length_cons] at ih ⊢; omega
theorem splits_size : ∀ l, ∀ x ∈ splits l, x.length ≤ l.length
  | [], x, h => by simp [splits] at h; subst h; simp
  | c :: l, x, h => by
    have ih := splits_size l
    unfold splits at h
    split at h
    · rcases List.mem_cons.mp h with h | h
      · subst h; simp
      · have := ih x h; simp only [List.length_cons]; omega
    · cases e : splits l with
      | nil => rw [e] at h; simp [consHead] at h; subst h; simp
      | cons y t =>
        rw [e] at h ih
        simp only [consHead] at h
        rcases List.mem_cons.mp h with h | h
        · subst h
          have := ih y (by simp)
          simp only [List.length_append, List.length_cons, List.length_nil]; omega
        · have := ih x (by simp [h]); simp only [List.length_cons]; omega
theorem trim_sub : ∀ xs, ∀ x ∈ trim xs, x ∈ xs
  | [], x, h => h
  | [y], x, h => by
    unfold trim at h
    split at h
    · simp at h
    · exact h
  | y :: z :: l, x, h => by
    rw [trim] at h
    rcases List.mem_cons.mp h with h | h
    · subst h; simp
    · exact List.mem_cons_of_mem _ (trim_sub (z :: l) x h)
theorem trim_length : ∀ xs, (trim xs).length ≤ xs.length
  | [] => Nat.le_refl _
  | [y] => by unfold trim; split <;> simp
  | y :: z :: l => by rw [trim]; have := trim_length (z :: l); simp only [List.length_cons] at this ⊢; omega
/-- What trim leaves, told by the last. -/
theorem trim_last : ∀ (xs : List (List UInt8)) (h : xs ≠ []), trim xs = if xs[xs.length - 1]'(by have := List.length_pos_iff.2 h; omega) = [] then xs.take (xs.length - 1) else xs
  | [], h => absurd rfl h
  | [y], _ => by unfold trim; simp
  | y :: z :: l, _ => by
    have ih := trim_last (z :: l) (by simp)
    rw [trim, ih]
    simp only [List.length_cons, Nat.add_sub_cancel, List.getElem_cons_succ]
    split
    · simp
    · rfl
def lines (s : ByteArray) : List ByteArray := (trim (splits s.data.toList)).map mk
theorem lines_length (s : ByteArray) : (lines s).length ≤ s.size + 1 := by
  unfold lines
  rw [List.length_map]
  have h1 := trim_length (splits s.data.toList)
  have h2 := splits_length s.data.toList
  rw [size_data] at h2
  omega
theorem lines_size (s : ByteArray) : ∀ x ∈ lines s, x.size ≤ s.size := by
  intro x hx
  obtain ⟨y, hy, rfl⟩ := List.mem_map.mp hx
  have := splits_size s.data.toList y (trim_sub _ y hy)
  rw [size_data] at this
  rw [mk_size]
  exact this

theorem impl_LinesOf_eq (s : ByteArray) (hs : s.size ≤ 1048576) : impl_LinesOf.f s = some (lines s) := by
  unfold impl_LinesOf.f strings_Split.f
  have hc := Lib.countB_le (⟨#[10]⟩ : ByteArray) (by decide) s.size s (Nat.le_refl _)
  rw [if_pos ⟨by omega, by decide, by omega⟩, Option.bind_some, splitB_splits]
  unfold lines
  have hne := splits_ne s.data.toList
  have hlen := splits_length s.data.toList
  rw [size_data] at hlen
  rw [trim_last _ hne]
  generalize splits s.data.toList = X at hne hlen ⊢
  have hpos := List.length_pos_iff.2 hne
  have ew : wrap64 (((X.map mk).length : Int) - 1) = ((X.length - 1 : Nat) : Int) := by
    rw [List.length_map]
    exact wrap_nat _ _ (by omega) (by omega)
  have er : rdOf ByteArray.empty (X.map mk) ((X.length - 1 : Nat) : Int) = mk (X[X.length - 1]'(by omega)) := by
    unfold rdOf
    rw [Int.toNat_natCast, List.getD_eq_getElem?_getD, List.getElem?_map, List.getElem?_eq_getElem (by omega)]
    rfl
  rw [ew, List.length_map, if_pos (by omega), if_pos (by omega), er, list_data, mk_data]
  split
  · rw [if_pos (by omega), Int.toNat_natCast, List.map_take]
  · rfl

theorem take_snoc {s : List UInt8} {b i : Nat} {c : UInt8} {l : List UInt8} (h : s.drop i = c :: l) (hb : b ≤ i) : (s.drop b).take (i + 1 - b) = (s.drop b).take (i - b) ++ [c] := by
  have e : i + 1 - b = (i - b) + 1 := by omega
  have hg : (s.drop b)[i - b]? = some c := by
    rw [List.getElem?_drop, show b + (i - b) = i by omega]
    have := congrArg List.head? h
    rw [List.head?_drop] at this
    simpa using this
  rw [e, List.take_add_one, hg]
  rfl
theorem spec_LinesOf_l0 (s : ByteArray) (hs : s.size ≤ 1048576) :
    ∀ (l : List UInt8) (i b : Nat) (acc : List ByteArray), s.data.toList.drop i = l → i ≤ s.size → b ≤ i → acc.length ≤ i →
      Ev (fun k => spec_LinesOf.l0 k s acc b i) (acc ++ (trim (consHead ((s.data.toList.drop b).take (i - b)) (splits l))).map mk)
  | [], i, b, acc, h, hi, hb, ha => by
    have e := drop_end h (by rw [size_data]; exact hi)
    rw [size_data] at e
    subst e
    have ec : consHead ((s.data.toList.drop b).take (s.size - b)) (splits []) = [s.data.toList.drop b] := by
      simp only [splits, consHead, List.append_nil]
      rw [List.take_of_length_le (by rw [List.length_drop, size_data]; omega)]
    rw [ec]
    by_cases hlt : b < s.size
    · have hne : s.data.toList.drop b ≠ [] := by
        intro e
        have := congrArg List.length e
        rw [List.length_drop, size_data, List.length_nil] at this
        omega
      have ex : s.extract b s.size = mk (s.data.toList.drop b) := bytes_ext (by
        rw [extract_data, mk_data, List.take_of_length_le (by rw [List.length_drop, size_data]; omega)])
      simp only [trim, if_neg hne, List.map_cons, List.map_nil]
      refine Ev.step (fun k => ?_) (Ev.now _)
      rw [spec_LinesOf.l0, if_neg (by omega), if_pos (by omega), if_pos (by omega), if_pos (by omega), if_pos (by omega), Int.toNat_natCast, ex]
    · have he : s.data.toList.drop b = [] := List.drop_of_length_le (by rw [size_data]; omega)
      rw [he]
      simp only [trim, if_true, List.map_nil, List.append_nil]
      exact Ev.step (fun k => by rw [spec_LinesOf.l0, if_neg (by omega), if_neg (by omega)]) (Ev.now _)
  | c :: l, i, b, acc, h, hi, hb, ha => by
    have hlt := drop_lt h
    rw [size_data] at hlt
    have hbt := bt_cons h
    by_cases hc : c = 10
    · subst hc
      have ih := spec_LinesOf_l0 s hs l (i + 1) (i + 1) (acc ++ [mk ((s.data.toList.drop b).take (i - b))]) (drop_tail h) (by omega) (Nat.le_refl _) (by rw [List.length_append, List.length_singleton]; omega)
      rw [show i + 1 - (i + 1) = 0 by omega, List.take_zero, consHead_nil (splits_ne l)] at ih
      have e : acc ++ (trim (consHead ((s.data.toList.drop b).take (i - b)) (splits (10 :: l)))).map mk = acc ++ [mk ((s.data.toList.drop b).take (i - b))] ++ (trim (splits l)).map mk := by
        simp only [splits, if_true, consHead, List.append_nil]
        rw [trim_cons _ (splits_ne l), List.map_cons, List.append_assoc]
        rfl
      rw [e]
      have ex : s.extract b i = mk ((s.data.toList.drop b).take (i - b)) := bytes_ext (by rw [extract_data, mk_data])
      refine Ev.step (fun k => ?_) ih
      rw [spec_LinesOf.l0, if_pos (by omega), if_pos (by omega), if_pos (by rw [hbt]; rfl), if_pos (by omega), if_pos (by omega), if_pos (by omega), if_pos (by omega), Int.toNat_natCast, Int.toNat_natCast, ex, wrap_succ i (by omega)]
    · have ih := spec_LinesOf_l0 s hs l (i + 1) b acc (drop_tail h) (by omega) (by omega) (by omega)
      rw [take_snoc h hb] at ih
      have e : consHead ((s.data.toList.drop b).take (i - b)) (splits (c :: l)) = consHead ((s.data.toList.drop b).take (i - b) ++ [c]) (splits l) := by
        rw [splits, if_neg hc, consHead_two]
      rw [e]
      refine Ev.step (fun k => ?_) ih
      have hne : ¬ bt s (i : Int) = 10 := by
        rw [hbt]
        intro e
        exact hc (UInt8.toNat_inj.mp (show c.toNat = 10 by omega))
      rw [spec_LinesOf.l0, if_pos (by omega), if_pos (by omega), if_neg hne, wrap_succ i (by omega)]
theorem spec_LinesOf_ev (s : ByteArray) (hs : s.size ≤ 1048576) : Ev (fun k => spec_LinesOf.f k s) (lines s) := by
  have h := spec_LinesOf_l0 s hs s.data.toList 0 0 [] rfl (by omega) (Nat.le_refl _) (by simp)
  rw [show (s.data.toList.drop 0).take (0 - 0) = [] by simp, consHead_nil (splits_ne _), List.nil_append] at h
  exact Ev.congr (fun k => rfl) h

theorem eqStringS_l0 (xs ys : List ByteArray) (hx : xs.length ≤ 9223372036854775807) (hl : xs.length = ys.length) :
    ∀ (l m : List ByteArray) (i : Nat), xs.drop i = l → ys.drop i = m → i ≤ xs.length → Ev (fun k => laws_eqStringS.l0 k xs ys i) (decide (l = m))
  | [], m, i, h, h2, hi => by
    have e := drop_end h hi
    have e2 : m = [] := by rw [← h2]; exact List.drop_of_length_le (by omega)
    subst e2
    exact Ev.step (fun k => by rw [laws_eqStringS.l0, if_neg (by omega)]) (by simpa using Ev.now true)
  | x :: l, [], i, h, h2, hi => by
    have hlt := drop_lt h
    have := drop_end h2 (by omega)
    omega
  | x :: l, y :: m, i, h, h2, hi => by
    have hlt := drop_lt h
    by_cases hxy : x = y
    · subst hxy
      have ih := eqStringS_l0 xs ys hx hl l m (i + 1) (drop_tail h) (drop_tail h2) (by omega)
      have e : decide (x :: l = x :: m) = decide (l = m) := by simp
      rw [e]
      refine Ev.step (fun k => ?_) ih
      rw [laws_eqStringS.l0, if_pos (by omega), if_pos (by omega), if_pos (by omega), rdOf_drop _ h, rdOf_drop _ h2, if_pos rfl, wrap_succ i (by omega)]
    · have e : decide (x :: l = y :: m) = false := by simp [hxy]
      rw [e]
      refine Ev.step (fun k => ?_) (Ev.now _)
      rw [laws_eqStringS.l0, if_pos (by omega), if_pos (by omega), if_pos (by omega), rdOf_drop _ h, rdOf_drop _ h2, if_neg (fun h => hxy (toList_inj.mp h))]

theorem eqStringS_ev (xs ys : List ByteArray) (hx : xs.length ≤ 9223372036854775807) (hy : ys.length ≤ 9223372036854775807) : Ev (fun k => laws_eqStringS.f k xs ys) (decide (xs = ys)) := by
  by_cases hl : xs.length = ys.length
  · refine Ev.congr (fun k => ?_) (eqStringS_l0 xs ys hx hl xs ys 0 rfl rfl (by omega))
    rw [laws_eqStringS.f, if_pos (by omega)]; rfl
  · have e : decide (xs = ys) = false := decide_eq_false (fun h => hl (by rw [h]))
    rw [e]
    refine Ev.congr (fun k => ?_) (Ev.now _)
    rw [laws_eqStringS.f, if_neg (by omega)]

theorem strOfNums_one (x : Int) : (strOfNums [x]).size = 1 := rfl
theorem markText_l0 : ∀ (m n : Nat), n ≤ m → n ≤ 1099511627776 → ∀ t : ByteArray, t.size + n ≤ 2199023255552 → ∃ r, Ev (fun k => laws_markText.l0 k n t) r
  | m, 0, _, _, t, ht => ⟨_, Ev.step (fun k => by rw [laws_markText.l0, if_neg (by omega), if_pos (by omega)]) (Ev.now _)⟩
  | 0, n + 1, h, _, _, _ => absurd h (by omega)
  | m + 1, n + 1, h, hn, t, ht => by
    have e1 : Int.tdiv ((n + 1 : Nat) : Int) 10 = (((n + 1) / 10 : Nat) : Int) := rfl
    have e2 : wrap64 (Int.tdiv ((n + 1 : Nat) : Int) 10) = (((n + 1) / 10 : Nat) : Int) := by rw [e1]; exact wrap_nat _ _ rfl (by omega)
    have hs : ((strOfNums [wrap64 (48 + (Int.tmod ((n + 1 : Nat) : Int) 10)) % 256]) ++ t).size = 1 + t.size := by rw [ByteArray.size_append, strOfNums_one]
    obtain ⟨r, hr⟩ := markText_l0 m ((n + 1) / 10) (by omega) (by omega) ((strOfNums [wrap64 (48 + (Int.tmod ((n + 1 : Nat) : Int) 10)) % 256]) ++ t) (by rw [hs]; omega)
    refine ⟨r, Ev.step (fun k => ?_) hr⟩
    rw [laws_markText.l0, if_pos (by omega), Option.bind_some, strOfNums_one, if_pos (by omega), e2]
theorem markText_some (n : Nat) (h : n ≤ 1099511627776) : ∃ r, Ev (fun k => laws_markText.f k n) r := by
  unfold laws_markText.f
  by_cases c : (n : Int) ≤ 0
  · simp only [if_pos c]; exact ⟨_, Ev.now _⟩
  · simp only [if_neg c]
    exact markText_l0 n n (Nat.le_refl _) h _ (by show 0 + n ≤ _; omega)
open Classical in
noncomputable def mt (n : Nat) : ByteArray := if h : ∃ r, Ev (fun k => laws_markText.f k n) r then Classical.choose h else ByteArray.empty
theorem markText_ev (n : Nat) (h : n ≤ 1099511627776) : Ev (fun k => laws_markText.f k n) (mt n) := by
  unfold mt
  rw [dif_pos (markText_some n h)]
  exact Classical.choose_spec (markText_some n h)
noncomputable def marks : Nat → Nat → List ByteArray
  | _, 0 => []
  | c, n + 1 => mt c :: marks (c + 1) n
theorem marks_length : ∀ n c, (marks c n).length = n
  | 0, _ => rfl
  | n + 1, c => by rw [marks, List.length_cons, marks_length n]
theorem take_set_snoc {α : Type} (v : α) : ∀ (xs : List α) (i : Nat), i < xs.length → (xs.set i v).take (i + 1) = xs.take i ++ [v]
  | [], i, h => absurd h (by simp)
  | x :: l, 0, _ => rfl
  | x :: l, i + 1, h => by
    have := take_set_snoc v l i (by simpa using h)
    simp only [List.set_cons_succ, List.take_succ_cons, this, List.cons_append]
theorem markStringS_l0 : ∀ (n i c : Nat) (xs : List ByteArray), i + n = xs.length → c + n ≤ 1099511627776 → i + n ≤ 1099511627776 →
    Ev (fun k => laws_markStringS.l0 k xs c i) (((c + n : Nat) : Int), xs.take i ++ marks c n)
  | 0, i, c, xs, h, hc, hi => by
    rw [show xs.take i = xs from List.take_of_length_le (by omega)]
    exact Ev.step (fun k => by rw [laws_markStringS.l0, if_neg (by omega)]; simp [marks]) (Ev.now _)
  | n + 1, i, c, xs, h, hc, hi => by
    have ih := markStringS_l0 n (i + 1) (c + 1) (xs.set i (mt c)) (by rw [List.length_set]; omega) (by omega) (by omega)
    rw [take_set_snoc (mt c) xs i (by omega), List.append_assoc, show c + 1 + n = c + (n + 1) by omega] at ih
    refine Ev.step (f := fun k => (laws_markText.f k c).bind fun t => if 0 ≤ (i : Int) then laws_markStringS.l0 k (xs.set i t) ((c + 1 : Nat) : Int) ((i + 1 : Nat) : Int) else none) (fun k => ?_) (Ev.bind (markText_ev c (by omega)) ?_)
    · rw [laws_markStringS.l0, if_pos (by omega), wrap_succ c (by omega), wrap_succ i (by omega), Int.toNat_natCast]
    · simp only [if_pos (show 0 ≤ (i : Int) by omega)]
      exact ih
theorem heldStringS_l0 (xs : List ByteArray) : ∀ (n i c : Nat), xs.drop i = marks c n → i + n = xs.length → c + n ≤ 1099511627776 → i + n ≤ 1099511627776 →
    Ev (fun k => laws_heldStringS.l0 k xs c i) ((c + n : Nat) : Int)
  | 0, i, c, hd, h, hc, hi => Ev.step (fun k => by rw [laws_heldStringS.l0, if_neg (by omega)]; rfl) (Ev.now _)
  | n + 1, i, c, hd, h, hc, hi => by
    have ih := heldStringS_l0 xs n (i + 1) (c + 1) (drop_tail hd) (by omega) (by omega) (by omega)
    rw [show c + 1 + n = c + (n + 1) by omega] at ih
    refine Ev.step (f := fun k => if 0 ≤ (i : Int) then ((laws_markText.f k c).bind fun t => if (mt c).toList = t.toList then laws_heldStringS.l0 k xs ((c + 1 : Nat) : Int) ((i + 1 : Nat) : Int) else some (-1)) else none) (fun k => ?_) ?_
    · rw [laws_heldStringS.l0, if_pos (by omega), wrap_succ c (by omega), wrap_succ i (by omega), rdOf_drop _ hd]
    · simp only [if_pos (show 0 ≤ (i : Int) by omega)]
      refine Ev.bind (markText_ev c (by omega)) ?_
      simp only [if_true]
      exact ih
theorem markStringS_ev (xs : List ByteArray) (c : Nat) (h : xs.length ≤ 1099511627776) (hc : c + xs.length ≤ 1099511627776) : Ev (fun k => laws_markStringS.f k xs c) (((c + xs.length : Nat) : Int), marks c xs.length) :=
  Ev.congr (fun k => rfl) (markStringS_l0 xs.length 0 c xs (by omega) hc (by omega))
theorem heldStringS_ev (n c : Nat) (h : n ≤ 1099511627776) (hc : c + n ≤ 1099511627776) : Ev (fun k => laws_heldStringS.f k (marks c n) c) ((c + n : Nat) : Int) :=
  Ev.congr (fun k => rfl) (heldStringS_l0 (marks c n) n 0 c rfl (by rw [marks_length]; omega) hc (by omega))

theorem FnExactLinesOf : laws_FnExactLinesOf.Pure := by
  intro s _
  refine Ev.rounds (g := fun k => laws_FnExactLinesOf.f k s) ?_
  unfold laws_FnExactLinesOf.f
  by_cases h : (s.size : Int) > 1048576
  · simp only [if_pos h]; exact Ev.now _
  · simp only [if_neg h]
    have hl := lines_length s
    have he : Ev (fun k => laws_eqStringS.f k (lines s) (lines s)) true := by
      have := eqStringS_ev (lines s) (lines s) (by omega) (by omega)
      simpa using this
    have hm : Ev (fun k => laws_markStringS.f k (lines s) 1) (((1 + (lines s).length : Nat) : Int), marks 1 (lines s).length) := markStringS_ev (lines s) 1 (by omega) (by omega)
    have hh : Ev (fun k => laws_heldStringS.f k (marks 1 (lines s).length) 1) ((1 + (lines s).length : Nat) : Int) := heldStringS_ev (lines s).length 1 (by omega) (by omega)
    have hn : ¬ (((1 + (lines s).length : Nat) : Int) < 0) := by omega
    refine Ev.bind (spec_LinesOf_ev s (by omega)) ?_
    simp only [impl_LinesOf_eq s (by omega), Option.bind_some]
    refine Ev.bind he ?_
    simp only [if_true]
    refine Ev.bind hm ?_
    refine Ev.bind hh ?_
    simp only [if_neg hn, if_true]
    refine Ev.bind he ?_
    simp only [if_true]
    refine Ev.bind hh ?_
    simp only [if_neg hn, if_true]
    exact Ev.now _

end Go.Proofs.YtncpoffbeipooaaDoor.Pure
