/- The program's HeadOf answers what the reference's answers. Conditions: none beyond the statement's own. -/
import Derived.Test.YtncpoffbeipooaaDoorQFnExactHeadOfPure0
import Derived.Test.YtncpoffbeipooaaDoorBase
namespace Go.Proofs.YtncpoffbeipooaaDoor.Pure
open Go.RowKit Go.Proofs.YtncpoffbeipooaaDoor.QFnExactHeadOf Go.Proofs.YtncpoffbeipooaaDoorW.PrintWords Go.Proofs.YtncpoffbeipooaaDoorW.PrintLast Go.Proofs.YtncpoffbeipooaaDoorB Go.Proofs.YtncpoffbeipooaaDoorO
set_option linter.unusedVariables false
set_option linter.unusedSimpArgs false

def mk (l : List UInt8) : ByteArray := ⟨l.toArray⟩
theorem mk_data (l : List UInt8) : (mk l).data.toList = l := rfl
theorem mk_of (s : ByteArray) : mk s.data.toList = s := bytes_ext rfl
theorem mk_size (l : List UInt8) : (mk l).size = l.length := by rw [← size_data]; rfl
theorem map_mk (xs : List ByteArray) : (xs.map (·.data.toList)).map mk = xs := by
  rw [List.map_map]
  conv => rhs; rw [← List.map_id xs]
  exact List.map_congr_left (fun x _ => mk_of x)
theorem take_snoc {s : List UInt8} {b i : Nat} {c : UInt8} {l : List UInt8} (h : s.drop i = c :: l) (hb : b ≤ i) : (s.drop b).take (i + 1 - b) = (s.drop b).take (i - b) ++ [c] := by
  have e : i + 1 - b = (i - b) + 1 := by omega
  have hg : (s.drop b)[i - b]? = some c := by
    rw [List.getElem?_drop, show b + (i - b) = i by omega]
    have := congrArg List.head? h
    rw [List.head?_drop] at this
    simpa using this
  rw [e, List.take_add_one, hg]
  rfl

def consHead (cur : List UInt8) : List (List UInt8) → List (List UInt8)
  | [] => [cur]
  | h :: t => (cur ++ h) :: t
def splits : List UInt8 → List (List UInt8)
  | [] => [[]]
  | c :: l => if c = 10 then [] :: splits l else consHead [c] (splits l)
def trim : List (List UInt8) → List (List UInt8)
  | [] => []
  | [x] => if x = [] then [] else [x]
  | x :: y :: l => x :: trim (y :: l)
theorem splits_ne : ∀ l, splits l ≠ []
  | [] => by simp [splits]
  | c :: l => by
    unfold splits
    split
    · simp
    · cases splits l <;> simp [consHead]
theorem consHead_nil {xs : List (List UInt8)} (h : xs ≠ []) : consHead [] xs = xs := by
  cases xs with
  | nil => exact absurd rfl h
  | cons x l => simp [consHead]
theorem consHead_two (a b : List UInt8) {xs : List (List UInt8)} : consHead a (consHead b xs) = consHead (a ++ b) xs := by
  cases xs <;> simp [consHead]
theorem trim_cons (x : List UInt8) {xs : List (List UInt8)} (h : xs ≠ []) : trim (x :: xs) = x :: trim xs := by
  cases xs with
  | nil => exact absurd rfl h
  | cons y l => rfl
theorem splitK_splits : ∀ l : List UInt8, Lib.splitK [10] 0 (Lib.count l [10]) l = splits l
  | [] => rfl
  | c :: l => by
    have ih := splitK_splits l
    by_cases h : c = 10
    · subst h
      have e0 : Lib.index (10 :: l) [10] = 0 := by rw [Lib.index_one]; simp [Lib.indexByte]
      rw [Lib.count_cons_eq, show 1 + Lib.count l [10] = Lib.count l [10] + 1 by omega, Lib.splitK, e0, if_neg (by decide)]
      simp only [splits, if_true]
      show (10 :: l).take 0 :: Lib.splitK [10] 0 (Lib.count l [10]) l = _
      rw [ih]; rfl
    · rw [Lib.count_cons_ne c 10 l h]
      unfold splits
      rw [if_neg h, ← ih]
      cases e : Lib.count l [10] with
      | zero => rfl
      | succ m =>
        simp only [Lib.splitK]
        have hi : Lib.index (c :: l) [10] = if Lib.index l [10] = -1 then -1 else Lib.index l [10] + 1 := by
          rw [Lib.index_one, Lib.index_one]; simp [Lib.indexByte, h]
        have hge := Lib.index_ge l [10]
        by_cases h1 : Lib.index l [10] = -1
        · rw [hi, if_pos h1, h1]; simp [consHead]
        · have h2 : Lib.index (c :: l) [10] = Lib.index l [10] + 1 := by rw [hi, if_neg h1]
          have h3 : ¬ (Lib.index (c :: l) [10] == -1) = true := by rw [beq_iff_eq]; omega
          have h4 : ¬ (Lib.index l [10] == -1) = true := by rw [beq_iff_eq]; omega
          have h5 : (Lib.index (c :: l) [10]).toNat = (Lib.index l [10]).toNat + 1 := by omega
          rw [if_neg h3, if_neg h4, h5]
          simp [consHead, List.take_succ_cons, List.drop_succ_cons]
theorem splitB_splits (s : ByteArray) : Lib.splitB (⟨#[10]⟩ : ByteArray) 0 (Lib.countB s (⟨#[10]⟩ : ByteArray)) s = (splits s.data.toList).map mk := by
  rw [← map_mk (Lib.splitB (⟨#[10]⟩ : ByteArray) 0 (Lib.countB s (⟨#[10]⟩ : ByteArray)) s), Lib.splitB_data]
  exact congrArg _ (splitK_splits s.data.toList)
theorem splits_length : ∀ l, (splits l).length ≤ l.length + 1
  | [] => by simp [splits]
  | c :: l => by
    have ih := splits_length l
    unfold splits
    split
    · simp only [List.length_cons]; omega
    · cases e : splits l with
      | nil => simp [consHead]
      | cons x t => rw [e] at ih; simp only [consHead, List.length_cons] at ih ⊢; omega
theorem splits_size : ∀ l, ∀ x ∈ splits l, x.length ≤ l.length
  | [], x, h => by simp [splits] at h; subst h; simp
  | c :: l, x, h => by
    have ih := splits_size l
    unfold splits at h
    split at h
    · rcases List.mem_cons.mp h with h | h
      · subst h; simp
      · have := ih x h; simp only [List.length_cons]; omega
    · cases e : splits l with
      | nil => rw [e] at h; simp [consHead] at h; subst h; simp
      | cons y t =>
        rw [e] at h ih
        simp only [consHead] at h
        rcases List.mem_cons.mp h with h | h
        · subst h
          have := ih y (by simp)
          simp only [List.length_append, List.length_cons, List.length_nil]; omega
        · have := ih x (by simp [h]); simp only [List.length_cons]; omega
theorem trim_sub : ∀ xs, ∀ x ∈ trim xs, x ∈ xs
  | [], x, h => h
  | [y], x, h => by
    unfold trim at h
    split at h
    · simp at h
    · exact h
  | y :: z :: l, x, h => by
    rw [trim] at h
    rcases List.mem_cons.mp h with h | h
    · subst h; simp
    · exact List.mem_cons_of_mem _ (trim_sub (z :: l) x h)
theorem trim_length : ∀ xs, (trim xs).length ≤ xs.length
  | [] => Nat.le_refl _
  | [y] => by unfold trim; split <;> simp
  | y :: z :: l => by rw [trim]; have := trim_length (z :: l); simp only [List.length_cons] at this ⊢; omega
/-- What trim leaves, told by the last. -/
theorem trim_last : ∀ (xs : List (List UInt8)) (h : xs ≠ []), trim xs = if xs[xs.length - 1]'(by have := List.length_pos_iff.2 h; omega) = [] then xs.take (xs.length - 1) else xs
  | [], h => absurd rfl h
  | [y], _ => by unfold trim; simp
  | y :: z :: l, _ => by
    have ih := trim_last (z :: l) (by simp)
    rw [trim, ih]
    simp only [List.length_cons, Nat.add_sub_cancel, List.getElem_cons_succ]
    split
    · simp
    · rfl
def lines (s : ByteArray) : List ByteArray := (trim (splits s.data.toList)).map mk
theorem lines_length (s : ByteArray) : (lines s).length ≤ s.size + 1 := by
  unfold lines
  rw [List.length_map]
  have h1 := trim_length (splits s.data.toList)
  have h2 := splits_length s.data.toList
  rw [size_data] at h2
  omega
theorem lines_size (s : ByteArray) : ∀ x ∈ lines s, x.size ≤ s.size := by
  intro x hx
  obtain ⟨y, hy, rfl⟩ := List.mem_map.mp hx
  have := splits_size s.data.toList y (trim_sub _ y hy)
  rw [size_data] at this
  rw [mk_size]
  exact this

theorem impl_LinesOf_eq (s : ByteArray) (hs : s.size ≤ 1048576) : impl_LinesOf.f s = some (lines s) := by
  unfold impl_LinesOf.f strings_Split.f
  have hc := Lib.countB_le (⟨#[10]⟩ : ByteArray) (by decide) s.size s (Nat.le_refl _)
  rw [if_pos ⟨by omega, by decide, by omega⟩, Option.bind_some, splitB_splits]
  unfold lines
  have hne := splits_ne s.data.toList
  have hlen := splits_length s.data.toList
  rw [size_data] at hlen
  rw [trim_last _ hne]
  generalize splits s.data.toList = X at hne hlen ⊢
  have hpos := List.length_pos_iff.2 hne
  have ew : wrap64 (((X.map mk).length : Int) - 1) = ((X.length - 1 : Nat) : Int) := by
    rw [List.length_map]
    exact wrap_nat _ _ (by omega) (by omega)
  have er : rdOf ByteArray.empty (X.map mk) ((X.length - 1 : Nat) : Int) = mk (X[X.length - 1]'(by omega)) := by
    unfold rdOf
    rw [Int.toNat_natCast, List.getD_eq_getElem?_getD, List.getElem?_map, List.getElem?_eq_getElem (by omega)]
    rfl
  rw [ew, List.length_map, if_pos (by omega), if_pos (by omega), er, list_data, mk_data]
  split
  · rw [if_pos (by omega), Int.toNat_natCast, List.map_take]
  · rfl

theorem spec_LinesOf_l0 (s : ByteArray) (hs : s.size ≤ 1048576) :
    ∀ (l : List UInt8) (i b : Nat) (acc : List ByteArray), s.data.toList.drop i = l → i ≤ s.size → b ≤ i → acc.length ≤ i →
      Ev (fun k => spec_LinesOf.l0 k s acc b i) (acc ++ (trim (consHead ((s.data.toList.drop b).take (i - b)) (splits l))).map mk)
  | [], i, b, acc, h, hi, hb, ha => by
    have e := drop_end h (by rw [size_data]; exact hi)
    rw [size_data] at e
    subst e
    have ec : consHead ((s.data.toList.drop b).take (s.size - b)) (splits []) = [s.data.toList.drop b] := by
      simp only [splits, consHead, List.append_nil]
      rw [List.take_of_length_le (by rw [List.length_drop, size_data]; omega)]
    rw [ec]
    by_cases hlt : b < s.size
    · have hne : s.data.toList.drop b ≠ [] := by
        intro e
        have := congrArg List.length e
        rw [List.length_drop, size_data, List.length_nil] at this
        omega
      have ex : s.extract b s.size = mk (s.data.toList.drop b) := bytes_ext (by
        rw [extract_data, mk_data, List.take_of_length_le (by rw [List.length_drop, size_data]; omega)])
      simp only [trim, if_neg hne, List.map_cons, List.map_nil]
      refine Ev.step (fun k => ?_) (Ev.now _)
      rw [spec_LinesOf.l0, if_neg (by omega), if_pos (by omega), if_pos (by omega), if_pos (by omega), if_pos (by omega), Int.toNat_natCast, ex]
    · have he : s.data.toList.drop b = [] := List.drop_of_length_le (by rw [size_data]; omega)
      rw [he]
      simp only [trim, if_true, List.map_nil, List.append_nil]
      exact Ev.step (fun k => by rw [spec_LinesOf.l0, if_neg (by omega), if_neg (by omega)]) (Ev.now _)
  | c :: l, i, b, acc, h, hi, hb, ha => by
    have hlt := drop_lt h
    rw [size_data] at hlt
    have hbt := bt_cons h
    by_cases hc : c = 10
    · subst hc
      have ih := spec_LinesOf_l0 s hs l (i + 1) (i + 1) (acc ++ [mk ((s.data.toList.drop b).take (i - b))]) (drop_tail h) (by omega) (Nat.le_refl _) (by rw [List.length_append, List.length_singleton]; omega)
      rw [show i + 1 - (i + 1) = 0 by omega, List.take_zero, consHead_nil (splits_ne l)] at ih
      have e : acc ++ (trim (consHead ((s.data.toList.drop b).take (i - b)) (splits (10 :: l)))).map mk = acc ++ [mk ((s.data.toList.drop b).take (i - b))] ++ (trim (splits l)).map mk := by
        simp only [splits, if_true, consHead, List.append_nil]
        rw [trim_cons _ (splits_ne l), List.map_cons, List.append_assoc]
        rfl
      rw [e]
      have ex : s.extract b i = mk ((s.data.toList.drop b).take (i - b)) := bytes_ext (by rw [extract_data, mk_data])
      refine Ev.step (fun k => ?_) ih
      rw [spec_LinesOf.l0, if_pos (by omega), if_pos (by omega), if_pos (by rw [hbt]; rfl), if_pos (by omega), if_pos (by omega), if_pos (by omega), if_pos (by omega), Int.toNat_natCast, Int.toNat_natCast, ex, wrap_succ i (by omega)]
    · have ih := spec_LinesOf_l0 s hs l (i + 1) b acc (drop_tail h) (by omega) (by omega) (by omega)
      rw [take_snoc h hb] at ih
      have e : consHead ((s.data.toList.drop b).take (i - b)) (splits (c :: l)) = consHead ((s.data.toList.drop b).take (i - b) ++ [c]) (splits l) := by
        rw [splits, if_neg hc, consHead_two]
      rw [e]
      refine Ev.step (fun k => ?_) ih
      have hne : ¬ bt s (i : Int) = 10 := by
        rw [hbt]
        intro e
        exact hc (UInt8.toNat_inj.mp (show c.toNat = 10 by omega))
      rw [spec_LinesOf.l0, if_pos (by omega), if_pos (by omega), if_neg hne, wrap_succ i (by omega)]
theorem spec_LinesOf_ev (s : ByteArray) (hs : s.size ≤ 1048576) : Ev (fun k => spec_LinesOf.f k s) (lines s) := by
  have h := spec_LinesOf_l0 s hs s.data.toList 0 0 [] rfl (by omega) (Nat.le_refl _) (by simp)
  rw [show (s.data.toList.drop 0).take (0 - 0) = [] by simp, consHead_nil (splits_ne _), List.nil_append] at h
  exact Ev.congr (fun k => rfl) h

def headL (p : ByteArray) : List ByteArray → ByteArray × Bool
  | [] => ((⟨#[]⟩ : ByteArray), false)
  | x :: l => if x.toList = ([] : List UInt8) then ((⟨#[]⟩ : ByteArray), false) else if Lib.hasPrefix x.data.toList p.data.toList = true then ((⟨(Lib.trimPrefix x.data.toList p.data.toList).toArray⟩ : ByteArray), true) else headL p l
theorem begins_eq (x p : ByteArray) : spec_l18Begins.f x p = some (Lib.hasPrefix x.data.toList p.data.toList) := by
  rw [← Lib.hasPrefix_raw]
  unfold spec_l18Begins.f
  by_cases h : (x.size : Int) ≥ (p.size : Int)
  · rw [if_pos h, if_pos (by omega), if_pos (by omega), decide_eq_true (show p.size ≤ x.size by omega), Bool.true_and, Int.toNat_natCast]
  · rw [if_neg h, decide_eq_false (show ¬ p.size ≤ x.size by omega), Bool.false_and]
theorem trim_eq (x p : ByteArray) (h : Lib.hasPrefix x.data.toList p.data.toList = true) : (⟨(Lib.trimPrefix x.data.toList p.data.toList).toArray⟩ : ByteArray) = x.extract p.size x.size := by
  apply bytes_ext
  rw [extract_data]
  show Lib.trimPrefix x.data.toList p.data.toList = _
  unfold Lib.trimPrefix
  rw [if_pos h, size_data, List.take_of_length_le (by rw [List.length_drop, size_data]; omega)]
theorem prefix_le (x p : ByteArray) (h : Lib.hasPrefix x.data.toList p.data.toList = true) : p.size ≤ x.size := by
  have h1 : p.data.toList.isPrefixOf x.data.toList = true := h
  have := (List.isPrefixOf_iff_prefix.1 h1).length_le
  rwa [size_data, size_data] at this
theorem spec_HeadOf_l0 (xs : List ByteArray) (p : ByteArray) (hx : xs.length ≤ 1048577) :
    ∀ (l : List ByteArray) (i : Nat), xs.drop i = l → i ≤ xs.length → Ev (fun k => spec_HeadOf.l0 k xs p i) (headL p l)
  | [], i, h, hi => by
    have e := drop_end h hi
    refine Ev.step (f := fun k => spec_HeadOf.j1 k xs p i false) (fun k => by rw [spec_HeadOf.l0, if_neg (by omega)]) ?_
    exact Ev.step (fun k => by rw [spec_HeadOf.j1, if_neg (by decide)]; rfl) (Ev.now _)
  | x :: l, i, h, hi => by
    have hlt := drop_lt h
    have er : rdOf ByteArray.empty xs (i : Int) = x := rdOf_drop _ h
    refine Ev.step (f := fun k => spec_HeadOf.j1 k xs p i (x.toList != ([] : List UInt8))) (fun k => by rw [spec_HeadOf.l0, if_pos (by omega), if_pos (by omega), er]) ?_
    unfold headL
    by_cases he : x.toList = ([] : List UInt8)
    · have hb : (x.toList != ([] : List UInt8)) = false := by rw [he]; rfl
      rw [if_pos he, hb]
      exact Ev.step (fun k => by rw [spec_HeadOf.j1, if_neg (by decide)]) (Ev.now _)
    · have hb : (x.toList != ([] : List UInt8)) = true := bne_iff_ne.mpr he
      rw [if_neg he, hb]
      by_cases hp : Lib.hasPrefix x.data.toList p.data.toList = true
      · have hle := prefix_le x p hp
        rw [if_pos hp, trim_eq x p hp]
        refine Ev.step (fun k => ?_) (Ev.now _)
        rw [spec_HeadOf.j1, if_pos rfl, if_pos (by omega), if_pos (by omega), er, begins_eq, hp, Option.bind_some, if_pos rfl, if_pos (by omega), if_pos (by omega), Int.toNat_natCast]
      · have ih := spec_HeadOf_l0 xs p hx l (i + 1) (drop_tail h) (by omega)
        rw [if_neg hp]
        refine Ev.step (fun k => ?_) ih
        rw [spec_HeadOf.j1, if_pos rfl, if_pos (by omega), if_pos (by omega), er, begins_eq, Option.bind_some, if_neg hp, wrap_succ i (by omega)]
theorem impl_HeadOf_l0 (xs : List ByteArray) (a : ByteArray) (ha : a.size ≤ 1048576) (hx : xs.length ≤ 1048577) :
    ∀ (l : List ByteArray) (i : Nat), xs.drop i = l → i ≤ xs.length → Ev (fun k => impl_HeadOf.l0 k a xs (xs.length : Int) i) (headL (a ++ (⟨#[58, 32]⟩ : ByteArray)) l)
  | [], i, h, hi => by
    have e := drop_end h hi
    exact Ev.step (fun k => by rw [impl_HeadOf.l0, if_neg (by omega)]; rfl) (Ev.now _)
  | x :: l, i, h, hi => by
    have hlt := drop_lt h
    have er : rdOf ByteArray.empty xs (i : Int) = x := rdOf_drop _ h
    unfold headL
    by_cases he : x.toList = ([] : List UInt8)
    · rw [if_pos he]
      exact Ev.step (fun k => by rw [impl_HeadOf.l0, if_pos (by omega), if_pos (by omega), if_pos (by omega), er, if_pos he]) (Ev.now _)
    · rw [if_neg he]
      have ec : strings_CutPrefix.f x (a ++ (⟨#[58, 32]⟩ : ByteArray)) = some ((⟨(Lib.trimPrefix x.data.toList (a ++ (⟨#[58, 32]⟩ : ByteArray)).data.toList).toArray⟩ : ByteArray), Lib.hasPrefix x.data.toList (a ++ (⟨#[58, 32]⟩ : ByteArray)).data.toList) := rfl
      by_cases hp : Lib.hasPrefix x.data.toList (a ++ (⟨#[58, 32]⟩ : ByteArray)).data.toList = true
      · rw [if_pos hp]
        refine Ev.step (fun k => ?_) (Ev.now _)
        rw [impl_HeadOf.l0, if_pos (by omega), if_pos (by omega), if_pos (by omega), er, if_neg he, if_pos (by omega), ec, Option.bind_some, if_pos hp]
      · have ih := impl_HeadOf_l0 xs a ha hx l (i + 1) (drop_tail h) (by omega)
        rw [if_neg hp]
        refine Ev.step (fun k => ?_) ih
        rw [impl_HeadOf.l0, if_pos (by omega), if_pos (by omega), if_pos (by omega), er, if_neg he, if_pos (by omega), ec, Option.bind_some, if_neg hp, wrap_succ i (by omega)]
theorem FnExactHeadOf : laws_FnExactHeadOf.Pure := by
  intro s a _ _
  refine Ev.rounds (g := fun k => laws_FnExactHeadOf.f k s a) ?_
  unfold laws_FnExactHeadOf.f
  by_cases h : (s.size : Int) > 1048576
  · simp only [if_pos h]; exact Ev.now _
  · simp only [if_neg h]
    by_cases h2 : (a.size : Int) > 1048576
    · simp only [if_pos h2]; exact Ev.now _
    · simp only [if_neg h2]
      have hl := lines_length s
      have hs : Ev (fun k => spec_HeadOf.f k s a) (headL (a ++ (⟨#[58, 32]⟩ : ByteArray)) (lines s)) := by
        unfold spec_HeadOf.f
        refine Ev.bind (spec_LinesOf_ev s (by omega)) ?_
        simp only [if_pos (show a.size + 2 ≤ 9223372036854775807 by omega)]
        exact spec_HeadOf_l0 (lines s) _ (by omega) (lines s) 0 rfl (by omega)
      have hi : Ev (fun k => impl_HeadOf.f k s a) (headL (a ++ (⟨#[58, 32]⟩ : ByteArray)) (lines s)) := by
        unfold impl_HeadOf.f
        simp only [impl_LinesOf_eq s (by omega), Option.bind_some]
        exact impl_HeadOf_l0 (lines s) a (by omega) (by omega) (lines s) 0 rfl (by omega)
      refine Ev.bind hs ?_
      refine Ev.bind hi ?_
      have hb : ¬ (((headL (a ++ (⟨#[58, 32]⟩ : ByteArray)) (lines s)).2 != (headL (a ++ (⟨#[58, 32]⟩ : ByteArray)) (lines s)).2) = true) := by simp
      simp only [if_true, if_neg hb]
      exact Ev.now _

end Go.Proofs.YtncpoffbeipooaaDoor.Pure
