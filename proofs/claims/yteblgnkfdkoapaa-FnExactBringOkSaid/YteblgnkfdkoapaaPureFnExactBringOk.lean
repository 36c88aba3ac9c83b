/- The program's BringOk answers what the reference's answers. Conditions: none beyond the statement's own. -/
import Derived.Test.YteblgnkfdkoapaaQFnExactBringOkPure0
import Derived.Test.YteblgnkfdkoapaaBase
namespace Go.Proofs.Yteblgnkfdkoapaa.Pure
open Go.RowKit Go.Proofs.Yteblgnkfdkoapaa.QFnExactBringOk Go.Proofs.YteblgnkfdkoapaaW.PrintWords Go.Proofs.YteblgnkfdkoapaaW.PrintLast Go.Proofs.YteblgnkfdkoapaaB Go.Proofs.YteblgnkfdkoapaaO
set_option linter.unusedVariables false
set_option linter.unusedSimpArgs false

/-- The lengths of texts, together and with their number, are within what is left; else it answers something below 0. -/
def sumS : List ByteArray → Nat
  | [] => 0
  | x :: l => x.size + sumS l

theorem szStringS_l0 (xs : List ByteArray) (hx : xs.length ≤ 9223372036854775807) (hs : ∀ x ∈ xs, x.size ≤ 9223372036854775807) :
    ∀ (l : List ByteArray) (i : Nat) (a : Nat), xs.drop i = l → i ≤ xs.length → a ≤ 1048576 →
      (sumS l ≤ a ∧ Ev (fun k => laws_szStringS.l0 k xs a i) ((a - sumS l : Nat) : Int)) ∨ Ev (fun k => laws_szStringS.l0 k xs a i) (-1)
  | [], i, a, h, hi, ha => by
    left
    have e := drop_end h hi
    refine ⟨Nat.zero_le _, Ev.step (fun k => by rw [laws_szStringS.l0, if_neg (by omega)]; rfl) (Ev.now _)⟩
  | x :: l, i, a, h, hi, ha => by
    have hlt := drop_lt h
    have hz : x.size ≤ 9223372036854775807 := hs x (List.mem_of_mem_drop (i := i) (by rw [h]; exact List.mem_cons_self))
    have e := rdOf_drop ByteArray.empty h
    by_cases hb : x.size ≤ a
    · have ew : wrap64 ((a : Int) - (x.size : Int)) = ((a - x.size : Nat) : Int) := by unfold wrap64; omega
      have hstep : ∀ k, laws_szStringS.l0 (k + 1) xs a i = laws_szStringS.l0 k xs ((a - x.size : Nat) : Int) ((i + 1 : Nat) : Int) := fun k => by
        rw [laws_szStringS.l0, if_pos (by omega), if_pos (by omega), e, ew, if_neg (by omega), wrap_succ i (by omega)]
      rcases szStringS_l0 xs hx hs l (i + 1) (a - x.size) (drop_tail h) (by omega) (by omega) with ⟨h1, h2⟩ | h2
      · left
        refine ⟨by simp only [sumS]; omega, Ev.step hstep ?_⟩
        have e3 : a - sumS (x :: l) = a - x.size - sumS l := by simp only [sumS]; omega
        rw [e3]; exact h2
      · right; exact Ev.step hstep h2
    · right
      refine Ev.step (fun k => ?_) (Ev.now _)
      rw [laws_szStringS.l0, if_pos (by omega), if_pos (by omega), e, if_pos (by unfold wrap64; omega)]

theorem szStringS_ev (xs : List ByteArray) (hx : xs.length ≤ 9223372036854775807) (hs : ∀ x ∈ xs, x.size ≤ 9223372036854775807) (a : Nat) (ha : a ≤ 1048576) :
    (xs.length + sumS xs ≤ a ∧ Ev (fun k => laws_szStringS.f k xs a) ((a - (xs.length + sumS xs) : Nat) : Int)) ∨ Ev (fun k => laws_szStringS.f k xs a) (-1) := by
  by_cases hb : xs.length ≤ a
  · have ew : wrap64 ((a : Int) - (xs.length : Int)) = ((a - xs.length : Nat) : Int) := by unfold wrap64; omega
    have hf : ∀ k, laws_szStringS.f k xs a = laws_szStringS.l0 k xs ((a - xs.length : Nat) : Int) ((0 : Nat) : Int) := fun k => by
      rw [laws_szStringS.f, ew, if_neg (by omega)]; rfl
    rcases szStringS_l0 xs hx hs xs 0 (a - xs.length) rfl (by omega) (by omega) with ⟨h1, h2⟩ | h2
    · left
      refine ⟨by omega, Ev.congr hf ?_⟩
      rw [show a - (xs.length + sumS xs) = a - xs.length - sumS xs by omega]; exact h2
    · right; exact Ev.congr hf h2
  · right
    refine Ev.congr (fun k => ?_) (Ev.now _)
    rw [laws_szStringS.f, if_pos (by unfold wrap64; omega)]

theorem toStringS_l0 (xs : List ByteArray) (hx : xs.length ≤ 1048576) :
    ∀ (l : List ByteArray) (i : Nat), xs.drop i = l → i ≤ xs.length →
      Ev (fun k => laws_toStringS.l0 k xs ((xs.take i).map id ++ List.replicate (xs.length - i) (⟨#[]⟩ : ByteArray)) i) (xs.map id)
  | [], i, h, hi => by
    have e := drop_end h hi
    subst e
    refine Ev.step (fun k => by rw [laws_toStringS.l0, if_neg (by omega)]) ?_
    rw [fill_end]; exact Ev.now _
  | x :: l, i, h, hi => by
    have hlt := drop_lt h
    refine Ev.step (fun k => ?_) (toStringS_l0 xs hx l (i + 1) (drop_tail h) (by omega))
    rw [laws_toStringS.l0, if_pos (by omega), if_pos (by omega), fill_len _ _ _ hi, if_pos (by omega), rdOf_drop _ h, Int.toNat_natCast, wrap_succ i (by omega)]
    rw [← fill_set xs id (⟨#[]⟩ : ByteArray) h]
    rfl

theorem toStringS_ev (xs : List ByteArray) (hx : xs.length ≤ 1048576) : Ev (fun k => laws_toStringS.f k xs) xs := by
  have h := toStringS_l0 xs hx xs 0 rfl (by omega)
  rw [List.map_id xs] at h
  refine Ev.congr (fun k => ?_) h
  rw [laws_toStringS.f, if_pos (by omega), Int.toNat_natCast, if_pos (by omega)]
  simp

theorem eqStringS_l0 (xs ys : List ByteArray) (hx : xs.length ≤ 9223372036854775807) (hl : xs.length = ys.length) :
    ∀ (l m : List ByteArray) (i : Nat), xs.drop i = l → ys.drop i = m → i ≤ xs.length → Ev (fun k => laws_eqStringS.l0 k xs ys i) (decide (l = m))
  | [], m, i, h, h2, hi => by
    have e := drop_end h hi
    have e2 : m = [] := by rw [← h2]; exact List.drop_of_length_le (by omega)
    subst e2
    exact Ev.step (fun k => by rw [laws_eqStringS.l0, if_neg (by omega)]) (by simpa using Ev.now true)
  | x :: l, [], i, h, h2, hi => by
    have hlt := drop_lt h
    have := drop_end h2 (by omega)
    omega
  | x :: l, y :: m, i, h, h2, hi => by
    have hlt := drop_lt h
    by_cases hxy : x = y
    · subst hxy
      have ih := eqStringS_l0 xs ys hx hl l m (i + 1) (drop_tail h) (drop_tail h2) (by omega)
      have e : decide (x :: l = x :: m) = decide (l = m) := by simp
      rw [e]
      refine Ev.step (fun k => ?_) ih
      rw [laws_eqStringS.l0, if_pos (by omega), if_pos (by omega), if_pos (by omega), rdOf_drop _ h, rdOf_drop _ h2, if_pos rfl, wrap_succ i (by omega)]
    · have e : decide (x :: l = y :: m) = false := by simp [hxy]
      rw [e]
      refine Ev.step (fun k => ?_) (Ev.now _)
      rw [laws_eqStringS.l0, if_pos (by omega), if_pos (by omega), if_pos (by omega), rdOf_drop _ h, rdOf_drop _ h2, if_neg (fun h => hxy (toList_inj.mp h))]

theorem eqStringS_ev (xs ys : List ByteArray) (hx : xs.length ≤ 9223372036854775807) (hy : ys.length ≤ 9223372036854775807) : Ev (fun k => laws_eqStringS.f k xs ys) (decide (xs = ys)) := by
  by_cases hl : xs.length = ys.length
  · refine Ev.congr (fun k => ?_) (eqStringS_l0 xs ys hx hl xs ys 0 rfl rfl (by omega))
    rw [laws_eqStringS.f, if_pos (by omega)]; rfl
  · have e : decide (xs = ys) = false := decide_eq_false (fun h => hl (by rw [h]))
    rw [e]
    refine Ev.congr (fun k => ?_) (Ev.now _)
    rw [laws_eqStringS.f, if_neg (by omega)]

theorem szBring_ev (st : Int) (f : ByteArray) (xs ys : List ByteArray) (hf : f.size ≤ 9223372036854775807) (hx : xs.length ≤ 9223372036854775807) (gx : ∀ x ∈ xs, x.size ≤ 9223372036854775807) (hy : ys.length ≤ 9223372036854775807) (gy : ∀ x ∈ ys, x.size ≤ 9223372036854775807) (a : Nat) (ha : a ≤ 1048576) :
    (f.size + xs.length + sumS xs + ys.length + sumS ys ≤ a ∧ Ev (fun k => laws_szBring.f k st f xs ys a) ((a - (f.size + xs.length + sumS xs + ys.length + sumS ys) : Nat) : Int)) ∨ Ev (fun k => laws_szBring.f k st f xs ys a) (-1) := by
  unfold laws_szBring.f
  by_cases h1 : f.size ≤ a
  · have e1 : wrap64 ((a : Int) - (f.size : Int)) = ((a - f.size : Nat) : Int) := by unfold wrap64; omega
    have q1 : ¬ (((a - f.size : Nat) : Int) < 0) := by omega
    simp only [e1, if_neg q1]
    rcases szStringS_ev xs hx gx (a - f.size) (by omega) with ⟨h3, e3⟩ | e3
    · have q3 : ¬ (((a - f.size - (xs.length + sumS xs) : Nat) : Int) < 0) := by omega
      rcases szStringS_ev ys hy gy (a - f.size - (xs.length + sumS xs)) (by omega) with ⟨h4, e4⟩ | e4
      · left
        refine ⟨by omega, Ev.bind e3 ?_⟩
        simp only [if_neg q3]
        have q4 : ¬ (((a - f.size - (xs.length + sumS xs) - (ys.length + sumS ys) : Nat) : Int) < 0) := by omega
        refine Ev.bind e4 ?_
        simp only [if_neg q4]
        rw [show a - (f.size + xs.length + sumS xs + ys.length + sumS ys) = a - f.size - (xs.length + sumS xs) - (ys.length + sumS ys) by omega]
        exact Ev.now _
      · right
        refine Ev.bind e3 ?_
        simp only [if_neg q3]
        refine Ev.bind e4 ?_
        simp only [if_pos (show (-1 : Int) < 0 by decide)]
        exact Ev.now _
    · right
      refine Ev.bind e3 ?_
      simp only [if_pos (show (-1 : Int) < 0 by decide)]
      exact Ev.now _
  · right
    have q : wrap64 ((a : Int) - (f.size : Int)) < 0 := by unfold wrap64; omega
    simp only [if_pos q]
    exact Ev.now _
theorem toBring_ev (st : Int) (f : ByteArray) (xs ys : List ByteArray) (hx : xs.length ≤ 1048576) (hy : ys.length ≤ 1048576) : Ev (fun k => laws_toBring.f k st f xs ys) (st, f, xs, ys) := by
  unfold laws_toBring.f
  exact Ev.bind (toStringS_ev xs hx) (Ev.bind (toStringS_ev ys hy) (Ev.now _))
theorem eqBring_ev (st : Int) (f : ByteArray) (xs ys : List ByteArray) (hx : xs.length ≤ 1048576) (hy : ys.length ≤ 1048576) : Ev (fun k => laws_eqBring.f k st f xs ys st f xs ys) true := by
  unfold laws_eqBring.f
  simp only [if_true]
  have ex : Ev (fun k => laws_eqStringS.f k xs xs) true := by have := eqStringS_ev xs xs (by omega) (by omega); simpa using this
  have ey : Ev (fun k => laws_eqStringS.f k ys ys) true := by have := eqStringS_ev ys ys (by omega) (by omega); simpa using this
  refine Ev.bind ex ?_
  simp only [if_true]
  refine Ev.bind ey ?_
  simp only [if_true]
  exact Ev.now _
/-- Is a text among these? -/
def hasB (x : ByteArray) : List ByteArray → Bool
  | [] => false
  | y :: l => if y.toList = x.toList then true else hasB x l
theorem spec_l19In_l0 (xs : List ByteArray) (x : ByteArray) (hx : xs.length ≤ 1048576) :
    ∀ (l : List ByteArray) (i : Nat), xs.drop i = l → i ≤ xs.length → Ev (fun k => spec_l19In.l0 k xs x (i : Int)) (hasB x l)
  | [], i, h, hi => by
    have e := drop_end h hi
    exact Ev.step (fun k => by rw [spec_l19In.l0, if_neg (by omega)]; rfl) (Ev.now _)
  | y :: l, i, h, hi => by
    have hlt := drop_lt h
    refine Ev.step (f := fun k => if y.toList = x.toList then some true else spec_l19In.l0 k xs x ((i + 1 : Nat) : Int)) (fun k => by
      rw [spec_l19In.l0, if_pos (by omega), if_pos (by omega), rdOf_drop _ h, wrap_succ i (by omega)]) ?_
    refine ev_ite (fun q => ?_) (fun q => ?_)
    · simp only [hasB, if_pos q]; exact Ev.now _
    · simp only [hasB, if_neg q]
      exact spec_l19In_l0 xs x hx l (i + 1) (drop_tail h) (by omega)
theorem spec_l19In_ev (xs : List ByteArray) (x : ByteArray) (hx : xs.length ≤ 1048576) : Ev (fun k => spec_l19In.f k xs x) (hasB x xs) := spec_l19In_l0 xs x hx xs 0 rfl (by omega)

def idxF (x : ByteArray) : List ByteArray → Nat → Int
  | [], _ => -1
  | y :: l, i => if x.toList = y.toList then (i : Int) else idxF x l (i + 1)
theorem idxF_has (x : ByteArray) : ∀ (l : List ByteArray) (i : Nat), decide (idxF x l i ≥ 0) = hasB x l
  | [], i => rfl
  | y :: l, i => by
    unfold idxF hasB
    by_cases h : x.toList = y.toList
    · rw [if_pos h, if_pos h.symm]; exact decide_eq_true (by omega)
    · rw [if_neg h, if_neg (fun e => h e.symm)]; exact idxF_has x l (i + 1)
theorem slices_Index_l0 (xs : List ByteArray) (x : ByteArray) (hx : xs.length ≤ 1048576) :
    ∀ (l : List ByteArray) (i : Nat), xs.drop i = l → i ≤ xs.length → Ev (fun k => slices_Index_string_string.l0 k xs x (xs.length : Int) (i : Int)) (idxF x l i)
  | [], i, h, hi => by
    have e := drop_end h hi
    exact Ev.step (fun k => by rw [slices_Index_string_string.l0, if_neg (by omega)]; rfl) (Ev.now _)
  | y :: l, i, h, hi => by
    have hlt := drop_lt h
    refine Ev.step (f := fun k => if x.toList = y.toList then some (i : Int) else slices_Index_string_string.l0 k xs x (xs.length : Int) ((i + 1 : Nat) : Int)) (fun k => by
      rw [slices_Index_string_string.l0, if_pos (by omega), if_pos (by omega), if_pos (by omega), rdOf_drop _ h, wrap_succ i (by omega)]) ?_
    refine ev_ite (fun q => ?_) (fun q => ?_)
    · simp only [idxF, if_pos q]; exact Ev.now _
    · simp only [idxF, if_neg q]
      exact slices_Index_l0 xs x hx l (i + 1) (drop_tail h) (by omega)
theorem slices_Contains_ev (xs : List ByteArray) (x : ByteArray) (hx : xs.length ≤ 1048576) : Ev (fun k => slices_Contains_string_string.f k xs x) (hasB x xs) := by
  unfold slices_Contains_string_string.f
  rw [← idxF_has x xs 0]
  exact Ev.bind (slices_Index_l0 xs x hx xs 0 rfl (by omega)) (Ev.now _)

theorem spec_in (a b c : Int) : spec_l01In.f a b c = some (decide (b ≤ a ∧ a ≤ c)) := by
  unfold spec_l01In.f
  by_cases h : a ≥ b
  · rw [if_pos h]; have : b ≤ a := h; simp [this]
  · rw [if_neg h]; have : ¬ b ≤ a := h; simp [this]

theorem impl_in_eq (a b c : Int) : impl_in.f a b c = some (decide (b ≤ a ∧ a ≤ c)) := by
  unfold impl_in.f
  by_cases h : a ≥ b
  · rw [if_pos h]; have : b ≤ a := h; simp [this]
  · rw [if_neg h]; have : ¬ b ≤ a := h; simp [this]


def letters : List UInt8 → Bool
  | [] => true
  | c :: l => if (c.toNat : Int) < 97 then false else if (c.toNat : Int) > 122 then false else letters l
def wordOk (s : ByteArray) : Bool := letters s.data.toList && decide (1 ≤ (s.size : Int) ∧ (s.size : Int) ≤ 8)

theorem spec_WordOk_l0 (s : ByteArray) (hs : s.size ≤ 9223372036854775807) :
    ∀ (l : List UInt8) (i : Nat), s.data.toList.drop i = l → i ≤ s.size → Ev (fun k => spec_WordOk.l0 k s i) (letters l && decide (1 ≤ (s.size : Int) ∧ (s.size : Int) ≤ 8))
  | [], i, h, hi => by
    have e := drop_end h (by rw [size_data]; exact hi)
    rw [size_data] at e
    exact Ev.step (fun k => by rw [spec_WordOk.l0, if_neg (by omega), spec_in]; rfl) (Ev.now _)
  | c :: l, i, h, hi => by
    have hlt := drop_lt h
    rw [size_data] at hlt
    have hb := bt_cons h
    by_cases h1 : (c.toNat : Int) < 97
    · exact Ev.step (fun k => by rw [spec_WordOk.l0, if_pos (by omega), if_pos (by omega), hb, if_pos h1]; simp only [letters, if_pos h1, Bool.false_and]) (Ev.now _)
    · by_cases h2 : (c.toNat : Int) > 122
      · exact Ev.step (fun k => by rw [spec_WordOk.l0, if_pos (by omega), if_pos (by omega), hb, if_neg h1, if_pos h2]; simp only [letters, if_neg h1, if_pos h2, Bool.false_and]) (Ev.now _)
      · have ih := spec_WordOk_l0 s hs l (i + 1) (drop_tail h) (by omega)
        have e : letters (c :: l) = letters l := by simp only [letters, if_neg h1, if_neg h2]
        rw [e]
        exact Ev.step (fun k => by rw [spec_WordOk.l0, if_pos (by omega), if_pos (by omega), hb, if_neg h1, if_neg h2, wrap_succ i (by omega)]) ih

theorem spec_WordOk_ev (s : ByteArray) (hs : s.size ≤ 9223372036854775807) : Ev (fun k => spec_WordOk.f k s) (wordOk s) :=
  Ev.congr (fun k => rfl) (spec_WordOk_l0 s hs _ 0 rfl (by omega))

theorem impl_WordOk_l0 (s : ByteArray) (hs : s.size ≤ 9223372036854775807) :
    ∀ (l : List UInt8) (i : Nat), s.data.toList.drop i = l → i ≤ s.size → Ev (fun k => impl_WordOk.l0 k s (s.size : Int) i) (letters l)
  | [], i, h, hi => by
    have e := drop_end h (by rw [size_data]; exact hi)
    rw [size_data] at e
    exact Ev.step (fun k => by rw [impl_WordOk.l0, if_neg (by omega)]; rfl) (Ev.now _)
  | c :: l, i, h, hi => by
    have hlt := drop_lt h
    rw [size_data] at hlt
    have hb := bt_cons h
    by_cases h1 : (c.toNat : Int) < 97
    · exact Ev.step (fun k => by rw [impl_WordOk.l0, if_pos (by omega), if_pos (by omega), if_pos (by omega), hb, if_pos h1]; simp only [letters, if_pos h1]) (Ev.now _)
    · by_cases h2 : (c.toNat : Int) > 122
      · exact Ev.step (fun k => by rw [impl_WordOk.l0, if_pos (by omega), if_pos (by omega), if_pos (by omega), hb, if_neg h1, if_pos h2]; simp only [letters, if_neg h1, if_pos h2]) (Ev.now _)
      · have ih := impl_WordOk_l0 s hs l (i + 1) (drop_tail h) (by omega)
        have e : letters (c :: l) = letters l := by simp only [letters, if_neg h1, if_neg h2]
        rw [e]
        exact Ev.step (fun k => by rw [impl_WordOk.l0, if_pos (by omega), if_pos (by omega), if_pos (by omega), hb, if_neg h1, if_neg h2, wrap_succ i (by omega)]) ih

theorem impl_WordOk_ev (s : ByteArray) (hs : s.size ≤ 9223372036854775807) : Ev (fun k => impl_WordOk.f k s) (wordOk s) := by
  unfold impl_WordOk.f
  simp only [impl_in_eq, Option.bind_some]
  by_cases h : 1 ≤ (s.size : Int) ∧ (s.size : Int) ≤ 8
  · simp only [h, and_self, decide_true, if_true, wordOk, Bool.and_true]
    exact impl_WordOk_l0 s hs _ 0 rfl (by omega)
  · simp only [wordOk, h, decide_false, Bool.and_false]
    exact Ev.now _

def word0 (s : ByteArray) : Bool := if s.toList = ([] : List UInt8) then true else wordOk s
theorem spec_l19Text_ev (s : ByteArray) (hs : s.size ≤ 9223372036854775807) : Ev (fun k => spec_l19Text.f k s) (word0 s) := by
  unfold spec_l19Text.f word0
  by_cases h : s.toList = ([] : List UInt8)
  · simp only [if_pos h]; exact Ev.now _
  · simp only [if_neg h]
    exact Ev.bind (spec_WordOk_ev s hs) (Ev.now _)

def tooLong : List ByteArray → Bool
  | [] => false
  | y :: l => if (y.size : Int) > 80 then true else tooLong l
def usersF (xs : List ByteArray) : List ByteArray → Nat → Bool
  | [], _ => true
  | y :: l, i => if wordOk y = true then (if hasB y (xs.take i) = true then false else usersF xs l (i + 1)) else false
def longIdx : List ByteArray → Nat → Int
  | [], _ => -1
  | y :: l, i => if decide ((y.size : Int) > 80) = true then (i : Int) else longIdx l (i + 1)
theorem longIdx_has : ∀ (l : List ByteArray) (i : Nat), decide (longIdx l i ≥ 0) = tooLong l
  | [], i => rfl
  | y :: l, i => by
    unfold longIdx tooLong
    by_cases h : (y.size : Int) > 80
    · rw [if_pos (decide_eq_true h), if_pos h]; exact decide_eq_true (by omega)
    · rw [if_neg (by rw [decide_eq_false h]; decide), if_neg h]; exact longIdx_has l (i + 1)
theorem slices_IndexFunc_l0 (xs : List ByteArray) (hx : xs.length ≤ 1048576) :
    ∀ (l : List ByteArray) (i : Nat), xs.drop i = l → i ≤ xs.length → Ev (fun k => slices_IndexFunc_string_string.l0 k xs (xs.length : Int) (i : Int)) (longIdx l i)
  | [], i, h, hi => by
    have e := drop_end h hi
    exact Ev.step (fun k => by rw [slices_IndexFunc_string_string.l0, if_neg (by omega)]; rfl) (Ev.now _)
  | y :: l, i, h, hi => by
    have hlt := drop_lt h
    refine Ev.step (f := fun k => if decide ((y.size : Int) > 80) = true then some (i : Int) else slices_IndexFunc_string_string.l0 k xs (xs.length : Int) ((i + 1 : Nat) : Int)) (fun k => by
      rw [slices_IndexFunc_string_string.l0, if_pos (by omega), if_pos (by omega), if_pos (by omega), rdOf_drop _ h, wrap_succ i (by omega)]; rfl) ?_
    refine ev_ite (fun q => ?_) (fun q => ?_)
    · simp only [longIdx, if_pos q]; exact Ev.now _
    · simp only [longIdx, if_neg q]
      exact slices_IndexFunc_l0 xs hx l (i + 1) (drop_tail h) (by omega)
theorem slices_ContainsFunc_ev (xs : List ByteArray) (hx : xs.length ≤ 1048576) : Ev (fun k => slices_ContainsFunc_string_string.f k xs) (tooLong xs) := by
  unfold slices_ContainsFunc_string_string.f
  rw [← longIdx_has xs 0]
  exact Ev.bind (slices_IndexFunc_l0 xs hx xs 0 rfl (by omega)) (Ev.now _)
theorem spec_BringOk_l1 (st : Int) (f : ByteArray) (xs ys : List ByteArray) (hy : ys.length ≤ 1048576) :
    ∀ (l : List ByteArray) (i : Nat), ys.drop i = l → i ≤ ys.length → Ev (fun k => spec_BringOk.l1 k (i : Int) st f xs ys) (!tooLong l)
  | [], i, h, hi => by
    have e := drop_end h hi
    exact Ev.step (fun k => by rw [spec_BringOk.l1, if_neg (by omega)]; rfl) (Ev.now _)
  | y :: l, i, h, hi => by
    have hlt := drop_lt h
    refine Ev.step (f := fun k => if (y.size : Int) > 80 then some false else spec_BringOk.l1 k ((i + 1 : Nat) : Int) st f xs ys) (fun k => by
      rw [spec_BringOk.l1, if_pos (by omega), if_pos (by omega), rdOf_drop _ h, wrap_succ i (by omega)]) ?_
    refine ev_ite (fun q => ?_) (fun q => ?_)
    · simp only [tooLong, if_pos q]; exact Ev.now _
    · simp only [tooLong, if_neg q]
      exact spec_BringOk_l1 st f xs ys hy l (i + 1) (drop_tail h) (by omega)
theorem take_le (xs : List ByteArray) (i : Nat) (hx : xs.length ≤ 1048576) : (xs.take i).length ≤ 1048576 := by rw [List.length_take]; omega
theorem spec_BringOk_l0 (st : Int) (f : ByteArray) (xs ys : List ByteArray) (hx : xs.length ≤ 1048576) (gx : ∀ x ∈ xs, x.size ≤ 9223372036854775807) (hy : ys.length ≤ 1048576) :
    ∀ (l : List ByteArray) (i : Nat), xs.drop i = l → i ≤ xs.length → Ev (fun k => spec_BringOk.l0 k (i : Int) st f xs ys) (usersF xs l i && !tooLong ys)
  | [], i, h, hi => by
    have e := drop_end h hi
    exact Ev.step (fun k => by rw [spec_BringOk.l0, if_neg (by omega)]; rfl) (spec_BringOk_l1 st f xs ys hy ys 0 rfl (by omega))
  | y :: l, i, h, hi => by
    have hlt := drop_lt h
    have hz := gx y (List.mem_of_mem_drop (i := i) (by rw [h]; exact List.mem_cons_self))
    refine Ev.step (f := fun k => (spec_WordOk.f k y).bind fun t => if t = true then ((spec_l19In.f k (xs.take i) y).bind fun t2 => if t2 = true then some false else spec_BringOk.l0 k ((i + 1 : Nat) : Int) st f xs ys) else some false) (fun k => by
      rw [spec_BringOk.l0, if_pos (by omega), if_pos (by omega), rdOf_drop _ h, wrap_succ i (by omega), if_pos (by omega), Int.toNat_natCast]) ?_
    refine Ev.bind (spec_WordOk_ev y hz) (ev_ite (fun q => ?_) (fun q => ?_))
    · refine Ev.bind (spec_l19In_ev _ y (take_le xs i hx)) (ev_ite (fun q2 => ?_) (fun q2 => ?_))
      · simp only [usersF, if_pos q, if_pos q2]; exact Ev.now _
      · simp only [usersF, if_pos q, if_neg q2]
        exact spec_BringOk_l0 st f xs ys hx gx hy l (i + 1) (drop_tail h) (by omega)
    · simp only [usersF, if_neg q]; exact Ev.now _
theorem impl_BringOk_l0 (st : Int) (f : ByteArray) (xs ys : List ByteArray) (hx : xs.length ≤ 1048576) (gx : ∀ x ∈ xs, x.size ≤ 9223372036854775807) (hy : ys.length ≤ 1048576) :
    ∀ (l : List ByteArray) (i : Nat), xs.drop i = l → i ≤ xs.length → Ev (fun k => impl_BringOk.l0 k xs (xs.length : Int) (i : Int) st f xs ys) (usersF xs l i && !tooLong ys)
  | [], i, h, hi => by
    have e := drop_end h hi
    refine Ev.step (fun k => by rw [impl_BringOk.l0, if_neg (by omega)]) ?_
    simp only [usersF, Bool.true_and]
    exact Ev.bind (slices_ContainsFunc_ev ys hy) (Ev.now _)
  | y :: l, i, h, hi => by
    have hlt := drop_lt h
    have hz := gx y (List.mem_of_mem_drop (i := i) (by rw [h]; exact List.mem_cons_self))
    refine Ev.step (f := fun k => (impl_WordOk.f k y).bind fun t => if t = true then ((slices_Contains_string_string.f k (xs.take i) y).bind fun t2 => if t2 = true then some false else impl_BringOk.l0 k xs (xs.length : Int) ((i + 1 : Nat) : Int) st f xs ys) else some false) (fun k => by
      rw [impl_BringOk.l0, if_pos (by omega), if_pos (by omega), if_pos (by omega), rdOf_drop _ h, wrap_succ i (by omega), if_pos (by omega), Int.toNat_natCast]) ?_
    refine Ev.bind (impl_WordOk_ev y hz) (ev_ite (fun q => ?_) (fun q => ?_))
    · refine Ev.bind (slices_Contains_ev _ y (take_le xs i hx)) (ev_ite (fun q2 => ?_) (fun q2 => ?_))
      · simp only [usersF, if_pos q, if_pos q2]; exact Ev.now _
      · simp only [usersF, if_pos q, if_neg q2]
        exact impl_BringOk_l0 st f xs ys hx gx hy l (i + 1) (drop_tail h) (by omega)
    · simp only [usersF, if_neg q]; exact Ev.now _
def bringOk (st : Int) (f : ByteArray) (xs ys : List ByteArray) : Bool :=
  decide (0 ≤ st ∧ st ≤ 4) && (word0 f && (!decide ((xs.length : Int) > 3) && (!decide ((ys.length : Int) > 101) && (usersF xs xs 0 && !tooLong ys))))
theorem spec_BringOk_j0 (st : Int) (f : ByteArray) (xs ys : List ByteArray) (hx : xs.length ≤ 1048576) (gx : ∀ x ∈ xs, x.size ≤ 9223372036854775807) (hy : ys.length ≤ 1048576) (c r : Bool) (hc : r = (!c && (usersF xs xs 0 && !tooLong ys))) : Ev (fun k => spec_BringOk.j0 k c st f xs ys) r := by
  subst hc
  cases c with
  | true => exact Ev.step (fun k => by rw [spec_BringOk.j0, if_pos rfl]; rfl) (Ev.now _)
  | false => exact Ev.step (fun k => by rw [spec_BringOk.j0, if_neg (by decide)]; rfl) (spec_BringOk_l0 st f xs ys hx gx hy xs 0 rfl (by omega))
theorem impl_BringOk_j0 (st : Int) (f : ByteArray) (xs ys : List ByteArray) (hx : xs.length ≤ 1048576) (gx : ∀ x ∈ xs, x.size ≤ 9223372036854775807) (hy : ys.length ≤ 1048576) (c r : Bool) (hc : r = (!c && (usersF xs xs 0 && !tooLong ys))) : Ev (fun k => impl_BringOk.j0 k c st f xs ys) r := by
  subst hc
  cases c with
  | true => exact Ev.step (fun k => by rw [impl_BringOk.j0, if_pos rfl]; rfl) (Ev.now _)
  | false => exact Ev.step (fun k => by rw [impl_BringOk.j0, if_neg (by decide)]; rfl) (impl_BringOk_l0 st f xs ys hx gx hy xs 0 rfl (by omega))
theorem spec_BringOk_ev (st : Int) (f : ByteArray) (xs ys : List ByteArray) (hf : f.size ≤ 9223372036854775807) (hx : xs.length ≤ 1048576) (gx : ∀ x ∈ xs, x.size ≤ 9223372036854775807) (hy : ys.length ≤ 1048576) : Ev (fun k => spec_BringOk.f k st f xs ys) (bringOk st f xs ys) := by
  unfold spec_BringOk.f
  have J := spec_BringOk_j0 st f xs ys hx gx hy
  simp only [spec_in, Option.bind_some]
  refine ev_ite (fun h1 => ?_) (fun h1 => J _ _ (by simp [bringOk, h1]))
  refine Ev.bind (spec_l19Text_ev f hf) (ev_ite (fun h2 => ?_) (fun h2 => J _ _ (by simp [bringOk, h1, h2])))
  refine ev_ite (fun h3 => J _ _ (by simp [bringOk, h1, h2, h3])) (fun h3 => J _ _ ?_)
  rw [bringOk, h1, h2, decide_eq_false h3]
  simp
theorem impl_BringOk_ev (st : Int) (f : ByteArray) (xs ys : List ByteArray) (hf : f.size ≤ 9223372036854775807) (hx : xs.length ≤ 1048576) (gx : ∀ x ∈ xs, x.size ≤ 9223372036854775807) (hy : ys.length ≤ 1048576) : Ev (fun k => impl_BringOk.f k st f xs ys) (bringOk st f xs ys) := by
  unfold impl_BringOk.f
  have J := impl_BringOk_j0 st f xs ys hx gx hy
  simp only [impl_in_eq, Option.bind_some]
  refine ev_ite (fun h1 => ?_) (fun h1 => J _ _ (by simp [bringOk, h1]))
  refine ev_ite (fun h2 => ?_) (fun h2 => ?_)
  · have h2' : word0 f = true := by simp only [word0, if_pos h2]
    refine ev_ite (fun h3 => J _ _ (by simp [bringOk, h3])) (fun h3 => J _ _ ?_)
    rw [bringOk, h1, h2', decide_eq_false h3]
    simp
  · have h2' : word0 f = wordOk f := by simp only [word0, if_neg h2]
    refine Ev.bind (impl_WordOk_ev f hf) (ev_ite (fun h4 => ?_) (fun h4 => J _ _ (by simp [bringOk, h2', h4])))
    refine ev_ite (fun h3 => J _ _ (by simp [bringOk, h3])) (fun h3 => J _ _ ?_)
    rw [bringOk, h1, h2', h4, decide_eq_false h3]
    simp

theorem FnExactBringOk : laws_FnExactBringOk.Pure := by
  intro x0 ⟨h0, h1, ⟨h2, h3⟩, h4, h5⟩
  refine Ev.rounds (g := fun k => laws_FnExactBringOk.f k x0.f0 x0.f1 x0.f2 x0.f3) ?_
  unfold laws_FnExactBringOk.f
  rcases szBring_ev x0.f0 x0.f1 x0.f2 x0.f3 h1 h2 h3 h4 h5 1048576 (by omega) with ⟨hs, hz⟩ | hz
  · have h9 : ¬ (((1048576 - (x0.f1.size + x0.f2.length + sumS x0.f2 + x0.f3.length + sumS x0.f3) : Nat) : Int) < 0) := by omega
    refine Ev.bind hz ?_
    simp only [if_neg h9]
    have ht := toBring_ev x0.f0 x0.f1 x0.f2 x0.f3 (by omega) (by omega)
    refine Ev.bind ht ?_
    refine Ev.bind (spec_BringOk_ev x0.f0 x0.f1 x0.f2 x0.f3 h1 (by omega) h3 (by omega)) ?_
    refine Ev.bind ht ?_
    refine Ev.bind (impl_BringOk_ev x0.f0 x0.f1 x0.f2 x0.f3 h1 (by omega) h3 (by omega)) ?_
    simp only [bne_self_eq_false, if_neg (show ¬ (false = true) by decide)]
    refine Ev.bind ht ?_
    refine Ev.bind (eqBring_ev x0.f0 x0.f1 x0.f2 x0.f3 (by omega) (by omega)) ?_
    simp only [if_true]
    exact Ev.now _
  · refine Ev.bind hz ?_
    simp only [if_pos (show (-1 : Int) < 0 by decide)]
    exact Ev.now _

end Go.Proofs.Yteblgnkfdkoapaa.Pure
