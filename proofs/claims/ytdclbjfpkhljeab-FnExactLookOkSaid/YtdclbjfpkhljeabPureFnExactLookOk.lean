/- The program's LookOk answers what the reference's answers. Conditions: none beyond the statement's own. -/
import Derived.Test.YtdclbjfpkhljeabQFnExactLookOkPure0
import Derived.Test.YtdclbjfpkhljeabBase
namespace Go.Proofs.Ytdclbjfpkhljeab.Pure
open Go.RowKit Go.Proofs.Ytdclbjfpkhljeab.QFnExactLookOk Go.Proofs.YtdclbjfpkhljeabW.PrintWords Go.Proofs.YtdclbjfpkhljeabW.PrintLast Go.Proofs.YtdclbjfpkhljeabB Go.Proofs.YtdclbjfpkhljeabO
set_option linter.unusedVariables false
set_option linter.unusedSimpArgs false

theorem szIntS_eq (xs : List Int) (hx : xs.length ≤ 9223372036854775807) (a : Nat) (ha : a ≤ 1048576) :
    (xs.length ≤ a ∧ laws_szIntS.f xs a = some ((a - xs.length : Nat) : Int)) ∨ laws_szIntS.f xs a = some (-1) := by
  unfold laws_szIntS.f
  by_cases h : xs.length ≤ a
  · left
    have ew : wrap64 ((a : Int) - (xs.length : Int)) = ((a - xs.length : Nat) : Int) := by unfold wrap64; omega
    exact ⟨h, by rw [ew, if_neg (by omega)]⟩
  · right
    rw [if_pos (by unfold wrap64; omega)]
theorem toIntS_l0 (xs : List Int) (hx : xs.length ≤ 1048576) :
    ∀ (l : List Int) (i : Nat), xs.drop i = l → i ≤ xs.length → Ev (fun k => laws_toIntS.l0 k xs ((xs.take i).map id ++ List.replicate (xs.length - i) 0) i) (xs.map id)
  | [], i, h, hi => by
    have e := drop_end h hi
    subst e
    refine Ev.step (fun k => by rw [laws_toIntS.l0, if_neg (by omega)]) ?_
    rw [fill_end]; exact Ev.now _
  | x :: l, i, h, hi => by
    have hlt := drop_lt h
    refine Ev.step (fun k => ?_) (toIntS_l0 xs hx l (i + 1) (drop_tail h) (by omega))
    rw [laws_toIntS.l0, if_pos (by omega), if_pos (by omega), fill_len _ _ _ hi, if_pos (by omega), rd_drop h, Int.toNat_natCast, wrap_succ i (by omega)]
    rw [← fill_set xs id 0 h]
    rfl
theorem toIntS_ev (xs : List Int) (hx : xs.length ≤ 1048576) : Ev (fun k => laws_toIntS.f k xs) xs := by
  have h := toIntS_l0 xs hx xs 0 rfl (by omega)
  rw [List.map_id xs] at h
  refine Ev.congr (fun k => ?_) h
  rw [laws_toIntS.f, if_pos (by omega), Int.toNat_natCast, if_pos (by omega)]
  simp
theorem eqIntS_l0 (xs ys : List Int) (hx : xs.length ≤ 9223372036854775807) (hl : xs.length = ys.length) :
    ∀ (l m : List Int) (i : Nat), xs.drop i = l → ys.drop i = m → i ≤ xs.length → Ev (fun k => laws_eqIntS.l0 k xs ys i) (decide (l = m))
  | [], m, i, h, h2, hi => by
    have e := drop_end h hi
    have e2 : m = [] := by rw [← h2]; exact List.drop_of_length_le (by omega)
    subst e2
    exact Ev.step (fun k => by rw [laws_eqIntS.l0, if_neg (by omega)]) (by simpa using Ev.now true)
  | x :: l, [], i, h, h2, hi => by
    have hlt := drop_lt h
    have := drop_end h2 (by omega)
    omega
  | x :: l, y :: m, i, h, h2, hi => by
    have hlt := drop_lt h
    by_cases hxy : x = y
    · subst hxy
      have ih := eqIntS_l0 xs ys hx hl l m (i + 1) (drop_tail h) (drop_tail h2) (by omega)
      have e : decide (x :: l = x :: m) = decide (l = m) := by simp
      rw [e]
      refine Ev.step (fun k => ?_) ih
      rw [laws_eqIntS.l0, if_pos (by omega), if_pos (by omega), if_pos (by omega), rd_drop h, rd_drop h2, if_pos rfl, wrap_succ i (by omega)]
    · have e : decide (x :: l = y :: m) = false := by simp [hxy]
      rw [e]
      refine Ev.step (fun k => ?_) (Ev.now _)
      rw [laws_eqIntS.l0, if_pos (by omega), if_pos (by omega), if_pos (by omega), rd_drop h, rd_drop h2, if_neg hxy]
theorem eqIntS_ev (xs ys : List Int) (hx : xs.length ≤ 9223372036854775807) (hy : ys.length ≤ 9223372036854775807) : Ev (fun k => laws_eqIntS.f k xs ys) (decide (xs = ys)) := by
  by_cases hl : xs.length = ys.length
  · refine Ev.congr (fun k => ?_) (eqIntS_l0 xs ys hx hl xs ys 0 rfl rfl (by omega))
    rw [laws_eqIntS.f, if_pos (by omega)]; rfl
  · have e : decide (xs = ys) = false := decide_eq_false (fun h => hl (by rw [h]))
    rw [e]
    refine Ev.congr (fun k => ?_) (Ev.now _)
    rw [laws_eqIntS.f, if_neg (by omega)]

theorem szLook_eq (st : Int) (u b : ByteArray) (v : Int) (xs : List Int) (hu : u.size ≤ 9223372036854775807) (hb : b.size ≤ 9223372036854775807) (hx : xs.length ≤ 9223372036854775807) (a : Nat) (ha : a ≤ 1048576) :
    (u.size + b.size + xs.length ≤ a ∧ laws_szLook.f st u b v xs a = some ((a - (u.size + b.size + xs.length) : Nat) : Int)) ∨ laws_szLook.f st u b v xs a = some (-1) := by
  unfold laws_szLook.f
  by_cases h1 : u.size ≤ a
  · have e1 : wrap64 ((a : Int) - (u.size : Int)) = ((a - u.size : Nat) : Int) := by unfold wrap64; omega
    rw [e1, if_neg (by omega)]
    by_cases h2 : b.size ≤ a - u.size
    · have e2 : wrap64 (((a - u.size : Nat) : Int) - (b.size : Int)) = ((a - u.size - b.size : Nat) : Int) := by unfold wrap64; omega
      rw [e2, if_neg (by omega)]
      rcases szIntS_eq xs hx (a - u.size - b.size) (by omega) with ⟨h3, e3⟩ | e3
      · left
        refine ⟨by omega, ?_⟩
        rw [e3, Option.bind_some, if_neg (by omega), show a - (u.size + b.size + xs.length) = a - u.size - b.size - xs.length by omega]
      · right; rw [e3]; rfl
    · right; rw [if_pos (by unfold wrap64; omega)]
  · right; rw [if_pos (by unfold wrap64; omega)]
theorem toLook_ev (st : Int) (u b : ByteArray) (v : Int) (xs : List Int) (hx : xs.length ≤ 1048576) : Ev (fun k => laws_toLook.f k st u b v xs) (st, u, b, v, xs) := by
  unfold laws_toLook.f
  exact Ev.bind (toIntS_ev xs hx) (Ev.now _)
theorem eqLook_ev (st : Int) (u b : ByteArray) (v : Int) (xs : List Int) (hx : xs.length ≤ 1048576) : Ev (fun k => laws_eqLook.f k st u b v xs st u b v xs) true := by
  unfold laws_eqLook.f
  simp only [if_true]
  refine Ev.bind (eqIntS_ev xs xs (by omega) (by omega)) ?_
  simp only [decide_true, if_true]
  exact Ev.now _

theorem spec_in (a b c : Int) : spec_l01In.f a b c = some (decide (b ≤ a ∧ a ≤ c)) := by
  unfold spec_l01In.f
  by_cases h : a ≥ b
  · rw [if_pos h]; have : b ≤ a := h; simp [this]
  · rw [if_neg h]; have : ¬ b ≤ a := h; simp [this]
theorem impl_in_eq (a b c : Int) : impl_in.f a b c = some (decide (b ≤ a ∧ a ≤ c)) := by
  unfold impl_in.f
  by_cases h : a ≥ b
  · rw [if_pos h]; have : b ≤ a := h; simp [this]
  · rw [if_neg h]; have : ¬ b ≤ a := h; simp [this]

def letters : List UInt8 → Bool
  | [] => true
  | c :: l => if (c.toNat : Int) < 97 then false else if (c.toNat : Int) > 122 then false else letters l
def wordOk (s : ByteArray) : Bool := letters s.data.toList && decide (1 ≤ (s.size : Int) ∧ (s.size : Int) ≤ 8)

theorem spec_WordOk_l0 (s : ByteArray) (hs : s.size ≤ 9223372036854775807) :
    ∀ (l : List UInt8) (i : Nat), s.data.toList.drop i = l → i ≤ s.size → Ev (fun k => spec_WordOk.l0 k s i) (letters l && decide (1 ≤ (s.size : Int) ∧ (s.size : Int) ≤ 8))
  | [], i, h, hi => by
    have e := drop_end h (by rw [size_data]; exact hi)
    rw [size_data] at e
    exact Ev.step (fun k => by rw [spec_WordOk.l0, if_neg (by omega), spec_in]; rfl) (Ev.now _)
  | c :: l, i, h, hi => by
    have hlt := drop_lt h
    rw [size_data] at hlt
    have hb := bt_cons h
    by_cases h1 : (c.toNat : Int) < 97
    · exact Ev.step (fun k => by rw [spec_WordOk.l0, if_pos (by omega), if_pos (by omega), hb, if_pos h1]; simp only [letters, if_pos h1, Bool.false_and]) (Ev.now _)
    · by_cases h2 : (c.toNat : Int) > 122
      · exact Ev.step (fun k => by rw [spec_WordOk.l0, if_pos (by omega), if_pos (by omega), hb, if_neg h1, if_pos h2]; simp only [letters, if_neg h1, if_pos h2, Bool.false_and]) (Ev.now _)
      · have ih := spec_WordOk_l0 s hs l (i + 1) (drop_tail h) (by omega)
        have e : letters (c :: l) = letters l := by simp only [letters, if_neg h1, if_neg h2]
        rw [e]
        exact Ev.step (fun k => by rw [spec_WordOk.l0, if_pos (by omega), if_pos (by omega), hb, if_neg h1, if_neg h2, wrap_succ i (by omega)]) ih

theorem spec_WordOk_ev (s : ByteArray) (hs : s.size ≤ 9223372036854775807) : Ev (fun k => spec_WordOk.f k s) (wordOk s) :=
  Ev.congr (fun k => rfl) (spec_WordOk_l0 s hs _ 0 rfl (by omega))

theorem impl_WordOk_l0 (s : ByteArray) (hs : s.size ≤ 9223372036854775807) :
    ∀ (l : List UInt8) (i : Nat), s.data.toList.drop i = l → i ≤ s.size → Ev (fun k => impl_WordOk.l0 k s (s.size : Int) i) (letters l)
  | [], i, h, hi => by
    have e := drop_end h (by rw [size_data]; exact hi)
    rw [size_data] at e
    exact Ev.step (fun k => by rw [impl_WordOk.l0, if_neg (by omega)]; rfl) (Ev.now _)
  | c :: l, i, h, hi => by
    have hlt := drop_lt h
    rw [size_data] at hlt
    have hb := bt_cons h
    by_cases h1 : (c.toNat : Int) < 97
    · exact Ev.step (fun k => by rw [impl_WordOk.l0, if_pos (by omega), if_pos (by omega), if_pos (by omega), hb, if_pos h1]; simp only [letters, if_pos h1]) (Ev.now _)
    · by_cases h2 : (c.toNat : Int) > 122
      · exact Ev.step (fun k => by rw [impl_WordOk.l0, if_pos (by omega), if_pos (by omega), if_pos (by omega), hb, if_neg h1, if_pos h2]; simp only [letters, if_neg h1, if_pos h2]) (Ev.now _)
      · have ih := impl_WordOk_l0 s hs l (i + 1) (drop_tail h) (by omega)
        have e : letters (c :: l) = letters l := by simp only [letters, if_neg h1, if_neg h2]
        rw [e]
        exact Ev.step (fun k => by rw [impl_WordOk.l0, if_pos (by omega), if_pos (by omega), if_pos (by omega), hb, if_neg h1, if_neg h2, wrap_succ i (by omega)]) ih

theorem impl_WordOk_ev (s : ByteArray) (hs : s.size ≤ 9223372036854775807) : Ev (fun k => impl_WordOk.f k s) (wordOk s) := by
  unfold impl_WordOk.f
  simp only [impl_in_eq, Option.bind_some]
  by_cases h : 1 ≤ (s.size : Int) ∧ (s.size : Int) ≤ 8
  · simp only [h, and_self, decide_true, if_true, wordOk, Bool.and_true]
    exact impl_WordOk_l0 s hs _ 0 rfl (by omega)
  · simp only [wordOk, h, decide_false, Bool.and_false]
    exact Ev.now _

def word0 (s : ByteArray) : Bool := if s.toList = ([] : List UInt8) then true else wordOk s
def rising : List Int → Bool
  | x :: y :: l => if x ≥ y then false else rising (y :: l)
  | _ => true
def lookOk (st : Int) (u b : ByteArray) (v : Int) (xs : List Int) : Bool :=
  decide (0 ≤ st ∧ st ≤ 2) && (word0 u && (word0 b && (decide (0 ≤ v ∧ v ≤ 9999) && (!decide ((xs.length : Int) > 8) && rising xs))))

theorem spec_l19Text_ev (s : ByteArray) (hs : s.size ≤ 9223372036854775807) : Ev (fun k => spec_l19Text.f k s) (word0 s) := by
  unfold spec_l19Text.f word0
  by_cases h : s.toList = ([] : List UInt8)
  · simp only [if_pos h]; exact Ev.now _
  · simp only [if_neg h]
    exact Ev.bind (spec_WordOk_ev s hs) (Ev.now _)

theorem spec_LookOk_l0 (st : Int) (u b : ByteArray) (v : Int) (xs : List Int) (hx : xs.length ≤ 1048576) :
    ∀ (l : List Int) (x : Int) (i : Nat), xs.drop i = x :: l → Ev (fun k => spec_LookOk.l0 k ((i + 1 : Nat) : Int) st u b v xs) (rising (x :: l))
  | [], x, i, h => by
    have hlt := drop_lt h
    have e := drop_end (drop_tail h) (by omega)
    exact Ev.step (fun k => by rw [spec_LookOk.l0, if_neg (by omega)]; rfl) (Ev.now _)
  | y :: l, x, i, h => by
    have h2 := drop_tail h
    have hlt := drop_lt h2
    have ew : wrap64 (((i + 1 : Nat) : Int) - 1) = (i : Int) := by unfold wrap64; omega
    by_cases hxy : x ≥ y
    · refine Ev.step (fun k => ?_) (Ev.now _)
      rw [spec_LookOk.l0, if_pos (by omega), ew, if_pos (by omega), if_pos (by omega), if_pos (by omega), rd_drop h, rd_drop h2, if_pos hxy]
      simp only [rising, if_pos hxy]
    · have e : rising (x :: y :: l) = rising (y :: l) := by simp only [rising, if_neg hxy]
      rw [e]
      refine Ev.step (fun k => ?_) (spec_LookOk_l0 st u b v xs hx l y (i + 1) h2)
      rw [spec_LookOk.l0, if_pos (by omega), ew, if_pos (by omega), if_pos (by omega), if_pos (by omega), rd_drop h, rd_drop h2, if_neg hxy, wrap_succ (i + 1) (by omega)]
theorem spec_LookOk_l1 (st : Int) (u b : ByteArray) (v : Int) (xs : List Int) (hx : xs.length ≤ 1048576) : Ev (fun k => spec_LookOk.l0 k 1 st u b v xs) (rising xs) := by
  cases xs with
  | nil => exact Ev.step (fun k => by rw [spec_LookOk.l0, if_neg (by decide)]; rfl) (Ev.now _)
  | cons x l => exact spec_LookOk_l0 st u b v (x :: l) hx l x 0 rfl
theorem spec_LookOk_j0 (st : Int) (u b : ByteArray) (v : Int) (xs : List Int) (hx : xs.length ≤ 1048576) (c : Bool) : Ev (fun k => spec_LookOk.j0 k c st u b v xs) (!c && rising xs) := by
  cases c with
  | true => exact Ev.step (fun k => by rw [spec_LookOk.j0, if_pos rfl]; rfl) (Ev.now _)
  | false => exact Ev.step (fun k => by rw [spec_LookOk.j0, if_neg (by decide)]) (by simpa using spec_LookOk_l1 st u b v xs hx)
theorem spec_LookOk_ev (st : Int) (u b : ByteArray) (v : Int) (xs : List Int) (hu : u.size ≤ 9223372036854775807) (hb : b.size ≤ 9223372036854775807) (hx : xs.length ≤ 1048576) :
    Ev (fun k => spec_LookOk.f k st u b v xs) (lookOk st u b v xs) := by
  unfold spec_LookOk.f lookOk
  simp only [spec_in, Option.bind_some]
  by_cases h1 : 0 ≤ st ∧ st ≤ 2
  · simp only [h1, and_self, decide_true, if_true, Bool.true_and]
    refine Ev.bind (spec_l19Text_ev u hu) ?_
    by_cases h2 : word0 u = true
    · simp only [h2, if_true, Bool.true_and]
      refine Ev.bind (spec_l19Text_ev b hb) ?_
      by_cases h3 : word0 b = true
      · simp only [h3, if_true, Bool.true_and]
        by_cases h4 : 0 ≤ v ∧ v ≤ 9999
        · simp only [h4, and_self, decide_true, if_true, Bool.true_and]
          exact spec_LookOk_j0 st u b v xs hx _
        · simp only [h4, decide_false, Bool.false_and]
          simpa using spec_LookOk_j0 st u b v xs hx true
      · simp only [h3, if_false, Bool.false_and]
        simpa using spec_LookOk_j0 st u b v xs hx true
    · simp only [h2, if_false, Bool.false_and]
      simpa using spec_LookOk_j0 st u b v xs hx true
  · simp only [h1, decide_false, Bool.false_and]
    simpa using spec_LookOk_j0 st u b v xs hx true

theorem impl_LookOk_l0 (st : Int) (u b : ByteArray) (v : Int) (xs : List Int) (hx : xs.length ≤ 1048576) :
    ∀ (l : List Int) (x : Int) (i : Nat), xs.drop i = x :: l → Ev (fun k => impl_LookOk.l0 k xs (xs.length : Int) ((i + 1 : Nat) : Int) st u b v xs) (rising (x :: l))
  | [], x, i, h => by
    have hlt := drop_lt h
    have e := drop_end (drop_tail h) (by omega)
    exact Ev.step (fun k => by rw [impl_LookOk.l0, if_neg (by omega)]; rfl) (Ev.now _)
  | y :: l, x, i, h => by
    have h2 := drop_tail h
    have hlt := drop_lt h2
    have ew : wrap64 (((i + 1 : Nat) : Int) - 1) = (i : Int) := by unfold wrap64; omega
    by_cases hxy : x ≥ y
    · refine Ev.step (fun k => ?_) (Ev.now _)
      rw [impl_LookOk.l0, if_pos (by omega), if_pos (by omega), if_pos (by omega), if_pos (by omega), ew, if_pos (by omega), if_pos (by omega), rd_drop h, rd_drop h2, if_pos hxy]
      simp only [rising, if_pos hxy]
    · have e : rising (x :: y :: l) = rising (y :: l) := by simp only [rising, if_neg hxy]
      rw [e]
      refine Ev.step (fun k => ?_) (impl_LookOk_l0 st u b v xs hx l y (i + 1) h2)
      rw [impl_LookOk.l0, if_pos (by omega), if_pos (by omega), if_pos (by omega), if_pos (by omega), ew, if_pos (by omega), if_pos (by omega), rd_drop h, rd_drop h2, if_neg hxy, wrap_succ (i + 1) (by omega)]
theorem impl_LookOk_l1 (st : Int) (u b : ByteArray) (v : Int) (xs : List Int) (hx : xs.length ≤ 1048576) : Ev (fun k => impl_LookOk.l0 k xs (xs.length : Int) 0 st u b v xs) (rising xs) := by
  cases xs with
  | nil => exact Ev.step (fun k => by rw [impl_LookOk.l0, if_neg (by decide)]; rfl) (Ev.now _)
  | cons x l =>
    refine Ev.step (fun k => ?_) (impl_LookOk_l0 st u b v (x :: l) hx l x 0 rfl)
    rw [impl_LookOk.l0, if_pos (by simp only [List.length_cons]; omega), if_pos (by decide), if_pos (by simp only [List.length_cons]; omega), if_neg (by decide), show wrap64 (0 + 1) = ((0 + 1 : Nat) : Int) from wrap_succ 0 (by omega)]
theorem impl_LookOk_j0 (st : Int) (u b : ByteArray) (v : Int) (xs : List Int) (hx : xs.length ≤ 1048576) (c : Bool) : Ev (fun k => impl_LookOk.j0 k c st u b v xs) (!c && rising xs) := by
  cases c with
  | true => exact Ev.step (fun k => by rw [impl_LookOk.j0, if_pos rfl]; rfl) (Ev.now _)
  | false => exact Ev.step (fun k => by rw [impl_LookOk.j0, if_neg (by decide)]) (by simpa using impl_LookOk_l1 st u b v xs hx)
theorem impl_LookOk_ev (st : Int) (u b : ByteArray) (v : Int) (xs : List Int) (hu : u.size ≤ 9223372036854775807) (hb : b.size ≤ 9223372036854775807) (hx : xs.length ≤ 1048576) :
    Ev (fun k => impl_LookOk.f k st u b v xs) (lookOk st u b v xs) := by
  have no : Ev (fun k => impl_LookOk.j0 k true st u b v xs) false := by simpa using impl_LookOk_j0 st u b v xs hx true
  have last : Ev (fun k => if decide (0 ≤ v ∧ v ≤ 9999) = true then impl_LookOk.j0 k (decide ((xs.length : Int) > 8)) st u b v xs else impl_LookOk.j0 k true st u b v xs) (decide (0 ≤ v ∧ v ≤ 9999) && (!decide ((xs.length : Int) > 8) && rising xs)) := by
    by_cases h4 : 0 ≤ v ∧ v ≤ 9999
    · simp only [h4, and_self, decide_true, if_true, Bool.true_and]
      exact impl_LookOk_j0 st u b v xs hx _
    · simp only [h4, decide_false, Bool.false_and]; simpa using no
  have wb : ∀ (g : Nat → Option Bool) (r : Bool), Ev g r → b.toList ≠ [] → Ev (fun k => (impl_WordOk.f k b).bind fun t => if t = true then g k else impl_LookOk.j0 k true st u b v xs) (word0 b && r) := by
    intro g r hg hb0
    refine Ev.bind (impl_WordOk_ev b hb) ?_
    by_cases h : wordOk b = true
    · simp only [h, if_true, word0, if_neg hb0, Bool.true_and]; exact hg
    · simp only [h, if_false, word0, if_neg hb0, Bool.false_and]; simpa using no
  unfold impl_LookOk.f lookOk
  simp only [impl_in_eq, Option.bind_some]
  by_cases h1 : 0 ≤ st ∧ st ≤ 2
  · simp only [h1, and_self, decide_true, if_true, Bool.true_and]
    by_cases h2 : u.toList = ([] : List UInt8)
    · simp only [if_pos h2, word0, Bool.true_and]
      by_cases h3 : b.toList = ([] : List UInt8)
      · simp only [if_pos h3, Bool.true_and]; exact last
      · simp only [if_neg h3]
        have := wb _ _ last h3
        simp only [word0, if_neg h3] at this
        exact this
    · simp only [if_neg h2]
      refine Ev.bind (impl_WordOk_ev u hu) ?_
      by_cases h5 : wordOk u = true
      · simp only [h5, if_true, word0, if_neg h2, Bool.true_and]
        by_cases h3 : b.toList = ([] : List UInt8)
        · simp only [if_pos h3, Bool.true_and]; exact last
        · simp only [if_neg h3]
          have := wb _ _ last h3
          simp only [word0, if_neg h3] at this
          exact this
      · simp only [h5, if_false, word0, if_neg h2, Bool.false_and]; simpa using no
  · simp only [h1, decide_false, Bool.false_and]; simpa using no

theorem FnExactLookOk : laws_FnExactLookOk.Pure := by
  intro x0 ⟨h0, h1, h2, h3, h4, h5⟩
  refine Ev.rounds (g := fun k => laws_FnExactLookOk.f k x0.f0 x0.f1 x0.f2 x0.f3 x0.f4) ?_
  unfold laws_FnExactLookOk.f
  rcases szLook_eq x0.f0 x0.f1 x0.f2 x0.f3 x0.f4 h1 h2 h4 1048576 (by omega) with ⟨hs, hz⟩ | hz
  · have h9 : ¬ (((1048576 - (x0.f1.size + x0.f2.size + x0.f4.length) : Nat) : Int) < 0) := by omega
    have hz' : laws_szLook.f x0.f0 x0.f1 x0.f2 x0.f3 x0.f4 1048576 = _ := hz
    simp only [hz', Option.bind_some, if_neg h9]
    have ht := toLook_ev x0.f0 x0.f1 x0.f2 x0.f3 x0.f4 (by omega)
    refine Ev.bind ht ?_
    refine Ev.bind (spec_LookOk_ev x0.f0 x0.f1 x0.f2 x0.f3 x0.f4 h1 h2 (by omega)) ?_
    refine Ev.bind ht ?_
    refine Ev.bind (impl_LookOk_ev x0.f0 x0.f1 x0.f2 x0.f3 x0.f4 h1 h2 (by omega)) ?_
    simp only [bne_self_eq_false, if_neg (show ¬ (false = true) by decide)]
    refine Ev.bind ht ?_
    refine Ev.bind (eqLook_ev x0.f0 x0.f1 x0.f2 x0.f3 x0.f4 (by omega)) ?_
    simp only [if_true]
    exact Ev.now _
  · have hz' : laws_szLook.f x0.f0 x0.f1 x0.f2 x0.f3 x0.f4 1048576 = _ := hz
    simp only [hz', Option.bind_some, if_pos (show (-1 : Int) < 0 by decide)]
    exact Ev.now _

end Go.Proofs.Ytdclbjfpkhljeab.Pure
