/- The program's FetchOk answers what the reference's answers. Conditions: none beyond the statement's own. -/
import Derived.Test.YteblgnkfdkoapaaQFnExactFetchOkPure0
import Derived.Test.YteblgnkfdkoapaaBase
namespace Go.Proofs.Yteblgnkfdkoapaa.Pure
open Go.RowKit Go.Proofs.Yteblgnkfdkoapaa.QFnExactFetchOk Go.Proofs.YteblgnkfdkoapaaW.PrintWords Go.Proofs.YteblgnkfdkoapaaW.PrintLast Go.Proofs.YteblgnkfdkoapaaB Go.Proofs.YteblgnkfdkoapaaO
set_option linter.unusedVariables false
set_option linter.unusedSimpArgs false

/-- Mails with their texts' lengths. -/
def sumM : List S109 → Nat
  | [] => 0
  | x :: l => x.f2.size + sumM l
def mailOf (x : S109) : S84 := ⟨x.f0, x.f1, x.f2⟩
theorem rdT_drop1 {xs : List S109} {i : Nat} {x : S109} {l : List S109} (h : xs.drop i = x :: l) : rd_T109 xs (i : Int) = x := drop_getD _ h
theorem rdT_drop2 {xs : List S84} {i : Nat} {x : S84} {l : List S84} (h : xs.drop i = x :: l) : rd_T84 xs (i : Int) = x := drop_getD _ h

theorem szMailS_l0 (xs : List S109) (hx : xs.length ≤ 9223372036854775807) (hs : ∀ x ∈ xs, x.f2.size ≤ 9223372036854775807) :
    ∀ (l : List S109) (i : Nat) (a : Nat), xs.drop i = l → i ≤ xs.length → a ≤ 1048576 →
      (sumM l ≤ a ∧ Ev (fun k => laws_szMailS.l0 k xs a i) ((a - sumM l : Nat) : Int)) ∨ Ev (fun k => laws_szMailS.l0 k xs a i) (-1)
  | [], i, a, h, hi, ha => by
    left
    have e := drop_end h hi
    exact ⟨Nat.zero_le _, Ev.step (fun k => by rw [laws_szMailS.l0, if_neg (by omega)]; rfl) (Ev.now _)⟩
  | x :: l, i, a, h, hi, ha => by
    have hlt := drop_lt h
    have hz : x.f2.size ≤ 9223372036854775807 := hs x (List.mem_of_mem_drop (i := i) (by rw [h]; exact List.mem_cons_self))
    have e := rdT_drop1 h
    by_cases hb : x.f2.size ≤ a
    · have ew : wrap64 ((a : Int) - (x.f2.size : Int)) = ((a - x.f2.size : Nat) : Int) := by unfold wrap64; omega
      have hstep : ∀ k, laws_szMailS.l0 (k + 1) xs a i = laws_szMailS.l0 k xs ((a - x.f2.size : Nat) : Int) ((i + 1 : Nat) : Int) := fun k => by
        rw [laws_szMailS.l0, if_pos (by omega), if_pos (by omega), e, laws_szMail.f, ew, if_neg (by omega), Option.bind_some, if_neg (by omega), wrap_succ i (by omega)]
      rcases szMailS_l0 xs hx hs l (i + 1) (a - x.f2.size) (drop_tail h) (by omega) (by omega) with ⟨h1, h2⟩ | h2
      · left
        refine ⟨by simp only [sumM]; omega, Ev.step hstep ?_⟩
        have e3 : a - sumM (x :: l) = a - x.f2.size - sumM l := by simp only [sumM]; omega
        rw [e3]; exact h2
      · right; exact Ev.step hstep h2
    · right
      refine Ev.step (fun k => ?_) (Ev.now _)
      rw [laws_szMailS.l0, if_pos (by omega), if_pos (by omega), e, laws_szMail.f, if_pos (by unfold wrap64; omega), Option.bind_some, if_pos (by decide)]

theorem szMailS_ev (xs : List S109) (hx : xs.length ≤ 9223372036854775807) (hs : ∀ x ∈ xs, x.f2.size ≤ 9223372036854775807) (a : Nat) (ha : a ≤ 1048576) :
    (xs.length + sumM xs ≤ a ∧ Ev (fun k => laws_szMailS.f k xs a) ((a - (xs.length + sumM xs) : Nat) : Int)) ∨ Ev (fun k => laws_szMailS.f k xs a) (-1) := by
  by_cases hb : xs.length ≤ a
  · have ew : wrap64 ((a : Int) - (xs.length : Int)) = ((a - xs.length : Nat) : Int) := by unfold wrap64; omega
    have hf : ∀ k, laws_szMailS.f k xs a = laws_szMailS.l0 k xs ((a - xs.length : Nat) : Int) ((0 : Nat) : Int) := fun k => by
      rw [laws_szMailS.f, ew, if_neg (by omega)]; rfl
    rcases szMailS_l0 xs hx hs xs 0 (a - xs.length) rfl (by omega) (by omega) with ⟨h1, h2⟩ | h2
    · left
      refine ⟨by omega, Ev.congr hf ?_⟩
      rw [show a - (xs.length + sumM xs) = a - xs.length - sumM xs by omega]; exact h2
    · right; exact Ev.congr hf h2
  · right
    refine Ev.congr (fun k => ?_) (Ev.now _)
    rw [laws_szMailS.f, if_pos (by unfold wrap64; omega)]

theorem toMailS_l0 (xs : List S109) (hx : xs.length ≤ 1048576) :
    ∀ (l : List S109) (i : Nat), xs.drop i = l → i ≤ xs.length →
      Ev (fun k => laws_toMailS.l0 k xs ((xs.take i).map mailOf ++ List.replicate (xs.length - i) z84) i) (xs.map mailOf)
  | [], i, h, hi => by
    have e := drop_end h hi
    subst e
    refine Ev.step (fun k => by rw [laws_toMailS.l0, if_neg (by omega)]) ?_
    rw [fill_end]; exact Ev.now _
  | x :: l, i, h, hi => by
    have hlt := drop_lt h
    refine Ev.step (fun k => ?_) (toMailS_l0 xs hx l (i + 1) (drop_tail h) (by omega))
    rw [laws_toMailS.l0, if_pos (by omega), if_pos (by omega), rdT_drop1 h, laws_toMail.f, Option.bind_some, fill_len _ _ _ hi, if_pos (by omega), Int.toNat_natCast, wrap_succ i (by omega)]
    rw [← fill_set xs mailOf z84 h]
    rfl
theorem toMailS_ev (xs : List S109) (hx : xs.length ≤ 1048576) : Ev (fun k => laws_toMailS.f k xs) (xs.map mailOf) := by
  refine Ev.congr (fun k => ?_) (toMailS_l0 xs hx xs 0 rfl (by omega))
  rw [laws_toMailS.f, if_pos (by omega), Int.toNat_natCast, if_pos (by omega)]
  simp
theorem eqMail_self (a b : Int) (c : ByteArray) : laws_eqMail.f a b c a b c = some true := by
  unfold laws_eqMail.f
  simp only [if_true]
theorem eqMailS_l0 (xs : List S84) (hx : xs.length ≤ 9223372036854775807) :
    ∀ (l : List S84) (i : Nat), xs.drop i = l → i ≤ xs.length → Ev (fun k => laws_eqMailS.l0 k xs xs i) true
  | [], i, h, hi => by
    have e := drop_end h hi
    exact Ev.step (fun k => by rw [laws_eqMailS.l0, if_neg (by omega)]) (Ev.now true)
  | x :: l, i, h, hi => by
    have hlt := drop_lt h
    refine Ev.step (fun k => ?_) (eqMailS_l0 xs hx l (i + 1) (drop_tail h) (by omega))
    rw [laws_eqMailS.l0, if_pos (by omega), if_pos (by omega), if_pos (by omega), rdT_drop2 h, eqMail_self, Option.bind_some, if_pos rfl, wrap_succ i (by omega)]
theorem eqMailS_ev (xs : List S84) (hx : xs.length ≤ 9223372036854775807) : Ev (fun k => laws_eqMailS.f k xs xs) true := by
  refine Ev.congr (fun k => ?_) (eqMailS_l0 xs hx xs 0 rfl (by omega))
  rw [laws_eqMailS.f, if_pos rfl]; rfl

theorem szBoolS_eq (xs : List Bool) (hx : xs.length ≤ 9223372036854775807) (a : Nat) (ha : a ≤ 1048576) :
    (xs.length ≤ a ∧ laws_szBoolS.f xs a = some ((a - xs.length : Nat) : Int)) ∨ laws_szBoolS.f xs a = some (-1) := by
  unfold laws_szBoolS.f
  by_cases h : xs.length ≤ a
  · left
    have ew : wrap64 ((a : Int) - (xs.length : Int)) = ((a - xs.length : Nat) : Int) := by unfold wrap64; omega
    exact ⟨h, by rw [ew, if_neg (by omega)]⟩
  · right
    rw [if_pos (by unfold wrap64; omega)]
theorem toBoolS_l0 (xs : List Bool) (hx : xs.length ≤ 1048576) :
    ∀ (l : List Bool) (i : Nat), xs.drop i = l → i ≤ xs.length → Ev (fun k => laws_toBoolS.l0 k xs ((xs.take i).map id ++ List.replicate (xs.length - i) false) i) (xs.map id)
  | [], i, h, hi => by
    have e := drop_end h hi
    subst e
    refine Ev.step (fun k => by rw [laws_toBoolS.l0, if_neg (by omega)]) ?_
    rw [fill_end]; exact Ev.now _
  | x :: l, i, h, hi => by
    have hlt := drop_lt h
    refine Ev.step (fun k => ?_) (toBoolS_l0 xs hx l (i + 1) (drop_tail h) (by omega))
    rw [laws_toBoolS.l0, if_pos (by omega), if_pos (by omega), fill_len _ _ _ hi, if_pos (by omega), rdOf_drop false h, Int.toNat_natCast, wrap_succ i (by omega)]
    rw [← fill_set xs id false h]
    rfl
theorem toBoolS_ev (xs : List Bool) (hx : xs.length ≤ 1048576) : Ev (fun k => laws_toBoolS.f k xs) xs := by
  have h := toBoolS_l0 xs hx xs 0 rfl (by omega)
  rw [List.map_id xs] at h
  refine Ev.congr (fun k => ?_) h
  rw [laws_toBoolS.f, if_pos (by omega), Int.toNat_natCast, if_pos (by omega)]
  simp
theorem eqBoolS_l0 (xs : List Bool) (hx : xs.length ≤ 9223372036854775807) :
    ∀ (l : List Bool) (i : Nat), xs.drop i = l → i ≤ xs.length → Ev (fun k => laws_eqBoolS.l0 k xs xs i) true
  | [], i, h, hi => by
    have e := drop_end h hi
    exact Ev.step (fun k => by rw [laws_eqBoolS.l0, if_neg (by omega)]) (Ev.now true)
  | x :: l, i, h, hi => by
    have hlt := drop_lt h
    refine Ev.step (fun k => ?_) (eqBoolS_l0 xs hx l (i + 1) (drop_tail h) (by omega))
    rw [laws_eqBoolS.l0, if_pos (by omega), if_pos (by omega), if_pos (by omega), if_neg (by simp), wrap_succ i (by omega)]
theorem eqBoolS_ev (xs : List Bool) (hx : xs.length ≤ 9223372036854775807) : Ev (fun k => laws_eqBoolS.f k xs xs) true := by
  refine Ev.congr (fun k => ?_) (eqBoolS_l0 xs hx xs 0 rfl (by omega))
  rw [laws_eqBoolS.f, if_pos rfl]; rfl

theorem szFetch_ev (st : Int) (u : ByteArray) (xs : List S109) (gs : List Bool) (hu : u.size ≤ 9223372036854775807) (hx : xs.length ≤ 9223372036854775807) (hs : ∀ x ∈ xs, x.f2.size ≤ 9223372036854775807) (hg : gs.length ≤ 9223372036854775807) (a : Nat) (ha : a ≤ 1048576) :
    (u.size + xs.length + sumM xs + gs.length ≤ a ∧ Ev (fun k => laws_szFetch.f k st u xs gs a) ((a - (u.size + xs.length + sumM xs + gs.length) : Nat) : Int)) ∨ Ev (fun k => laws_szFetch.f k st u xs gs a) (-1) := by
  unfold laws_szFetch.f
  by_cases h1 : u.size ≤ a
  · have e1 : wrap64 ((a : Int) - (u.size : Int)) = ((a - u.size : Nat) : Int) := by unfold wrap64; omega
    have q1 : ¬ (((a - u.size : Nat) : Int) < 0) := by omega
    simp only [e1, if_neg q1]
    rcases szMailS_ev xs hx hs (a - u.size) (by omega) with ⟨h3, e3⟩ | e3
    · rcases szBoolS_eq gs hg (a - u.size - (xs.length + sumM xs)) (by omega) with ⟨h4, e4⟩ | e4
      · left
        refine ⟨by omega, Ev.bind e3 ?_⟩
        have q3 : ¬ (((a - u.size - (xs.length + sumM xs) : Nat) : Int) < 0) := by omega
        have q4 : ¬ (((a - u.size - (xs.length + sumM xs) - gs.length : Nat) : Int) < 0) := by omega
        simp only [if_neg q3, e4, Option.bind_some, if_neg q4]
        rw [show a - (u.size + xs.length + sumM xs + gs.length) = a - u.size - (xs.length + sumM xs) - gs.length by omega]
        exact Ev.now _
      · right
        refine Ev.bind e3 ?_
        have q3 : ¬ (((a - u.size - (xs.length + sumM xs) : Nat) : Int) < 0) := by omega
        simp only [if_neg q3, e4, Option.bind_some, if_pos (show (-1 : Int) < 0 by decide)]
        exact Ev.now _
    · right
      refine Ev.bind e3 ?_
      simp only [if_pos (show (-1 : Int) < 0 by decide)]
      exact Ev.now _
  · right
    have q : wrap64 ((a : Int) - (u.size : Int)) < 0 := by unfold wrap64; omega
    simp only [if_pos q]
    exact Ev.now _
theorem toFetch_ev (st : Int) (u : ByteArray) (xs : List S109) (gs : List Bool) (hx : xs.length ≤ 1048576) (hg : gs.length ≤ 1048576) : Ev (fun k => laws_toFetch.f k st u xs gs) (st, u, xs.map mailOf, gs) := by
  unfold laws_toFetch.f
  exact Ev.bind (toMailS_ev xs hx) (Ev.bind (toBoolS_ev gs hg) (Ev.now _))
theorem eqFetch_ev (st : Int) (u : ByteArray) (xs : List S84) (gs : List Bool) (hx : xs.length ≤ 1048576) (hg : gs.length ≤ 1048576) : Ev (fun k => laws_eqFetch.f k st u xs gs st u xs gs) true := by
  unfold laws_eqFetch.f
  simp only [if_true]
  refine Ev.bind (eqMailS_ev xs (by omega)) ?_
  simp only [if_true]
  refine Ev.bind (eqBoolS_ev gs (by omega)) ?_
  simp only [if_true]
  exact Ev.now _

theorem spec_in (a b c : Int) : spec_l01In.f a b c = some (decide (b ≤ a ∧ a ≤ c)) := by
  unfold spec_l01In.f
  by_cases h : a ≥ b
  · rw [if_pos h]; have : b ≤ a := h; simp [this]
  · rw [if_neg h]; have : ¬ b ≤ a := h; simp [this]
theorem impl_in_eq (a b c : Int) : impl_in.f a b c = some (decide (b ≤ a ∧ a ≤ c)) := by
  unfold impl_in.f
  by_cases h : a ≥ b
  · rw [if_pos h]; have : b ≤ a := h; simp [this]
  · rw [if_neg h]; have : ¬ b ≤ a := h; simp [this]

def letters : List UInt8 → Bool
  | [] => true
  | c :: l => if (c.toNat : Int) < 97 then false else if (c.toNat : Int) > 122 then false else letters l
def wordOk (s : ByteArray) : Bool := letters s.data.toList && decide (1 ≤ (s.size : Int) ∧ (s.size : Int) ≤ 8)

theorem spec_WordOk_l0 (s : ByteArray) (hs : s.size ≤ 9223372036854775807) :
    ∀ (l : List UInt8) (i : Nat), s.data.toList.drop i = l → i ≤ s.size → Ev (fun k => spec_WordOk.l0 k s i) (letters l && decide (1 ≤ (s.size : Int) ∧ (s.size : Int) ≤ 8))
  | [], i, h, hi => by
    have e := drop_end h (by rw [size_data]; exact hi)
    rw [size_data] at e
    exact Ev.step (fun k => by rw [spec_WordOk.l0, if_neg (by omega), spec_in]; rfl) (Ev.now _)
  | c :: l, i, h, hi => by
    have hlt := drop_lt h
    rw [size_data] at hlt
    have hb := bt_cons h
    by_cases h1 : (c.toNat : Int) < 97
    · exact Ev.step (fun k => by rw [spec_WordOk.l0, if_pos (by omega), if_pos (by omega), hb, if_pos h1]; simp only [letters, if_pos h1, Bool.false_and]) (Ev.now _)
    · by_cases h2 : (c.toNat : Int) > 122
      · exact Ev.step (fun k => by rw [spec_WordOk.l0, if_pos (by omega), if_pos (by omega), hb, if_neg h1, if_pos h2]; simp only [letters, if_neg h1, if_pos h2, Bool.false_and]) (Ev.now _)
      · have ih := spec_WordOk_l0 s hs l (i + 1) (drop_tail h) (by omega)
        have e : letters (c :: l) = letters l := by simp only [letters, if_neg h1, if_neg h2]
        rw [e]
        exact Ev.step (fun k => by rw [spec_WordOk.l0, if_pos (by omega), if_pos (by omega), hb, if_neg h1, if_neg h2, wrap_succ i (by omega)]) ih

theorem spec_WordOk_ev (s : ByteArray) (hs : s.size ≤ 9223372036854775807) : Ev (fun k => spec_WordOk.f k s) (wordOk s) :=
  Ev.congr (fun k => rfl) (spec_WordOk_l0 s hs _ 0 rfl (by omega))

theorem impl_WordOk_l0 (s : ByteArray) (hs : s.size ≤ 9223372036854775807) :
    ∀ (l : List UInt8) (i : Nat), s.data.toList.drop i = l → i ≤ s.size → Ev (fun k => impl_WordOk.l0 k s (s.size : Int) i) (letters l)
  | [], i, h, hi => by
    have e := drop_end h (by rw [size_data]; exact hi)
    rw [size_data] at e
    exact Ev.step (fun k => by rw [impl_WordOk.l0, if_neg (by omega)]; rfl) (Ev.now _)
  | c :: l, i, h, hi => by
    have hlt := drop_lt h
    rw [size_data] at hlt
    have hb := bt_cons h
    by_cases h1 : (c.toNat : Int) < 97
    · exact Ev.step (fun k => by rw [impl_WordOk.l0, if_pos (by omega), if_pos (by omega), if_pos (by omega), hb, if_pos h1]; simp only [letters, if_pos h1]) (Ev.now _)
    · by_cases h2 : (c.toNat : Int) > 122
      · exact Ev.step (fun k => by rw [impl_WordOk.l0, if_pos (by omega), if_pos (by omega), if_pos (by omega), hb, if_neg h1, if_pos h2]; simp only [letters, if_neg h1, if_pos h2]) (Ev.now _)
      · have ih := impl_WordOk_l0 s hs l (i + 1) (drop_tail h) (by omega)
        have e : letters (c :: l) = letters l := by simp only [letters, if_neg h1, if_neg h2]
        rw [e]
        exact Ev.step (fun k => by rw [impl_WordOk.l0, if_pos (by omega), if_pos (by omega), if_pos (by omega), hb, if_neg h1, if_neg h2, wrap_succ i (by omega)]) ih

theorem impl_WordOk_ev (s : ByteArray) (hs : s.size ≤ 9223372036854775807) : Ev (fun k => impl_WordOk.f k s) (wordOk s) := by
  unfold impl_WordOk.f
  simp only [impl_in_eq, Option.bind_some]
  by_cases h : 1 ≤ (s.size : Int) ∧ (s.size : Int) ≤ 8
  · simp only [h, and_self, decide_true, if_true, wordOk, Bool.and_true]
    exact impl_WordOk_l0 s hs _ 0 rfl (by omega)
  · simp only [wordOk, h, decide_false, Bool.and_false]
    exact Ev.now _

def word0 (s : ByteArray) : Bool := if s.toList = ([] : List UInt8) then true else wordOk s
theorem spec_l19Text_ev (s : ByteArray) (hs : s.size ≤ 9223372036854775807) : Ev (fun k => spec_l19Text.f k s) (word0 s) := by
  unfold spec_l19Text.f word0
  by_cases h : s.toList = ([] : List UInt8)
  · simp only [if_pos h]; exact Ev.now _
  · simp only [if_neg h]
    exact Ev.bind (spec_WordOk_ev s hs) (Ev.now _)

def risingM : List S84 → Bool
  | x :: y :: l => if x.f0 ≥ y.f0 then false else risingM (y :: l)
  | _ => true
def fetchOk (st : Int) (u : ByteArray) (xs : List S84) (gs : List Bool) : Bool :=
  decide (0 ≤ st ∧ st ≤ 2) && (word0 u && (!decide ((xs.length : Int) > 8) && (((gs.length : Int) == (xs.length : Int)) && risingM xs)))

theorem spec_FetchOk_l0 (st : Int) (u : ByteArray) (xs : List S84) (gs : List Bool) (hx : xs.length ≤ 1048576) :
    ∀ (l : List S84) (x : S84) (i : Nat), xs.drop i = x :: l → Ev (fun k => spec_FetchOk.l0 k ((i + 1 : Nat) : Int) st u xs gs) (risingM (x :: l))
  | [], x, i, h => by
    have hlt := drop_lt h
    have e := drop_end (drop_tail h) (by omega)
    exact Ev.step (fun k => by rw [spec_FetchOk.l0, if_neg (by omega)]; rfl) (Ev.now _)
  | y :: l, x, i, h => by
    have h2 := drop_tail h
    have hlt := drop_lt h2
    have ew : wrap64 (((i + 1 : Nat) : Int) - 1) = (i : Int) := by unfold wrap64; omega
    by_cases hxy : x.f0 ≥ y.f0
    · refine Ev.step (fun k => ?_) (Ev.now _)
      rw [spec_FetchOk.l0, if_pos (by omega), ew, if_pos (by omega), if_pos (by omega), if_pos (by omega), rdT_drop2 h, rdT_drop2 h2, if_pos hxy]
      simp only [risingM, if_pos hxy]
    · have e : risingM (x :: y :: l) = risingM (y :: l) := by simp only [risingM, if_neg hxy]
      rw [e]
      refine Ev.step (fun k => ?_) (spec_FetchOk_l0 st u xs gs hx l y (i + 1) h2)
      rw [spec_FetchOk.l0, if_pos (by omega), ew, if_pos (by omega), if_pos (by omega), if_pos (by omega), rdT_drop2 h, rdT_drop2 h2, if_neg hxy, wrap_succ (i + 1) (by omega)]
theorem spec_FetchOk_j0 (st : Int) (u : ByteArray) (xs : List S84) (gs : List Bool) (hx : xs.length ≤ 1048576) (c r : Bool) (hc : r = (!c && risingM xs)) : Ev (fun k => spec_FetchOk.j0 k c st u xs gs) r := by
  subst hc
  cases c with
  | true => exact Ev.step (fun k => by rw [spec_FetchOk.j0, if_pos rfl]; rfl) (Ev.now _)
  | false =>
    refine Ev.step (fun k => by rw [spec_FetchOk.j0, if_neg (by decide)]) ?_
    simp only [Bool.not_false, Bool.true_and]
    cases xs with
    | nil => exact Ev.step (fun k => by rw [spec_FetchOk.l0, if_neg (by decide)]; rfl) (Ev.now _)
    | cons x l => exact spec_FetchOk_l0 st u (x :: l) gs hx l x 0 rfl
theorem impl_FetchOk_l0 (st : Int) (u : ByteArray) (xs : List S84) (gs : List Bool) (hx : xs.length ≤ 1048576) :
    ∀ (l : List S84) (x : S84) (i : Nat), xs.drop i = x :: l → Ev (fun k => impl_FetchOk.l0 k xs (xs.length : Int) ((i + 1 : Nat) : Int) st u xs gs) (risingM (x :: l))
  | [], x, i, h => by
    have hlt := drop_lt h
    have e := drop_end (drop_tail h) (by omega)
    exact Ev.step (fun k => by rw [impl_FetchOk.l0, if_neg (by omega)]; rfl) (Ev.now _)
  | y :: l, x, i, h => by
    have h2 := drop_tail h
    have hlt := drop_lt h2
    have ew : wrap64 (((i + 1 : Nat) : Int) - 1) = (i : Int) := by unfold wrap64; omega
    by_cases hxy : x.f0 ≥ y.f0
    · refine Ev.step (fun k => ?_) (Ev.now _)
      rw [impl_FetchOk.l0, if_pos (by omega), if_pos (by omega), if_pos (by omega), if_pos (by omega), ew, if_pos (by omega), if_pos (by omega), rdT_drop2 h, rdT_drop2 h2, if_pos hxy]
      simp only [risingM, if_pos hxy]
    · have e : risingM (x :: y :: l) = risingM (y :: l) := by simp only [risingM, if_neg hxy]
      rw [e]
      refine Ev.step (fun k => ?_) (impl_FetchOk_l0 st u xs gs hx l y (i + 1) h2)
      rw [impl_FetchOk.l0, if_pos (by omega), if_pos (by omega), if_pos (by omega), if_pos (by omega), ew, if_pos (by omega), if_pos (by omega), rdT_drop2 h, rdT_drop2 h2, if_neg hxy, wrap_succ (i + 1) (by omega)]
theorem impl_FetchOk_j0 (st : Int) (u : ByteArray) (xs : List S84) (gs : List Bool) (hx : xs.length ≤ 1048576) (c r : Bool) (hc : r = (!c && risingM xs)) : Ev (fun k => impl_FetchOk.j0 k c st u xs gs) r := by
  subst hc
  cases c with
  | true => exact Ev.step (fun k => by rw [impl_FetchOk.j0, if_pos rfl]; rfl) (Ev.now _)
  | false =>
    refine Ev.step (fun k => by rw [impl_FetchOk.j0, if_neg (by decide)]) ?_
    simp only [Bool.not_false, Bool.true_and]
    cases xs with
    | nil => exact Ev.step (fun k => by rw [impl_FetchOk.l0, if_neg (by decide)]; rfl) (Ev.now _)
    | cons x l =>
      refine Ev.step (fun k => ?_) (impl_FetchOk_l0 st u (x :: l) gs hx l x 0 rfl)
      rw [impl_FetchOk.l0, if_pos (by simp only [List.length_cons]; omega), if_pos (by decide), if_pos (by simp only [List.length_cons]; omega), if_neg (by decide), show wrap64 (0 + 1) = ((0 + 1 : Nat) : Int) from wrap_succ 0 (by omega)]
theorem spec_FetchOk_ev (st : Int) (u : ByteArray) (xs : List S84) (gs : List Bool) (hu : u.size ≤ 9223372036854775807) (hx : xs.length ≤ 1048576) : Ev (fun k => spec_FetchOk.f k st u xs gs) (fetchOk st u xs gs) := by
  unfold spec_FetchOk.f
  simp only [spec_in, Option.bind_some]
  refine ev_ite (fun h1 => ?_) (fun h1 => spec_FetchOk_j0 st u xs gs hx _ _ (by simp [fetchOk, h1]))
  refine Ev.bind (spec_l19Text_ev u hu) (ev_ite (fun h2 => ?_) (fun h2 => spec_FetchOk_j0 st u xs gs hx _ _ (by simp [fetchOk, h1, h2])))
  refine ev_ite (fun h3 => spec_FetchOk_j0 st u xs gs hx _ _ (by simp [fetchOk, h1, h2, h3])) (fun h3 => spec_FetchOk_j0 st u xs gs hx _ _ ?_)
  rw [fetchOk, h1, h2, decide_eq_false h3]
  simp [bne]
theorem impl_FetchOk_ev (st : Int) (u : ByteArray) (xs : List S84) (gs : List Bool) (hu : u.size ≤ 9223372036854775807) (hx : xs.length ≤ 1048576) : Ev (fun k => impl_FetchOk.f k st u xs gs) (fetchOk st u xs gs) := by
  unfold impl_FetchOk.f
  simp only [impl_in_eq, Option.bind_some]
  refine ev_ite (fun h1 => ?_) (fun h1 => impl_FetchOk_j0 st u xs gs hx _ _ (by simp [fetchOk, h1]))
  refine ev_ite (fun h2 => ?_) (fun h2 => ?_)
  · have h2' : word0 u = true := by simp only [word0, if_pos h2]
    refine ev_ite (fun h3 => impl_FetchOk_j0 st u xs gs hx _ _ (by simp [fetchOk, h3])) (fun h3 => impl_FetchOk_j0 st u xs gs hx _ _ ?_)
    rw [fetchOk, h1, h2', decide_eq_false h3]
    simp [bne]
  · have h2' : word0 u = wordOk u := by simp only [word0, if_neg h2]
    refine Ev.bind (impl_WordOk_ev u hu) (ev_ite (fun h4 => ?_) (fun h4 => impl_FetchOk_j0 st u xs gs hx _ _ (by simp [fetchOk, h2', h4])))
    refine ev_ite (fun h3 => impl_FetchOk_j0 st u xs gs hx _ _ (by simp [fetchOk, h3])) (fun h3 => impl_FetchOk_j0 st u xs gs hx _ _ ?_)
    rw [fetchOk, h1, h2', h4, decide_eq_false h3]
    simp [bne]

theorem FnExactFetchOk : laws_FnExactFetchOk.Pure := by
  intro x0 ⟨h0, h1, ⟨h2, h3⟩, h4, h5⟩
  refine Ev.rounds (g := fun k => laws_FnExactFetchOk.f k x0.f0 x0.f1 x0.f2 x0.f3) ?_
  unfold laws_FnExactFetchOk.f
  rcases szFetch_ev x0.f0 x0.f1 x0.f2 x0.f3 h1 h2 (fun x hx => (h3 x hx).2.2) h4 1048576 (by omega) with ⟨hs, hz⟩ | hz
  · have h9 : ¬ (((1048576 - (x0.f1.size + x0.f2.length + sumM x0.f2 + x0.f3.length) : Nat) : Int) < 0) := by omega
    refine Ev.bind hz ?_
    simp only [if_neg h9]
    have ht := toFetch_ev x0.f0 x0.f1 x0.f2 x0.f3 (by omega) (by omega)
    have hl : (x0.f2.map mailOf).length ≤ 1048576 := by rw [List.length_map]; omega
    refine Ev.bind ht ?_
    refine Ev.bind (spec_FetchOk_ev x0.f0 x0.f1 (x0.f2.map mailOf) x0.f3 h1 hl) ?_
    refine Ev.bind ht ?_
    refine Ev.bind (impl_FetchOk_ev x0.f0 x0.f1 (x0.f2.map mailOf) x0.f3 h1 hl) ?_
    simp only [bne_self_eq_false, if_neg (show ¬ (false = true) by decide)]
    refine Ev.bind ht ?_
    refine Ev.bind (eqFetch_ev x0.f0 x0.f1 (x0.f2.map mailOf) x0.f3 hl (by omega)) ?_
    simp only [if_true]
    exact Ev.now _
  · refine Ev.bind hz ?_
    simp only [if_pos (show (-1 : Int) < 0 by decide)]
    exact Ev.now _

end Go.Proofs.Yteblgnkfdkoapaa.Pure
