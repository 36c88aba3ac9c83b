/- The program's FeedSession answers what the reference's answers, keeps nothing and changes nothing. Conditions: none beyond the statement's own. -/
import Derived.Test.YtfinlknabjgapaaQFnExactFeedSessionPure0
import Derived.Test.YtfinlknabjgapaaBase
namespace Go.Proofs.Ytfinlknabjgapaa.Pure
open Go.RowKit Go.Proofs.Ytfinlknabjgapaa.QFnExactFeedSession Go.Proofs.YtfinlknabjgapaaW.PrintWords Go.Proofs.YtfinlknabjgapaaW.PrintLast Go.Proofs.YtfinlknabjgapaaB Go.Proofs.YtfinlknabjgapaaO
set_option linter.unusedVariables false
set_option linter.unusedSimpArgs false

/-- The lengths of texts, together and with their number, are within what is left; else it answers something below 0. -/
def sumS : List ByteArray → Nat
  | [] => 0
  | x :: l => x.size + sumS l

theorem szStringS_l0 (xs : List ByteArray) (hx : xs.length ≤ 9223372036854775807) (hs : ∀ x ∈ xs, x.size ≤ 9223372036854775807) :
    ∀ (l : List ByteArray) (i : Nat) (a : Nat), xs.drop i = l → i ≤ xs.length → a ≤ 1048576 →
      (sumS l ≤ a ∧ Ev (fun k => laws_szStringS.l0 k xs a i) ((a - sumS l : Nat) : Int)) ∨ Ev (fun k => laws_szStringS.l0 k xs a i) (-1)
  | [], i, a, h, hi, ha => by
    left
    have e := drop_end h hi
    refine ⟨Nat.zero_le _, Ev.step (fun k => by rw [laws_szStringS.l0, if_neg (by omega)]; rfl) (Ev.now _)⟩
  | x :: l, i, a, h, hi, ha => by
    have hlt := drop_lt h
    have hz : x.size ≤ 9223372036854775807 := hs x (List.mem_of_mem_drop (i := i) (by rw [h]; exact List.mem_cons_self))
    have e := rdOf_drop ByteArray.empty h
    by_cases hb : x.size ≤ a
    · have ew : wrap64 ((a : Int) - (x.size : Int)) = ((a - x.size : Nat) : Int) := by unfold wrap64; omega
      have hstep : ∀ k, laws_szStringS.l0 (k + 1) xs a i = laws_szStringS.l0 k xs ((a - x.size : Nat) : Int) ((i + 1 : Nat) : Int) := fun k => by
        rw [laws_szStringS.l0, if_pos (by omega), if_pos (by omega), e, ew, if_neg (by omega), wrap_succ i (by omega)]
      rcases szStringS_l0 xs hx hs l (i + 1) (a - x.size) (drop_tail h) (by omega) (by omega) with ⟨h1, h2⟩ | h2
      · left
        refine ⟨by simp only [sumS]; omega, Ev.step hstep ?_⟩
        have e3 : a - sumS (x :: l) = a - x.size - sumS l := by simp only [sumS]; omega
        rw [e3]; exact h2
      · right; exact Ev.step hstep h2
    · right
      refine Ev.step (fun k => ?_) (Ev.now _)
      rw [laws_szStringS.l0, if_pos (by omega), if_pos (by omega), e, if_pos (by unfold wrap64; omega)]

theorem szStringS_ev (xs : List ByteArray) (hx : xs.length ≤ 9223372036854775807) (hs : ∀ x ∈ xs, x.size ≤ 9223372036854775807) (a : Nat) (ha : a ≤ 1048576) :
    (xs.length + sumS xs ≤ a ∧ Ev (fun k => laws_szStringS.f k xs a) ((a - (xs.length + sumS xs) : Nat) : Int)) ∨ Ev (fun k => laws_szStringS.f k xs a) (-1) := by
  by_cases hb : xs.length ≤ a
  · have ew : wrap64 ((a : Int) - (xs.length : Int)) = ((a - xs.length : Nat) : Int) := by unfold wrap64; omega
    have hf : ∀ k, laws_szStringS.f k xs a = laws_szStringS.l0 k xs ((a - xs.length : Nat) : Int) ((0 : Nat) : Int) := fun k => by
      rw [laws_szStringS.f, ew, if_neg (by omega)]; rfl
    rcases szStringS_l0 xs hx hs xs 0 (a - xs.length) rfl (by omega) (by omega) with ⟨h1, h2⟩ | h2
    · left
      refine ⟨by omega, Ev.congr hf ?_⟩
      rw [show a - (xs.length + sumS xs) = a - xs.length - sumS xs by omega]; exact h2
    · right; exact Ev.congr hf h2
  · right
    refine Ev.congr (fun k => ?_) (Ev.now _)
    rw [laws_szStringS.f, if_pos (by unfold wrap64; omega)]

theorem toStringS_l0 (xs : List ByteArray) (hx : xs.length ≤ 1048576) :
    ∀ (l : List ByteArray) (i : Nat), xs.drop i = l → i ≤ xs.length →
      Ev (fun k => laws_toStringS.l0 k xs ((xs.take i).map id ++ List.replicate (xs.length - i) (⟨#[]⟩ : ByteArray)) i) (xs.map id)
  | [], i, h, hi => by
    have e := drop_end h hi
    subst e
    refine Ev.step (fun k => by rw [laws_toStringS.l0, if_neg (by omega)]) ?_
    rw [fill_end]; exact Ev.now _
  | x :: l, i, h, hi => by
    have hlt := drop_lt h
    refine Ev.step (fun k => ?_) (toStringS_l0 xs hx l (i + 1) (drop_tail h) (by omega))
    rw [laws_toStringS.l0, if_pos (by omega), if_pos (by omega), fill_len _ _ _ hi, if_pos (by omega), rdOf_drop _ h, Int.toNat_natCast, wrap_succ i (by omega)]
    rw [← fill_set xs id (⟨#[]⟩ : ByteArray) h]
    rfl

theorem toStringS_ev (xs : List ByteArray) (hx : xs.length ≤ 1048576) : Ev (fun k => laws_toStringS.f k xs) xs := by
  have h := toStringS_l0 xs hx xs 0 rfl (by omega)
  rw [List.map_id xs] at h
  refine Ev.congr (fun k => ?_) h
  rw [laws_toStringS.f, if_pos (by omega), Int.toNat_natCast, if_pos (by omega)]
  simp

theorem eqStringS_l0 (xs ys : List ByteArray) (hx : xs.length ≤ 9223372036854775807) (hl : xs.length = ys.length) :
    ∀ (l m : List ByteArray) (i : Nat), xs.drop i = l → ys.drop i = m → i ≤ xs.length → Ev (fun k => laws_eqStringS.l0 k xs ys i) (decide (l = m))
  | [], m, i, h, h2, hi => by
    have e := drop_end h hi
    have e2 : m = [] := by rw [← h2]; exact List.drop_of_length_le (by omega)
    subst e2
    exact Ev.step (fun k => by rw [laws_eqStringS.l0, if_neg (by omega)]) (by simpa using Ev.now true)
  | x :: l, [], i, h, h2, hi => by
    have hlt := drop_lt h
    have := drop_end h2 (by omega)
    omega
  | x :: l, y :: m, i, h, h2, hi => by
    have hlt := drop_lt h
    by_cases hxy : x = y
    · subst hxy
      have ih := eqStringS_l0 xs ys hx hl l m (i + 1) (drop_tail h) (drop_tail h2) (by omega)
      have e : decide (x :: l = x :: m) = decide (l = m) := by simp
      rw [e]
      refine Ev.step (fun k => ?_) ih
      rw [laws_eqStringS.l0, if_pos (by omega), if_pos (by omega), if_pos (by omega), rdOf_drop _ h, rdOf_drop _ h2, if_pos rfl, wrap_succ i (by omega)]
    · have e : decide (x :: l = y :: m) = false := by simp [hxy]
      rw [e]
      refine Ev.step (fun k => ?_) (Ev.now _)
      rw [laws_eqStringS.l0, if_pos (by omega), if_pos (by omega), if_pos (by omega), rdOf_drop _ h, rdOf_drop _ h2, if_neg (fun h => hxy (toList_inj.mp h))]

theorem eqStringS_ev (xs ys : List ByteArray) (hx : xs.length ≤ 9223372036854775807) (hy : ys.length ≤ 9223372036854775807) : Ev (fun k => laws_eqStringS.f k xs ys) (decide (xs = ys)) := by
  by_cases hl : xs.length = ys.length
  · refine Ev.congr (fun k => ?_) (eqStringS_l0 xs ys hx hl xs ys 0 rfl rfl (by omega))
    rw [laws_eqStringS.f, if_pos (by omega)]; rfl
  · have e : decide (xs = ys) = false := decide_eq_false (fun h => hl (by rw [h]))
    rw [e]
    refine Ev.congr (fun k => ?_) (Ev.now _)
    rw [laws_eqStringS.f, if_neg (by omega)]

theorem szBring_ev (st : Int) (f : ByteArray) (xs ys : List ByteArray) (hf : f.size ≤ 9223372036854775807) (hx : xs.length ≤ 9223372036854775807) (gx : ∀ x ∈ xs, x.size ≤ 9223372036854775807) (hy : ys.length ≤ 9223372036854775807) (gy : ∀ x ∈ ys, x.size ≤ 9223372036854775807) (a : Nat) (ha : a ≤ 1048576) :
    (f.size + xs.length + sumS xs + ys.length + sumS ys ≤ a ∧ Ev (fun k => laws_szBring.f k st f xs ys a) ((a - (f.size + xs.length + sumS xs + ys.length + sumS ys) : Nat) : Int)) ∨ Ev (fun k => laws_szBring.f k st f xs ys a) (-1) := by
  unfold laws_szBring.f
  by_cases h1 : f.size ≤ a
  · have e1 : wrap64 ((a : Int) - (f.size : Int)) = ((a - f.size : Nat) : Int) := by unfold wrap64; omega
    have q1 : ¬ (((a - f.size : Nat) : Int) < 0) := by omega
    simp only [e1, if_neg q1]
    rcases szStringS_ev xs hx gx (a - f.size) (by omega) with ⟨h3, e3⟩ | e3
    · have q3 : ¬ (((a - f.size - (xs.length + sumS xs) : Nat) : Int) < 0) := by omega
      rcases szStringS_ev ys hy gy (a - f.size - (xs.length + sumS xs)) (by omega) with ⟨h4, e4⟩ | e4
      · left
        refine ⟨by omega, Ev.bind e3 ?_⟩
        simp only [if_neg q3]
        have q4 : ¬ (((a - f.size - (xs.length + sumS xs) - (ys.length + sumS ys) : Nat) : Int) < 0) := by omega
        refine Ev.bind e4 ?_
        simp only [if_neg q4]
        rw [show a - (f.size + xs.length + sumS xs + ys.length + sumS ys) = a - f.size - (xs.length + sumS xs) - (ys.length + sumS ys) by omega]
        exact Ev.now _
      · right
        refine Ev.bind e3 ?_
        simp only [if_neg q3]
        refine Ev.bind e4 ?_
        simp only [if_pos (show (-1 : Int) < 0 by decide)]
        exact Ev.now _
    · right
      refine Ev.bind e3 ?_
      simp only [if_pos (show (-1 : Int) < 0 by decide)]
      exact Ev.now _
  · right
    have q : wrap64 ((a : Int) - (f.size : Int)) < 0 := by unfold wrap64; omega
    simp only [if_pos q]
    exact Ev.now _
theorem toBring_ev (st : Int) (f : ByteArray) (xs ys : List ByteArray) (hx : xs.length ≤ 1048576) (hy : ys.length ≤ 1048576) : Ev (fun k => laws_toBring.f k st f xs ys) (st, f, xs, ys) := by
  unfold laws_toBring.f
  exact Ev.bind (toStringS_ev xs hx) (Ev.bind (toStringS_ev ys hy) (Ev.now _))
theorem eqBring_ev (st : Int) (f : ByteArray) (xs ys : List ByteArray) (hx : xs.length ≤ 1048576) (hy : ys.length ≤ 1048576) : Ev (fun k => laws_eqBring.f k st f xs ys st f xs ys) true := by
  unfold laws_eqBring.f
  simp only [if_true]
  have ex : Ev (fun k => laws_eqStringS.f k xs xs) true := by have := eqStringS_ev xs xs (by omega) (by omega); simpa using this
  have ey : Ev (fun k => laws_eqStringS.f k ys ys) true := by have := eqStringS_ev ys ys (by omega) (by omega); simpa using this
  refine Ev.bind ex ?_
  simp only [if_true]
  refine Ev.bind ey ?_
  simp only [if_true]
  exact Ev.now _

/-- Mails with their texts' lengths. -/
def sumM : List S80 → Nat
  | [] => 0
  | x :: l => x.f2.size + sumM l
def mailOf (x : S80) : S81 := ⟨x.f0, x.f1, x.f2⟩
theorem rdT_drop1 {xs : List S80} {i : Nat} {x : S80} {l : List S80} (h : xs.drop i = x :: l) : rd_T80 xs (i : Int) = x := drop_getD _ h
theorem rdT_drop2 {xs : List S81} {i : Nat} {x : S81} {l : List S81} (h : xs.drop i = x :: l) : rd_T81 xs (i : Int) = x := drop_getD _ h

theorem szMailS_l0 (xs : List S80) (hx : xs.length ≤ 9223372036854775807) (hs : ∀ x ∈ xs, x.f2.size ≤ 9223372036854775807) :
    ∀ (l : List S80) (i : Nat) (a : Nat), xs.drop i = l → i ≤ xs.length → a ≤ 1048576 →
      (sumM l ≤ a ∧ Ev (fun k => laws_szMailS.l0 k xs a i) ((a - sumM l : Nat) : Int)) ∨ Ev (fun k => laws_szMailS.l0 k xs a i) (-1)
  | [], i, a, h, hi, ha => by
    left
    have e := drop_end h hi
    exact ⟨Nat.zero_le _, Ev.step (fun k => by rw [laws_szMailS.l0, if_neg (by omega)]; rfl) (Ev.now _)⟩
  | x :: l, i, a, h, hi, ha => by
    have hlt := drop_lt h
    have hz : x.f2.size ≤ 9223372036854775807 := hs x (List.mem_of_mem_drop (i := i) (by rw [h]; exact List.mem_cons_self))
    have e := rdT_drop1 h
    by_cases hb : x.f2.size ≤ a
    · have ew : wrap64 ((a : Int) - (x.f2.size : Int)) = ((a - x.f2.size : Nat) : Int) := by unfold wrap64; omega
      have hstep : ∀ k, laws_szMailS.l0 (k + 1) xs a i = laws_szMailS.l0 k xs ((a - x.f2.size : Nat) : Int) ((i + 1 : Nat) : Int) := fun k => by
        rw [laws_szMailS.l0, if_pos (by omega), if_pos (by omega), e, laws_szMail.f, ew, if_neg (by omega), Option.bind_some, if_neg (by omega), wrap_succ i (by omega)]
      rcases szMailS_l0 xs hx hs l (i + 1) (a - x.f2.size) (drop_tail h) (by omega) (by omega) with ⟨h1, h2⟩ | h2
      · left
        refine ⟨by simp only [sumM]; omega, Ev.step hstep ?_⟩
        have e3 : a - sumM (x :: l) = a - x.f2.size - sumM l := by simp only [sumM]; omega
        rw [e3]; exact h2
      · right; exact Ev.step hstep h2
    · right
      refine Ev.step (fun k => ?_) (Ev.now _)
      rw [laws_szMailS.l0, if_pos (by omega), if_pos (by omega), e, laws_szMail.f, if_pos (by unfold wrap64; omega), Option.bind_some, if_pos (by decide)]

theorem szMailS_ev (xs : List S80) (hx : xs.length ≤ 9223372036854775807) (hs : ∀ x ∈ xs, x.f2.size ≤ 9223372036854775807) (a : Nat) (ha : a ≤ 1048576) :
    (xs.length + sumM xs ≤ a ∧ Ev (fun k => laws_szMailS.f k xs a) ((a - (xs.length + sumM xs) : Nat) : Int)) ∨ Ev (fun k => laws_szMailS.f k xs a) (-1) := by
  by_cases hb : xs.length ≤ a
  · have ew : wrap64 ((a : Int) - (xs.length : Int)) = ((a - xs.length : Nat) : Int) := by unfold wrap64; omega
    have hf : ∀ k, laws_szMailS.f k xs a = laws_szMailS.l0 k xs ((a - xs.length : Nat) : Int) ((0 : Nat) : Int) := fun k => by
      rw [laws_szMailS.f, ew, if_neg (by omega)]; rfl
    rcases szMailS_l0 xs hx hs xs 0 (a - xs.length) rfl (by omega) (by omega) with ⟨h1, h2⟩ | h2
    · left
      refine ⟨by omega, Ev.congr hf ?_⟩
      rw [show a - (xs.length + sumM xs) = a - xs.length - sumM xs by omega]; exact h2
    · right; exact Ev.congr hf h2
  · right
    refine Ev.congr (fun k => ?_) (Ev.now _)
    rw [laws_szMailS.f, if_pos (by unfold wrap64; omega)]

theorem toMailS_l0 (xs : List S80) (hx : xs.length ≤ 1048576) :
    ∀ (l : List S80) (i : Nat), xs.drop i = l → i ≤ xs.length →
      Ev (fun k => laws_toMailS.l0 k xs ((xs.take i).map mailOf ++ List.replicate (xs.length - i) z81) i) (xs.map mailOf)
  | [], i, h, hi => by
    have e := drop_end h hi
    subst e
    refine Ev.step (fun k => by rw [laws_toMailS.l0, if_neg (by omega)]) ?_
    rw [fill_end]; exact Ev.now _
  | x :: l, i, h, hi => by
    have hlt := drop_lt h
    refine Ev.step (fun k => ?_) (toMailS_l0 xs hx l (i + 1) (drop_tail h) (by omega))
    rw [laws_toMailS.l0, if_pos (by omega), if_pos (by omega), rdT_drop1 h, laws_toMail.f, Option.bind_some, fill_len _ _ _ hi, if_pos (by omega), Int.toNat_natCast, wrap_succ i (by omega)]
    rw [← fill_set xs mailOf z81 h]
    rfl
theorem toMailS_ev (xs : List S80) (hx : xs.length ≤ 1048576) : Ev (fun k => laws_toMailS.f k xs) (xs.map mailOf) := by
  refine Ev.congr (fun k => ?_) (toMailS_l0 xs hx xs 0 rfl (by omega))
  rw [laws_toMailS.f, if_pos (by omega), Int.toNat_natCast, if_pos (by omega)]
  simp
theorem eqMail_self (a b : Int) (c : ByteArray) : laws_eqMail.f a b c a b c = some true := by
  unfold laws_eqMail.f
  simp only [if_true]
theorem eqMailS_l0 (xs : List S81) (hx : xs.length ≤ 9223372036854775807) :
    ∀ (l : List S81) (i : Nat), xs.drop i = l → i ≤ xs.length → Ev (fun k => laws_eqMailS.l0 k xs xs i) true
  | [], i, h, hi => by
    have e := drop_end h hi
    exact Ev.step (fun k => by rw [laws_eqMailS.l0, if_neg (by omega)]) (Ev.now true)
  | x :: l, i, h, hi => by
    have hlt := drop_lt h
    refine Ev.step (fun k => ?_) (eqMailS_l0 xs hx l (i + 1) (drop_tail h) (by omega))
    rw [laws_eqMailS.l0, if_pos (by omega), if_pos (by omega), if_pos (by omega), rdT_drop2 h, eqMail_self, Option.bind_some, if_pos rfl, wrap_succ i (by omega)]
theorem eqMailS_ev (xs : List S81) (hx : xs.length ≤ 9223372036854775807) : Ev (fun k => laws_eqMailS.f k xs xs) true := by
  refine Ev.congr (fun k => ?_) (eqMailS_l0 xs hx xs 0 rfl (by omega))
  rw [laws_eqMailS.f, if_pos rfl]; rfl

theorem szBoolS_eq (xs : List Bool) (hx : xs.length ≤ 9223372036854775807) (a : Nat) (ha : a ≤ 1048576) :
    (xs.length ≤ a ∧ laws_szBoolS.f xs a = some ((a - xs.length : Nat) : Int)) ∨ laws_szBoolS.f xs a = some (-1) := by
  unfold laws_szBoolS.f
  by_cases h : xs.length ≤ a
  · left
    have ew : wrap64 ((a : Int) - (xs.length : Int)) = ((a - xs.length : Nat) : Int) := by unfold wrap64; omega
    exact ⟨h, by rw [ew, if_neg (by omega)]⟩
  · right
    rw [if_pos (by unfold wrap64; omega)]
theorem toBoolS_l0 (xs : List Bool) (hx : xs.length ≤ 1048576) :
    ∀ (l : List Bool) (i : Nat), xs.drop i = l → i ≤ xs.length → Ev (fun k => laws_toBoolS.l0 k xs ((xs.take i).map id ++ List.replicate (xs.length - i) false) i) (xs.map id)
  | [], i, h, hi => by
    have e := drop_end h hi
    subst e
    refine Ev.step (fun k => by rw [laws_toBoolS.l0, if_neg (by omega)]) ?_
    rw [fill_end]; exact Ev.now _
  | x :: l, i, h, hi => by
    have hlt := drop_lt h
    refine Ev.step (fun k => ?_) (toBoolS_l0 xs hx l (i + 1) (drop_tail h) (by omega))
    rw [laws_toBoolS.l0, if_pos (by omega), if_pos (by omega), fill_len _ _ _ hi, if_pos (by omega), rdOf_drop false h, Int.toNat_natCast, wrap_succ i (by omega)]
    rw [← fill_set xs id false h]
    rfl
theorem toBoolS_ev (xs : List Bool) (hx : xs.length ≤ 1048576) : Ev (fun k => laws_toBoolS.f k xs) xs := by
  have h := toBoolS_l0 xs hx xs 0 rfl (by omega)
  rw [List.map_id xs] at h
  refine Ev.congr (fun k => ?_) h
  rw [laws_toBoolS.f, if_pos (by omega), Int.toNat_natCast, if_pos (by omega)]
  simp
theorem eqBoolS_l0 (xs : List Bool) (hx : xs.length ≤ 9223372036854775807) :
    ∀ (l : List Bool) (i : Nat), xs.drop i = l → i ≤ xs.length → Ev (fun k => laws_eqBoolS.l0 k xs xs i) true
  | [], i, h, hi => by
    have e := drop_end h hi
    exact Ev.step (fun k => by rw [laws_eqBoolS.l0, if_neg (by omega)]) (Ev.now true)
  | x :: l, i, h, hi => by
    have hlt := drop_lt h
    refine Ev.step (fun k => ?_) (eqBoolS_l0 xs hx l (i + 1) (drop_tail h) (by omega))
    rw [laws_eqBoolS.l0, if_pos (by omega), if_pos (by omega), if_pos (by omega), if_neg (by simp), wrap_succ i (by omega)]
theorem eqBoolS_ev (xs : List Bool) (hx : xs.length ≤ 9223372036854775807) : Ev (fun k => laws_eqBoolS.f k xs xs) true := by
  refine Ev.congr (fun k => ?_) (eqBoolS_l0 xs hx xs 0 rfl (by omega))
  rw [laws_eqBoolS.f, if_pos rfl]; rfl

theorem szFetch_ev (st : Int) (u : ByteArray) (xs : List S80) (gs : List Bool) (hu : u.size ≤ 9223372036854775807) (hx : xs.length ≤ 9223372036854775807) (hs : ∀ x ∈ xs, x.f2.size ≤ 9223372036854775807) (hg : gs.length ≤ 9223372036854775807) (a : Nat) (ha : a ≤ 1048576) :
    (u.size + xs.length + sumM xs + gs.length ≤ a ∧ Ev (fun k => laws_szFetch.f k st u xs gs a) ((a - (u.size + xs.length + sumM xs + gs.length) : Nat) : Int)) ∨ Ev (fun k => laws_szFetch.f k st u xs gs a) (-1) := by
  unfold laws_szFetch.f
  by_cases h1 : u.size ≤ a
  · have e1 : wrap64 ((a : Int) - (u.size : Int)) = ((a - u.size : Nat) : Int) := by unfold wrap64; omega
    have q1 : ¬ (((a - u.size : Nat) : Int) < 0) := by omega
    simp only [e1, if_neg q1]
    rcases szMailS_ev xs hx hs (a - u.size) (by omega) with ⟨h3, e3⟩ | e3
    · rcases szBoolS_eq gs hg (a - u.size - (xs.length + sumM xs)) (by omega) with ⟨h4, e4⟩ | e4
      · left
        refine ⟨by omega, Ev.bind e3 ?_⟩
        have q3 : ¬ (((a - u.size - (xs.length + sumM xs) : Nat) : Int) < 0) := by omega
        have q4 : ¬ (((a - u.size - (xs.length + sumM xs) - gs.length : Nat) : Int) < 0) := by omega
        simp only [if_neg q3, e4, Option.bind_some, if_neg q4]
        rw [show a - (u.size + xs.length + sumM xs + gs.length) = a - u.size - (xs.length + sumM xs) - gs.length by omega]
        exact Ev.now _
      · right
        refine Ev.bind e3 ?_
        have q3 : ¬ (((a - u.size - (xs.length + sumM xs) : Nat) : Int) < 0) := by omega
        simp only [if_neg q3, e4, Option.bind_some, if_pos (show (-1 : Int) < 0 by decide)]
        exact Ev.now _
    · right
      refine Ev.bind e3 ?_
      simp only [if_pos (show (-1 : Int) < 0 by decide)]
      exact Ev.now _
  · right
    have q : wrap64 ((a : Int) - (u.size : Int)) < 0 := by unfold wrap64; omega
    simp only [if_pos q]
    exact Ev.now _
theorem toFetch_ev (st : Int) (u : ByteArray) (xs : List S80) (gs : List Bool) (hx : xs.length ≤ 1048576) (hg : gs.length ≤ 1048576) : Ev (fun k => laws_toFetch.f k st u xs gs) (st, u, xs.map mailOf, gs) := by
  unfold laws_toFetch.f
  exact Ev.bind (toMailS_ev xs hx) (Ev.bind (toBoolS_ev gs hg) (Ev.now _))
theorem eqFetch_ev (st : Int) (u : ByteArray) (xs : List S81) (gs : List Bool) (hx : xs.length ≤ 1048576) (hg : gs.length ≤ 1048576) : Ev (fun k => laws_eqFetch.f k st u xs gs st u xs gs) true := by
  unfold laws_eqFetch.f
  simp only [if_true]
  refine Ev.bind (eqMailS_ev xs (by omega)) ?_
  simp only [if_true]
  refine Ev.bind (eqBoolS_ev gs (by omega)) ?_
  simp only [if_true]
  exact Ev.now _

theorem szIntS_eq (xs : List Int) (hx : xs.length ≤ 9223372036854775807) (a : Nat) (ha : a ≤ 1048576) :
    (xs.length ≤ a ∧ laws_szIntS.f xs a = some ((a - xs.length : Nat) : Int)) ∨ laws_szIntS.f xs a = some (-1) := by
  unfold laws_szIntS.f
  by_cases h : xs.length ≤ a
  · left
    have ew : wrap64 ((a : Int) - (xs.length : Int)) = ((a - xs.length : Nat) : Int) := by unfold wrap64; omega
    exact ⟨h, by rw [ew, if_neg (by omega)]⟩
  · right
    rw [if_pos (by unfold wrap64; omega)]
theorem toIntS_l0 (xs : List Int) (hx : xs.length ≤ 1048576) :
    ∀ (l : List Int) (i : Nat), xs.drop i = l → i ≤ xs.length → Ev (fun k => laws_toIntS.l0 k xs ((xs.take i).map id ++ List.replicate (xs.length - i) 0) i) (xs.map id)
  | [], i, h, hi => by
    have e := drop_end h hi
    subst e
    refine Ev.step (fun k => by rw [laws_toIntS.l0, if_neg (by omega)]) ?_
    rw [fill_end]; exact Ev.now _
  | x :: l, i, h, hi => by
    have hlt := drop_lt h
    refine Ev.step (fun k => ?_) (toIntS_l0 xs hx l (i + 1) (drop_tail h) (by omega))
    rw [laws_toIntS.l0, if_pos (by omega), if_pos (by omega), fill_len _ _ _ hi, if_pos (by omega), rd_drop h, Int.toNat_natCast, wrap_succ i (by omega)]
    rw [← fill_set xs id 0 h]
    rfl
theorem toIntS_ev (xs : List Int) (hx : xs.length ≤ 1048576) : Ev (fun k => laws_toIntS.f k xs) xs := by
  have h := toIntS_l0 xs hx xs 0 rfl (by omega)
  rw [List.map_id xs] at h
  refine Ev.congr (fun k => ?_) h
  rw [laws_toIntS.f, if_pos (by omega), Int.toNat_natCast, if_pos (by omega)]
  simp
theorem eqIntS_l0 (xs ys : List Int) (hx : xs.length ≤ 9223372036854775807) (hl : xs.length = ys.length) :
    ∀ (l m : List Int) (i : Nat), xs.drop i = l → ys.drop i = m → i ≤ xs.length → Ev (fun k => laws_eqIntS.l0 k xs ys i) (decide (l = m))
  | [], m, i, h, h2, hi => by
    have e := drop_end h hi
    have e2 : m = [] := by rw [← h2]; exact List.drop_of_length_le (by omega)
    subst e2
    exact Ev.step (fun k => by rw [laws_eqIntS.l0, if_neg (by omega)]) (by simpa using Ev.now true)
  | x :: l, [], i, h, h2, hi => by
    have hlt := drop_lt h
    have := drop_end h2 (by omega)
    omega
  | x :: l, y :: m, i, h, h2, hi => by
    have hlt := drop_lt h
    by_cases hxy : x = y
    · subst hxy
      have ih := eqIntS_l0 xs ys hx hl l m (i + 1) (drop_tail h) (drop_tail h2) (by omega)
      have e : decide (x :: l = x :: m) = decide (l = m) := by simp
      rw [e]
      refine Ev.step (fun k => ?_) ih
      rw [laws_eqIntS.l0, if_pos (by omega), if_pos (by omega), if_pos (by omega), rd_drop h, rd_drop h2, if_pos rfl, wrap_succ i (by omega)]
    · have e : decide (x :: l = y :: m) = false := by simp [hxy]
      rw [e]
      refine Ev.step (fun k => ?_) (Ev.now _)
      rw [laws_eqIntS.l0, if_pos (by omega), if_pos (by omega), if_pos (by omega), rd_drop h, rd_drop h2, if_neg hxy]
theorem eqIntS_ev (xs ys : List Int) (hx : xs.length ≤ 9223372036854775807) (hy : ys.length ≤ 9223372036854775807) : Ev (fun k => laws_eqIntS.f k xs ys) (decide (xs = ys)) := by
  by_cases hl : xs.length = ys.length
  · refine Ev.congr (fun k => ?_) (eqIntS_l0 xs ys hx hl xs ys 0 rfl rfl (by omega))
    rw [laws_eqIntS.f, if_pos (by omega)]; rfl
  · have e : decide (xs = ys) = false := decide_eq_false (fun h => hl (by rw [h]))
    rw [e]
    refine Ev.congr (fun k => ?_) (Ev.now _)
    rw [laws_eqIntS.f, if_neg (by omega)]

theorem szLook_eq (st : Int) (u b : ByteArray) (v : Int) (xs : List Int) (hu : u.size ≤ 9223372036854775807) (hb : b.size ≤ 9223372036854775807) (hx : xs.length ≤ 9223372036854775807) (a : Nat) (ha : a ≤ 1048576) :
    (u.size + b.size + xs.length ≤ a ∧ laws_szLook.f st u b v xs a = some ((a - (u.size + b.size + xs.length) : Nat) : Int)) ∨ laws_szLook.f st u b v xs a = some (-1) := by
  unfold laws_szLook.f
  by_cases h1 : u.size ≤ a
  · have e1 : wrap64 ((a : Int) - (u.size : Int)) = ((a - u.size : Nat) : Int) := by unfold wrap64; omega
    rw [e1, if_neg (by omega)]
    by_cases h2 : b.size ≤ a - u.size
    · have e2 : wrap64 (((a - u.size : Nat) : Int) - (b.size : Int)) = ((a - u.size - b.size : Nat) : Int) := by unfold wrap64; omega
      rw [e2, if_neg (by omega)]
      rcases szIntS_eq xs hx (a - u.size - b.size) (by omega) with ⟨h3, e3⟩ | e3
      · left
        refine ⟨by omega, ?_⟩
        rw [e3, Option.bind_some, if_neg (by omega), show a - (u.size + b.size + xs.length) = a - u.size - b.size - xs.length by omega]
      · right; rw [e3]; rfl
    · right; rw [if_pos (by unfold wrap64; omega)]
  · right; rw [if_pos (by unfold wrap64; omega)]
theorem toLook_ev (st : Int) (u b : ByteArray) (v : Int) (xs : List Int) (hx : xs.length ≤ 1048576) : Ev (fun k => laws_toLook.f k st u b v xs) (st, u, b, v, xs) := by
  unfold laws_toLook.f
  exact Ev.bind (toIntS_ev xs hx) (Ev.now _)
theorem eqLook_ev (st : Int) (u b : ByteArray) (v : Int) (xs : List Int) (hx : xs.length ≤ 1048576) : Ev (fun k => laws_eqLook.f k st u b v xs st u b v xs) true := by
  unfold laws_eqLook.f
  simp only [if_true]
  refine Ev.bind (eqIntS_ev xs xs (by omega) (by omega)) ?_
  simp only [decide_true, if_true]
  exact Ev.now _

theorem strOfNums_one (x : Int) : (strOfNums [x]).size = 1 := rfl
theorem markText_l0 : ∀ (m n : Nat), n ≤ m → n ≤ 1099511627776 → ∀ t : ByteArray, t.size + n ≤ 2199023255552 → ∃ r, Ev (fun k => laws_markText.l0 k n t) r
  | m, 0, _, _, t, ht => ⟨_, Ev.step (fun k => by rw [laws_markText.l0, if_neg (by omega), if_pos (by omega)]) (Ev.now _)⟩
  | 0, n + 1, h, _, _, _ => absurd h (by omega)
  | m + 1, n + 1, h, hn, t, ht => by
    have e1 : Int.tdiv ((n + 1 : Nat) : Int) 10 = (((n + 1) / 10 : Nat) : Int) := rfl
    have e2 : wrap64 (Int.tdiv ((n + 1 : Nat) : Int) 10) = (((n + 1) / 10 : Nat) : Int) := by rw [e1]; exact wrap_nat _ _ rfl (by omega)
    have hs : ((strOfNums [wrap64 (48 + (Int.tmod ((n + 1 : Nat) : Int) 10)) % 256]) ++ t).size = 1 + t.size := by rw [ByteArray.size_append, strOfNums_one]
    obtain ⟨r, hr⟩ := markText_l0 m ((n + 1) / 10) (by omega) (by omega) ((strOfNums [wrap64 (48 + (Int.tmod ((n + 1 : Nat) : Int) 10)) % 256]) ++ t) (by rw [hs]; omega)
    refine ⟨r, Ev.step (fun k => ?_) hr⟩
    rw [laws_markText.l0, if_pos (by omega), Option.bind_some, strOfNums_one, if_pos (by omega), e2]
theorem markText_some (n : Nat) (h : n ≤ 1099511627776) : ∃ r, Ev (fun k => laws_markText.f k n) r := by
  unfold laws_markText.f
  by_cases c : (n : Int) ≤ 0
  · simp only [if_pos c]; exact ⟨_, Ev.now _⟩
  · simp only [if_neg c]
    exact markText_l0 n n (Nat.le_refl _) h _ (by show 0 + n ≤ _; omega)
open Classical in
noncomputable def mt (n : Nat) : ByteArray := if h : ∃ r, Ev (fun k => laws_markText.f k n) r then Classical.choose h else ByteArray.empty
theorem markText_ev (n : Nat) (h : n ≤ 1099511627776) : Ev (fun k => laws_markText.f k n) (mt n) := by
  unfold mt
  rw [dif_pos (markText_some n h)]
  exact Classical.choose_spec (markText_some n h)
noncomputable def marks : Nat → Nat → List ByteArray
  | _, 0 => []
  | c, n + 1 => mt c :: marks (c + 1) n
theorem marks_length : ∀ n c, (marks c n).length = n
  | 0, _ => rfl
  | n + 1, c => by rw [marks, List.length_cons, marks_length n]
theorem take_set_snoc {α : Type} (v : α) : ∀ (xs : List α) (i : Nat), i < xs.length → (xs.set i v).take (i + 1) = xs.take i ++ [v]
  | [], i, h => absurd h (by simp)
  | x :: l, 0, _ => rfl
  | x :: l, i + 1, h => by
    have := take_set_snoc v l i (by simpa using h)
    simp only [List.set_cons_succ, List.take_succ_cons, this, List.cons_append]
theorem markStringS_l0 : ∀ (n i c : Nat) (xs : List ByteArray), i + n = xs.length → c + n ≤ 1099511627776 → i + n ≤ 1099511627776 →
    Ev (fun k => laws_markStringS.l0 k xs c i) (((c + n : Nat) : Int), xs.take i ++ marks c n)
  | 0, i, c, xs, h, hc, hi => by
    rw [show xs.take i = xs from List.take_of_length_le (by omega)]
    exact Ev.step (fun k => by rw [laws_markStringS.l0, if_neg (by omega)]; simp [marks]) (Ev.now _)
  | n + 1, i, c, xs, h, hc, hi => by
    have ih := markStringS_l0 n (i + 1) (c + 1) (xs.set i (mt c)) (by rw [List.length_set]; omega) (by omega) (by omega)
    rw [take_set_snoc (mt c) xs i (by omega), List.append_assoc, show c + 1 + n = c + (n + 1) by omega] at ih
    refine Ev.step (f := fun k => (laws_markText.f k c).bind fun t => if 0 ≤ (i : Int) then laws_markStringS.l0 k (xs.set i t) ((c + 1 : Nat) : Int) ((i + 1 : Nat) : Int) else none) (fun k => ?_) (Ev.bind (markText_ev c (by omega)) ?_)
    · rw [laws_markStringS.l0, if_pos (by omega), wrap_succ c (by omega), wrap_succ i (by omega), Int.toNat_natCast]
    · simp only [if_pos (show 0 ≤ (i : Int) by omega)]
      exact ih
theorem heldStringS_l0 (xs : List ByteArray) : ∀ (n i c : Nat), xs.drop i = marks c n → i + n = xs.length → c + n ≤ 1099511627776 → i + n ≤ 1099511627776 →
    Ev (fun k => laws_heldStringS.l0 k xs c i) ((c + n : Nat) : Int)
  | 0, i, c, hd, h, hc, hi => Ev.step (fun k => by rw [laws_heldStringS.l0, if_neg (by omega)]; rfl) (Ev.now _)
  | n + 1, i, c, hd, h, hc, hi => by
    have ih := heldStringS_l0 xs n (i + 1) (c + 1) (drop_tail hd) (by omega) (by omega) (by omega)
    rw [show c + 1 + n = c + (n + 1) by omega] at ih
    refine Ev.step (f := fun k => if 0 ≤ (i : Int) then ((laws_markText.f k c).bind fun t => if (mt c).toList = t.toList then laws_heldStringS.l0 k xs ((c + 1 : Nat) : Int) ((i + 1 : Nat) : Int) else some (-1)) else none) (fun k => ?_) ?_
    · rw [laws_heldStringS.l0, if_pos (by omega), wrap_succ c (by omega), wrap_succ i (by omega), rdOf_drop _ hd]
    · simp only [if_pos (show 0 ≤ (i : Int) by omega)]
      refine Ev.bind (markText_ev c (by omega)) ?_
      simp only [if_true]
      exact ih
theorem markStringS_ev (xs : List ByteArray) (c : Nat) (h : xs.length ≤ 1099511627776) (hc : c + xs.length ≤ 1099511627776) : Ev (fun k => laws_markStringS.f k xs c) (((c + xs.length : Nat) : Int), marks c xs.length) :=
  Ev.congr (fun k => rfl) (markStringS_l0 xs.length 0 c xs (by omega) hc (by omega))
theorem heldStringS_ev (n c : Nat) (h : n ≤ 1099511627776) (hc : c + n ≤ 1099511627776) : Ev (fun k => laws_heldStringS.f k (marks c n) c) ((c + n : Nat) : Int) :=
  Ev.congr (fun k => rfl) (heldStringS_l0 (marks c n) n 0 c rfl (by rw [marks_length]; omega) hc (by omega))

def marksI : Nat → Nat → List Int
  | _, 0 => []
  | c, n + 1 => (c : Int) :: marksI (c + 1) n
theorem marksI_length : ∀ n c, (marksI c n).length = n
  | 0, _ => rfl
  | n + 1, c => by rw [marksI, List.length_cons, marksI_length n]
theorem markIntS_l0 : ∀ (n i c : Nat) (xs : List Int), i + n = xs.length → c + n ≤ 1099511627776 → i + n ≤ 1099511627776 →
    Ev (fun k => laws_markIntS.l0 k xs c i) (((c + n : Nat) : Int), xs.take i ++ marksI c n)
  | 0, i, c, xs, h, hc, hi => by
    rw [show xs.take i = xs from List.take_of_length_le (by omega)]
    exact Ev.step (fun k => by rw [laws_markIntS.l0, if_neg (by omega)]; simp [marksI]) (Ev.now _)
  | n + 1, i, c, xs, h, hc, hi => by
    have ih := markIntS_l0 n (i + 1) (c + 1) (xs.set i c) (by rw [List.length_set]; omega) (by omega) (by omega)
    rw [take_set_snoc (c : Int) xs i (by omega), List.append_assoc, show c + 1 + n = c + (n + 1) by omega] at ih
    refine Ev.step (fun k => ?_) ih
    rw [laws_markIntS.l0, if_pos (by omega), if_pos (by omega), wrap_succ c (by omega), wrap_succ i (by omega), Int.toNat_natCast]
theorem heldIntS_l0 (xs : List Int) : ∀ (n i c : Nat), xs.drop i = marksI c n → i + n = xs.length → c + n ≤ 1099511627776 → i + n ≤ 1099511627776 →
    Ev (fun k => laws_heldIntS.l0 k xs c i) ((c + n : Nat) : Int)
  | 0, i, c, hd, h, hc, hi => Ev.step (fun k => by rw [laws_heldIntS.l0, if_neg (by omega)]; rfl) (Ev.now _)
  | n + 1, i, c, hd, h, hc, hi => by
    have ih := heldIntS_l0 xs n (i + 1) (c + 1) (drop_tail hd) (by omega) (by omega) (by omega)
    rw [show c + 1 + n = c + (n + 1) by omega] at ih
    refine Ev.step (fun k => ?_) ih
    rw [laws_heldIntS.l0, if_pos (by omega), if_pos (by omega), rd_drop hd, if_pos rfl, wrap_succ c (by omega), wrap_succ i (by omega)]
theorem markIntS_ev (xs : List Int) (c : Nat) (h : xs.length ≤ 1099511627776) (hc : c + xs.length ≤ 1099511627776) : Ev (fun k => laws_markIntS.f k xs c) (((c + xs.length : Nat) : Int), marksI c xs.length) :=
  Ev.congr (fun k => rfl) (markIntS_l0 xs.length 0 c xs (by omega) hc (by omega))
theorem heldIntS_ev (n c : Nat) (h : n ≤ 1099511627776) (hc : c + n ≤ 1099511627776) : Ev (fun k => laws_heldIntS.f k (marksI c n) c) ((c + n : Nat) : Int) :=
  Ev.congr (fun k => rfl) (heldIntS_l0 (marksI c n) n 0 c rfl (by rw [marksI_length]; omega) hc (by omega))
def marksB : Nat → Nat → List Bool
  | _, 0 => []
  | c, n + 1 => (Int.tmod (c : Int) 3 == 0) :: marksB (c + 1) n
theorem marksB_length : ∀ n c, (marksB c n).length = n
  | 0, _ => rfl
  | n + 1, c => by rw [marksB, List.length_cons, marksB_length n]
theorem markBoolS_l0 : ∀ (n i c : Nat) (xs : List Bool), i + n = xs.length → c + n ≤ 1099511627776 → i + n ≤ 1099511627776 →
    Ev (fun k => laws_markBoolS.l0 k xs c i) (((c + n : Nat) : Int), xs.take i ++ marksB c n)
  | 0, i, c, xs, h, hc, hi => by
    rw [show xs.take i = xs from List.take_of_length_le (by omega)]
    exact Ev.step (fun k => by rw [laws_markBoolS.l0, if_neg (by omega)]; simp [marksB]) (Ev.now _)
  | n + 1, i, c, xs, h, hc, hi => by
    have ih := markBoolS_l0 n (i + 1) (c + 1) (xs.set i (Int.tmod (c : Int) 3 == 0)) (by rw [List.length_set]; omega) (by omega) (by omega)
    rw [take_set_snoc _ xs i (by omega), List.append_assoc, show c + 1 + n = c + (n + 1) by omega] at ih
    refine Ev.step (fun k => ?_) ih
    rw [laws_markBoolS.l0, if_pos (by omega), if_pos (by omega), wrap_succ c (by omega), wrap_succ i (by omega), Int.toNat_natCast]
theorem heldBoolS_l0 (xs : List Bool) : ∀ (n i c : Nat), xs.drop i = marksB c n → i + n = xs.length → c + n ≤ 1099511627776 → i + n ≤ 1099511627776 →
    Ev (fun k => laws_heldBoolS.l0 k xs c i) ((c + n : Nat) : Int)
  | 0, i, c, hd, h, hc, hi => Ev.step (fun k => by rw [laws_heldBoolS.l0, if_neg (by omega)]; rfl) (Ev.now _)
  | n + 1, i, c, hd, h, hc, hi => by
    have ih := heldBoolS_l0 xs n (i + 1) (c + 1) (drop_tail hd) (by omega) (by omega) (by omega)
    rw [show c + 1 + n = c + (n + 1) by omega] at ih
    refine Ev.step (fun k => ?_) ih
    rw [laws_heldBoolS.l0, if_pos (by omega), if_pos (by omega), rdOf_drop _ hd, if_neg (by simp), wrap_succ c (by omega), wrap_succ i (by omega)]
theorem markBoolS_ev (xs : List Bool) (c : Nat) (h : xs.length ≤ 1099511627776) (hc : c + xs.length ≤ 1099511627776) : Ev (fun k => laws_markBoolS.f k xs c) (((c + xs.length : Nat) : Int), marksB c xs.length) :=
  Ev.congr (fun k => rfl) (markBoolS_l0 xs.length 0 c xs (by omega) hc (by omega))
theorem heldBoolS_ev (n c : Nat) (h : n ≤ 1099511627776) (hc : c + n ≤ 1099511627776) : Ev (fun k => laws_heldBoolS.f k (marksB c n) c) ((c + n : Nat) : Int) :=
  Ev.congr (fun k => rfl) (heldBoolS_l0 (marksB c n) n 0 c rfl (by rw [marksB_length]; omega) hc (by omega))
noncomputable def marksM : Nat → Nat → List S81
  | _, 0 => []
  | c, n + 1 => ⟨(c : Int), ((c + 1 : Nat) : Int), mt (c + 2)⟩ :: marksM (c + 3) n
theorem marksM_length : ∀ n c, (marksM c n).length = n
  | 0, _ => rfl
  | n + 1, c => by rw [marksM, List.length_cons, marksM_length n]
theorem rdM_set (xs : List S81) (i : Nat) (v : S81) (h : i < xs.length) : rd_T81 (xs.set i v) (i : Int) = v := by
  unfold rd_T81
  rw [Int.toNat_natCast, List.getD_eq_getElem?_getD, List.getElem?_set_self h]
  rfl
theorem rdM_drop {xs : List S81} {i : Nat} {x : S81} {l : List S81} (h : xs.drop i = x :: l) : rd_T81 xs (i : Int) = x := drop_getD _ h
theorem markMailS_l0 : ∀ (n i c : Nat) (xs : List S81), i + n = xs.length → c + 3 * n ≤ 1099511627776 → i + n ≤ 1099511627776 →
    Ev (fun k => laws_markMailS.l0 k xs c i) (((c + 3 * n : Nat) : Int), xs.take i ++ marksM c n)
  | 0, i, c, xs, h, hc, hi => by
    rw [show xs.take i = xs from List.take_of_length_le (by omega)]
    exact Ev.step (fun k => by rw [laws_markMailS.l0, if_neg (by omega)]; simp [marksM]) (Ev.now _)
  | n + 1, i, c, xs, h, hc, hi => by
    have hlt : i < xs.length := by omega
    have ih := markMailS_l0 n (i + 1) (c + 3) (xs.set i ⟨(c : Int), ((c + 1 : Nat) : Int), mt (c + 2)⟩) (by rw [List.length_set]; omega) (by omega) (by omega)
    rw [take_set_snoc _ xs i hlt, List.append_assoc, show c + 3 + 3 * n = c + 3 * (n + 1) by omega] at ih
    refine Ev.step (f := fun k => (laws_markText.f k ((c + 2 : Nat) : Int)).bind fun t => laws_markMailS.l0 k (xs.set i ⟨(c : Int), ((c + 1 : Nat) : Int), t⟩) ((c + 3 : Nat) : Int) ((i + 1 : Nat) : Int)) (fun k => ?_) (Ev.bind (markText_ev (c + 2) (by omega)) ih)
    rw [laws_markMailS.l0, if_pos (by omega), if_pos (by omega), Option.bind_some, Option.bind_some, wrap_succ c (by omega), wrap_succ (c + 1) (by omega), wrap_succ (c + 1 + 1) (by omega), wrap_succ i (by omega), Int.toNat_natCast]
    simp only [List.set_set, rdM_set xs i _ hlt]
theorem heldMailS_l0 (xs : List S81) : ∀ (n i c : Nat), xs.drop i = marksM c n → i + n = xs.length → c + 3 * n ≤ 1099511627776 → i + n ≤ 1099511627776 →
    Ev (fun k => laws_heldMailS.l0 k xs c i) ((c + 3 * n : Nat) : Int)
  | 0, i, c, hd, h, hc, hi => Ev.step (fun k => by rw [laws_heldMailS.l0, if_neg (by omega)]; rfl) (Ev.now _)
  | n + 1, i, c, hd, h, hc, hi => by
    have ih := heldMailS_l0 xs n (i + 1) (c + 3) (drop_tail hd) (by omega) (by omega) (by omega)
    rw [show c + 3 + 3 * n = c + 3 * (n + 1) by omega] at ih
    refine Ev.step (f := fun k => (laws_markText.f k ((c + 2 : Nat) : Int)).bind fun t => if (mt (c + 2)).toList = t.toList then laws_heldMailS.l0 k xs ((c + 3 : Nat) : Int) ((i + 1 : Nat) : Int) else some (-1)) (fun k => ?_) ?_
    · rw [laws_heldMailS.l0, if_pos (by omega), if_pos (by omega), rdM_drop hd, if_pos rfl, wrap_succ c (by omega), if_pos rfl, wrap_succ (c + 1) (by omega), wrap_succ (c + 1 + 1) (by omega), wrap_succ i (by omega)]
    · refine Ev.bind (markText_ev (c + 2) (by omega)) ?_
      simp only [if_true]
      exact ih
theorem markMailS_ev (xs : List S81) (c : Nat) (h : xs.length ≤ 1099511627776) (hc : c + 3 * xs.length ≤ 1099511627776) : Ev (fun k => laws_markMailS.f k xs c) (((c + 3 * xs.length : Nat) : Int), marksM c xs.length) :=
  Ev.congr (fun k => rfl) (markMailS_l0 xs.length 0 c xs (by omega) hc (by omega))
theorem heldMailS_ev (n c : Nat) (h : n ≤ 1099511627776) (hc : c + 3 * n ≤ 1099511627776) : Ev (fun k => laws_heldMailS.f k (marksM c n) c) ((c + 3 * n : Nat) : Int) :=
  Ev.congr (fun k => rfl) (heldMailS_l0 (marksM c n) n 0 c rfl (by rw [marksM_length]; omega) hc (by omega))

section
variable (a0 : Int) (a1 a2 : ByteArray) (a3 : Bool) (a4 : Int) (a5 : ByteArray) (l6 l7 : List ByteArray) (a8 : Int) (a9 : ByteArray) (l10 : List S80) (m10 : List S81) (l11 : List Bool) (a12 : Int) (a13 a14 : ByteArray) (a15 : Int) (l16 : List Int)
theorem szSession_ev (h1 : a1.size ≤ 9223372036854775807) (h2 : a2.size ≤ 9223372036854775807) (h5 : a5.size ≤ 9223372036854775807) (h6 : l6.length ≤ 9223372036854775807) (g6 : ∀ x ∈ l6, x.size ≤ 9223372036854775807) (h7 : l7.length ≤ 9223372036854775807) (g7 : ∀ x ∈ l7, x.size ≤ 9223372036854775807)
    (h9 : a9.size ≤ 9223372036854775807) (h10 : l10.length ≤ 9223372036854775807) (g10 : ∀ x ∈ l10, x.f2.size ≤ 9223372036854775807) (h11 : l11.length ≤ 9223372036854775807) (h13 : a13.size ≤ 9223372036854775807) (h14 : a14.size ≤ 9223372036854775807) (h16 : l16.length ≤ 9223372036854775807) :
    ((a1.size ≤ 1048576 ∧ a2.size ≤ 1048576 ∧ l6.length ≤ 1048576 ∧ l7.length ≤ 1048576 ∧ l10.length ≤ 1048576 ∧ l11.length ≤ 1048576 ∧ l16.length ≤ 1048576) ∧ ∃ r : Nat, Ev (fun k => laws_szSession.f k a0 a1 a2 a3 a4 a5 l6 l7 a8 a9 l10 l11 a12 a13 a14 a15 l16 1048576) (r : Int)) ∨ Ev (fun k => laws_szSession.f k a0 a1 a2 a3 a4 a5 l6 l7 a8 a9 l10 l11 a12 a13 a14 a15 l16 1048576) (-1) := by
  unfold laws_szSession.f
  have nn : ∀ n : Nat, ¬ ((n : Int) < 0) := fun n => by omega
  have m1 : (-1 : Int) < 0 := by decide
  by_cases q1 : a1.size ≤ 1048576
  case neg =>
    right
    simp only [if_pos (show wrap64 ((1048576 : Int) - (a1.size : Int)) < 0 by unfold wrap64; omega)]
    exact Ev.now _
  have e1 : wrap64 ((1048576 : Int) - (a1.size : Int)) = ((1048576 - a1.size : Nat) : Int) := by unfold wrap64; omega
  simp only [e1, if_neg (nn _)]
  by_cases q2 : a2.size ≤ 1048576 - a1.size
  case neg =>
    right
    simp only [if_pos (show wrap64 (((1048576 - a1.size : Nat) : Int) - (a2.size : Int)) < 0 by unfold wrap64; omega)]
    exact Ev.now _
  have e2 : wrap64 (((1048576 - a1.size : Nat) : Int) - (a2.size : Int)) = ((1048576 - a1.size - a2.size : Nat) : Int) := by unfold wrap64; omega
  simp only [e2, if_neg (nn _)]
  rcases szBring_ev a4 a5 l6 l7 h5 h6 g6 h7 g7 (1048576 - a1.size - a2.size) (by omega) with ⟨h3, e3⟩ | e3
  case inr => right; refine Ev.bind e3 ?_; simp only [if_pos m1]; exact Ev.now _
  rcases szFetch_ev a8 a9 l10 l11 h9 h10 g10 h11 (1048576 - a1.size - a2.size - (a5.size + l6.length + sumS l6 + l7.length + sumS l7)) (by omega) with ⟨h4, e4⟩ | e4
  case inr => right; refine Ev.bind e3 ?_; simp only [if_neg (nn _)]; refine Ev.bind e4 ?_; simp only [if_pos m1]; exact Ev.now _
  rcases szLook_eq a12 a13 a14 a15 l16 h13 h14 h16 (1048576 - a1.size - a2.size - (a5.size + l6.length + sumS l6 + l7.length + sumS l7) - (a9.size + l10.length + sumM l10 + l11.length)) (by omega) with ⟨h5, e5⟩ | e5
  case inr => right; refine Ev.bind e3 ?_; simp only [if_neg (nn _)]; refine Ev.bind e4 ?_; simp only [if_neg (nn _), e5, Option.bind_some, if_pos m1]; exact Ev.now _
  left
  refine ⟨⟨by omega, by omega, by omega, by omega, by omega, by omega, by omega⟩, 1048576 - a1.size - a2.size - (a5.size + l6.length + sumS l6 + l7.length + sumS l7) - (a9.size + l10.length + sumM l10 + l11.length) - (a13.size + a14.size + l16.length), Ev.bind e3 ?_⟩
  simp only [if_neg (nn _)]
  refine Ev.bind e4 ?_
  simp only [if_neg (nn _), e5, Option.bind_some]
  exact Ev.now _
theorem toSession_ev (h6 : l6.length ≤ 1048576) (h7 : l7.length ≤ 1048576) (h10 : l10.length ≤ 1048576) (h11 : l11.length ≤ 1048576) (h16 : l16.length ≤ 1048576) :
    Ev (fun k => laws_toSession.f k a0 a1 a2 a3 a4 a5 l6 l7 a8 a9 l10 l11 a12 a13 a14 a15 l16) (a0, a1, a2, a3, a4, a5, l6, l7, a8, a9, l10.map mailOf, l11, a12, a13, a14, a15, l16) := by
  unfold laws_toSession.f
  exact Ev.bind (toBring_ev a4 a5 l6 l7 h6 h7) (Ev.bind (toFetch_ev a8 a9 l10 l11 h10 h11) (Ev.bind (toLook_ev a12 a13 a14 a15 l16 h16) (Ev.now _)))
theorem eqSession_ev (h6 : l6.length ≤ 1048576) (h7 : l7.length ≤ 1048576) (h10 : m10.length ≤ 1048576) (h11 : l11.length ≤ 1048576) (h16 : l16.length ≤ 1048576) :
    Ev (fun k => laws_eqSession.f k a0 a1 a2 a3 a4 a5 l6 l7 a8 a9 m10 l11 a12 a13 a14 a15 l16 a0 a1 a2 a3 a4 a5 l6 l7 a8 a9 m10 l11 a12 a13 a14 a15 l16) true := by
  unfold laws_eqSession.f
  simp only [if_true, bne_self_eq_false, if_neg (show ¬ (false = true) by decide)]
  refine Ev.bind (eqBring_ev a4 a5 l6 l7 h6 h7) ?_
  simp only [if_true]
  refine Ev.bind (eqFetch_ev a8 a9 m10 l11 h10 h11) ?_
  simp only [if_true]
  refine Ev.bind (eqLook_ev a12 a13 a14 a15 l16 h16) ?_
  simp only [if_true]
  exact Ev.now _
noncomputable def mS : Nat → Nat → List ByteArray := marks
theorem markSession_ev (c : Nat) (hc : c ≤ 1048576) (h6 : l6.length ≤ 1048576) (h7 : l7.length ≤ 1048576) (h10 : m10.length ≤ 1048576) (h11 : l11.length ≤ 1048576) (h16 : l16.length ≤ 1048576) :
    Ev (fun k => laws_markSession.f k a0 a1 a2 a3 a4 a5 l6 l7 a8 a9 m10 l11 a12 a13 a14 a15 l16 (c : Int))
      (((c + l6.length + l7.length + 3 * m10.length + l11.length + l16.length : Nat) : Int), marks c l6.length, marks (c + l6.length) l7.length, marksM (c + l6.length + l7.length) m10.length, marksB (c + l6.length + l7.length + 3 * m10.length) l11.length, marksI (c + l6.length + l7.length + 3 * m10.length + l11.length) l16.length) := by
  unfold laws_markSession.f laws_markBring.f laws_markFetch.f laws_markLook.f
  refine Ev.bind (Ev.bind (markStringS_ev l6 c (by omega) (by omega)) (Ev.bind (markStringS_ev l7 (c + l6.length) (by omega) (by omega)) (Ev.now _))) ?_
  refine Ev.bind (Ev.bind (markMailS_ev m10 (c + l6.length + l7.length) (by omega) (by omega)) (Ev.bind (markBoolS_ev l11 (c + l6.length + l7.length + 3 * m10.length) (by omega) (by omega)) (Ev.now _))) ?_
  refine Ev.bind (Ev.bind (markIntS_ev l16 (c + l6.length + l7.length + 3 * m10.length + l11.length) (by omega) (by omega)) (Ev.now _)) ?_
  exact Ev.now _
theorem heldSession_ev (c n6 n7 n10 n11 n16 : Nat) (hc : c ≤ 1048576) (h6 : n6 ≤ 1048576) (h7 : n7 ≤ 1048576) (h10 : n10 ≤ 1048576) (h11 : n11 ≤ 1048576) (h16 : n16 ≤ 1048576) :
    Ev (fun k => laws_heldSession.f k a0 a1 a2 a3 a4 a5 (marks c n6) (marks (c + n6) n7) a8 a9 (marksM (c + n6 + n7) n10) (marksB (c + n6 + n7 + 3 * n10) n11) a12 a13 a14 a15 (marksI (c + n6 + n7 + 3 * n10 + n11) n16) (c : Int))
      ((c + n6 + n7 + 3 * n10 + n11 + n16 : Nat) : Int) := by
  have nn : ∀ n : Nat, ¬ ((n : Int) < 0) := fun n => by omega
  unfold laws_heldSession.f laws_heldBring.f laws_heldFetch.f laws_heldLook.f
  have hB : Ev (fun k => (laws_heldStringS.f k (marks c n6) c).bind fun t164 => (if t164 < 0 then (some (-1)) else ((laws_heldStringS.f k (marks (c + n6) n7) t164).bind fun t165 => (if t165 < 0 then (some (-1)) else (some t165))))) ((c + n6 + n7 : Nat) : Int) := by
    refine Ev.bind (heldStringS_ev n6 c (by omega) (by omega)) ?_
    simp only [if_neg (nn _)]
    refine Ev.bind (heldStringS_ev n7 (c + n6) (by omega) (by omega)) ?_
    simp only [if_neg (nn _)]
    exact Ev.now _
  have hF : Ev (fun k => (laws_heldMailS.f k (marksM (c + n6 + n7) n10) ((c + n6 + n7 : Nat) : Int)).bind fun t172 => (if t172 < 0 then (some (-1)) else ((laws_heldBoolS.f k (marksB (c + n6 + n7 + 3 * n10) n11) t172).bind fun t173 => (if t173 < 0 then (some (-1)) else (some t173))))) ((c + n6 + n7 + 3 * n10 + n11 : Nat) : Int) := by
    refine Ev.bind (heldMailS_ev n10 (c + n6 + n7) (by omega) (by omega)) ?_
    simp only [if_neg (nn _)]
    refine Ev.bind (heldBoolS_ev n11 (c + n6 + n7 + 3 * n10) (by omega) (by omega)) ?_
    simp only [if_neg (nn _)]
    exact Ev.now _
  have hL : Ev (fun k => (laws_heldIntS.f k (marksI (c + n6 + n7 + 3 * n10 + n11) n16) ((c + n6 + n7 + 3 * n10 + n11 : Nat) : Int)).bind fun t176 => (if t176 < 0 then (some (-1)) else (some t176))) ((c + n6 + n7 + 3 * n10 + n11 + n16 : Nat) : Int) := by
    refine Ev.bind (heldIntS_ev n16 (c + n6 + n7 + 3 * n10 + n11) (by omega) (by omega)) ?_
    simp only [if_neg (nn _)]
    exact Ev.now _
  refine Ev.bind hB ?_
  simp only [if_neg (nn _)]
  refine Ev.bind hF ?_
  simp only [if_neg (nn _)]
  refine Ev.bind hL ?_
  simp only [if_neg (nn _)]
  exact Ev.now _
end

section
variable (a0 : Int) (a1 a2 : ByteArray) (a3 : Bool) (a4 : Int) (a5 : ByteArray) (l6 l7 : List ByteArray) (a8 : Int) (a9 : ByteArray) (m10 : List S81) (l11 : List Bool) (a12 : Int) (a13 a14 : ByteArray) (a15 : Int) (l16 : List Int) (a : ByteArray)
def fedIn : ByteArray := if a3 = true ∨ a1.size + a.size > 400 then a1 else a1 ++ a
def fedOk : Bool := if a3 = true ∨ a1.size + a.size > 400 then false else true
theorem spec_FeedSession_eq (h1 : a1.size ≤ 1048576) (ha : a.size ≤ 1048576) (h6 : l6.length ≤ 1048576) (h7 : l7.length ≤ 1048576) (h10 : m10.length ≤ 1048576) (h11 : l11.length ≤ 1048576) (h16 : l16.length ≤ 1048576) :
    spec_FeedSession.f a0 a1 a2 a3 a4 a5 l6 l7 a8 a9 m10 l11 a12 a13 a14 a15 l16 a = some (a0, fedIn a1 a3 a, a2, a3, a4, a5, l6, l7, a8, a9, m10, l11, a12, a13, a14, a15, l16, fedOk a1 a3 a) := by
  have e : wrap64 ((a1.size : Int) + (a.size : Int)) = (a1.size : Int) + (a.size : Int) := by unfold wrap64; omega
  unfold spec_FeedSession.f spec_l22Copy.f spec_l19Copy.f spec_l20Copy.f spec_l21Copy.f fedIn fedOk
  simp only [Option.bind_some, List.length_nil, List.nil_append, if_pos (show 0 + l6.length < 8796093022208 by omega), if_pos (show 0 + l7.length < 8796093022208 by omega), if_pos (show 0 + m10.length < 4398046511104 by omega), if_pos (show 0 + l11.length < 140737488355328 by omega), if_pos (show 0 + l16.length < 17592186044416 by omega), if_pos (show a1.size + a.size ≤ 9223372036854775807 by omega), e]
  by_cases c3 : a3 = true
  · simp only [if_pos c3, if_pos (Or.inl c3 : a3 = true ∨ a1.size + a.size > 400)]
  simp only [if_neg c3]
  by_cases c : a1.size + a.size > 400
  · simp only [if_pos (Or.inr c : a3 = true ∨ a1.size + a.size > 400)]
    by_cases c4 : (a.size : Int) > 400
    · simp only [if_pos c4]
    · simp only [if_neg c4, if_pos (show (a1.size : Int) + (a.size : Int) > 400 by omega)]
  · simp only [if_neg (show ¬ (a3 = true ∨ a1.size + a.size > 400) from fun h => h.elim c3 c), if_neg (show ¬ ((a.size : Int) > 400) by omega), if_neg (show ¬ ((a1.size : Int) + (a.size : Int) > 400) by omega)]
theorem impl_FeedSession_eq (h1 : a1.size ≤ 1048576) (ha : a.size ≤ 1048576) (h6 : l6.length ≤ 1048576) (h7 : l7.length ≤ 1048576) (h10 : m10.length ≤ 1048576) (h11 : l11.length ≤ 1048576) (h16 : l16.length ≤ 1048576) :
    impl_FeedSession.f a0 a1 a2 a3 a4 a5 l6 l7 a8 a9 m10 l11 a12 a13 a14 a15 l16 a = some (a0, fedIn a1 a3 a, a2, a3, a4, a5, l6, l7, a8, a9, m10, l11, a12, a13, a14, a15, l16, fedOk a1 a3 a) := by
  have e : wrap64 (400 - (a1.size : Int)) = 400 - (a1.size : Int) := by unfold wrap64; omega
  unfold impl_FeedSession.f impl_cloneSession.f impl_cloneBring.f impl_cloneFetch.f impl_cloneLook.f slices_Clone_string_string.f impl_Mail.f slices_Clone_bool_bool.f slices_Clone_int_int.f fedIn fedOk
  simp only [Option.bind_some, List.length_nil, List.nil_append, if_pos (show 0 + l6.length < 8796093022208 by omega), if_pos (show 0 + l7.length < 8796093022208 by omega), if_pos (show 0 + m10.length < 4398046511104 by omega), if_pos (show 0 + l11.length < 140737488355328 by omega), if_pos (show 0 + l16.length < 17592186044416 by omega), if_pos (show a1.size + a.size ≤ 9223372036854775807 by omega), e]
  by_cases c3 : a3 = true
  · simp only [if_pos c3, if_pos (Or.inl c3 : a3 = true ∨ a1.size + a.size > 400)]
  simp only [if_neg c3]
  by_cases c : a1.size + a.size > 400
  · simp only [if_pos (Or.inr c : a3 = true ∨ a1.size + a.size > 400), if_pos (show (a.size : Int) > 400 - (a1.size : Int) by omega)]
  · simp only [if_neg (show ¬ (a3 = true ∨ a1.size + a.size > 400) from fun h => h.elim c3 c), if_neg (show ¬ ((a.size : Int) > 400 - (a1.size : Int)) by omega)]
end
theorem FnExactFeedSession : laws_FnExactFeedSession.Pure := by
  rintro ⟨a0, a1, a2, a3, ⟨a4, a5, l6, l7⟩, ⟨a8, a9, l10, l11⟩, ⟨a12, a13, a14, a15, l16⟩⟩ a ⟨g0, g1, g2, _, ⟨_, g5, ⟨g6, k6⟩, ⟨g7, k7⟩⟩, ⟨_, g9, ⟨g10, k10⟩, ⟨g11, _⟩⟩, ⟨_, g13, g14, _, ⟨g16, _⟩⟩⟩ ga
  refine Ev.rounds (g := fun k => laws_FnExactFeedSession.f k a0 a1 a2 a3 a4 a5 l6 l7 a8 a9 l10 l11 a12 a13 a14 a15 l16 a) ?_
  unfold laws_FnExactFeedSession.f
  by_cases ha : (a.size : Int) > 1048576
  · simp only [if_pos ha]; exact Ev.now _
  have ha2 : a.size ≤ 1048576 := by omega
  simp only [if_neg ha]
  rcases szSession_ev a0 a1 a2 a3 a4 a5 l6 l7 a8 a9 l10 l11 a12 a13 a14 a15 l16 g1 g2 g5 g6 k6 g7 k7 g9 g10 (fun x hx => (k10 x hx).2.2) g11 g13 g14 g16 with ⟨⟨h1, _, h6, h7, h10, h11, h16⟩, r, hz⟩ | hz
  case inr => refine Ev.bind hz ?_; simp only [if_pos (show (-1 : Int) < 0 by decide)]; exact Ev.now _
  refine Ev.bind hz ?_
  simp only [if_neg (show ¬ ((r : Int) < 0) by omega)]
  have ht := toSession_ev a0 a1 a2 a3 a4 a5 l6 l7 a8 a9 l10 l11 a12 a13 a14 a15 l16 h6 h7 h10 h11 h16
  have hm : (l10.map mailOf).length ≤ 1048576 := by rw [List.length_map]; exact h10
  generalize l10.map mailOf = m10 at ht hm
  have hS := spec_FeedSession_eq a0 a1 a2 a3 a4 a5 l6 l7 a8 a9 m10 l11 a12 a13 a14 a15 l16 a h1 ha2 h6 h7 hm h11 h16
  have hI := impl_FeedSession_eq a0 a1 a2 a3 a4 a5 l6 l7 a8 a9 m10 l11 a12 a13 a14 a15 l16 a h1 ha2 h6 h7 hm h11 h16
  have hE := eqSession_ev a0 (fedIn a1 a3 a) a2 a3 a4 a5 l6 l7 a8 a9 m10 l11 a12 a13 a14 a15 l16 h6 h7 hm h11 h16
  have hE0 := eqSession_ev a0 a1 a2 a3 a4 a5 l6 l7 a8 a9 m10 l11 a12 a13 a14 a15 l16 h6 h7 hm h11 h16
  have hM0 := markSession_ev a0 a1 a2 a3 a4 a5 l6 l7 a8 a9 m10 l11 a12 a13 a14 a15 l16 1 (by omega) h6 h7 hm h11 h16
  have hM := markSession_ev a0 (fedIn a1 a3 a) a2 a3 a4 a5 l6 l7 a8 a9 m10 l11 a12 a13 a14 a15 l16 1 (by omega) h6 h7 hm h11 h16
  have hH := heldSession_ev a0 (fedIn a1 a3 a) a2 a3 a4 a5 a8 a9 a12 a13 a14 a15 1 l6.length l7.length m10.length l11.length l16.length (by omega) h6 h7 hm h11 h16
  have nn : ∀ n : Nat, ¬ ((n : Int) < 0) := fun n => by omega
  refine Ev.bind ht ?_
  simp only [hS, Option.bind_some]
  refine Ev.bind ht ?_
  simp only [hI, Option.bind_some]
  refine Ev.bind hE ?_
  simp only [if_true, bne_self_eq_false, Bool.false_eq_true, if_false]
  refine Ev.bind ht ?_
  refine Ev.bind hE0 ?_
  simp only [if_true]
  refine Ev.bind hM0 ?_
  simp only [if_neg (nn _)]
  refine Ev.bind hE ?_
  simp only [if_true, bne_self_eq_false, Bool.false_eq_true, if_false]
  refine Ev.bind hM ?_
  refine Ev.bind hH ?_
  simp only [if_neg (nn _), eq_self, if_true]
  refine Ev.bind ht ?_
  simp only [hI, Option.bind_some]
  refine Ev.bind hE ?_
  simp only [if_true, bne_self_eq_false, Bool.false_eq_true, if_false]
  refine Ev.bind hH ?_
  simp only [if_neg (nn _), eq_self, if_true]
  exact Ev.now _

end Go.Proofs.Ytfinlknabjgapaa.Pure
