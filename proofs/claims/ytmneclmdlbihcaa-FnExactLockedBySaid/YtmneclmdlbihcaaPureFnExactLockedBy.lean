/- The program's LockedBy answers what the reference's answers, keeps nothing and changes nothing. Conditions: none beyond the statement's own. -/
import Derived.Test.YtmneclmdlbihcaaQFnExactLockedByPure0
import Derived.Test.YtmneclmdlbihcaaBase
namespace Go.Proofs.Ytmneclmdlbihcaa.Pure
open Go.RowKit Go.Proofs.Ytmneclmdlbihcaa.QFnExactLockedBy Go.Proofs.YtmneclmdlbihcaaW.PrintWords Go.Proofs.YtmneclmdlbihcaaW.PrintLast Go.Proofs.YtmneclmdlbihcaaB Go.Proofs.YtmneclmdlbihcaaO
set_option linter.unusedVariables false
set_option linter.unusedSimpArgs false
/-- The lengths of texts, together and with their number, are within what is left; else it answers something below 0. -/
def sumS : List ByteArray → Nat
 | [] => 0
 | x :: l => x.size + sumS l
theorem szStringS_l0 (xs : List ByteArray) (hx : xs.length ≤ 9223372036854775807) (hs : ∀ x ∈ xs, x.size ≤ 9223372036854775807) :
  ∀ (l : List ByteArray) (i : Nat) (a : Nat), xs.drop i = l → i ≤ xs.length → a ≤ 1048576 →
   (sumS l ≤ a ∧ Ev (fun k => laws_szStringS.l0 k xs a i) ((a - sumS l : Nat) : Int)) ∨ Ev (fun k => laws_szStringS.l0 k xs a i) (-1)
 | [], i, a, h, hi, ha => by
  left
  have e := drop_end h hi
  refine ⟨Nat.zero_le _, Ev.step (fun k => by rw [laws_szStringS.l0, if_neg (by omega)]; rfl) (Ev.now _)⟩
 | x :: l, i, a, h, hi, ha => by
  have hlt := drop_lt h
  have hz : x.size ≤ 9223372036854775807 := hs x (List.mem_of_mem_drop (i := i) (by rw [h]; exact List.mem_cons_self))
  have e := rdOf_drop ByteArray.empty h
  by_cases hb : x.size ≤ a
  ·have ew : wrap64 ((a : Int) - (x.size : Int)) = ((a - x.size : Nat) : Int) := by unfold wrap64; omega
   have hstep : ∀ k, laws_szStringS.l0 (k + 1) xs a i = laws_szStringS.l0 k xs ((a - x.size : Nat) : Int) ((i + 1 : Nat) : Int) := fun k => by
    rw [laws_szStringS.l0, if_pos (by omega), if_pos (by omega), e, ew, if_neg (by omega), wrap_succ i (by omega)]
   rcases szStringS_l0 xs hx hs l (i + 1) (a - x.size) (drop_tail h) (by omega) (by omega) with ⟨h1, h2⟩ | h2
   ·left
    refine ⟨by simp only [sumS]; omega, Ev.step hstep ?_⟩
    have e3 : a - sumS (x :: l) = a - x.size - sumS l := by simp only [sumS]; omega
    rw [e3]; exact h2
   ·right; exact Ev.step hstep h2
  ·right
   refine Ev.step (fun k => ?_) (Ev.now _)
   rw [laws_szStringS.l0, if_pos (by omega), if_pos (by omega), e, if_pos (by unfold wrap64; omega)]
theorem szStringS_ev (xs : List ByteArray) (hx : xs.length ≤ 9223372036854775807) (hs : ∀ x ∈ xs, x.size ≤ 9223372036854775807) (a : Nat) (ha : a ≤ 1048576) :
  (xs.length + sumS xs ≤ a ∧ Ev (fun k => laws_szStringS.f k xs a) ((a - (xs.length + sumS xs) : Nat) : Int)) ∨ Ev (fun k => laws_szStringS.f k xs a) (-1) := by
 by_cases hb : xs.length ≤ a
 ·have ew : wrap64 ((a : Int) - (xs.length : Int)) = ((a - xs.length : Nat) : Int) := by unfold wrap64; omega
  have hf : ∀ k, laws_szStringS.f k xs a = laws_szStringS.l0 k xs ((a - xs.length : Nat) : Int) ((0 : Nat) : Int) := fun k => by
   rw [laws_szStringS.f, ew, if_neg (by omega)]; rfl
  rcases szStringS_l0 xs hx hs xs 0 (a - xs.length) rfl (by omega) (by omega) with ⟨h1, h2⟩ | h2
  ·left
   refine ⟨by omega, Ev.congr hf ?_⟩
   rw [show a - (xs.length + sumS xs) = a - xs.length - sumS xs by omega]; exact h2
  ·right; exact Ev.congr hf h2
 ·right
  refine Ev.congr (fun k => ?_) (Ev.now _)
  rw [laws_szStringS.f, if_pos (by unfold wrap64; omega)]
theorem toStringS_l0 (xs : List ByteArray) (hx : xs.length ≤ 1048576) :
  ∀ (l : List ByteArray) (i : Nat), xs.drop i = l → i ≤ xs.length →
   Ev (fun k => laws_toStringS.l0 k xs ((xs.take i).map id ++ List.replicate (xs.length - i) (⟨#[]⟩ : ByteArray)) i) (xs.map id)
 | [], i, h, hi => by
  have e := drop_end h hi
  subst e
  refine Ev.step (fun k => by rw [laws_toStringS.l0, if_neg (by omega)]) ?_
  rw [fill_end]; exact Ev.now _
 | x :: l, i, h, hi => by
  have hlt := drop_lt h
  refine Ev.step (fun k => ?_) (toStringS_l0 xs hx l (i + 1) (drop_tail h) (by omega))
  rw [laws_toStringS.l0, if_pos (by omega), if_pos (by omega), fill_len _ _ _ hi, if_pos (by omega), rdOf_drop _ h, Int.toNat_natCast, wrap_succ i (by omega)]
  rw [← fill_set xs id (⟨#[]⟩ : ByteArray) h]
  rfl
theorem toStringS_ev (xs : List ByteArray) (hx : xs.length ≤ 1048576) : Ev (fun k => laws_toStringS.f k xs) xs := by
 have h := toStringS_l0 xs hx xs 0 rfl (by omega)
 rw [List.map_id xs] at h
 refine Ev.congr (fun k => ?_) h
 rw [laws_toStringS.f, if_pos (by omega), Int.toNat_natCast, if_pos (by omega)]
 simp
theorem eqStringS_l0 (xs ys : List ByteArray) (hx : xs.length ≤ 9223372036854775807) (hl : xs.length = ys.length) :
  ∀ (l m : List ByteArray) (i : Nat), xs.drop i = l → ys.drop i = m → i ≤ xs.length → Ev (fun k => laws_eqStringS.l0 k xs ys i) (decide (l = m))
 | [], m, i, h, h2, hi => by
  have e := drop_end h hi
  have e2 : m = [] := by rw [← h2]; exact List.drop_of_length_le (by omega)
  subst e2
  exact Ev.step (fun k => by rw [laws_eqStringS.l0, if_neg (by omega)]) (by simpa using Ev.now true)
 | x :: l, [], i, h, h2, hi => by
  have hlt := drop_lt h
  have := drop_end h2 (by omega)
  omega
 | x :: l, y :: m, i, h, h2, hi => by
  have hlt := drop_lt h
  by_cases hxy : x = y
  ·subst hxy
   have ih := eqStringS_l0 xs ys hx hl l m (i + 1) (drop_tail h) (drop_tail h2) (by omega)
   have e : decide (x :: l = x :: m) = decide (l = m) := by simp
   rw [e]
   refine Ev.step (fun k => ?_) ih
   rw [laws_eqStringS.l0, if_pos (by omega), if_pos (by omega), if_pos (by omega), rdOf_drop _ h, rdOf_drop _ h2, if_pos rfl, wrap_succ i (by omega)]
  ·have e : decide (x :: l = y :: m) = false := by simp [hxy]
   rw [e]
   refine Ev.step (fun k => ?_) (Ev.now _)
   rw [laws_eqStringS.l0, if_pos (by omega), if_pos (by omega), if_pos (by omega), rdOf_drop _ h, rdOf_drop _ h2, if_neg (fun h => hxy (toList_inj.mp h))]
theorem eqStringS_ev (xs ys : List ByteArray) (hx : xs.length ≤ 9223372036854775807) (hy : ys.length ≤ 9223372036854775807) : Ev (fun k => laws_eqStringS.f k xs ys) (decide (xs = ys)) := by
 by_cases hl : xs.length = ys.length
 ·refine Ev.congr (fun k => ?_) (eqStringS_l0 xs ys hx hl xs ys 0 rfl rfl (by omega))
  rw [laws_eqStringS.f, if_pos (by omega)]; rfl
 ·have e : decide (xs = ys) = false := decide_eq_false (fun h => hl (by rw [h]))
  rw [e]
  refine Ev.congr (fun k => ?_) (Ev.now _)
  rw [laws_eqStringS.f, if_neg (by omega)]
theorem szBring_ev (st : Int) (f : ByteArray) (xs ys : List ByteArray) (hf : f.size ≤ 9223372036854775807) (hx : xs.length ≤ 9223372036854775807) (gx : ∀ x ∈ xs, x.size ≤ 9223372036854775807) (hy : ys.length ≤ 9223372036854775807) (gy : ∀ x ∈ ys, x.size ≤ 9223372036854775807) (a : Nat) (ha : a ≤ 1048576) :
  (f.size + xs.length + sumS xs + ys.length + sumS ys ≤ a ∧ Ev (fun k => laws_szBring.f k st f xs ys a) ((a - (f.size + xs.length + sumS xs + ys.length + sumS ys) : Nat) : Int)) ∨ Ev (fun k => laws_szBring.f k st f xs ys a) (-1) := by
 unfold laws_szBring.f
 by_cases h1 : f.size ≤ a
 ·have e1 : wrap64 ((a : Int) - (f.size : Int)) = ((a - f.size : Nat) : Int) := by unfold wrap64; omega
  have q1 : ¬ (((a - f.size : Nat) : Int) < 0) := by omega
  simp only [e1, if_neg q1]
  rcases szStringS_ev xs hx gx (a - f.size) (by omega) with ⟨h3, e3⟩ | e3
  ·have q3 : ¬ (((a - f.size - (xs.length + sumS xs) : Nat) : Int) < 0) := by omega
   rcases szStringS_ev ys hy gy (a - f.size - (xs.length + sumS xs)) (by omega) with ⟨h4, e4⟩ | e4
   ·left
    refine ⟨by omega, Ev.bind e3 ?_⟩
    simp only [if_neg q3]
    have q4 : ¬ (((a - f.size - (xs.length + sumS xs) - (ys.length + sumS ys) : Nat) : Int) < 0) := by omega
    refine Ev.bind e4 ?_
    simp only [if_neg q4]
    rw [show a - (f.size + xs.length + sumS xs + ys.length + sumS ys) = a - f.size - (xs.length + sumS xs) - (ys.length + sumS ys) by omega]
    exact Ev.now _
   ·right
    refine Ev.bind e3 ?_
    simp only [if_neg q3]
    refine Ev.bind e4 ?_
    simp only [if_pos (show (-1 : Int) < 0 by decide)]
    exact Ev.now _
  ·right
   refine Ev.bind e3 ?_
   simp only [if_pos (show (-1 : Int) < 0 by decide)]
   exact Ev.now _
 ·right
  have q : wrap64 ((a : Int) - (f.size : Int)) < 0 := by unfold wrap64; omega
  simp only [if_pos q]
  exact Ev.now _
theorem toBring_ev (st : Int) (f : ByteArray) (xs ys : List ByteArray) (hx : xs.length ≤ 1048576) (hy : ys.length ≤ 1048576) : Ev (fun k => laws_toBring.f k st f xs ys) (st, f, xs, ys) := by
 unfold laws_toBring.f
 exact Ev.bind (toStringS_ev xs hx) (Ev.bind (toStringS_ev ys hy) (Ev.now _))
theorem eqBring_ev (st : Int) (f : ByteArray) (xs ys : List ByteArray) (hx : xs.length ≤ 1048576) (hy : ys.length ≤ 1048576) : Ev (fun k => laws_eqBring.f k st f xs ys st f xs ys) true := by
 unfold laws_eqBring.f
 simp only [if_true]
 have ex : Ev (fun k => laws_eqStringS.f k xs xs) true := by have := eqStringS_ev xs xs (by omega) (by omega); simpa using this
 have ey : Ev (fun k => laws_eqStringS.f k ys ys) true := by have := eqStringS_ev ys ys (by omega) (by omega); simpa using this
 refine Ev.bind ex ?_
 simp only [if_true]
 refine Ev.bind ey ?_
 simp only [if_true]
 exact Ev.now _
/-- Mails with their texts' lengths. -/
def sumM : List S79 → Nat
 | [] => 0
 | x :: l => x.f2.size + sumM l
def mailOf (x : S79) : S69 := ⟨x.f0, x.f1, x.f2⟩
theorem rdT_drop1 {xs : List S79} {i : Nat} {x : S79} {l : List S79} (h : xs.drop i = x :: l) : rd_T79 xs (i : Int) = x := drop_getD _ h
theorem rdT_drop2 {xs : List S69} {i : Nat} {x : S69} {l : List S69} (h : xs.drop i = x :: l) : rd_T69 xs (i : Int) = x := drop_getD _ h
theorem szMailS_l0 (xs : List S79) (hx : xs.length ≤ 9223372036854775807) (hs : ∀ x ∈ xs, x.f2.size ≤ 9223372036854775807) :
  ∀ (l : List S79) (i : Nat) (a : Nat), xs.drop i = l → i ≤ xs.length → a ≤ 1048576 →
   (sumM l ≤ a ∧ Ev (fun k => laws_szMailS.l0 k xs a i) ((a - sumM l : Nat) : Int)) ∨ Ev (fun k => laws_szMailS.l0 k xs a i) (-1)
 | [], i, a, h, hi, ha => by
  left
  have e := drop_end h hi
  exact ⟨Nat.zero_le _, Ev.step (fun k => by rw [laws_szMailS.l0, if_neg (by omega)]; rfl) (Ev.now _)⟩
 | x :: l, i, a, h, hi, ha => by
  have hlt := drop_lt h
  have hz : x.f2.size ≤ 9223372036854775807 := hs x (List.mem_of_mem_drop (i := i) (by rw [h]; exact List.mem_cons_self))
  have e := rdT_drop1 h
  by_cases hb : x.f2.size ≤ a
  ·have ew : wrap64 ((a : Int) - (x.f2.size : Int)) = ((a - x.f2.size : Nat) : Int) := by unfold wrap64; omega
   have hstep : ∀ k, laws_szMailS.l0 (k + 1) xs a i = laws_szMailS.l0 k xs ((a - x.f2.size : Nat) : Int) ((i + 1 : Nat) : Int) := fun k => by
    rw [laws_szMailS.l0, if_pos (by omega), if_pos (by omega), e, laws_szMail.f, ew, if_neg (by omega), Option.bind_some, if_neg (by omega), wrap_succ i (by omega)]
   rcases szMailS_l0 xs hx hs l (i + 1) (a - x.f2.size) (drop_tail h) (by omega) (by omega) with ⟨h1, h2⟩ | h2
   ·left
    refine ⟨by simp only [sumM]; omega, Ev.step hstep ?_⟩
    have e3 : a - sumM (x :: l) = a - x.f2.size - sumM l := by simp only [sumM]; omega
    rw [e3]; exact h2
   ·right; exact Ev.step hstep h2
  ·right
   refine Ev.step (fun k => ?_) (Ev.now _)
   rw [laws_szMailS.l0, if_pos (by omega), if_pos (by omega), e, laws_szMail.f, if_pos (by unfold wrap64; omega), Option.bind_some, if_pos (by decide)]
theorem szMailS_ev (xs : List S79) (hx : xs.length ≤ 9223372036854775807) (hs : ∀ x ∈ xs, x.f2.size ≤ 9223372036854775807) (a : Nat) (ha : a ≤ 1048576) :
  (xs.length + sumM xs ≤ a ∧ Ev (fun k => laws_szMailS.f k xs a) ((a - (xs.length + sumM xs) : Nat) : Int)) ∨ Ev (fun k => laws_szMailS.f k xs a) (-1) := by
 by_cases hb : xs.length ≤ a
 ·have ew : wrap64 ((a : Int) - (xs.length : Int)) = ((a - xs.length : Nat) : Int) := by unfold wrap64; omega
  have hf : ∀ k, laws_szMailS.f k xs a = laws_szMailS.l0 k xs ((a - xs.length : Nat) : Int) ((0 : Nat) : Int) := fun k => by
   rw [laws_szMailS.f, ew, if_neg (by omega)]; rfl
  rcases szMailS_l0 xs hx hs xs 0 (a - xs.length) rfl (by omega) (by omega) with ⟨h1, h2⟩ | h2
  ·left
   refine ⟨by omega, Ev.congr hf ?_⟩
   rw [show a - (xs.length + sumM xs) = a - xs.length - sumM xs by omega]; exact h2
  ·right; exact Ev.congr hf h2
 ·right
  refine Ev.congr (fun k => ?_) (Ev.now _)
  rw [laws_szMailS.f, if_pos (by unfold wrap64; omega)]
theorem toMailS_l0 (xs : List S79) (hx : xs.length ≤ 1048576) :
  ∀ (l : List S79) (i : Nat), xs.drop i = l → i ≤ xs.length →
   Ev (fun k => laws_toMailS.l0 k xs ((xs.take i).map mailOf ++ List.replicate (xs.length - i) z69) i) (xs.map mailOf)
 | [], i, h, hi => by
  have e := drop_end h hi
  subst e
  refine Ev.step (fun k => by rw [laws_toMailS.l0, if_neg (by omega)]) ?_
  rw [fill_end]; exact Ev.now _
 | x :: l, i, h, hi => by
  have hlt := drop_lt h
  refine Ev.step (fun k => ?_) (toMailS_l0 xs hx l (i + 1) (drop_tail h) (by omega))
  rw [laws_toMailS.l0, if_pos (by omega), if_pos (by omega), rdT_drop1 h, laws_toMail.f, Option.bind_some, fill_len _ _ _ hi, if_pos (by omega), Int.toNat_natCast, wrap_succ i (by omega)]
  rw [← fill_set xs mailOf z69 h]
  rfl
theorem toMailS_ev (xs : List S79) (hx : xs.length ≤ 1048576) : Ev (fun k => laws_toMailS.f k xs) (xs.map mailOf) := by
 refine Ev.congr (fun k => ?_) (toMailS_l0 xs hx xs 0 rfl (by omega))
 rw [laws_toMailS.f, if_pos (by omega), Int.toNat_natCast, if_pos (by omega)]
 simp
theorem eqMail_self (a b : Int) (c : ByteArray) : laws_eqMail.f a b c a b c = some true := by
 unfold laws_eqMail.f
 simp only [if_true]
theorem eqMailS_l0 (xs : List S69) (hx : xs.length ≤ 9223372036854775807) :
  ∀ (l : List S69) (i : Nat), xs.drop i = l → i ≤ xs.length → Ev (fun k => laws_eqMailS.l0 k xs xs i) true
 | [], i, h, hi => by
  have e := drop_end h hi
  exact Ev.step (fun k => by rw [laws_eqMailS.l0, if_neg (by omega)]) (Ev.now true)
 | x :: l, i, h, hi => by
  have hlt := drop_lt h
  refine Ev.step (fun k => ?_) (eqMailS_l0 xs hx l (i + 1) (drop_tail h) (by omega))
  rw [laws_eqMailS.l0, if_pos (by omega), if_pos (by omega), if_pos (by omega), rdT_drop2 h, eqMail_self, Option.bind_some, if_pos rfl, wrap_succ i (by omega)]
theorem eqMailS_ev (xs : List S69) (hx : xs.length ≤ 9223372036854775807) : Ev (fun k => laws_eqMailS.f k xs xs) true := by
 refine Ev.congr (fun k => ?_) (eqMailS_l0 xs hx xs 0 rfl (by omega))
 rw [laws_eqMailS.f, if_pos rfl]; rfl
theorem szBoolS_eq (xs : List Bool) (hx : xs.length ≤ 9223372036854775807) (a : Nat) (ha : a ≤ 1048576) :
  (xs.length ≤ a ∧ laws_szBoolS.f xs a = some ((a - xs.length : Nat) : Int)) ∨ laws_szBoolS.f xs a = some (-1) := by
 unfold laws_szBoolS.f
 by_cases h : xs.length ≤ a
 ·left
  have ew : wrap64 ((a : Int) - (xs.length : Int)) = ((a - xs.length : Nat) : Int) := by unfold wrap64; omega
  exact ⟨h, by rw [ew, if_neg (by omega)]⟩
 ·right
  rw [if_pos (by unfold wrap64; omega)]
theorem toBoolS_l0 (xs : List Bool) (hx : xs.length ≤ 1048576) :
  ∀ (l : List Bool) (i : Nat), xs.drop i = l → i ≤ xs.length → Ev (fun k => laws_toBoolS.l0 k xs ((xs.take i).map id ++ List.replicate (xs.length - i) false) i) (xs.map id)
 | [], i, h, hi => by
  have e := drop_end h hi
  subst e
  refine Ev.step (fun k => by rw [laws_toBoolS.l0, if_neg (by omega)]) ?_
  rw [fill_end]; exact Ev.now _
 | x :: l, i, h, hi => by
  have hlt := drop_lt h
  refine Ev.step (fun k => ?_) (toBoolS_l0 xs hx l (i + 1) (drop_tail h) (by omega))
  rw [laws_toBoolS.l0, if_pos (by omega), if_pos (by omega), fill_len _ _ _ hi, if_pos (by omega), rdOf_drop false h, Int.toNat_natCast, wrap_succ i (by omega)]
  rw [← fill_set xs id false h]
  rfl
theorem toBoolS_ev (xs : List Bool) (hx : xs.length ≤ 1048576) : Ev (fun k => laws_toBoolS.f k xs) xs := by
 have h := toBoolS_l0 xs hx xs 0 rfl (by omega)
 rw [List.map_id xs] at h
 refine Ev.congr (fun k => ?_) h
 rw [laws_toBoolS.f, if_pos (by omega), Int.toNat_natCast, if_pos (by omega)]
 simp
theorem eqBoolS_l0 (xs : List Bool) (hx : xs.length ≤ 9223372036854775807) :
  ∀ (l : List Bool) (i : Nat), xs.drop i = l → i ≤ xs.length → Ev (fun k => laws_eqBoolS.l0 k xs xs i) true
 | [], i, h, hi => by
  have e := drop_end h hi
  exact Ev.step (fun k => by rw [laws_eqBoolS.l0, if_neg (by omega)]) (Ev.now true)
 | x :: l, i, h, hi => by
  have hlt := drop_lt h
  refine Ev.step (fun k => ?_) (eqBoolS_l0 xs hx l (i + 1) (drop_tail h) (by omega))
  rw [laws_eqBoolS.l0, if_pos (by omega), if_pos (by omega), if_pos (by omega), if_neg (by simp), wrap_succ i (by omega)]
theorem eqBoolS_ev (xs : List Bool) (hx : xs.length ≤ 9223372036854775807) : Ev (fun k => laws_eqBoolS.f k xs xs) true := by
 refine Ev.congr (fun k => ?_) (eqBoolS_l0 xs hx xs 0 rfl (by omega))
 rw [laws_eqBoolS.f, if_pos rfl]; rfl
theorem szFetch_ev (st : Int) (u : ByteArray) (xs : List S79) (gs : List Bool) (hu : u.size ≤ 9223372036854775807) (hx : xs.length ≤ 9223372036854775807) (hs : ∀ x ∈ xs, x.f2.size ≤ 9223372036854775807) (hg : gs.length ≤ 9223372036854775807) (a : Nat) (ha : a ≤ 1048576) :
  (u.size + xs.length + sumM xs + gs.length ≤ a ∧ Ev (fun k => laws_szFetch.f k st u xs gs a) ((a - (u.size + xs.length + sumM xs + gs.length) : Nat) : Int)) ∨ Ev (fun k => laws_szFetch.f k st u xs gs a) (-1) := by
 unfold laws_szFetch.f
 by_cases h1 : u.size ≤ a
 ·have e1 : wrap64 ((a : Int) - (u.size : Int)) = ((a - u.size : Nat) : Int) := by unfold wrap64; omega
  have q1 : ¬ (((a - u.size : Nat) : Int) < 0) := by omega
  simp only [e1, if_neg q1]
  rcases szMailS_ev xs hx hs (a - u.size) (by omega) with ⟨h3, e3⟩ | e3
  ·rcases szBoolS_eq gs hg (a - u.size - (xs.length + sumM xs)) (by omega) with ⟨h4, e4⟩ | e4
   ·left
    refine ⟨by omega, Ev.bind e3 ?_⟩
    have q3 : ¬ (((a - u.size - (xs.length + sumM xs) : Nat) : Int) < 0) := by omega
    have q4 : ¬ (((a - u.size - (xs.length + sumM xs) - gs.length : Nat) : Int) < 0) := by omega
    simp only [if_neg q3, e4, Option.bind_some, if_neg q4]
    rw [show a - (u.size + xs.length + sumM xs + gs.length) = a - u.size - (xs.length + sumM xs) - gs.length by omega]
    exact Ev.now _
   ·right
    refine Ev.bind e3 ?_
    have q3 : ¬ (((a - u.size - (xs.length + sumM xs) : Nat) : Int) < 0) := by omega
    simp only [if_neg q3, e4, Option.bind_some, if_pos (show (-1 : Int) < 0 by decide)]
    exact Ev.now _
  ·right
   refine Ev.bind e3 ?_
   simp only [if_pos (show (-1 : Int) < 0 by decide)]
   exact Ev.now _
 ·right
  have q : wrap64 ((a : Int) - (u.size : Int)) < 0 := by unfold wrap64; omega
  simp only [if_pos q]
  exact Ev.now _
theorem toFetch_ev (st : Int) (u : ByteArray) (xs : List S79) (gs : List Bool) (hx : xs.length ≤ 1048576) (hg : gs.length ≤ 1048576) : Ev (fun k => laws_toFetch.f k st u xs gs) (st, u, xs.map mailOf, gs) := by
 unfold laws_toFetch.f
 exact Ev.bind (toMailS_ev xs hx) (Ev.bind (toBoolS_ev gs hg) (Ev.now _))
theorem eqFetch_ev (st : Int) (u : ByteArray) (xs : List S69) (gs : List Bool) (hx : xs.length ≤ 1048576) (hg : gs.length ≤ 1048576) : Ev (fun k => laws_eqFetch.f k st u xs gs st u xs gs) true := by
 unfold laws_eqFetch.f
 simp only [if_true]
 refine Ev.bind (eqMailS_ev xs (by omega)) ?_
 simp only [if_true]
 refine Ev.bind (eqBoolS_ev gs (by omega)) ?_
 simp only [if_true]
 exact Ev.now _
theorem szIntS_eq (xs : List Int) (hx : xs.length ≤ 9223372036854775807) (a : Nat) (ha : a ≤ 1048576) :
  (xs.length ≤ a ∧ laws_szIntS.f xs a = some ((a - xs.length : Nat) : Int)) ∨ laws_szIntS.f xs a = some (-1) := by
 unfold laws_szIntS.f
 by_cases h : xs.length ≤ a
 ·left
  have ew : wrap64 ((a : Int) - (xs.length : Int)) = ((a - xs.length : Nat) : Int) := by unfold wrap64; omega
  exact ⟨h, by rw [ew, if_neg (by omega)]⟩
 ·right
  rw [if_pos (by unfold wrap64; omega)]
theorem toIntS_l0 (xs : List Int) (hx : xs.length ≤ 1048576) :
  ∀ (l : List Int) (i : Nat), xs.drop i = l → i ≤ xs.length → Ev (fun k => laws_toIntS.l0 k xs ((xs.take i).map id ++ List.replicate (xs.length - i) 0) i) (xs.map id)
 | [], i, h, hi => by
  have e := drop_end h hi
  subst e
  refine Ev.step (fun k => by rw [laws_toIntS.l0, if_neg (by omega)]) ?_
  rw [fill_end]; exact Ev.now _
 | x :: l, i, h, hi => by
  have hlt := drop_lt h
  refine Ev.step (fun k => ?_) (toIntS_l0 xs hx l (i + 1) (drop_tail h) (by omega))
  rw [laws_toIntS.l0, if_pos (by omega), if_pos (by omega), fill_len _ _ _ hi, if_pos (by omega), rd_drop h, Int.toNat_natCast, wrap_succ i (by omega)]
  rw [← fill_set xs id 0 h]
  rfl
theorem toIntS_ev (xs : List Int) (hx : xs.length ≤ 1048576) : Ev (fun k => laws_toIntS.f k xs) xs := by
 have h := toIntS_l0 xs hx xs 0 rfl (by omega)
 rw [List.map_id xs] at h
 refine Ev.congr (fun k => ?_) h
 rw [laws_toIntS.f, if_pos (by omega), Int.toNat_natCast, if_pos (by omega)]
 simp
theorem eqIntS_l0 (xs ys : List Int) (hx : xs.length ≤ 9223372036854775807) (hl : xs.length = ys.length) :
  ∀ (l m : List Int) (i : Nat), xs.drop i = l → ys.drop i = m → i ≤ xs.length → Ev (fun k => laws_eqIntS.l0 k xs ys i) (decide (l = m))
 | [], m, i, h, h2, hi => by
  have e := drop_end h hi
  have e2 : m = [] := by rw [← h2]; exact List.drop_of_length_le (by omega)
  subst e2
  exact Ev.step (fun k => by rw [laws_eqIntS.l0, if_neg (by omega)]) (by simpa using Ev.now true)
 | x :: l, [], i, h, h2, hi => by
  have hlt := drop_lt h
  have := drop_end h2 (by omega)
  omega
 | x :: l, y :: m, i, h, h2, hi => by
  have hlt := drop_lt h
  by_cases hxy : x = y
  ·subst hxy
   have ih := eqIntS_l0 xs ys hx hl l m (i + 1) (drop_tail h) (drop_tail h2) (by omega)
   have e : decide (x :: l = x :: m) = decide (l = m) := by simp
   rw [e]
   refine Ev.step (fun k => ?_) ih
   rw [laws_eqIntS.l0, if_pos (by omega), if_pos (by omega), if_pos (by omega), rd_drop h, rd_drop h2, if_pos rfl, wrap_succ i (by omega)]
  ·have e : decide (x :: l = y :: m) = false := by simp [hxy]
   rw [e]
   refine Ev.step (fun k => ?_) (Ev.now _)
   rw [laws_eqIntS.l0, if_pos (by omega), if_pos (by omega), if_pos (by omega), rd_drop h, rd_drop h2, if_neg hxy]
theorem eqIntS_ev (xs ys : List Int) (hx : xs.length ≤ 9223372036854775807) (hy : ys.length ≤ 9223372036854775807) : Ev (fun k => laws_eqIntS.f k xs ys) (decide (xs = ys)) := by
 by_cases hl : xs.length = ys.length
 ·refine Ev.congr (fun k => ?_) (eqIntS_l0 xs ys hx hl xs ys 0 rfl rfl (by omega))
  rw [laws_eqIntS.f, if_pos (by omega)]; rfl
 ·have e : decide (xs = ys) = false := decide_eq_false (fun h => hl (by rw [h]))
  rw [e]
  refine Ev.congr (fun k => ?_) (Ev.now _)
  rw [laws_eqIntS.f, if_neg (by omega)]
theorem szLook_eq (st : Int) (u b : ByteArray) (v : Int) (xs : List Int) (hu : u.size ≤ 9223372036854775807) (hb : b.size ≤ 9223372036854775807) (hx : xs.length ≤ 9223372036854775807) (a : Nat) (ha : a ≤ 1048576) :
  (u.size + b.size + xs.length ≤ a ∧ laws_szLook.f st u b v xs a = some ((a - (u.size + b.size + xs.length) : Nat) : Int)) ∨ laws_szLook.f st u b v xs a = some (-1) := by
 unfold laws_szLook.f
 by_cases h1 : u.size ≤ a
 ·have e1 : wrap64 ((a : Int) - (u.size : Int)) = ((a - u.size : Nat) : Int) := by unfold wrap64; omega
  rw [e1, if_neg (by omega)]
  by_cases h2 : b.size ≤ a - u.size
  ·have e2 : wrap64 (((a - u.size : Nat) : Int) - (b.size : Int)) = ((a - u.size - b.size : Nat) : Int) := by unfold wrap64; omega
   rw [e2, if_neg (by omega)]
   rcases szIntS_eq xs hx (a - u.size - b.size) (by omega) with ⟨h3, e3⟩ | e3
   ·left
    refine ⟨by omega, ?_⟩
    rw [e3, Option.bind_some, if_neg (by omega), show a - (u.size + b.size + xs.length) = a - u.size - b.size - xs.length by omega]
   ·right; rw [e3]; rfl
  ·right; rw [if_pos (by unfold wrap64; omega)]
 ·right; rw [if_pos (by unfold wrap64; omega)]
theorem toLook_ev (st : Int) (u b : ByteArray) (v : Int) (xs : List Int) (hx : xs.length ≤ 1048576) : Ev (fun k => laws_toLook.f k st u b v xs) (st, u, b, v, xs) := by
 unfold laws_toLook.f
 exact Ev.bind (toIntS_ev xs hx) (Ev.now _)
theorem eqLook_ev (st : Int) (u b : ByteArray) (v : Int) (xs : List Int) (hx : xs.length ≤ 1048576) : Ev (fun k => laws_eqLook.f k st u b v xs st u b v xs) true := by
 unfold laws_eqLook.f
 simp only [if_true]
 refine Ev.bind (eqIntS_ev xs xs (by omega) (by omega)) ?_
 simp only [decide_true, if_true]
 exact Ev.now _
section
variable (a0 : Int) (a1 a2 : ByteArray) (a3 : Bool) (a4 : Int) (a5 : ByteArray) (l6 l7 : List ByteArray) (a8 : Int) (a9 : ByteArray) (l10 : List S79) (m10 : List S69) (l11 : List Bool) (a12 : Int) (a13 a14 : ByteArray) (a15 : Int) (l16 : List Int)
theorem szSession_at (a : Nat) (ha : a ≤ 1048576) (h1 : a1.size ≤ 9223372036854775807) (h2 : a2.size ≤ 9223372036854775807) (h5 : a5.size ≤ 9223372036854775807) (h6 : l6.length ≤ 9223372036854775807) (g6 : ∀ x ∈ l6, x.size ≤ 9223372036854775807) (h7 : l7.length ≤ 9223372036854775807) (g7 : ∀ x ∈ l7, x.size ≤ 9223372036854775807)
  (h9 : a9.size ≤ 9223372036854775807) (h10 : l10.length ≤ 9223372036854775807) (g10 : ∀ x ∈ l10, x.f2.size ≤ 9223372036854775807) (h11 : l11.length ≤ 9223372036854775807) (h13 : a13.size ≤ 9223372036854775807) (h14 : a14.size ≤ 9223372036854775807) (h16 : l16.length ≤ 9223372036854775807) :
  ((a1.size + a2.size + (a5.size + l6.length + sumS l6 + l7.length + sumS l7) + (a9.size + l10.length + sumM l10 + l11.length) + (a13.size + a14.size + l16.length)) ≤ a ∧ Ev (fun k => laws_szSession.f k a0 a1 a2 a3 a4 a5 l6 l7 a8 a9 l10 l11 a12 a13 a14 a15 l16 (a : Int)) ((a - (a1.size + a2.size + (a5.size + l6.length + sumS l6 + l7.length + sumS l7) + (a9.size + l10.length + sumM l10 + l11.length) + (a13.size + a14.size + l16.length)) : Nat) : Int)) ∨ Ev (fun k => laws_szSession.f k a0 a1 a2 a3 a4 a5 l6 l7 a8 a9 l10 l11 a12 a13 a14 a15 l16 (a : Int)) (-1) := by
 unfold laws_szSession.f
 have nn : ∀ n : Nat, ¬ ((n : Int) < 0) := fun n => by omega
 have m1 : (-1 : Int) < 0 := by decide
 by_cases q1 : a1.size ≤ a
 case neg =>
  right
  simp only [if_pos (show wrap64 ((a : Int) - (a1.size : Int)) < 0 by unfold wrap64; omega)]
  exact Ev.now _
 have e1 : wrap64 ((a : Int) - (a1.size : Int)) = ((a - a1.size : Nat) : Int) := by unfold wrap64; omega
 simp only [e1, if_neg (nn _)]
 by_cases q2 : a2.size ≤ a - a1.size
 case neg =>
  right
  simp only [if_pos (show wrap64 (((a - a1.size : Nat) : Int) - (a2.size : Int)) < 0 by unfold wrap64; omega)]
  exact Ev.now _
 have e2 : wrap64 (((a - a1.size : Nat) : Int) - (a2.size : Int)) = ((a - a1.size - a2.size : Nat) : Int) := by unfold wrap64; omega
 simp only [e2, if_neg (nn _)]
 rcases szBring_ev a4 a5 l6 l7 h5 h6 g6 h7 g7 (a - a1.size - a2.size) (by omega) with ⟨h3, e3⟩ | e3
 case inr => right; refine Ev.bind e3 ?_; simp only [if_pos m1]; exact Ev.now _
 rcases szFetch_ev a8 a9 l10 l11 h9 h10 g10 h11 (a - a1.size - a2.size - (a5.size + l6.length + sumS l6 + l7.length + sumS l7)) (by omega) with ⟨h4, e4⟩ | e4
 case inr => right; refine Ev.bind e3 ?_; simp only [if_neg (nn _)]; refine Ev.bind e4 ?_; simp only [if_pos m1]; exact Ev.now _
 rcases szLook_eq a12 a13 a14 a15 l16 h13 h14 h16 (a - a1.size - a2.size - (a5.size + l6.length + sumS l6 + l7.length + sumS l7) - (a9.size + l10.length + sumM l10 + l11.length)) (by omega) with ⟨h5, e5⟩ | e5
 case inr => right; refine Ev.bind e3 ?_; simp only [if_neg (nn _)]; refine Ev.bind e4 ?_; simp only [if_neg (nn _), e5, Option.bind_some, if_pos m1]; exact Ev.now _
 left
 rw [show a - (a1.size + a2.size + (a5.size + l6.length + sumS l6 + l7.length + sumS l7) + (a9.size + l10.length + sumM l10 + l11.length) + (a13.size + a14.size + l16.length)) = a - a1.size - a2.size - (a5.size + l6.length + sumS l6 + l7.length + sumS l7) - (a9.size + l10.length + sumM l10 + l11.length) - (a13.size + a14.size + l16.length) by omega]
 refine ⟨by omega, Ev.bind e3 ?_⟩
 simp only [if_neg (nn _)]
 refine Ev.bind e4 ?_
 simp only [if_neg (nn _), e5, Option.bind_some]
 exact Ev.now _
theorem toSession_ev (h6 : l6.length ≤ 1048576) (h7 : l7.length ≤ 1048576) (h10 : l10.length ≤ 1048576) (h11 : l11.length ≤ 1048576) (h16 : l16.length ≤ 1048576) :
  Ev (fun k => laws_toSession.f k a0 a1 a2 a3 a4 a5 l6 l7 a8 a9 l10 l11 a12 a13 a14 a15 l16) (a0, a1, a2, a3, a4, a5, l6, l7, a8, a9, l10.map mailOf, l11, a12, a13, a14, a15, l16) := by
 unfold laws_toSession.f
 exact Ev.bind (toBring_ev a4 a5 l6 l7 h6 h7) (Ev.bind (toFetch_ev a8 a9 l10 l11 h10 h11) (Ev.bind (toLook_ev a12 a13 a14 a15 l16 h16) (Ev.now _)))
theorem eqSession_ev (h6 : l6.length ≤ 1048576) (h7 : l7.length ≤ 1048576) (h10 : m10.length ≤ 1048576) (h11 : l11.length ≤ 1048576) (h16 : l16.length ≤ 1048576) :
  Ev (fun k => laws_eqSession.f k a0 a1 a2 a3 a4 a5 l6 l7 a8 a9 m10 l11 a12 a13 a14 a15 l16 a0 a1 a2 a3 a4 a5 l6 l7 a8 a9 m10 l11 a12 a13 a14 a15 l16) true := by
 unfold laws_eqSession.f
 simp only [if_true, bne_self_eq_false, if_neg (show ¬ (false = true) by decide)]
 refine Ev.bind (eqBring_ev a4 a5 l6 l7 h6 h7) ?_
 simp only [if_true]
 refine Ev.bind (eqFetch_ev a8 a9 m10 l11 h10 h11) ?_
 simp only [if_true]
 refine Ev.bind (eqLook_ev a12 a13 a14 a15 l16 h16) ?_
 simp only [if_true]
 exact Ev.now _
end
theorem strOfNums_one (x : Int) : (strOfNums [x]).size = 1 := rfl
theorem markText_l0 : ∀ (m n : Nat), n ≤ m → n ≤ 1099511627776 → ∀ t : ByteArray, t.size + n ≤ 2199023255552 → ∃ r, Ev (fun k => laws_markText.l0 k n t) r
 | m, 0, _, _, t, ht => ⟨_, Ev.step (fun k => by rw [laws_markText.l0, if_neg (by omega), if_pos (by omega)]) (Ev.now _)⟩
 | 0, n + 1, h, _, _, _ => absurd h (by omega)
 | m + 1, n + 1, h, hn, t, ht => by
  have e1 : Int.tdiv ((n + 1 : Nat) : Int) 10 = (((n + 1) / 10 : Nat) : Int) := rfl
  have e2 : wrap64 (Int.tdiv ((n + 1 : Nat) : Int) 10) = (((n + 1) / 10 : Nat) : Int) := by rw [e1]; exact wrap_nat _ _ rfl (by omega)
  have hs : ((strOfNums [wrap64 (48 + (Int.tmod ((n + 1 : Nat) : Int) 10)) % 256]) ++ t).size = 1 + t.size := by rw [ByteArray.size_append, strOfNums_one]
  obtain ⟨r, hr⟩ := markText_l0 m ((n + 1) / 10) (by omega) (by omega) ((strOfNums [wrap64 (48 + (Int.tmod ((n + 1 : Nat) : Int) 10)) % 256]) ++ t) (by rw [hs]; omega)
  refine ⟨r, Ev.step (fun k => ?_) hr⟩
  rw [laws_markText.l0, if_pos (by omega), Option.bind_some, strOfNums_one, if_pos (by omega), e2]
theorem markText_some (n : Nat) (h : n ≤ 1099511627776) : ∃ r, Ev (fun k => laws_markText.f k n) r := by
 unfold laws_markText.f
 by_cases c : (n : Int) ≤ 0
 ·simp only [if_pos c]; exact ⟨_, Ev.now _⟩
 ·simp only [if_neg c]
  exact markText_l0 n n (Nat.le_refl _) h _ (by show 0 + n ≤ _; omega)
open Classical in
noncomputable def mt (n : Nat) : ByteArray := if h : ∃ r, Ev (fun k => laws_markText.f k n) r then Classical.choose h else ByteArray.empty
theorem markText_ev (n : Nat) (h : n ≤ 1099511627776) : Ev (fun k => laws_markText.f k n) (mt n) := by
 unfold mt
 rw [dif_pos (markText_some n h)]
 exact Classical.choose_spec (markText_some n h)
noncomputable def marks : Nat → Nat → List ByteArray
 | _, 0 => []
 | c, n + 1 => mt c :: marks (c + 1) n
theorem marks_length : ∀ n c, (marks c n).length = n
 | 0, _ => rfl
 | n + 1, c => by rw [marks, List.length_cons, marks_length n]
theorem take_set_snoc {α : Type} (v : α) : ∀ (xs : List α) (i : Nat), i < xs.length → (xs.set i v).take (i + 1) = xs.take i ++ [v]
 | [], i, h => absurd h (by simp)
 | x :: l, 0, _ => rfl
 | x :: l, i + 1, h => by
  have := take_set_snoc v l i (by simpa using h)
  simp only [List.set_cons_succ, List.take_succ_cons, this, List.cons_append]
theorem markStringS_l0 : ∀ (n i c : Nat) (xs : List ByteArray), i + n = xs.length → c + n ≤ 1099511627776 → i + n ≤ 1099511627776 →
  Ev (fun k => laws_markStringS.l0 k xs c i) (((c + n : Nat) : Int), xs.take i ++ marks c n)
 | 0, i, c, xs, h, hc, hi => by
  rw [show xs.take i = xs from List.take_of_length_le (by omega)]
  exact Ev.step (fun k => by rw [laws_markStringS.l0, if_neg (by omega)]; simp [marks]) (Ev.now _)
 | n + 1, i, c, xs, h, hc, hi => by
  have ih := markStringS_l0 n (i + 1) (c + 1) (xs.set i (mt c)) (by rw [List.length_set]; omega) (by omega) (by omega)
  rw [take_set_snoc (mt c) xs i (by omega), List.append_assoc, show c + 1 + n = c + (n + 1) by omega] at ih
  refine Ev.step (f := fun k => (laws_markText.f k c).bind fun t => if 0 ≤ (i : Int) then laws_markStringS.l0 k (xs.set i t) ((c + 1 : Nat) : Int) ((i + 1 : Nat) : Int) else none) (fun k => ?_) (Ev.bind (markText_ev c (by omega)) ?_)
  ·rw [laws_markStringS.l0, if_pos (by omega), wrap_succ c (by omega), wrap_succ i (by omega), Int.toNat_natCast]
  ·simp only [if_pos (show 0 ≤ (i : Int) by omega)]
   exact ih
theorem heldStringS_l0 (xs : List ByteArray) : ∀ (n i c : Nat), xs.drop i = marks c n → i + n = xs.length → c + n ≤ 1099511627776 → i + n ≤ 1099511627776 →
  Ev (fun k => laws_heldStringS.l0 k xs c i) ((c + n : Nat) : Int)
 | 0, i, c, hd, h, hc, hi => Ev.step (fun k => by rw [laws_heldStringS.l0, if_neg (by omega)]; rfl) (Ev.now _)
 | n + 1, i, c, hd, h, hc, hi => by
  have ih := heldStringS_l0 xs n (i + 1) (c + 1) (drop_tail hd) (by omega) (by omega) (by omega)
  rw [show c + 1 + n = c + (n + 1) by omega] at ih
  refine Ev.step (f := fun k => if 0 ≤ (i : Int) then ((laws_markText.f k c).bind fun t => if (mt c).toList = t.toList then laws_heldStringS.l0 k xs ((c + 1 : Nat) : Int) ((i + 1 : Nat) : Int) else some (-1)) else none) (fun k => ?_) ?_
  ·rw [laws_heldStringS.l0, if_pos (by omega), wrap_succ c (by omega), wrap_succ i (by omega), rdOf_drop _ hd]
  ·simp only [if_pos (show 0 ≤ (i : Int) by omega)]
   refine Ev.bind (markText_ev c (by omega)) ?_
   simp only [if_true]
   exact ih
theorem markStringS_ev (xs : List ByteArray) (c : Nat) (h : xs.length ≤ 1099511627776) (hc : c + xs.length ≤ 1099511627776) : Ev (fun k => laws_markStringS.f k xs c) (((c + xs.length : Nat) : Int), marks c xs.length) :=
 Ev.congr (fun k => rfl) (markStringS_l0 xs.length 0 c xs (by omega) hc (by omega))
theorem heldStringS_ev (n c : Nat) (h : n ≤ 1099511627776) (hc : c + n ≤ 1099511627776) : Ev (fun k => laws_heldStringS.f k (marks c n) c) ((c + n : Nat) : Int) :=
 Ev.congr (fun k => rfl) (heldStringS_l0 (marks c n) n 0 c rfl (by rw [marks_length]; omega) hc (by omega))
def marksI : Nat → Nat → List Int
 | _, 0 => []
 | c, n + 1 => (c : Int) :: marksI (c + 1) n
theorem markIntS_l0 : ∀ (n i c : Nat) (xs : List Int), i + n = xs.length → c + n ≤ 1099511627776 → i + n ≤ 1099511627776 →
  Ev (fun k => laws_markIntS.l0 k xs c i) (((c + n : Nat) : Int), xs.take i ++ marksI c n)
 | 0, i, c, xs, h, hc, hi => by
  rw [show xs.take i = xs from List.take_of_length_le (by omega)]
  exact Ev.step (fun k => by rw [laws_markIntS.l0, if_neg (by omega)]; simp [marksI]) (Ev.now _)
 | n + 1, i, c, xs, h, hc, hi => by
  have ih := markIntS_l0 n (i + 1) (c + 1) (xs.set i c) (by rw [List.length_set]; omega) (by omega) (by omega)
  rw [take_set_snoc (c : Int) xs i (by omega), List.append_assoc, show c + 1 + n = c + (n + 1) by omega] at ih
  refine Ev.step (fun k => ?_) ih
  rw [laws_markIntS.l0, if_pos (by omega), if_pos (by omega), wrap_succ c (by omega), wrap_succ i (by omega), Int.toNat_natCast]
theorem markIntS_ev (xs : List Int) (c : Nat) (h : xs.length ≤ 1099511627776) (hc : c + xs.length ≤ 1099511627776) : Ev (fun k => laws_markIntS.f k xs c) (((c + xs.length : Nat) : Int), marksI c xs.length) :=
 Ev.congr (fun k => rfl) (markIntS_l0 xs.length 0 c xs (by omega) hc (by omega))
def marksB : Nat → Nat → List Bool
 | _, 0 => []
 | c, n + 1 => (Int.tmod (c : Int) 3 == 0) :: marksB (c + 1) n
theorem markBoolS_l0 : ∀ (n i c : Nat) (xs : List Bool), i + n = xs.length → c + n ≤ 1099511627776 → i + n ≤ 1099511627776 →
  Ev (fun k => laws_markBoolS.l0 k xs c i) (((c + n : Nat) : Int), xs.take i ++ marksB c n)
 | 0, i, c, xs, h, hc, hi => by
  rw [show xs.take i = xs from List.take_of_length_le (by omega)]
  exact Ev.step (fun k => by rw [laws_markBoolS.l0, if_neg (by omega)]; simp [marksB]) (Ev.now _)
 | n + 1, i, c, xs, h, hc, hi => by
  have ih := markBoolS_l0 n (i + 1) (c + 1) (xs.set i (Int.tmod (c : Int) 3 == 0)) (by rw [List.length_set]; omega) (by omega) (by omega)
  rw [take_set_snoc _ xs i (by omega), List.append_assoc, show c + 1 + n = c + (n + 1) by omega] at ih
  refine Ev.step (fun k => ?_) ih
  rw [laws_markBoolS.l0, if_pos (by omega), if_pos (by omega), wrap_succ c (by omega), wrap_succ i (by omega), Int.toNat_natCast]
theorem markBoolS_ev (xs : List Bool) (c : Nat) (h : xs.length ≤ 1099511627776) (hc : c + xs.length ≤ 1099511627776) : Ev (fun k => laws_markBoolS.f k xs c) (((c + xs.length : Nat) : Int), marksB c xs.length) :=
 Ev.congr (fun k => rfl) (markBoolS_l0 xs.length 0 c xs (by omega) hc (by omega))
noncomputable def marksM : Nat → Nat → List S69
 | _, 0 => []
 | c, n + 1 => ⟨(c : Int), ((c + 1 : Nat) : Int), mt (c + 2)⟩ :: marksM (c + 3) n
theorem rdM_set (xs : List S69) (i : Nat) (v : S69) (h : i < xs.length) : rd_T69 (xs.set i v) (i : Int) = v := by
 unfold rd_T69
 rw [Int.toNat_natCast, List.getD_eq_getElem?_getD, List.getElem?_set_self h]
 rfl
theorem markMailS_l0 : ∀ (n i c : Nat) (xs : List S69), i + n = xs.length → c + 3 * n ≤ 1099511627776 → i + n ≤ 1099511627776 →
  Ev (fun k => laws_markMailS.l0 k xs c i) (((c + 3 * n : Nat) : Int), xs.take i ++ marksM c n)
 | 0, i, c, xs, h, hc, hi => by
  rw [show xs.take i = xs from List.take_of_length_le (by omega)]
  exact Ev.step (fun k => by rw [laws_markMailS.l0, if_neg (by omega)]; simp [marksM]) (Ev.now _)
 | n + 1, i, c, xs, h, hc, hi => by
  have hlt : i < xs.length := by omega
  have ih := markMailS_l0 n (i + 1) (c + 3) (xs.set i ⟨(c : Int), ((c + 1 : Nat) : Int), mt (c + 2)⟩) (by rw [List.length_set]; omega) (by omega) (by omega)
  rw [take_set_snoc _ xs i hlt, List.append_assoc, show c + 3 + 3 * n = c + 3 * (n + 1) by omega] at ih
  refine Ev.step (f := fun k => (laws_markText.f k ((c + 2 : Nat) : Int)).bind fun t => laws_markMailS.l0 k (xs.set i ⟨(c : Int), ((c + 1 : Nat) : Int), t⟩) ((c + 3 : Nat) : Int) ((i + 1 : Nat) : Int)) (fun k => ?_) (Ev.bind (markText_ev (c + 2) (by omega)) ih)
  rw [laws_markMailS.l0, if_pos (by omega), if_pos (by omega), Option.bind_some, Option.bind_some, wrap_succ c (by omega), wrap_succ (c + 1) (by omega), wrap_succ (c + 1 + 1) (by omega), wrap_succ i (by omega), Int.toNat_natCast]
  simp only [List.set_set, rdM_set xs i _ hlt]
theorem markMailS_ev (xs : List S69) (c : Nat) (h : xs.length ≤ 1099511627776) (hc : c + 3 * xs.length ≤ 1099511627776) : Ev (fun k => laws_markMailS.f k xs c) (((c + 3 * xs.length : Nat) : Int), marksM c xs.length) :=
 Ev.congr (fun k => rfl) (markMailS_l0 xs.length 0 c xs (by omega) hc (by omega))
def Ends {α : Type} (P : α → Prop) (g : Nat → Option α) : Prop := ∃ r, P r ∧ Ev g r
theorem Ends.now {α : Type} {P : α → Prop} {a : α} (h : P a) : Ends P (fun _ => some a) := ⟨a, h, Ev.now _⟩
theorem Ends.up {α : Type} {P : α → Prop} {g : Nat → Option α} (h : Ends P (fun k => g (k + 1))) : Ends P g := by
 obtain ⟨r, p, e⟩ := h
 exact ⟨r, p, Ev.step (fun k => rfl) e⟩
theorem Ends.ite {α : Type} {P : α → Prop} {c : Prop} [Decidable c] {f g : Nat → Option α} (h1 : c → Ends P f) (h2 : ¬ c → Ends P g) : Ends P (fun k => if c then f k else g k) := by
 by_cases h : c
 ·simp only [if_pos h]; exact h1 h
 ·simp only [if_neg h]; exact h2 h
theorem Ends.pos {α : Type} {P : α → Prop} {c : Prop} [Decidable c] {f g : Nat → Option α} (h : c) (e : Ends P f) : Ends P (fun k => if c then f k else g k) := Ends.ite (fun _ => e) (fun n => absurd h n)
theorem Ends.bind {α β : Type} {P : α → Prop} {Q : β → Prop} {g : Nat → Option α} {f : Nat → α → Option β} (h : Ends P g) (h2 : ∀ r, P r → Ends Q (fun k => f k r)) : Ends Q (fun k => (g k).bind (f k)) := by
 obtain ⟨r, p, e⟩ := h
 obtain ⟨q, p2, e2⟩ := h2 r p
 exact ⟨q, p2, Ev.bind e e2⟩
def costS (x : S44) : Nat := x.f1.size + x.f2.size + (x.f4.f1.size + x.f4.f2.length + sumS x.f4.f2 + x.f4.f3.length + sumS x.f4.f3) + (x.f5.f1.size + x.f5.f2.length + sumM x.f5.f2 + x.f5.f3.length) + (x.f6.f1.size + x.f6.f2.size + x.f6.f4.length)
def sumX : List S44 → Nat
 | [] => 0
 | x :: l => costS x + sumX l
theorem sumX_mem {x : S44} : ∀ {xs : List S44}, x ∈ xs → costS x ≤ sumX xs
 | y :: l, h => by
  rcases List.mem_cons.1 h with rfl | h
  ·simp only [sumX]; omega
  ·have := sumX_mem h
   simp only [sumX]; omega
def fitS (x : S44) : Prop := x.f1.size ≤ 9223372036854775807 ∧ x.f2.size ≤ 9223372036854775807 ∧ (x.f4.f1.size ≤ 9223372036854775807 ∧ x.f4.f2.length ≤ 9223372036854775807 ∧ (∀ y ∈ x.f4.f2, y.size ≤ 9223372036854775807) ∧ x.f4.f3.length ≤ 9223372036854775807 ∧ (∀ y ∈ x.f4.f3, y.size ≤ 9223372036854775807)) ∧ (x.f5.f1.size ≤ 9223372036854775807 ∧ x.f5.f2.length ≤ 9223372036854775807 ∧ (∀ y ∈ x.f5.f2, y.f2.size ≤ 9223372036854775807) ∧ x.f5.f3.length ≤ 9223372036854775807) ∧ (x.f6.f1.size ≤ 9223372036854775807 ∧ x.f6.f2.size ≤ 9223372036854775807 ∧ x.f6.f4.length ≤ 9223372036854775807)
def sesOf (x : S44) : S51 := ⟨x.f0, x.f1, x.f2, x.f3, ⟨x.f4.f0, x.f4.f1, x.f4.f2, x.f4.f3⟩, ⟨x.f5.f0, x.f5.f1, x.f5.f2.map mailOf, x.f5.f3⟩, ⟨x.f6.f0, x.f6.f1, x.f6.f2, x.f6.f3, x.f6.f4⟩⟩
theorem rdX_drop1 {xs : List S44} {i : Nat} {x : S44} {l : List S44} (h : xs.drop i = x :: l) : rd_T44 xs (i : Int) = x := drop_getD _ h
theorem rdX_drop2 {xs : List S51} {i : Nat} {x : S51} {l : List S51} (h : xs.drop i = x :: l) : rd_T51 xs (i : Int) = x := drop_getD _ h
theorem szSessionS_l0 (xs : List S44) (hx : xs.length ≤ 9223372036854775807) (hs : ∀ x ∈ xs, fitS x) :
  ∀ (l : List S44) (i : Nat) (a : Nat), xs.drop i = l → i ≤ xs.length → a ≤ 1048576 →
   (sumX l ≤ a ∧ Ev (fun k => laws_szSessionS.l0 k xs a i) ((a - sumX l : Nat) : Int)) ∨ Ev (fun k => laws_szSessionS.l0 k xs a i) (-1)
 | [], i, a, h, hi, ha => by
  left
  have e := drop_end h hi
  exact ⟨Nat.zero_le _, Ev.step (fun k => by rw [laws_szSessionS.l0, if_neg (by omega)]; rfl) (Ev.now _)⟩
 | x :: l, i, a, h, hi, ha => by
  have hlt := drop_lt h
  obtain ⟨z1, z2, ⟨z3, z4, z5, z6, z7⟩, ⟨z8, z9, z10, z11⟩, ⟨z12, z13, z14⟩⟩ := hs x (List.mem_of_mem_drop (i := i) (by rw [h]; exact List.mem_cons_self))
  have e := rdX_drop1 h
  have hst : ∀ k, laws_szSessionS.l0 (k + 1) xs a i = (laws_szSession.f k x.f0 x.f1 x.f2 x.f3 x.f4.f0 x.f4.f1 x.f4.f2 x.f4.f3 x.f5.f0 x.f5.f1 x.f5.f2 x.f5.f3 x.f6.f0 x.f6.f1 x.f6.f2 x.f6.f3 x.f6.f4 a).bind fun t => if t < 0 then some (-1) else laws_szSessionS.l0 k xs t ((i + 1 : Nat) : Int) := fun k => by
   rw [laws_szSessionS.l0, if_pos (by omega), if_pos (by omega), e, wrap_succ i (by omega)]
  rcases szSession_at x.f0 x.f1 x.f2 x.f3 x.f4.f0 x.f4.f1 x.f4.f2 x.f4.f3 x.f5.f0 x.f5.f1 x.f5.f2 x.f5.f3 x.f6.f0 x.f6.f1 x.f6.f2 x.f6.f3 x.f6.f4 a ha z1 z2 z3 z4 z5 z6 z7 z8 z9 z10 z11 z12 z13 z14 with ⟨h1, h2⟩ | h2
  ·change costS x ≤ a at h1
   have h2' : Ev (fun k => laws_szSession.f k x.f0 x.f1 x.f2 x.f3 x.f4.f0 x.f4.f1 x.f4.f2 x.f4.f3 x.f5.f0 x.f5.f1 x.f5.f2 x.f5.f3 x.f6.f0 x.f6.f1 x.f6.f2 x.f6.f3 x.f6.f4 a) ((a - costS x : Nat) : Int) := h2
   have q : ¬ (((a - costS x : Nat) : Int) < 0) := by omega
   rcases szSessionS_l0 xs hx hs l (i + 1) (a - costS x) (drop_tail h) (by omega) (by omega) with ⟨h3, h4⟩ | h4
   ·left
    refine ⟨by simp only [sumX]; omega, Ev.step hst (Ev.bind h2' ?_)⟩
    simp only [if_neg q]
    have e3 : a - sumX (x :: l) = a - costS x - sumX l := by simp only [sumX]; omega
    rw [e3]; exact h4
   ·right
    refine Ev.step hst (Ev.bind h2' ?_)
    simp only [if_neg q]
    exact h4
  ·right
   refine Ev.step hst (Ev.bind h2 ?_)
   simp only [if_pos (show (-1 : Int) < 0 by decide)]
   exact Ev.now _
theorem szSessionS_ev (xs : List S44) (hx : xs.length ≤ 9223372036854775807) (hs : ∀ x ∈ xs, fitS x) :
  (xs.length + sumX xs ≤ 1048576 ∧ Ev (fun k => laws_szSessionS.f k xs 1048576) ((1048576 - (xs.length + sumX xs) : Nat) : Int)) ∨ Ev (fun k => laws_szSessionS.f k xs 1048576) (-1) := by
 by_cases hb : xs.length ≤ 1048576
 ·have ew : wrap64 ((1048576 : Int) - (xs.length : Int)) = ((1048576 - xs.length : Nat) : Int) := by unfold wrap64; omega
  have hf : ∀ k, laws_szSessionS.f k xs 1048576 = laws_szSessionS.l0 k xs ((1048576 - xs.length : Nat) : Int) ((0 : Nat) : Int) := fun k => by
   rw [laws_szSessionS.f, ew, if_neg (by omega)]; rfl
  rcases szSessionS_l0 xs hx hs xs 0 (1048576 - xs.length) rfl (by omega) (by omega) with ⟨h1, h2⟩ | h2
  ·left
   refine ⟨by omega, Ev.congr hf ?_⟩
   rw [show 1048576 - (xs.length + sumX xs) = 1048576 - xs.length - sumX xs by omega]; exact h2
  ·right; exact Ev.congr hf h2
 ·right
  refine Ev.congr (fun k => ?_) (Ev.now _)
  rw [laws_szSessionS.f, if_pos (by unfold wrap64; omega)]
def shortS (x : S44) : Prop := x.f4.f2.length ≤ 1048576 ∧ x.f4.f3.length ≤ 1048576 ∧ x.f5.f2.length ≤ 1048576 ∧ x.f5.f3.length ≤ 1048576 ∧ x.f6.f4.length ≤ 1048576
theorem toSessionS_l0 (xs : List S44) (hx : xs.length ≤ 1048576) (hs : ∀ x ∈ xs, shortS x) :
  ∀ (l : List S44) (i : Nat), xs.drop i = l → i ≤ xs.length →
   Ev (fun k => laws_toSessionS.l0 k xs ((xs.take i).map sesOf ++ List.replicate (xs.length - i) z51) i) (xs.map sesOf)
 | [], i, h, hi => by
  have e := drop_end h hi
  subst e
  refine Ev.step (fun k => by rw [laws_toSessionS.l0, if_neg (by omega)]) ?_
  rw [fill_end]; exact Ev.now _
 | x :: l, i, h, hi => by
  have hlt := drop_lt h
  obtain ⟨z1, z2, z3, z4, z5⟩ := hs x (List.mem_of_mem_drop (i := i) (by rw [h]; exact List.mem_cons_self))
  have hlen := fill_len xs sesOf z51 hi
  have hset := fill_set xs sesOf z51 h
  generalize (xs.take i).map sesOf ++ List.replicate (xs.length - i) z51 = Y at hlen hset
  suffices H : Ends (fun r => r = xs.map sesOf) (fun k => laws_toSessionS.l0 k xs Y i) by
   obtain ⟨_, rfl, H⟩ := H
   exact H
  refine Ends.up ?_
  simp only [laws_toSessionS.l0, if_pos (show (i : Int) < (xs.length : Int) by omega), if_pos (show (0 : Int) ≤ (i : Int) by omega), rdX_drop1 h, wrap_succ i (show i < 9223372036854775807 by omega)]
  refine Ends.bind (P := fun r => r = _) ⟨_, rfl, toSession_ev x.f0 x.f1 x.f2 x.f3 x.f4.f0 x.f4.f1 x.f4.f2 x.f4.f3 x.f5.f0 x.f5.f1 x.f5.f2 x.f5.f3 x.f6.f0 x.f6.f1 x.f6.f2 x.f6.f3 x.f6.f4 z1 z2 z3 z4 z5⟩ (fun r hr => ?_)
  subst hr
  simp only [if_pos (show (i : Int) < (Y.length : Int) by omega), Int.toNat_natCast]
  have hset' : Y.set i (⟨x.f0, x.f1, x.f2, x.f3, ⟨x.f4.f0, x.f4.f1, x.f4.f2, x.f4.f3⟩, ⟨x.f5.f0, x.f5.f1, x.f5.f2.map mailOf, x.f5.f3⟩, ⟨x.f6.f0, x.f6.f1, x.f6.f2, x.f6.f3, x.f6.f4⟩⟩ : S51) = _ := hset
  rw [hset']
  exact ⟨_, rfl, toSessionS_l0 xs hx hs l (i + 1) (drop_tail h) (by omega)⟩
theorem toSessionS_ev (xs : List S44) (hx : xs.length ≤ 1048576) (hs : ∀ x ∈ xs, shortS x) : Ev (fun k => laws_toSessionS.f k xs) (xs.map sesOf) := by
 refine Ev.congr (fun k => ?_) (toSessionS_l0 xs hx hs xs 0 rfl (by omega))
 rw [laws_toSessionS.f, if_pos (by omega), Int.toNat_natCast, if_pos (by omega)]
 simp
def shortI (x : S51) : Prop := x.f4.f2.length ≤ 1048576 ∧ x.f4.f3.length ≤ 1048576 ∧ x.f5.f2.length ≤ 1048576 ∧ x.f5.f3.length ≤ 1048576 ∧ x.f6.f4.length ≤ 1048576
theorem eqSessionS_l0 (xs : List S51) (hx : xs.length ≤ 1048576) (hs : ∀ x ∈ xs, shortI x) :
  ∀ (l : List S51) (i : Nat), xs.drop i = l → i ≤ xs.length → Ev (fun k => laws_eqSessionS.l0 k xs xs i) true
 | [], i, h, hi => by
  have e := drop_end h hi
  exact Ev.step (fun k => by rw [laws_eqSessionS.l0, if_neg (by omega)]) (Ev.now true)
 | x :: l, i, h, hi => by
  have hlt := drop_lt h
  obtain ⟨z1, z2, z3, z4, z5⟩ := hs x (List.mem_of_mem_drop (i := i) (by rw [h]; exact List.mem_cons_self))
  suffices H : Ends (fun r => r = true) (fun k => laws_eqSessionS.l0 k xs xs i) by
   obtain ⟨_, rfl, H⟩ := H
   exact H
  refine Ends.up ?_
  simp only [laws_eqSessionS.l0, if_pos (show (i : Int) < (xs.length : Int) by omega), if_pos (show (0 : Int) ≤ (i : Int) by omega), rdX_drop2 h, wrap_succ i (show i < 9223372036854775807 by omega)]
  refine Ends.bind (P := fun r => r = true) ⟨_, rfl, eqSession_ev x.f0 x.f1 x.f2 x.f3 x.f4.f0 x.f4.f1 x.f4.f2 x.f4.f3 x.f5.f0 x.f5.f1 x.f5.f2 x.f5.f3 x.f6.f0 x.f6.f1 x.f6.f2 x.f6.f3 x.f6.f4 z1 z2 z3 z4 z5⟩ (fun r hr => ?_)
  subst hr
  simp only [if_true]
  exact ⟨_, rfl, eqSessionS_l0 xs hx hs l (i + 1) (drop_tail h) (by omega)⟩
theorem eqSessionS_ev (xs : List S51) (hx : xs.length ≤ 1048576) (hs : ∀ x ∈ xs, shortI x) : Ev (fun k => laws_eqSessionS.f k xs xs) true := by
 refine Ev.congr (fun k => ?_) (eqSessionS_l0 xs hx hs xs 0 rfl (by omega))
 rw [laws_eqSessionS.f, if_pos rfl]; rfl
def markN (x : S51) : Nat := 12 + x.f4.f2.length + x.f4.f3.length + 3 * x.f5.f2.length + x.f5.f3.length + x.f6.f4.length
def totS : List S51 → Nat
 | [] => 0
 | x :: l => markN x + totS l
theorem rdX_set (xs : List S51) (i : Nat) (v : S51) (h : i < xs.length) : rd_T51 (xs.set i v) (i : Int) = v := by
 unfold rd_T51
 rw [Int.toNat_natCast, List.getD_eq_getElem?_getD, List.getElem?_set_self h]
 rfl
theorem one_of {α : Type} {g : Nat → Option α} {a : α} (h : Ev g a) : Ends (fun r => r = a) g := ⟨a, rfl, h⟩
theorem markSessionS_l0 : ∀ (n i c : Nat) (ys : List S51), i + n = ys.length → ys.length ≤ 1048576 → c + totS (ys.drop i) ≤ 1099511627776 → Ends (fun r : Int × List S51 => 0 ≤ r.1) (fun k => laws_markSessionS.l0 k ys c i)
 | 0, i, c, ys, e, hl, hb => by
  refine Ends.up ?_
  simp only [laws_markSessionS.l0, if_neg (show ¬ ((i : Int) < (ys.length : Int)) by omega)]
  exact Ends.now (show 0 ≤ (c : Int) by omega)
 | n + 1, i, c, ys, e, hl, hb => by
  have hlt : i < ys.length := by omega
  have hd : ys.drop i = ys[i] :: ys.drop (i + 1) := List.drop_eq_getElem_cons hlt
  have hr := rdX_drop2 hd
  generalize ys[i] = x at hd hr
  rw [hd] at hb
  simp only [totS, markN] at hb
  have hT : ∀ j : Nat, j ≤ 1099511627776 → Ends (fun r => r = mt j) (fun k => laws_markText.f k (j : Int)) := fun j hj => one_of (markText_ev j hj)
  refine Ends.up ?_
  simp only [laws_markSessionS.l0, Option.bind_some, if_pos (show (i : Int) < (ys.length : Int) by omega), if_pos (show (0 : Int) ≤ (i : Int) by omega), Int.toNat_natCast, List.set_set, rdX_set ys i _ hlt, hr, wrap_succ c (show c < 9223372036854775807 by omega), wrap_succ (c + 1) (show c + 1 < 9223372036854775807 by omega), wrap_succ (c + 1 + 1) (show c + 1 + 1 < 9223372036854775807 by omega), wrap_succ (c + 1 + 1 + 1) (show c + 1 + 1 + 1 < 9223372036854775807 by omega), wrap_succ (c + 1 + 1 + 1 + 1) (show c + 1 + 1 + 1 + 1 < 9223372036854775807 by omega), wrap_succ (c + 1 + 1 + 1 + 1 + 1) (show c + 1 + 1 + 1 + 1 + 1 < 9223372036854775807 by omega), wrap_succ i (show i < 9223372036854775807 by omega)]
  refine Ends.bind (hT _ (by omega)) (fun t1 _ => Ends.bind (hT _ (by omega)) (fun t2 _ => Ends.bind (hT _ (by omega)) (fun t3 _ => ?_)))
  refine Ends.bind (one_of (markStringS_ev x.f4.f2 _ (by omega) (by omega))) (fun r1 h1 => ?_)
  subst h1
  refine Ends.bind (one_of (markStringS_ev x.f4.f3 _ (by omega) (by omega))) (fun r2 h2 => ?_)
  subst h2
  obtain ⟨d, hd2⟩ : ∃ d : Nat, d = c + 1 + 1 + 1 + 1 + 1 + 1 + x.f4.f2.length + x.f4.f3.length := ⟨_, rfl⟩
  simp only [← hd2, wrap_succ d (show d < 9223372036854775807 by omega), wrap_succ (d + 1) (show d + 1 < 9223372036854775807 by omega)]
  refine Ends.bind (hT _ (by omega)) (fun t4 _ => ?_)
  refine Ends.bind (one_of (markMailS_ev x.f5.f2 _ (by omega) (by omega))) (fun r3 h3 => ?_)
  subst h3
  refine Ends.bind (one_of (markBoolS_ev x.f5.f3 _ (by omega) (by omega))) (fun r4 h4 => ?_)
  subst h4
  obtain ⟨f, hf⟩ : ∃ f : Nat, f = d + 1 + 1 + 3 * x.f5.f2.length + x.f5.f3.length := ⟨_, rfl⟩
  simp only [← hf, wrap_succ f (show f < 9223372036854775807 by omega), wrap_succ (f + 1) (show f + 1 < 9223372036854775807 by omega), wrap_succ (f + 1 + 1) (show f + 1 + 1 < 9223372036854775807 by omega), wrap_succ (f + 1 + 1 + 1) (show f + 1 + 1 + 1 < 9223372036854775807 by omega)]
  refine Ends.bind (hT _ (by omega)) (fun t5 _ => Ends.bind (hT _ (by omega)) (fun t6 _ => ?_))
  refine Ends.bind (one_of (markIntS_ev x.f6.f4 _ (by omega) (by omega))) (fun r5 h5 => ?_)
  subst h5
  refine markSessionS_l0 n (i + 1) _ _ (by rw [List.length_set]; omega) (by rw [List.length_set]; omega) ?_
  rw [List.drop_set_of_lt (by omega)]
  omega
theorem locked_both (xs : List S51) (hx : xs.length ≤ 1048576) (but : Int) : ∀ (n i : Nat) (acc : List ByteArray), i + n = xs.length → acc.length ≤ i →
  ∃ r : List ByteArray, r.length ≤ xs.length ∧ Ev (fun k => spec_LockedBy.l0 k xs but acc i) r ∧ Ev (fun k => impl_LockedBy.l0 k but acc xs (xs.length : Int) i) r
 | 0, i, acc, e, ha => ⟨acc, by omega, Ev.step (fun k => by rw [spec_LockedBy.l0, if_neg (by omega)]) (Ev.now _), Ev.step (fun k => by rw [impl_LockedBy.l0, if_neg (by omega)]) (Ev.now _)⟩
 | n + 1, i, acc, e, ha => by
  obtain ⟨r, h0, h1, h2⟩ := locked_both xs hx but n (i + 1) acc (by omega) (by omega)
  obtain ⟨r', g0, g1, g2⟩ := locked_both xs hx but n (i + 1) (acc ++ [(rd_T51 xs i).f5.f1]) (by omega) (by rw [List.length_append, List.length_singleton]; omega)
  have w := wrap_succ i (show i < 9223372036854775807 by omega)
  by_cases c1 : (i : Int) = but
  ·exact ⟨r, h0, Ev.step (fun k => by rw [spec_LockedBy.l0, if_pos (by omega), if_pos (by omega), if_pos c1, w]) h1, Ev.step (fun k => by rw [impl_LockedBy.l0, if_pos (by omega), if_pos (by omega), if_pos (by omega), if_pos c1, w]) h2⟩
  by_cases c2 : (rd_T51 xs i).f0 = 2
  ·by_cases c3 : (rd_T51 xs i).f3 = true
   ·by_cases c4 : (rd_T51 xs i).f5.f0 = 2
    ·exact ⟨r, h0, Ev.step (fun k => by rw [spec_LockedBy.l0, if_pos (by omega), if_pos (by omega), if_neg c1, if_pos c2, if_pos c3, w]) h1, Ev.step (fun k => by rw [impl_LockedBy.l0, if_pos (by omega), if_pos (by omega), if_pos (by omega), if_neg c1, if_pos c2, if_pos c4, if_pos c3, w]) h2⟩
    ·exact ⟨r, h0, Ev.step (fun k => by rw [spec_LockedBy.l0, if_pos (by omega), if_pos (by omega), if_neg c1, if_pos c2, if_pos c3, w]) h1, Ev.step (fun k => by rw [impl_LockedBy.l0, if_pos (by omega), if_pos (by omega), if_pos (by omega), if_neg c1, if_pos c2, if_neg c4, w]) h2⟩
   ·by_cases c4 : (rd_T51 xs i).f5.f0 = 2
    ·exact ⟨r', g0, Ev.step (fun k => by rw [spec_LockedBy.l0, if_pos (by omega), if_pos (by omega), if_neg c1, if_pos c2, if_neg c3, if_pos c4, if_pos (by omega), w]) g1, Ev.step (fun k => by rw [impl_LockedBy.l0, if_pos (by omega), if_pos (by omega), if_pos (by omega), if_neg c1, if_pos c2, if_pos c4, if_neg c3, if_pos (by omega), w]) g2⟩
    ·exact ⟨r, h0, Ev.step (fun k => by rw [spec_LockedBy.l0, if_pos (by omega), if_pos (by omega), if_neg c1, if_pos c2, if_neg c3, if_neg c4, w]) h1, Ev.step (fun k => by rw [impl_LockedBy.l0, if_pos (by omega), if_pos (by omega), if_pos (by omega), if_neg c1, if_pos c2, if_neg c4, w]) h2⟩
  ·exact ⟨r, h0, Ev.step (fun k => by rw [spec_LockedBy.l0, if_pos (by omega), if_pos (by omega), if_neg c1, if_neg c2, w]) h1, Ev.step (fun k => by rw [impl_LockedBy.l0, if_pos (by omega), if_pos (by omega), if_pos (by omega), if_neg c1, if_neg c2, w]) h2⟩
theorem tot_le : ∀ xs : List S44, totS (xs.map sesOf) ≤ 12 * xs.length + 3 * sumX xs
 | [] => Nat.le_refl _
 | x :: l => by
  have ih := tot_le l
  simp only [List.map_cons, totS, sumX, List.length_cons, markN, costS, sesOf, List.length_map]
  omega
theorem FnExactLockedBy : laws_FnExactLockedBy.Pure := by
 intro xs but ⟨gx, gb⟩ _
 refine Ev.rounds (g := fun k => laws_FnExactLockedBy.f k xs but) ?_
 unfold laws_FnExactLockedBy.f
 have hfit : ∀ x ∈ xs, fitS x := fun x hx => by
  obtain ⟨y0, y1, y2, y3, ⟨y4, y5, ⟨y6, y7⟩, ⟨y8, y9⟩⟩, ⟨w0, w1, ⟨w2, w3⟩, ⟨w4, w5⟩⟩, ⟨v0, v1, v2, v3, ⟨v4, v5⟩⟩⟩ := gb x hx
  exact ⟨y1, y2, ⟨y5, y6, y7, y8, y9⟩, ⟨w1, w2, fun m hm => (w3 m hm).2.2, w4⟩, ⟨v1, v2, v4⟩⟩
 have nn : ∀ n : Nat, ¬ ((n : Int) < 0) := fun n => by omega
 rcases szSessionS_ev xs gx hfit with ⟨hs, hz⟩ | hz
 case inr => refine Ev.bind hz ?_; simp only [if_pos (show (-1 : Int) < 0 by decide)]; exact Ev.now _
 refine Ev.bind hz ?_
 simp only [if_neg (nn _)]
 have hsh : ∀ x ∈ xs, shortS x := fun x hx => by
  have := sumX_mem hx
  unfold costS at this
  exact ⟨by omega, by omega, by omega, by omega, by omega⟩
 have ht := toSessionS_ev xs (by omega) hsh
 have hsi : ∀ x ∈ xs.map sesOf, shortI x := fun x hx => by
  obtain ⟨y, hy, rfl⟩ := List.mem_map.1 hx
  obtain ⟨z1, z2, z3, z4, z5⟩ := hsh y hy
  exact ⟨z1, z2, by show (y.f5.f2.map mailOf).length ≤ _; rw [List.length_map]; exact z3, z4, z5⟩
 have hlen : (xs.map sesOf).length ≤ 1048576 := by rw [List.length_map]; omega
 have hE := eqSessionS_ev (xs.map sesOf) hlen hsi
 have htl := tot_le xs
 obtain ⟨m, m0, hM0⟩ := markSessionS_l0 (xs.map sesOf).length 0 1 (xs.map sesOf) (by omega) hlen (by rw [List.drop_zero]; omega)
 have hM : Ev (fun k => laws_markSessionS.f k (xs.map sesOf) 1) m := Ev.congr (fun k => rfl) hM0
 generalize xs.map sesOf = ys at ht hlen hE hM
 obtain ⟨g, hl, hS0, hI0⟩ := locked_both ys hlen but ys.length 0 [] (by omega) (by simp)
 have hS : Ev (fun k => spec_LockedBy.f k ys but) g := Ev.congr (fun k => rfl) hS0
 have hI : Ev (fun k => impl_LockedBy.f k ys but) g := Ev.congr (fun k => rfl) hI0
 have hQ : Ev (fun k => laws_eqStringS.f k g g) true := by
  have := eqStringS_ev g g (by omega) (by omega)
  rwa [show decide (g = g) = true from decide_eq_true rfl] at this
 have hK := markStringS_ev g 1 (by omega) (by omega)
 have hH := heldStringS_ev g.length 1 (by omega) (by omega)
 refine Ev.bind ht (Ev.bind hS (Ev.bind ht (Ev.bind hI (Ev.bind hQ ?_))))
 simp only [if_true]
 refine Ev.bind ht (Ev.bind hE ?_)
 simp only [if_true]
 refine Ev.bind hM ?_
 simp only [if_neg (show ¬ m.1 < 0 by omega)]
 refine Ev.bind hQ ?_
 simp only [if_true]
 refine Ev.bind hK (Ev.bind hH ?_)
 simp only [if_neg (nn _), if_true]
 refine Ev.bind ht (Ev.bind hI (Ev.bind hQ ?_))
 simp only [if_true]
 refine Ev.bind hH ?_
 simp only [if_neg (nn _), if_true]
 exact Ev.now _
end Go.Proofs.Ytmneclmdlbihcaa.Pure
