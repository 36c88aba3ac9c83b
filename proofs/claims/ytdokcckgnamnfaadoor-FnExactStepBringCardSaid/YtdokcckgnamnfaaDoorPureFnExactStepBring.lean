/- The program's StepBring answers what the reference's answers, keeps nothing and changes nothing. Conditions: none beyond the statement's own. -/
import Derived.Test.YtdokcckgnamnfaaDoorQFnExactStepBringPure0
import Derived.Test.YtdokcckgnamnfaaDoorBase
namespace Go.Proofs.YtdokcckgnamnfaaDoor.Pure
open Go.RowKit Go.Proofs.YtdokcckgnamnfaaDoor.QFnExactStepBring Go.Proofs.YtdokcckgnamnfaaDoorW.PrintWords Go.Proofs.YtdokcckgnamnfaaDoorW.PrintLast Go.Proofs.YtdokcckgnamnfaaDoorB Go.Proofs.YtdokcckgnamnfaaDoorO
set_option linter.unusedVariables false
set_option linter.unusedSimpArgs false
def sumS : List ByteArray → Nat
 | [] => 0
 | x :: l => x.size + sumS l
theorem szStringS_l0 (xs : List ByteArray) (hx : xs.length ≤ 9223372036854775807) (hs : ∀ x ∈ xs, x.size ≤ 9223372036854775807) :
  ∀ (l : List ByteArray) (i : Nat) (a : Nat), xs.drop i = l → i ≤ xs.length → a ≤ 1048576 →
   (sumS l ≤ a ∧ Ev (fun k => laws_szStringS.l0 k xs a i) ((a - sumS l : Nat) : Int)) ∨ Ev (fun k => laws_szStringS.l0 k xs a i) (-1)
 | [], i, a, h, hi, ha => by
  left
  have e := drop_end h hi
  refine ⟨Nat.zero_le _, Ev.step (fun k => by rw [laws_szStringS.l0, if_neg (by omega)]; rfl) (Ev.now _)⟩
 | x :: l, i, a, h, hi, ha => by
  have hlt := drop_lt h
  have hz : x.size ≤ 9223372036854775807 := hs x (List.mem_of_mem_drop (i := i) (by rw [h]; exact List.mem_cons_self))
  have e := rdOf_drop ByteArray.empty h
  by_cases hb : x.size ≤ a
  ·have ew : wrap64 ((a : Int) - (x.size : Int)) = ((a - x.size : Nat) : Int) := by unfold wrap64; omega
   have hstep : ∀ k, laws_szStringS.l0 (k + 1) xs a i = laws_szStringS.l0 k xs ((a - x.size : Nat) : Int) ((i + 1 : Nat) : Int) := fun k => by
    rw [laws_szStringS.l0, if_pos (by omega), if_pos (by omega), e, ew, if_neg (by omega), wrap_succ i (by omega)]
   rcases szStringS_l0 xs hx hs l (i + 1) (a - x.size) (drop_tail h) (by omega) (by omega) with ⟨h1, h2⟩ | h2
   ·left
    refine ⟨by simp only [sumS]; omega, Ev.step hstep ?_⟩
    have e3 : a - sumS (x :: l) = a - x.size - sumS l := by simp only [sumS]; omega
    rw [e3]; exact h2
   ·right; exact Ev.step hstep h2
  ·right
   refine Ev.step (fun k => ?_) (Ev.now _)
   rw [laws_szStringS.l0, if_pos (by omega), if_pos (by omega), e, if_pos (by unfold wrap64; omega)]
theorem szStringS_ev (xs : List ByteArray) (hx : xs.length ≤ 9223372036854775807) (hs : ∀ x ∈ xs, x.size ≤ 9223372036854775807) (a : Nat) (ha : a ≤ 1048576) :
  (xs.length + sumS xs ≤ a ∧ Ev (fun k => laws_szStringS.f k xs a) ((a - (xs.length + sumS xs) : Nat) : Int)) ∨ Ev (fun k => laws_szStringS.f k xs a) (-1) := by
 by_cases hb : xs.length ≤ a
 ·have ew : wrap64 ((a : Int) - (xs.length : Int)) = ((a - xs.length : Nat) : Int) := by unfold wrap64; omega
  have hf : ∀ k, laws_szStringS.f k xs a = laws_szStringS.l0 k xs ((a - xs.length : Nat) : Int) ((0 : Nat) : Int) := fun k => by
   rw [laws_szStringS.f, ew, if_neg (by omega)]; rfl
  rcases szStringS_l0 xs hx hs xs 0 (a - xs.length) rfl (by omega) (by omega) with ⟨h1, h2⟩ | h2
  ·left
   refine ⟨by omega, Ev.congr hf ?_⟩
   rw [show a - (xs.length + sumS xs) = a - xs.length - sumS xs by omega]; exact h2
  ·right; exact Ev.congr hf h2
 ·right
  refine Ev.congr (fun k => ?_) (Ev.now _)
  rw [laws_szStringS.f, if_pos (by unfold wrap64; omega)]
theorem toStringS_l0 (xs : List ByteArray) (hx : xs.length ≤ 1048576) :
  ∀ (l : List ByteArray) (i : Nat), xs.drop i = l → i ≤ xs.length →
   Ev (fun k => laws_toStringS.l0 k xs ((xs.take i).map id ++ List.replicate (xs.length - i) (⟨#[]⟩ : ByteArray)) i) (xs.map id)
 | [], i, h, hi => by
  have e := drop_end h hi
  subst e
  refine Ev.step (fun k => by rw [laws_toStringS.l0, if_neg (by omega)]) ?_
  rw [fill_end]; exact Ev.now _
 | x :: l, i, h, hi => by
  have hlt := drop_lt h
  refine Ev.step (fun k => ?_) (toStringS_l0 xs hx l (i + 1) (drop_tail h) (by omega))
  rw [laws_toStringS.l0, if_pos (by omega), if_pos (by omega), fill_len _ _ _ hi, if_pos (by omega), rdOf_drop _ h, Int.toNat_natCast, wrap_succ i (by omega)]
  rw [← fill_set xs id (⟨#[]⟩ : ByteArray) h]
  rfl
theorem toStringS_ev (xs : List ByteArray) (hx : xs.length ≤ 1048576) : Ev (fun k => laws_toStringS.f k xs) xs := by
 have h := toStringS_l0 xs hx xs 0 rfl (by omega)
 rw [List.map_id xs] at h
 refine Ev.congr (fun k => ?_) h
 rw [laws_toStringS.f, if_pos (by omega), Int.toNat_natCast, if_pos (by omega)]
 simp
theorem eqStringS_l0 (xs ys : List ByteArray) (hx : xs.length ≤ 9223372036854775807) (hl : xs.length = ys.length) :
  ∀ (l m : List ByteArray) (i : Nat), xs.drop i = l → ys.drop i = m → i ≤ xs.length → Ev (fun k => laws_eqStringS.l0 k xs ys i) (decide (l = m))
 | [], m, i, h, h2, hi => by
  have e := drop_end h hi
  have e2 : m = [] := by rw [← h2]; exact List.drop_of_length_le (by omega)
  subst e2
  exact Ev.step (fun k => by rw [laws_eqStringS.l0, if_neg (by omega)]) (by simpa using Ev.now true)
 | x :: l, [], i, h, h2, hi => by
  have hlt := drop_lt h
  have := drop_end h2 (by omega)
  omega
 | x :: l, y :: m, i, h, h2, hi => by
  have hlt := drop_lt h
  by_cases hxy : x = y
  ·subst hxy
   have ih := eqStringS_l0 xs ys hx hl l m (i + 1) (drop_tail h) (drop_tail h2) (by omega)
   have e : decide (x :: l = x :: m) = decide (l = m) := by simp
   rw [e]
   refine Ev.step (fun k => ?_) ih
   rw [laws_eqStringS.l0, if_pos (by omega), if_pos (by omega), if_pos (by omega), rdOf_drop _ h, rdOf_drop _ h2, if_pos rfl, wrap_succ i (by omega)]
  ·have e : decide (x :: l = y :: m) = false := by simp [hxy]
   rw [e]
   refine Ev.step (fun k => ?_) (Ev.now _)
   rw [laws_eqStringS.l0, if_pos (by omega), if_pos (by omega), if_pos (by omega), rdOf_drop _ h, rdOf_drop _ h2, if_neg (fun h => hxy (toList_inj.mp h))]
theorem eqStringS_ev (xs ys : List ByteArray) (hx : xs.length ≤ 9223372036854775807) (hy : ys.length ≤ 9223372036854775807) : Ev (fun k => laws_eqStringS.f k xs ys) (decide (xs = ys)) := by
 by_cases hl : xs.length = ys.length
 ·refine Ev.congr (fun k => ?_) (eqStringS_l0 xs ys hx hl xs ys 0 rfl rfl (by omega))
  rw [laws_eqStringS.f, if_pos (by omega)]; rfl
 ·have e : decide (xs = ys) = false := decide_eq_false (fun h => hl (by rw [h]))
  rw [e]
  refine Ev.congr (fun k => ?_) (Ev.now _)
  rw [laws_eqStringS.f, if_neg (by omega)]
theorem szBring_ev (st : Int) (f : ByteArray) (xs ys : List ByteArray) (hf : f.size ≤ 9223372036854775807) (hx : xs.length ≤ 9223372036854775807) (gx : ∀ x ∈ xs, x.size ≤ 9223372036854775807) (hy : ys.length ≤ 9223372036854775807) (gy : ∀ x ∈ ys, x.size ≤ 9223372036854775807) (a : Nat) (ha : a ≤ 1048576) :
  (f.size + xs.length + sumS xs + ys.length + sumS ys ≤ a ∧ Ev (fun k => laws_szBring.f k st f xs ys a) ((a - (f.size + xs.length + sumS xs + ys.length + sumS ys) : Nat) : Int)) ∨ Ev (fun k => laws_szBring.f k st f xs ys a) (-1) := by
 unfold laws_szBring.f
 by_cases h1 : f.size ≤ a
 ·have e1 : wrap64 ((a : Int) - (f.size : Int)) = ((a - f.size : Nat) : Int) := by unfold wrap64; omega
  have q1 : ¬ (((a - f.size : Nat) : Int) < 0) := by omega
  simp only [e1, if_neg q1]
  rcases szStringS_ev xs hx gx (a - f.size) (by omega) with ⟨h3, e3⟩ | e3
  ·have q3 : ¬ (((a - f.size - (xs.length + sumS xs) : Nat) : Int) < 0) := by omega
   rcases szStringS_ev ys hy gy (a - f.size - (xs.length + sumS xs)) (by omega) with ⟨h4, e4⟩ | e4
   ·left
    refine ⟨by omega, Ev.bind e3 ?_⟩
    simp only [if_neg q3]
    have q4 : ¬ (((a - f.size - (xs.length + sumS xs) - (ys.length + sumS ys) : Nat) : Int) < 0) := by omega
    refine Ev.bind e4 ?_
    simp only [if_neg q4]
    rw [show a - (f.size + xs.length + sumS xs + ys.length + sumS ys) = a - f.size - (xs.length + sumS xs) - (ys.length + sumS ys) by omega]
    exact Ev.now _
   ·right
    refine Ev.bind e3 ?_
    simp only [if_neg q3]
    refine Ev.bind e4 ?_
    simp only [if_pos (show (-1 : Int) < 0 by decide)]
    exact Ev.now _
  ·right
   refine Ev.bind e3 ?_
   simp only [if_pos (show (-1 : Int) < 0 by decide)]
   exact Ev.now _
 ·right
  have q : wrap64 ((a : Int) - (f.size : Int)) < 0 := by unfold wrap64; omega
  simp only [if_pos q]
  exact Ev.now _
theorem toBring_ev (st : Int) (f : ByteArray) (xs ys : List ByteArray) (hx : xs.length ≤ 1048576) (hy : ys.length ≤ 1048576) : Ev (fun k => laws_toBring.f k st f xs ys) (st, f, xs, ys) := by
 unfold laws_toBring.f
 exact Ev.bind (toStringS_ev xs hx) (Ev.bind (toStringS_ev ys hy) (Ev.now _))
theorem eqBring_ev (st : Int) (f : ByteArray) (xs ys : List ByteArray) (hx : xs.length ≤ 1048576) (hy : ys.length ≤ 1048576) : Ev (fun k => laws_eqBring.f k st f xs ys st f xs ys) true := by
 unfold laws_eqBring.f
 simp only [if_true]
 have ex : Ev (fun k => laws_eqStringS.f k xs xs) true := by have := eqStringS_ev xs xs (by omega) (by omega); simpa using this
 have ey : Ev (fun k => laws_eqStringS.f k ys ys) true := by have := eqStringS_ev ys ys (by omega) (by omega); simpa using this
 refine Ev.bind ex ?_
 simp only [if_true]
 refine Ev.bind ey ?_
 simp only [if_true]
 exact Ev.now _
def hasB (x : ByteArray) : List ByteArray → Bool
 | [] => false
 | y :: l => if y.toList = x.toList then true else hasB x l
theorem spec_l19In_l0 (xs : List ByteArray) (x : ByteArray) (hx : xs.length ≤ 1048576) :
  ∀ (l : List ByteArray) (i : Nat), xs.drop i = l → i ≤ xs.length → Ev (fun k => spec_l19In.l0 k xs x (i : Int)) (hasB x l)
 | [], i, h, hi => by
  have e := drop_end h hi
  exact Ev.step (fun k => by rw [spec_l19In.l0, if_neg (by omega)]; rfl) (Ev.now _)
 | y :: l, i, h, hi => by
  have hlt := drop_lt h
  refine Ev.step (f := fun k => if y.toList = x.toList then some true else spec_l19In.l0 k xs x ((i + 1 : Nat) : Int)) (fun k => by
   rw [spec_l19In.l0, if_pos (by omega), if_pos (by omega), rdOf_drop _ h, wrap_succ i (by omega)]) ?_
  refine ev_ite (fun q => ?_) (fun q => ?_)
  ·simp only [hasB, if_pos q]; exact Ev.now _
  ·simp only [hasB, if_neg q]
   exact spec_l19In_l0 xs x hx l (i + 1) (drop_tail h) (by omega)
theorem spec_l19In_ev (xs : List ByteArray) (x : ByteArray) (hx : xs.length ≤ 1048576) : Ev (fun k => spec_l19In.f k xs x) (hasB x xs) := spec_l19In_l0 xs x hx xs 0 rfl (by omega)
def idxF (x : ByteArray) : List ByteArray → Nat → Int
 | [], _ => -1
 | y :: l, i => if x.toList = y.toList then (i : Int) else idxF x l (i + 1)
theorem idxF_has (x : ByteArray) : ∀ (l : List ByteArray) (i : Nat), decide (idxF x l i ≥ 0) = hasB x l
 | [], i => rfl
 | y :: l, i => by
  unfold idxF hasB
  by_cases h : x.toList = y.toList
  ·rw [if_pos h, if_pos h.symm]; exact decide_eq_true (by omega)
  ·rw [if_neg h, if_neg (fun e => h e.symm)]; exact idxF_has x l (i + 1)
theorem slices_Index_l0 (xs : List ByteArray) (x : ByteArray) (hx : xs.length ≤ 1048576) :
  ∀ (l : List ByteArray) (i : Nat), xs.drop i = l → i ≤ xs.length → Ev (fun k => slices_Index_string_string.l0 k xs x (xs.length : Int) (i : Int)) (idxF x l i)
 | [], i, h, hi => by
  have e := drop_end h hi
  exact Ev.step (fun k => by rw [slices_Index_string_string.l0, if_neg (by omega)]; rfl) (Ev.now _)
 | y :: l, i, h, hi => by
  have hlt := drop_lt h
  refine Ev.step (f := fun k => if x.toList = y.toList then some (i : Int) else slices_Index_string_string.l0 k xs x (xs.length : Int) ((i + 1 : Nat) : Int)) (fun k => by
   rw [slices_Index_string_string.l0, if_pos (by omega), if_pos (by omega), if_pos (by omega), rdOf_drop _ h, wrap_succ i (by omega)]) ?_
  refine ev_ite (fun q => ?_) (fun q => ?_)
  ·simp only [idxF, if_pos q]; exact Ev.now _
  ·simp only [idxF, if_neg q]
   exact slices_Index_l0 xs x hx l (i + 1) (drop_tail h) (by omega)
theorem slices_Contains_ev (xs : List ByteArray) (x : ByteArray) (hx : xs.length ≤ 1048576) : Ev (fun k => slices_Contains_string_string.f k xs x) (hasB x xs) := by
 unfold slices_Contains_string_string.f
 rw [← idxF_has x xs 0]
 exact Ev.bind (slices_Index_l0 xs x hx xs 0 rfl (by omega)) (Ev.now _)
theorem spec_in (a b c : Int) : spec_l01In.f a b c = some (decide (b ≤ a ∧ a ≤ c)) := by
 unfold spec_l01In.f
 by_cases h : a ≥ b
 ·rw [if_pos h]; have : b ≤ a := h; simp [this]
 ·rw [if_neg h]; have : ¬ b ≤ a := h; simp [this]
theorem impl_in_eq (a b c : Int) : impl_in.f a b c = some (decide (b ≤ a ∧ a ≤ c)) := by
 unfold impl_in.f
 by_cases h : a ≥ b
 ·rw [if_pos h]; have : b ≤ a := h; simp [this]
 ·rw [if_neg h]; have : ¬ b ≤ a := h; simp [this]
def letters : List UInt8 → Bool
 | [] => true
 | c :: l => if (c.toNat : Int) < 97 then false else if (c.toNat : Int) > 122 then false else letters l
def wordOk (s : ByteArray) : Bool := letters s.data.toList && decide (1 ≤ (s.size : Int) ∧ (s.size : Int) ≤ 8)
theorem spec_WordOk_l0 (s : ByteArray) (hs : s.size ≤ 9223372036854775807) :
  ∀ (l : List UInt8) (i : Nat), s.data.toList.drop i = l → i ≤ s.size → Ev (fun k => spec_WordOk.l0 k s i) (letters l && decide (1 ≤ (s.size : Int) ∧ (s.size : Int) ≤ 8))
 | [], i, h, hi => by
  have e := drop_end h (by rw [size_data]; exact hi)
  rw [size_data] at e
  exact Ev.step (fun k => by rw [spec_WordOk.l0, if_neg (by omega), spec_in]; rfl) (Ev.now _)
 | c :: l, i, h, hi => by
  have hlt := drop_lt h
  rw [size_data] at hlt
  have hb := bt_cons h
  by_cases h1 : (c.toNat : Int) < 97
  ·exact Ev.step (fun k => by rw [spec_WordOk.l0, if_pos (by omega), if_pos (by omega), hb, if_pos h1]; simp only [letters, if_pos h1, Bool.false_and]) (Ev.now _)
  ·by_cases h2 : (c.toNat : Int) > 122
   ·exact Ev.step (fun k => by rw [spec_WordOk.l0, if_pos (by omega), if_pos (by omega), hb, if_neg h1, if_pos h2]; simp only [letters, if_neg h1, if_pos h2, Bool.false_and]) (Ev.now _)
   ·have ih := spec_WordOk_l0 s hs l (i + 1) (drop_tail h) (by omega)
    have e : letters (c :: l) = letters l := by simp only [letters, if_neg h1, if_neg h2]
    rw [e]
    exact Ev.step (fun k => by rw [spec_WordOk.l0, if_pos (by omega), if_pos (by omega), hb, if_neg h1, if_neg h2, wrap_succ i (by omega)]) ih
theorem spec_WordOk_ev (s : ByteArray) (hs : s.size ≤ 9223372036854775807) : Ev (fun k => spec_WordOk.f k s) (wordOk s) :=
 Ev.congr (fun k => rfl) (spec_WordOk_l0 s hs _ 0 rfl (by omega))
theorem impl_WordOk_l0 (s : ByteArray) (hs : s.size ≤ 9223372036854775807) :
  ∀ (l : List UInt8) (i : Nat), s.data.toList.drop i = l → i ≤ s.size → Ev (fun k => impl_WordOk.l0 k s (s.size : Int) i) (letters l)
 | [], i, h, hi => by
  have e := drop_end h (by rw [size_data]; exact hi)
  rw [size_data] at e
  exact Ev.step (fun k => by rw [impl_WordOk.l0, if_neg (by omega)]; rfl) (Ev.now _)
 | c :: l, i, h, hi => by
  have hlt := drop_lt h
  rw [size_data] at hlt
  have hb := bt_cons h
  by_cases h1 : (c.toNat : Int) < 97
  ·exact Ev.step (fun k => by rw [impl_WordOk.l0, if_pos (by omega), if_pos (by omega), if_pos (by omega), hb, if_pos h1]; simp only [letters, if_pos h1]) (Ev.now _)
  ·by_cases h2 : (c.toNat : Int) > 122
   ·exact Ev.step (fun k => by rw [impl_WordOk.l0, if_pos (by omega), if_pos (by omega), if_pos (by omega), hb, if_neg h1, if_pos h2]; simp only [letters, if_neg h1, if_pos h2]) (Ev.now _)
   ·have ih := impl_WordOk_l0 s hs l (i + 1) (drop_tail h) (by omega)
    have e : letters (c :: l) = letters l := by simp only [letters, if_neg h1, if_neg h2]
    rw [e]
    exact Ev.step (fun k => by rw [impl_WordOk.l0, if_pos (by omega), if_pos (by omega), if_pos (by omega), hb, if_neg h1, if_neg h2, wrap_succ i (by omega)]) ih
theorem impl_WordOk_ev (s : ByteArray) (hs : s.size ≤ 9223372036854775807) : Ev (fun k => impl_WordOk.f k s) (wordOk s) := by
 unfold impl_WordOk.f
 simp only [impl_in_eq, Option.bind_some]
 by_cases h : 1 ≤ (s.size : Int) ∧ (s.size : Int) ≤ 8
 ·simp only [h, and_self, decide_true, if_true, wordOk, Bool.and_true]
  exact impl_WordOk_l0 s hs _ 0 rfl (by omega)
 ·simp only [wordOk, h, decide_false, Bool.and_false]
  exact Ev.now _
def mk (l : List UInt8) : ByteArray := ⟨l.toArray⟩
theorem mk_data (l : List UInt8) : (mk l).data.toList = l := rfl
theorem mk_size (l : List UInt8) : (mk l).size = l.length := by rw [← size_data]; rfl
theorem take_snoc {s : List UInt8} {b i : Nat} {c : UInt8} {l : List UInt8} (h : s.drop i = c :: l) (hb : b ≤ i) : (s.drop b).take (i + 1 - b) = (s.drop b).take (i - b) ++ [c] := by
 have e : i + 1 - b = (i - b) + 1 := by omega
 have hg : (s.drop b)[i - b]? = some c := by
  rw [List.getElem?_drop, show b + (i - b) = i by omega]
  have := congrArg List.head? h
  rw [List.head?_drop] at this
  simpa using this
 rw [e, List.take_add_one, hg]
 rfl
def Good (c : UInt8) : Prop := 32 ≤ c.toNat ∧ c.toNat ≤ 126
instance (c : UInt8) : Decidable (Good c) := inferInstanceAs (Decidable (_ ∧ _))
def AllGood (l : List UInt8) : Prop := ∀ c ∈ l, Good c
theorem allGood_dec (l : List UInt8) : AllGood l ∨ ∃ c ∈ l, ¬ Good c := by
 by_cases h : ∃ c ∈ l, ¬ Good c
 ·exact .inr h
 ·exact .inl (fun c hc => Classical.byContradiction fun hg => h ⟨c, hc, hg⟩)
def endOf (X : List ByteArray) : List ByteArray × Bool := if (X.length : Int) > 10 then ([], false) else (X, true)
theorem isSp_good (c : UInt8) (h : Good c) : Lib.isSp c = true ↔ c = 32 := by
 obtain ⟨h1, h2⟩ := h
 unfold Lib.isSp
 simp only [Bool.or_eq_true, beq_iff_eq]
 constructor
 ·rintro (((((h | h) | h) | h) | h) | h)
  ·subst h; exact absurd h1 (by decide)
  ·subst h; exact absurd h1 (by decide)
  ·subst h; exact absurd h1 (by decide)
  ·subst h; exact absurd h1 (by decide)
  ·subst h; exact absurd h1 (by decide)
  ·exact h
 ·intro h; exact .inr h
theorem fields_len : ∀ (l cur : List UInt8), (Lib.fieldsGo cur l).length ≤ l.length + 1
 | [], cur => by unfold Lib.fieldsGo; split <;> simp
 | b :: l, cur => by
  have h1 := fields_len l []
  have h2 := fields_len l (cur ++ [b])
  unfold Lib.fieldsGo
  split
  ·split
   ·simp only [List.length_cons]; omega
   ·simp only [List.length_cons]; omega
  ·simp only [List.length_cons]; omega
theorem impl_PartsOf_good (s : ByteArray) (hs : s.size ≤ 600) (hg : AllGood s.data.toList) :
  ∀ (l : List UInt8) (i : Nat), s.data.toList.drop i = l → i ≤ s.size → Ev (fun k => impl_PartsOf.l0 k s (s.size : Int) i) (endOf ((Lib.fields s.data.toList).map mk))
 | [], i, h, hi => by
  have e := drop_end h (by rw [size_data]; exact hi)
  rw [size_data] at e
  have hl : (Lib.fields s.data.toList).length ≤ s.size + 1 := by
   have := fields_len s.data.toList []
   rw [size_data] at this
   exact this
  have hf : strings_Fields.f s = some ((Lib.fields s.data.toList).map mk) := by
   unfold strings_Fields.f
   have ha : (s.data.toList.all fun b => decide (b.toNat < 128)) = true := List.all_eq_true.2 (fun b hb => decide_eq_true (by have := (hg b hb).2; omega))
   rw [if_pos ⟨by omega, ha, by omega⟩]
   rfl
  refine Ev.step (fun k => ?_) (Ev.now _)
  rw [impl_PartsOf.l0, if_neg (by omega), hf, Option.bind_some]
  unfold endOf
  split <;> rfl
 | c :: l, i, h, hi => by
  have hlt := drop_lt h
  rw [size_data] at hlt
  have hbt := bt_cons h
  have hgc := hg c (List.mem_of_mem_drop (show c ∈ s.data.toList.drop i by rw [h]; simp))
  have ih := impl_PartsOf_good s hs hg l (i + 1) (drop_tail h) (by omega)
  obtain ⟨g1, g2⟩ := hgc
  refine Ev.step (fun k => ?_) ih
  rw [impl_PartsOf.l0, if_pos (by omega), if_pos (by omega), if_pos (by omega), hbt, if_neg (by omega), if_neg (by omega), wrap_succ i (by omega)]
theorem impl_PartsOf_bad (s : ByteArray) (hs : s.size ≤ 600) :
  ∀ (l : List UInt8) (i : Nat), s.data.toList.drop i = l → i ≤ s.size → (∃ c ∈ l, ¬ Good c) → Ev (fun k => impl_PartsOf.l0 k s (s.size : Int) i) ([], false)
 | [], i, h, hi, hb => absurd hb (by simp)
 | c :: l, i, h, hi, hb => by
  have hlt := drop_lt h
  rw [size_data] at hlt
  have hbt := bt_cons h
  by_cases h1 : c.toNat < 32
  ·refine Ev.step (fun k => ?_) (Ev.now _)
   rw [impl_PartsOf.l0, if_pos (by omega), if_pos (by omega), if_pos (by omega), hbt, if_pos (by omega)]
  ·by_cases h2 : c.toNat > 126
   ·refine Ev.step (fun k => ?_) (Ev.now _)
    rw [impl_PartsOf.l0, if_pos (by omega), if_pos (by omega), if_pos (by omega), hbt, if_neg (by omega), if_pos (by omega)]
   ·have hg : Good c := ⟨by omega, by omega⟩
    have hb2 : ∃ d ∈ l, ¬ Good d := by
     obtain ⟨d, hd, hn⟩ := hb
     rcases List.mem_cons.mp hd with hd | hd
     ·subst hd; exact absurd hg hn
     ·exact ⟨d, hd, hn⟩
    have ih := impl_PartsOf_bad s hs l (i + 1) (drop_tail h) (by omega) hb2
    refine Ev.step (fun k => ?_) ih
    rw [impl_PartsOf.l0, if_pos (by omega), if_pos (by omega), if_pos (by omega), hbt, if_neg (by omega), if_neg (by omega), wrap_succ i (by omega)]
theorem spec_good (s : ByteArray) (hs : s.size ≤ 600) (acc : List ByteArray) (b i : Nat) (c : UInt8) (l : List UInt8) (h : s.data.toList.drop i = c :: l) (hb : b ≤ i) (ha : acc.length ≤ i) (hg : Good c) {r : List ByteArray × Bool}
  (h1 : c = 32 → b < i → Ev (fun k => spec_PartsOf.l0 k s (acc ++ [s.extract b i]) ((i + 1 : Nat) : Int) ((i + 1 : Nat) : Int)) r)
  (h2 : c = 32 → ¬ b < i → Ev (fun k => spec_PartsOf.l0 k s acc ((i + 1 : Nat) : Int) ((i + 1 : Nat) : Int)) r)
  (h3 : ¬ c = 32 → Ev (fun k => spec_PartsOf.l0 k s acc b ((i + 1 : Nat) : Int)) r) : Ev (fun k => spec_PartsOf.l0 k s acc b i) r := by
 have hlt := drop_lt h
 rw [size_data] at hlt
 have hbt := bt_cons h
 obtain ⟨g1, g2⟩ := hg
 refine Ev.step (f := fun k => spec_PartsOf.j1 k s acc b i false) (fun k => ?_) ?_
 ·rw [spec_PartsOf.l0, if_pos (by omega), if_pos (by omega), if_pos (by omega), hbt, if_neg (by omega), decide_eq_false (by omega)]
 refine Ev.step (f := fun k => spec_PartsOf.j2 k s acc b i (bt s (i : Int) != 32)) (fun k => ?_) ?_
 ·rw [spec_PartsOf.j1, if_neg (by decide), if_pos (by omega), if_pos (by omega)]
 by_cases hc : c = 32
 ·have hz : (bt s (i : Int) != 32) = false := by rw [hbt, hc]; rfl
  rw [hz]
  by_cases hbi : b < i
  ·refine Ev.step (fun k => ?_) (h1 hc hbi)
   rw [spec_PartsOf.j2, if_neg (by decide), if_pos (by omega), if_pos (by omega), if_pos (by omega), if_pos (by omega), if_pos (by omega), Int.toNat_natCast, Int.toNat_natCast, wrap_succ i (by omega)]
  ·refine Ev.step (fun k => ?_) (h2 hc hbi)
   rw [spec_PartsOf.j2, if_neg (by decide), if_neg (by omega), wrap_succ i (by omega)]
 ·have hz : (bt s (i : Int) != 32) = true := by
   rw [hbt]
   exact bne_iff_ne.mpr (fun e => hc (UInt8.toNat_inj.mp (show c.toNat = 32 by omega)))
  rw [hz]
  refine Ev.step (fun k => ?_) (h3 hc)
  rw [spec_PartsOf.j2, if_pos rfl, wrap_succ i (by omega)]
theorem spec_PartsOf_bad (s : ByteArray) (hs : s.size ≤ 600) :
  ∀ (l : List UInt8) (i b : Nat) (acc : List ByteArray), s.data.toList.drop i = l → i ≤ s.size → b ≤ i → acc.length ≤ i → (∃ c ∈ l, ¬ Good c) → Ev (fun k => spec_PartsOf.l0 k s acc b i) ([], false)
 | [], i, b, acc, h, hi, hb, ha, hx => absurd hx (by simp)
 | c :: l, i, b, acc, h, hi, hb, ha, hx => by
  have hlt := drop_lt h
  rw [size_data] at hlt
  have hbt := bt_cons h
  by_cases hg : Good c
  ·have hb2 : ∃ d ∈ l, ¬ Good d := by
    obtain ⟨d, hd, hn⟩ := hx
    rcases List.mem_cons.mp hd with hd | hd
    ·subst hd; exact absurd hg hn
    ·exact ⟨d, hd, hn⟩
   exact spec_good s hs acc b i c l h hb ha hg
    (fun _ _ => spec_PartsOf_bad s hs l (i + 1) (i + 1) _ (drop_tail h) (by omega) (Nat.le_refl _) (by rw [List.length_append, List.length_singleton]; omega) hb2)
    (fun _ _ => spec_PartsOf_bad s hs l (i + 1) (i + 1) _ (drop_tail h) (by omega) (Nat.le_refl _) (by omega) hb2)
    (fun _ => spec_PartsOf_bad s hs l (i + 1) b _ (drop_tail h) (by omega) (by omega) (by omega) hb2)
  ·refine Ev.step (f := fun k => spec_PartsOf.j1 k s acc b i true) (fun k => ?_) (Ev.step (fun k => by rw [spec_PartsOf.j1, if_pos rfl]) (Ev.now _))
   rw [spec_PartsOf.l0, if_pos (by omega), if_pos (by omega), if_pos (by omega), hbt]
   by_cases h1 : c.toNat < 32
   ·rw [if_pos (by omega)]
   ·have h2 : c.toNat > 126 := by
     rcases Nat.lt_or_ge 126 c.toNat with h2 | h2
     ·exact h2
     ·exact absurd ⟨by omega, h2⟩ hg
    rw [if_neg (by omega), decide_eq_true (by omega)]
theorem cur_empty (s : List UInt8) (b i : Nat) (hi : i ≤ s.length) : ((s.drop b).take (i - b)).isEmpty = true ↔ ¬ b < i := by
 rw [List.isEmpty_iff_length_eq_zero, List.length_take, List.length_drop]
 omega
theorem spec_PartsOf_good (s : ByteArray) (hs : s.size ≤ 600) (hgs : AllGood s.data.toList) :
  ∀ (l : List UInt8) (i b : Nat) (acc : List ByteArray), s.data.toList.drop i = l → i ≤ s.size → b ≤ i → acc.length ≤ i →
   Ev (fun k => spec_PartsOf.l0 k s acc b i) (endOf (acc ++ (Lib.fieldsGo ((s.data.toList.drop b).take (i - b)) l).map mk))
 | [], i, b, acc, h, hi, hb, ha => by
  have e := drop_end h (by rw [size_data]; exact hi)
  rw [size_data] at e
  have hlast : ∀ X : List ByteArray, Ev (fun k => spec_PartsOf.l0 k s X ((i + 1 : Nat) : Int) ((i + 1 : Nat) : Int)) (endOf X) := fun X => by
   refine Ev.step (fun k => ?_) (Ev.now _)
   rw [spec_PartsOf.l0, if_neg (by omega)]
   unfold endOf
   split <;> rfl
  refine Ev.step (f := fun k => spec_PartsOf.j1 k s acc b i false) (fun k => by rw [spec_PartsOf.l0, if_pos (by omega), if_neg (by omega)]) ?_
  refine Ev.step (f := fun k => spec_PartsOf.j2 k s acc b i false) (fun k => by rw [spec_PartsOf.j1, if_neg (by decide), if_neg (by omega)]) ?_
  have hce := cur_empty s.data.toList b i (by rw [size_data]; exact hi)
  have ex : s.extract b i = mk ((s.data.toList.drop b).take (i - b)) := bytes_ext (by rw [extract_data, mk_data])
  unfold Lib.fieldsGo
  by_cases hbi : b < i
  ·rw [if_neg (fun hh => hce.1 hh hbi)]
   refine Ev.step (fun k => ?_) (hlast _)
   rw [spec_PartsOf.j2, if_neg (by decide), if_pos (by omega), if_pos (by omega), if_pos (by omega), if_pos (by omega), if_pos (by omega), Int.toNat_natCast, Int.toNat_natCast, wrap_succ i (by omega), ex]
   rfl
  ·rw [if_pos (hce.2 hbi), List.map_nil, List.append_nil]
   refine Ev.step (fun k => ?_) (hlast _)
   rw [spec_PartsOf.j2, if_neg (by decide), if_neg (by omega), wrap_succ i (by omega)]
 | c :: l, i, b, acc, h, hi, hb, ha => by
  have hlt := drop_lt h
  rw [size_data] at hlt
  have hgc := hgs c (List.mem_of_mem_drop (show c ∈ s.data.toList.drop i by rw [h]; simp))
  have hsp := isSp_good c hgc
  have hce := cur_empty s.data.toList b i (by rw [size_data]; exact hi)
  have ex : s.extract b i = mk ((s.data.toList.drop b).take (i - b)) := bytes_ext (by rw [extract_data, mk_data])
  refine spec_good s hs acc b i c l h hb ha hgc (fun hc hbi => ?_) (fun hc hbi => ?_) (fun hc => ?_)
  ·have ih := spec_PartsOf_good s hs hgs l (i + 1) (i + 1) (acc ++ [s.extract b i]) (drop_tail h) (by omega) (Nat.le_refl _) (by rw [List.length_append, List.length_singleton]; omega)
   rw [show i + 1 - (i + 1) = 0 by omega, List.take_zero] at ih
   have e : acc ++ (Lib.fieldsGo ((s.data.toList.drop b).take (i - b)) (c :: l)).map mk = acc ++ [s.extract b i] ++ (Lib.fieldsGo [] l).map mk := by
    rw [Lib.fieldsGo, if_pos (hsp.2 hc), if_neg (fun hh => hce.1 hh hbi), List.map_cons, ex, List.append_assoc]
    rfl
   rw [e]
   exact ih
  ·have ih := spec_PartsOf_good s hs hgs l (i + 1) (i + 1) acc (drop_tail h) (by omega) (Nat.le_refl _) (by omega)
   rw [show i + 1 - (i + 1) = 0 by omega, List.take_zero] at ih
   rw [Lib.fieldsGo, if_pos (hsp.2 hc), if_pos (hce.2 hbi)]
   exact ih
  ·have ih := spec_PartsOf_good s hs hgs l (i + 1) b acc (drop_tail h) (by omega) (by omega) (by omega)
   rw [take_snoc h hb] at ih
   rw [Lib.fieldsGo, if_neg (fun hh => hc (hsp.1 hh))]
   exact ih
open Classical in
noncomputable def parts (s : ByteArray) : List ByteArray × Bool := if (s.size : Int) > 600 then ([], false) else if AllGood s.data.toList then endOf ((Lib.fields s.data.toList).map mk) else ([], false)
theorem spec_PartsOf_ev (s : ByteArray) : Ev (fun k => spec_PartsOf.f k s) (parts s) := by
 unfold spec_PartsOf.f parts
 simp only [Option.bind_some]
 by_cases h : (s.size : Int) > 600
 ·simp only [if_pos h]; exact Ev.now _
 ·simp only [if_neg h]
  rcases allGood_dec s.data.toList with hg | hb
  ·rw [if_pos hg]
   have := spec_PartsOf_good s (by omega) hg s.data.toList 0 0 [] rfl (by omega) (Nat.le_refl _) (by simp)
   rw [show (s.data.toList.drop 0).take (0 - 0) = [] by simp, List.nil_append] at this
   exact this
  ·rw [if_neg (fun hg => by obtain ⟨c, hc, hn⟩ := hb; exact hn (hg c hc))]
   exact spec_PartsOf_bad s (by omega) s.data.toList 0 0 [] rfl (by omega) (Nat.le_refl _) (by simp) hb
theorem impl_PartsOf_ev (s : ByteArray) : Ev (fun k => impl_PartsOf.f k s) (parts s) := by
 unfold impl_PartsOf.f parts
 by_cases h : (s.size : Int) > 600
 ·simp only [if_pos h]; exact Ev.now _
 ·simp only [if_neg h]
  rcases allGood_dec s.data.toList with hg | hb
  ·rw [if_pos hg]
   exact impl_PartsOf_good s (by omega) hg s.data.toList 0 rfl (by omega)
  ·rw [if_neg (fun hg => by obtain ⟨c, hc, hn⟩ := hb; exact hn (hg c hc))]
   exact impl_PartsOf_bad s (by omega) s.data.toList 0 rfl (by omega) hb
theorem parts_len (s : ByteArray) : (parts s).1.length ≤ 10 := by
 unfold parts endOf
 split
 ·simp
 ·split
  ·split
   ·simp
   ·show ((Lib.fields s.data.toList).map mk).length ≤ 10
    omega
  ·simp
theorem parts_no (s : ByteArray) (h : ¬ (parts s).2 = true) : (parts s).1 = [] := by
 unfold parts endOf at h ⊢
 split
 ·rfl
 ·rename_i h1
  rw [if_neg h1] at h
  split
  ·rename_i h2
   rw [if_pos h2] at h
   split
   ·rfl
   ·rename_i h3
    rw [if_neg h3] at h
    exact absurd rfl h
  ·rfl
theorem spec_WordsOf_ev (s : ByteArray) : Ev (fun k => spec_WordsOf.f k s) (parts s).1 := by
 unfold spec_WordsOf.f
 refine Ev.bind (spec_PartsOf_ev s) ?_
 have hl := parts_len s
 by_cases h : (parts s).2 = true
 ·simp only [if_pos h, Option.bind_some, List.length_nil, Nat.zero_add, if_pos (show (parts s).1.length < 8796093022208 by omega), List.nil_append]
  exact Ev.now _
 ·simp only [if_neg h, parts_no s h]
  exact Ev.now _
theorem impl_WordsOf_ev (s : ByteArray) : Ev (fun k => impl_WordsOf.f k s) (parts s).1 := by
 unfold impl_WordsOf.f
 exact Ev.bind (impl_PartsOf_ev s) (Ev.now _)
theorem first_of (s : ByteArray) (h : 1 ≤ s.size) : ∃ (x : UInt8) (l : List UInt8), s.data.toList = x :: l ∧ bt s 0 = (x.toNat : Int) := by
 have h' : 0 < s.data.toList.length := by rw [Array.length_toList]; exact h
 cases e : s.data.toList with
 | nil => rw [e] at h'; simp at h'
 | cons x l =>
  refine ⟨x, l, rfl, ?_⟩
  have h0 : (0 : Int).toNat < s.size := h
  rw [← bt_at s 0 h0]
  have g : s[(0 : Int).toNat] = s.data.toList[0] := rfl
  rw [g]; simp only [e]; rfl
theorem head_one (s : ByteArray) : (s.extract 0 1).toList = s.data.toList.take 1 := by
 rw [list_data]; simp
theorem impl_UndotLine_eq (s : ByteArray) : impl_UndotLine.f s = spec_UndotLine.f s ∧ ∃ r, spec_UndotLine.f s = some r := by
 unfold impl_UndotLine.f spec_UndotLine.f
 by_cases h1 : s.toList = ([46] : List UInt8)
 ·simp only [if_pos h1]; exact ⟨trivial, _, rfl⟩
 ·simp only [if_neg h1]
  unfold strings_TrimPrefix.f stringslite_TrimPrefix.f stringslite_HasPrefix.f
  have e1 : ((⟨#[46]⟩ : ByteArray).size : Int) = 1 := rfl
  rw [e1]
  by_cases h2 : (s.size : Int) ≥ 1
  ·obtain ⟨x, l, hx, hb⟩ := first_of s (by omega)
   have p0 : 0 < (s.size : Int) := by omega
   have e2 : (s.extract 0 (1 : Int).toNat).toList = [x] := by
    have := head_one s
    rw [hx] at this; simpa using this
   have e3 : ((⟨#[46]⟩ : ByteArray).toList : List UInt8) = [46] := by rw [list_data]
   rw [e2, e3, hb]
   by_cases hx1 : x = 46
   ·subst hx1
    have hl : l ≠ [] := fun hl => h1 (by rw [list_data, hx, hl])
    have h3 : (s.size : Int) > 1 := by
     have : s.data.toList.length = s.size := Array.length_toList
     rw [hx] at this
     cases l with
     | nil => exact absurd rfl hl
     | cons y m => simp at this; omega
    simp only [if_pos h2, if_pos p0, if_pos h3, if_pos (show (0 : Int) ≤ 1 by decide), Option.bind_some, beq_self_eq_true, if_true]
    exact ⟨rfl, _, rfl⟩
   ·have hx2 : ¬ ((x.toNat : Int) = 46) := fun h => hx1 (UInt8.toNat_inj.mp (show x.toNat = 46 by omega))
    have hx3 : ([x] == ([46] : List UInt8)) = false := by simpa using hx1
    by_cases h3 : (s.size : Int) > 1
    ·simp only [if_pos h2, if_pos p0, if_pos h3, if_neg hx2, hx3, if_pos (show (0 : Int) ≤ 1 by decide), Option.bind_some]
     exact ⟨rfl, _, rfl⟩
    ·simp only [if_pos h2, if_neg h3, hx3, if_pos (show (0 : Int) ≤ 1 by decide), Option.bind_some]
     exact ⟨rfl, _, rfl⟩
  ·have h3 : ¬ (s.size : Int) > 1 := by omega
   simp [h2, h3]
def joined : List ByteArray → ByteArray → ByteArray
 | [], s => s
 | x :: l, s => joined l (s ++ x ++ (⟨#[10]⟩ : ByteArray))
theorem spec_TextOf_l0 (xs : List ByteArray) (hx : xs.length + sumS xs ≤ 1048576) :
  ∀ (l : List ByteArray) (i : Nat) (s : ByteArray), xs.drop i = l → i ≤ xs.length → s.size + l.length + sumS l ≤ 1048576 → Ev (fun k => spec_TextOf.l0 k xs s i) (joined l s)
 | [], i, s, h, hi, hs => by
  have e := drop_end h hi
  exact Ev.step (fun k => by rw [spec_TextOf.l0, if_neg (by omega)]; rfl) (Ev.now _)
 | x :: l, i, s, h, hi, hs => by
  have hlt := drop_lt h
  have e := rdOf_drop ByteArray.empty h
  simp only [sumS, List.length_cons] at hs
  have h10 : (⟨#[10]⟩ : ByteArray).size = 1 := rfl
  refine Ev.step (fun k => ?_) (spec_TextOf_l0 xs hx l (i + 1) (s ++ x ++ (⟨#[10]⟩ : ByteArray)) (drop_tail h) (by omega) (by rw [ByteArray.size_append, ByteArray.size_append, h10]; omega))
  rw [spec_TextOf.l0, if_pos (by omega), if_pos (by omega), e, if_pos (by omega), if_pos (by rw [ByteArray.size_append]; omega), wrap_succ i (by omega)]
theorem impl_TextOf_l0 (xs : List ByteArray) (hx : xs.length + sumS xs ≤ 1048576) :
  ∀ (l : List ByteArray) (i : Nat) (s : ByteArray), xs.drop i = l → i ≤ xs.length → s.size + l.length + sumS l ≤ 1048576 → Ev (fun k => impl_TextOf.l0 k s xs (xs.length : Int) i) (joined l s)
 | [], i, s, h, hi, hs => by
  have e := drop_end h hi
  exact Ev.step (fun k => by rw [impl_TextOf.l0, if_neg (by omega)]; rfl) (Ev.now _)
 | x :: l, i, s, h, hi, hs => by
  have hlt := drop_lt h
  have e := rdOf_drop ByteArray.empty h
  simp only [sumS, List.length_cons] at hs
  have h10 : (⟨#[10]⟩ : ByteArray).size = 1 := rfl
  have ih := impl_TextOf_l0 xs hx l (i + 1) (s ++ (x ++ (⟨#[10]⟩ : ByteArray))) (drop_tail h) (by omega) (by rw [ByteArray.size_append, ByteArray.size_append, h10]; omega)
  rw [show joined (x :: l) s = joined l (s ++ (x ++ (⟨#[10]⟩ : ByteArray))) by rw [joined, append_assoc]]
  refine Ev.step (fun k => ?_) ih
  rw [impl_TextOf.l0, if_pos (by omega), if_pos (by omega), if_pos (by omega), e, if_pos (by omega), if_pos (by rw [ByteArray.size_append]; omega), wrap_succ i (by omega)]
theorem spec_TextOf_ev (xs : List ByteArray) (hx : xs.length + sumS xs ≤ 1048576) : Ev (fun k => spec_TextOf.f k xs) (joined xs (⟨#[]⟩ : ByteArray)) :=
 Ev.congr (fun k => rfl) (spec_TextOf_l0 xs hx xs 0 (⟨#[]⟩ : ByteArray) rfl (by omega) (by show 0 + _ + _ ≤ _; omega))
theorem impl_TextOf_ev (xs : List ByteArray) (hx : xs.length + sumS xs ≤ 1048576) : Ev (fun k => impl_TextOf.f k xs) (joined xs (⟨#[]⟩ : ByteArray)) :=
 Ev.congr (fun k => rfl) (impl_TextOf_l0 xs hx xs 0 (⟨#[]⟩ : ByteArray) rfl (by omega) (by show 0 + _ + _ ≤ _; omega))
theorem strOfNums_one (x : Int) : (strOfNums [x]).size = 1 := rfl
theorem markText_l0 : ∀ (m n : Nat), n ≤ m → n ≤ 1099511627776 → ∀ t : ByteArray, t.size + n ≤ 2199023255552 → ∃ r, Ev (fun k => laws_markText.l0 k n t) r
 | m, 0, _, _, t, ht => ⟨_, Ev.step (fun k => by rw [laws_markText.l0, if_neg (by omega), if_pos (by omega)]) (Ev.now _)⟩
 | 0, n + 1, h, _, _, _ => absurd h (by omega)
 | m + 1, n + 1, h, hn, t, ht => by
  have e1 : Int.tdiv ((n + 1 : Nat) : Int) 10 = (((n + 1) / 10 : Nat) : Int) := rfl
  have e2 : wrap64 (Int.tdiv ((n + 1 : Nat) : Int) 10) = (((n + 1) / 10 : Nat) : Int) := by rw [e1]; exact wrap_nat _ _ rfl (by omega)
  have hs : ((strOfNums [wrap64 (48 + (Int.tmod ((n + 1 : Nat) : Int) 10)) % 256]) ++ t).size = 1 + t.size := by rw [ByteArray.size_append, strOfNums_one]
  obtain ⟨r, hr⟩ := markText_l0 m ((n + 1) / 10) (by omega) (by omega) ((strOfNums [wrap64 (48 + (Int.tmod ((n + 1 : Nat) : Int) 10)) % 256]) ++ t) (by rw [hs]; omega)
  refine ⟨r, Ev.step (fun k => ?_) hr⟩
  rw [laws_markText.l0, if_pos (by omega), Option.bind_some, strOfNums_one, if_pos (by omega), e2]
theorem markText_some (n : Nat) (h : n ≤ 1099511627776) : ∃ r, Ev (fun k => laws_markText.f k n) r := by
 unfold laws_markText.f
 by_cases c : (n : Int) ≤ 0
 ·simp only [if_pos c]; exact ⟨_, Ev.now _⟩
 ·simp only [if_neg c]
  exact markText_l0 n n (Nat.le_refl _) h _ (by show 0 + n ≤ _; omega)
open Classical in
noncomputable def mt (n : Nat) : ByteArray := if h : ∃ r, Ev (fun k => laws_markText.f k n) r then Classical.choose h else ByteArray.empty
theorem markText_ev (n : Nat) (h : n ≤ 1099511627776) : Ev (fun k => laws_markText.f k n) (mt n) := by
 unfold mt
 rw [dif_pos (markText_some n h)]
 exact Classical.choose_spec (markText_some n h)
noncomputable def marks : Nat → Nat → List ByteArray
 | _, 0 => []
 | c, n + 1 => mt c :: marks (c + 1) n
theorem marks_length : ∀ n c, (marks c n).length = n
 | 0, _ => rfl
 | n + 1, c => by rw [marks, List.length_cons, marks_length n]
theorem take_set_snoc {α : Type} (v : α) : ∀ (xs : List α) (i : Nat), i < xs.length → (xs.set i v).take (i + 1) = xs.take i ++ [v]
 | [], i, h => absurd h (by simp)
 | x :: l, 0, _ => rfl
 | x :: l, i + 1, h => by
  have := take_set_snoc v l i (by simpa using h)
  simp only [List.set_cons_succ, List.take_succ_cons, this, List.cons_append]
theorem markStringS_l0 : ∀ (n i c : Nat) (xs : List ByteArray), i + n = xs.length → c + n ≤ 1099511627776 → i + n ≤ 1099511627776 →
  Ev (fun k => laws_markStringS.l0 k xs c i) (((c + n : Nat) : Int), xs.take i ++ marks c n)
 | 0, i, c, xs, h, hc, hi => by
  rw [show xs.take i = xs from List.take_of_length_le (by omega)]
  exact Ev.step (fun k => by rw [laws_markStringS.l0, if_neg (by omega)]; simp [marks]) (Ev.now _)
 | n + 1, i, c, xs, h, hc, hi => by
  have ih := markStringS_l0 n (i + 1) (c + 1) (xs.set i (mt c)) (by rw [List.length_set]; omega) (by omega) (by omega)
  rw [take_set_snoc (mt c) xs i (by omega), List.append_assoc, show c + 1 + n = c + (n + 1) by omega] at ih
  refine Ev.step (f := fun k => (laws_markText.f k c).bind fun t => if 0 ≤ (i : Int) then laws_markStringS.l0 k (xs.set i t) ((c + 1 : Nat) : Int) ((i + 1 : Nat) : Int) else none) (fun k => ?_) (Ev.bind (markText_ev c (by omega)) ?_)
  ·rw [laws_markStringS.l0, if_pos (by omega), wrap_succ c (by omega), wrap_succ i (by omega), Int.toNat_natCast]
  ·simp only [if_pos (show 0 ≤ (i : Int) by omega)]
   exact ih
theorem heldStringS_l0 (xs : List ByteArray) : ∀ (n i c : Nat), xs.drop i = marks c n → i + n = xs.length → c + n ≤ 1099511627776 → i + n ≤ 1099511627776 →
  Ev (fun k => laws_heldStringS.l0 k xs c i) ((c + n : Nat) : Int)
 | 0, i, c, hd, h, hc, hi => Ev.step (fun k => by rw [laws_heldStringS.l0, if_neg (by omega)]; rfl) (Ev.now _)
 | n + 1, i, c, hd, h, hc, hi => by
  have ih := heldStringS_l0 xs n (i + 1) (c + 1) (drop_tail hd) (by omega) (by omega) (by omega)
  rw [show c + 1 + n = c + (n + 1) by omega] at ih
  refine Ev.step (f := fun k => if 0 ≤ (i : Int) then ((laws_markText.f k c).bind fun t => if (mt c).toList = t.toList then laws_heldStringS.l0 k xs ((c + 1 : Nat) : Int) ((i + 1 : Nat) : Int) else some (-1)) else none) (fun k => ?_) ?_
  ·rw [laws_heldStringS.l0, if_pos (by omega), wrap_succ c (by omega), wrap_succ i (by omega), rdOf_drop _ hd]
  ·simp only [if_pos (show 0 ≤ (i : Int) by omega)]
   refine Ev.bind (markText_ev c (by omega)) ?_
   simp only [if_true]
   exact ih
theorem markStringS_ev (xs : List ByteArray) (c : Nat) (h : xs.length ≤ 1099511627776) (hc : c + xs.length ≤ 1099511627776) : Ev (fun k => laws_markStringS.f k xs c) (((c + xs.length : Nat) : Int), marks c xs.length) :=
 Ev.congr (fun k => rfl) (markStringS_l0 xs.length 0 c xs (by omega) hc (by omega))
theorem heldStringS_ev (n c : Nat) (h : n ≤ 1099511627776) (hc : c + n ≤ 1099511627776) : Ev (fun k => laws_heldStringS.f k (marks c n) c) ((c + n : Nat) : Int) :=
 Ev.congr (fun k => rfl) (heldStringS_l0 (marks c n) n 0 c rfl (by rw [marks_length]; omega) hc (by omega))
def sumM : List S103 → Nat
 | [] => 0
 | x :: l => x.f2.size + sumM l
def mailOf (x : S103) : S101 := ⟨x.f0, x.f1, x.f2⟩
theorem rdT_drop1 {xs : List S103} {i : Nat} {x : S103} {l : List S103} (h : xs.drop i = x :: l) : rd_T103 xs (i : Int) = x := drop_getD _ h
theorem rdT_drop2 {xs : List S101} {i : Nat} {x : S101} {l : List S101} (h : xs.drop i = x :: l) : rd_T101 xs (i : Int) = x := drop_getD _ h
theorem szMailS_l0 (xs : List S103) (hx : xs.length ≤ 9223372036854775807) (hs : ∀ x ∈ xs, x.f2.size ≤ 9223372036854775807) :
  ∀ (l : List S103) (i : Nat) (a : Nat), xs.drop i = l → i ≤ xs.length → a ≤ 1048576 →
   (sumM l ≤ a ∧ Ev (fun k => laws_szMailS.l0 k xs a i) ((a - sumM l : Nat) : Int)) ∨ Ev (fun k => laws_szMailS.l0 k xs a i) (-1)
 | [], i, a, h, hi, ha => by
  left
  have e := drop_end h hi
  exact ⟨Nat.zero_le _, Ev.step (fun k => by rw [laws_szMailS.l0, if_neg (by omega)]; rfl) (Ev.now _)⟩
 | x :: l, i, a, h, hi, ha => by
  have hlt := drop_lt h
  have hz : x.f2.size ≤ 9223372036854775807 := hs x (List.mem_of_mem_drop (i := i) (by rw [h]; exact List.mem_cons_self))
  have e := rdT_drop1 h
  by_cases hb : x.f2.size ≤ a
  ·have ew : wrap64 ((a : Int) - (x.f2.size : Int)) = ((a - x.f2.size : Nat) : Int) := by unfold wrap64; omega
   have hstep : ∀ k, laws_szMailS.l0 (k + 1) xs a i = laws_szMailS.l0 k xs ((a - x.f2.size : Nat) : Int) ((i + 1 : Nat) : Int) := fun k => by
    rw [laws_szMailS.l0, if_pos (by omega), if_pos (by omega), e, laws_szMail.f, ew, if_neg (by omega), Option.bind_some, if_neg (by omega), wrap_succ i (by omega)]
   rcases szMailS_l0 xs hx hs l (i + 1) (a - x.f2.size) (drop_tail h) (by omega) (by omega) with ⟨h1, h2⟩ | h2
   ·left
    refine ⟨by simp only [sumM]; omega, Ev.step hstep ?_⟩
    have e3 : a - sumM (x :: l) = a - x.f2.size - sumM l := by simp only [sumM]; omega
    rw [e3]; exact h2
   ·right; exact Ev.step hstep h2
  ·right
   refine Ev.step (fun k => ?_) (Ev.now _)
   rw [laws_szMailS.l0, if_pos (by omega), if_pos (by omega), e, laws_szMail.f, if_pos (by unfold wrap64; omega), Option.bind_some, if_pos (by decide)]
theorem szMailS_ev (xs : List S103) (hx : xs.length ≤ 9223372036854775807) (hs : ∀ x ∈ xs, x.f2.size ≤ 9223372036854775807) (a : Nat) (ha : a ≤ 1048576) :
  (xs.length + sumM xs ≤ a ∧ Ev (fun k => laws_szMailS.f k xs a) ((a - (xs.length + sumM xs) : Nat) : Int)) ∨ Ev (fun k => laws_szMailS.f k xs a) (-1) := by
 by_cases hb : xs.length ≤ a
 ·have ew : wrap64 ((a : Int) - (xs.length : Int)) = ((a - xs.length : Nat) : Int) := by unfold wrap64; omega
  have hf : ∀ k, laws_szMailS.f k xs a = laws_szMailS.l0 k xs ((a - xs.length : Nat) : Int) ((0 : Nat) : Int) := fun k => by
   rw [laws_szMailS.f, ew, if_neg (by omega)]; rfl
  rcases szMailS_l0 xs hx hs xs 0 (a - xs.length) rfl (by omega) (by omega) with ⟨h1, h2⟩ | h2
  ·left
   refine ⟨by omega, Ev.congr hf ?_⟩
   rw [show a - (xs.length + sumM xs) = a - xs.length - sumM xs by omega]; exact h2
  ·right; exact Ev.congr hf h2
 ·right
  refine Ev.congr (fun k => ?_) (Ev.now _)
  rw [laws_szMailS.f, if_pos (by unfold wrap64; omega)]
theorem toMailS_l0 (xs : List S103) (hx : xs.length ≤ 1048576) :
  ∀ (l : List S103) (i : Nat), xs.drop i = l → i ≤ xs.length →
   Ev (fun k => laws_toMailS.l0 k xs ((xs.take i).map mailOf ++ List.replicate (xs.length - i) z101) i) (xs.map mailOf)
 | [], i, h, hi => by
  have e := drop_end h hi
  subst e
  refine Ev.step (fun k => by rw [laws_toMailS.l0, if_neg (by omega)]) ?_
  rw [fill_end]; exact Ev.now _
 | x :: l, i, h, hi => by
  have hlt := drop_lt h
  refine Ev.step (fun k => ?_) (toMailS_l0 xs hx l (i + 1) (drop_tail h) (by omega))
  rw [laws_toMailS.l0, if_pos (by omega), if_pos (by omega), rdT_drop1 h, laws_toMail.f, Option.bind_some, fill_len _ _ _ hi, if_pos (by omega), Int.toNat_natCast, wrap_succ i (by omega)]
  rw [← fill_set xs mailOf z101 h]
  rfl
theorem toMailS_ev (xs : List S103) (hx : xs.length ≤ 1048576) : Ev (fun k => laws_toMailS.f k xs) (xs.map mailOf) := by
 refine Ev.congr (fun k => ?_) (toMailS_l0 xs hx xs 0 rfl (by omega))
 rw [laws_toMailS.f, if_pos (by omega), Int.toNat_natCast, if_pos (by omega)]
 simp
theorem eqMail_self (a b : Int) (c : ByteArray) : laws_eqMail.f a b c a b c = some true := by
 unfold laws_eqMail.f
 simp only [if_true]
theorem eqMailS_l0 (xs : List S101) (hx : xs.length ≤ 9223372036854775807) :
  ∀ (l : List S101) (i : Nat), xs.drop i = l → i ≤ xs.length → Ev (fun k => laws_eqMailS.l0 k xs xs i) true
 | [], i, h, hi => by
  have e := drop_end h hi
  exact Ev.step (fun k => by rw [laws_eqMailS.l0, if_neg (by omega)]) (Ev.now true)
 | x :: l, i, h, hi => by
  have hlt := drop_lt h
  refine Ev.step (fun k => ?_) (eqMailS_l0 xs hx l (i + 1) (drop_tail h) (by omega))
  rw [laws_eqMailS.l0, if_pos (by omega), if_pos (by omega), if_pos (by omega), rdT_drop2 h, eqMail_self, Option.bind_some, if_pos rfl, wrap_succ i (by omega)]
theorem eqMailS_ev (xs : List S101) (hx : xs.length ≤ 9223372036854775807) : Ev (fun k => laws_eqMailS.f k xs xs) true := by
 refine Ev.congr (fun k => ?_) (eqMailS_l0 xs hx xs 0 rfl (by omega))
 rw [laws_eqMailS.f, if_pos rfl]; rfl
theorem szBox_ev (v : Int) (u n : ByteArray) (w : Int) (xs : List S103) (hu : u.size ≤ 9223372036854775807) (hn : n.size ≤ 9223372036854775807) (hx : xs.length ≤ 9223372036854775807) (hs : ∀ x ∈ xs, x.f2.size ≤ 9223372036854775807) (a : Nat) (ha : a ≤ 1048576) :
  (u.size + n.size + xs.length + sumM xs ≤ a ∧ Ev (fun k => laws_szBox.f k v u n w xs a) ((a - (u.size + n.size + xs.length + sumM xs) : Nat) : Int)) ∨ Ev (fun k => laws_szBox.f k v u n w xs a) (-1) := by
 unfold laws_szBox.f
 by_cases h1 : u.size ≤ a
 ·have e1 : wrap64 ((a : Int) - (u.size : Int)) = ((a - u.size : Nat) : Int) := by unfold wrap64; omega
  have q1 : ¬ (((a - u.size : Nat) : Int) < 0) := by omega
  simp only [e1, if_neg q1]
  by_cases h2 : n.size ≤ a - u.size
  ·have e2 : wrap64 (((a - u.size : Nat) : Int) - (n.size : Int)) = ((a - u.size - n.size : Nat) : Int) := by unfold wrap64; omega
   have q2 : ¬ (((a - u.size - n.size : Nat) : Int) < 0) := by omega
   simp only [e2, if_neg q2]
   rcases szMailS_ev xs hx hs (a - u.size - n.size) (by omega) with ⟨h3, e3⟩ | e3
   ·left
    refine ⟨by omega, Ev.bind e3 ?_⟩
    have q3 : ¬ (((a - u.size - n.size - (xs.length + sumM xs) : Nat) : Int) < 0) := by omega
    simp only [if_neg q3]
    rw [show a - (u.size + n.size + xs.length + sumM xs) = a - u.size - n.size - (xs.length + sumM xs) by omega]
    exact Ev.now _
   ·right
    refine Ev.bind e3 ?_
    simp only [if_pos (show (-1 : Int) < 0 by decide)]
    exact Ev.now _
  ·right
   have q : wrap64 (((a - u.size : Nat) : Int) - (n.size : Int)) < 0 := by unfold wrap64; omega
   simp only [if_pos q]
   exact Ev.now _
 ·right
  have q : wrap64 ((a : Int) - (u.size : Int)) < 0 := by unfold wrap64; omega
  simp only [if_pos q]
  exact Ev.now _
theorem toBox_ev (v : Int) (u n : ByteArray) (w : Int) (xs : List S103) (hx : xs.length ≤ 1048576) : Ev (fun k => laws_toBox.f k v u n w xs) (v, u, n, w, xs.map mailOf) := by
 unfold laws_toBox.f
 exact Ev.bind (toMailS_ev xs hx) (Ev.now _)
theorem eqBox_ev (v : Int) (u n : ByteArray) (w : Int) (xs : List S101) (hx : xs.length ≤ 1048576) : Ev (fun k => laws_eqBox.f k v u n w xs v u n w xs) true := by
 unfold laws_eqBox.f
 simp only [if_true]
 refine Ev.bind (eqMailS_ev xs (by omega)) ?_
 simp only [if_true]
 exact Ev.now _
def sumB : List S73 → Nat
 | [] => 0
 | x :: l => x.f1.size + x.f2.size + x.f4.length + sumM x.f4 + sumB l
def fitB (x : S73) : Prop := x.f1.size ≤ 9223372036854775807 ∧ x.f2.size ≤ 9223372036854775807 ∧ x.f4.length ≤ 9223372036854775807 ∧ ∀ m ∈ x.f4, m.f2.size ≤ 9223372036854775807
def boxOf (x : S73) : S84 := ⟨x.f0, x.f1, x.f2, x.f3, x.f4.map mailOf⟩
theorem rdB_drop1 {xs : List S73} {i : Nat} {x : S73} {l : List S73} (h : xs.drop i = x :: l) : rd_T73 xs (i : Int) = x := drop_getD _ h
theorem rdB_drop2 {xs : List S84} {i : Nat} {x : S84} {l : List S84} (h : xs.drop i = x :: l) : rd_T84 xs (i : Int) = x := drop_getD _ h
theorem sumB_mem {x : S73} : ∀ {xs : List S73}, x ∈ xs → x.f1.size + x.f2.size + x.f4.length + sumM x.f4 ≤ sumB xs
 | y :: l, h => by
  rcases List.mem_cons.1 h with rfl | h
  ·simp only [sumB]; omega
  ·have := sumB_mem h
   simp only [sumB]; omega
theorem szBoxS_l0 (xs : List S73) (hx : xs.length ≤ 9223372036854775807) (hs : ∀ x ∈ xs, fitB x) :
  ∀ (l : List S73) (i : Nat) (a : Nat), xs.drop i = l → i ≤ xs.length → a ≤ 1048576 →
   (sumB l ≤ a ∧ Ev (fun k => laws_szBoxS.l0 k xs a i) ((a - sumB l : Nat) : Int)) ∨ Ev (fun k => laws_szBoxS.l0 k xs a i) (-1)
 | [], i, a, h, hi, ha => by
  left
  have e := drop_end h hi
  exact ⟨Nat.zero_le _, Ev.step (fun k => by rw [laws_szBoxS.l0, if_neg (by omega)]; rfl) (Ev.now _)⟩
 | x :: l, i, a, h, hi, ha => by
  have hlt := drop_lt h
  obtain ⟨z1, z2, z3, z4⟩ := hs x (List.mem_of_mem_drop (i := i) (by rw [h]; exact List.mem_cons_self))
  have e := rdB_drop1 h
  have hst : ∀ k, laws_szBoxS.l0 (k + 1) xs a i = (laws_szBox.f k x.f0 x.f1 x.f2 x.f3 x.f4 a).bind fun t => if t < 0 then some (-1) else laws_szBoxS.l0 k xs t ((i + 1 : Nat) : Int) := fun k => by
   rw [laws_szBoxS.l0, if_pos (by omega), if_pos (by omega), e, wrap_succ i (by omega)]
  rcases szBox_ev x.f0 x.f1 x.f2 x.f3 x.f4 z1 z2 z3 z4 a ha with ⟨h1, h2⟩ | h2
  ·have q : ¬ (((a - (x.f1.size + x.f2.size + x.f4.length + sumM x.f4) : Nat) : Int) < 0) := by omega
   rcases szBoxS_l0 xs hx hs l (i + 1) (a - (x.f1.size + x.f2.size + x.f4.length + sumM x.f4)) (drop_tail h) (by omega) (by omega) with ⟨h3, h4⟩ | h4
   ·left
    refine ⟨by simp only [sumB]; omega, Ev.step hst (Ev.bind h2 ?_)⟩
    simp only [if_neg q]
    have e3 : a - sumB (x :: l) = a - (x.f1.size + x.f2.size + x.f4.length + sumM x.f4) - sumB l := by simp only [sumB]; omega
    rw [e3]; exact h4
   ·right
    refine Ev.step hst (Ev.bind h2 ?_)
    simp only [if_neg q]
    exact h4
  ·right
   refine Ev.step hst (Ev.bind h2 ?_)
   simp only [if_pos (show (-1 : Int) < 0 by decide)]
   exact Ev.now _
theorem szState_ev (xs : List S73) (hx : xs.length ≤ 9223372036854775807) (hs : ∀ x ∈ xs, fitB x) (a : Nat) (ha : a ≤ 1048576) :
  (xs.length + sumB xs ≤ a ∧ Ev (fun k => laws_szState.f k xs a) ((a - (xs.length + sumB xs) : Nat) : Int)) ∨ Ev (fun k => laws_szState.f k xs a) (-1) := by
 have hB : (xs.length + sumB xs ≤ a ∧ Ev (fun k => laws_szBoxS.f k xs a) ((a - (xs.length + sumB xs) : Nat) : Int)) ∨ Ev (fun k => laws_szBoxS.f k xs a) (-1) := by
  by_cases hb : xs.length ≤ a
  ·have ew : wrap64 ((a : Int) - (xs.length : Int)) = ((a - xs.length : Nat) : Int) := by unfold wrap64; omega
   have hf : ∀ k, laws_szBoxS.f k xs a = laws_szBoxS.l0 k xs ((a - xs.length : Nat) : Int) ((0 : Nat) : Int) := fun k => by
    rw [laws_szBoxS.f, ew, if_neg (by omega)]; rfl
   rcases szBoxS_l0 xs hx hs xs 0 (a - xs.length) rfl (by omega) (by omega) with ⟨h1, h2⟩ | h2
   ·left
    refine ⟨by omega, Ev.congr hf ?_⟩
    rw [show a - (xs.length + sumB xs) = a - xs.length - sumB xs by omega]; exact h2
   ·right; exact Ev.congr hf h2
  ·right
   refine Ev.congr (fun k => ?_) (Ev.now _)
   rw [laws_szBoxS.f, if_pos (by unfold wrap64; omega)]
 unfold laws_szState.f
 rcases hB with ⟨h1, h2⟩ | h2
 ·left
  have q : ¬ (((a - (xs.length + sumB xs) : Nat) : Int) < 0) := by omega
  refine ⟨h1, Ev.bind h2 ?_⟩
  simp only [if_neg q]
  exact Ev.now _
 ·right
  refine Ev.bind h2 ?_
  simp only [if_pos (show (-1 : Int) < 0 by decide)]
  exact Ev.now _
theorem toBoxS_l0 (xs : List S73) (hx : xs.length ≤ 1048576) (hs : ∀ x ∈ xs, x.f4.length ≤ 1048576) :
  ∀ (l : List S73) (i : Nat), xs.drop i = l → i ≤ xs.length →
   Ev (fun k => laws_toBoxS.l0 k xs ((xs.take i).map boxOf ++ List.replicate (xs.length - i) z84) i) (xs.map boxOf)
 | [], i, h, hi => by
  have e := drop_end h hi
  subst e
  refine Ev.step (fun k => by rw [laws_toBoxS.l0, if_neg (by omega)]) ?_
  rw [fill_end]; exact Ev.now _
 | x :: l, i, h, hi => by
  have hlt := drop_lt h
  have hz := hs x (List.mem_of_mem_drop (i := i) (by rw [h]; exact List.mem_cons_self))
  have hlen := fill_len xs boxOf z84 hi
  have hset := fill_set xs boxOf z84 h
  generalize (xs.take i).map boxOf ++ List.replicate (xs.length - i) z84 = Y at hlen hset
  refine Ev.step (f := fun k => (laws_toBox.f k x.f0 x.f1 x.f2 x.f3 x.f4).bind fun bt => if (i : Int) < (Y.length : Int) then laws_toBoxS.l0 k xs (Y.set (i : Int).toNat (⟨bt.1, bt.2.1, bt.2.2.1, bt.2.2.2.1, bt.2.2.2.2⟩ : S84)) ((i + 1 : Nat) : Int) else none) (fun k => by
   rw [laws_toBoxS.l0, if_pos (by omega), if_pos (by omega), rdB_drop1 h, wrap_succ i (by omega)]) ?_
  refine Ev.bind (toBox_ev x.f0 x.f1 x.f2 x.f3 x.f4 hz) ?_
  simp only [if_pos (show (i : Int) < (Y.length : Int) by omega), Int.toNat_natCast]
  rw [show (⟨x.f0, x.f1, x.f2, x.f3, x.f4.map mailOf⟩ : S84) = boxOf x from rfl, hset]
  exact toBoxS_l0 xs hx hs l (i + 1) (drop_tail h) (by omega)
theorem toState_ev (xs : List S73) (hx : xs.length ≤ 1048576) (hs : ∀ x ∈ xs, x.f4.length ≤ 1048576) : Ev (fun k => laws_toState.f k xs) (xs.map boxOf) := by
 unfold laws_toState.f
 refine Ev.bind (a := xs.map boxOf) ?_ (Ev.now _)
 refine Ev.congr (fun k => ?_) (toBoxS_l0 xs hx hs xs 0 rfl (by omega))
 rw [laws_toBoxS.f, if_pos (by omega), Int.toNat_natCast, if_pos (by omega)]
 simp
theorem eqBoxS_l0 (xs : List S84) (hx : xs.length ≤ 1048576) (hs : ∀ x ∈ xs, x.f4.length ≤ 1048576) :
  ∀ (l : List S84) (i : Nat), xs.drop i = l → i ≤ xs.length → Ev (fun k => laws_eqBoxS.l0 k xs xs i) true
 | [], i, h, hi => by
  have e := drop_end h hi
  exact Ev.step (fun k => by rw [laws_eqBoxS.l0, if_neg (by omega)]) (Ev.now true)
 | x :: l, i, h, hi => by
  have hlt := drop_lt h
  have hz := hs x (List.mem_of_mem_drop (i := i) (by rw [h]; exact List.mem_cons_self))
  refine Ev.step (f := fun k => (laws_eqBox.f k x.f0 x.f1 x.f2 x.f3 x.f4 x.f0 x.f1 x.f2 x.f3 x.f4).bind fun t => if t = true then laws_eqBoxS.l0 k xs xs ((i + 1 : Nat) : Int) else some false) (fun k => by
   rw [laws_eqBoxS.l0, if_pos (by omega), if_pos (by omega), if_pos (by omega), rdB_drop2 h, wrap_succ i (by omega)]) ?_
  refine Ev.bind (eqBox_ev x.f0 x.f1 x.f2 x.f3 x.f4 hz) ?_
  simp only [if_true]
  exact eqBoxS_l0 xs hx hs l (i + 1) (drop_tail h) (by omega)
theorem eqState_ev (xs : List S84) (hx : xs.length ≤ 1048576) (hs : ∀ x ∈ xs, x.f4.length ≤ 1048576) : Ev (fun k => laws_eqState.f k xs xs) true := by
 unfold laws_eqState.f
 refine Ev.bind (a := true) ?_ ?_
 ·refine Ev.congr (fun k => ?_) (eqBoxS_l0 xs hx hs xs 0 rfl (by omega))
  rw [laws_eqBoxS.f, if_pos rfl]; rfl
 ·simp only [if_true]
  exact Ev.now _
theorem boxOf_len {xs : List S73} (hs : ∀ x ∈ xs, x.f4.length ≤ 1048576) : ∀ x ∈ xs.map boxOf, x.f4.length ≤ 1048576 := by
 intro x hx
 obtain ⟨y, hy, rfl⟩ := List.mem_map.1 hx
 show (y.f4.map mailOf).length ≤ _
 rw [List.length_map]
 exact hs y hy
noncomputable def marksM : Nat → Nat → List S101
 | _, 0 => []
 | c, n + 1 => ⟨(c : Int), ((c + 1 : Nat) : Int), mt (c + 2)⟩ :: marksM (c + 3) n
theorem rdM_set (xs : List S101) (i : Nat) (v : S101) (h : i < xs.length) : rd_T101 (xs.set i v) (i : Int) = v := by
 unfold rd_T101
 rw [Int.toNat_natCast, List.getD_eq_getElem?_getD, List.getElem?_set_self h]
 rfl
theorem markMailS_l0 : ∀ (n i c : Nat) (xs : List S101), i + n = xs.length → c + 3 * n ≤ 1099511627776 → i + n ≤ 1099511627776 →
  Ev (fun k => laws_markMailS.l0 k xs c i) (((c + 3 * n : Nat) : Int), xs.take i ++ marksM c n)
 | 0, i, c, xs, h, hc, hi => by
  rw [show xs.take i = xs from List.take_of_length_le (by omega)]
  exact Ev.step (fun k => by rw [laws_markMailS.l0, if_neg (by omega)]; simp [marksM]) (Ev.now _)
 | n + 1, i, c, xs, h, hc, hi => by
  have hlt : i < xs.length := by omega
  have ih := markMailS_l0 n (i + 1) (c + 3) (xs.set i ⟨(c : Int), ((c + 1 : Nat) : Int), mt (c + 2)⟩) (by rw [List.length_set]; omega) (by omega) (by omega)
  rw [take_set_snoc _ xs i hlt, List.append_assoc, show c + 3 + 3 * n = c + 3 * (n + 1) by omega] at ih
  refine Ev.step (f := fun k => (laws_markText.f k ((c + 2 : Nat) : Int)).bind fun t => laws_markMailS.l0 k (xs.set i ⟨(c : Int), ((c + 1 : Nat) : Int), t⟩) ((c + 3 : Nat) : Int) ((i + 1 : Nat) : Int)) (fun k => ?_) (Ev.bind (markText_ev (c + 2) (by omega)) ih)
  rw [laws_markMailS.l0, if_pos (by omega), if_pos (by omega), Option.bind_some, Option.bind_some, wrap_succ c (by omega), wrap_succ (c + 1) (by omega), wrap_succ (c + 1 + 1) (by omega), wrap_succ i (by omega), Int.toNat_natCast]
  simp only [List.set_set, rdM_set xs i _ hlt]
theorem markMailS_ev (xs : List S101) (c : Nat) (h : xs.length ≤ 1099511627776) (hc : c + 3 * xs.length ≤ 1099511627776) : Ev (fun k => laws_markMailS.f k xs c) (((c + 3 * xs.length : Nat) : Int), marksM c xs.length) :=
 Ev.congr (fun k => rfl) (markMailS_l0 xs.length 0 c xs (by omega) hc (by omega))
def totB : List S84 → Nat
 | [] => 0
 | x :: l => 4 + 3 * x.f4.length + totB l
theorem totB_le : ∀ xs : List S73, totB (xs.map boxOf) ≤ 4 * xs.length + 3 * sumB xs
 | [] => Nat.le_refl _
 | x :: l => by
  have := totB_le l
  have e : (boxOf x).f4.length = x.f4.length := List.length_map ..
  simp only [List.map_cons, totB, sumB, List.length_cons]
  omega
theorem rdB_set (xs : List S84) (i : Nat) (v : S84) (h : i < xs.length) : rd_T84 (xs.set i v) (i : Int) = v := by
 unfold rd_T84
 rw [Int.toNat_natCast, List.getD_eq_getElem?_getD, List.getElem?_set_self h]
 rfl
theorem markBoxS_l0 : ∀ (l : List S84) (i c : Nat) (xs : List S84), xs.drop i = l → c + totB l ≤ 1099511627776 → xs.length ≤ 1099511627776 → i ≤ xs.length →
  ∃ ys, Ev (fun k => laws_markBoxS.l0 k xs c i) (((c + totB l : Nat) : Int), ys)
 | [], i, c, xs, hd, hc, hx, hi => by
  have e := drop_end hd hi
  exact ⟨xs, Ev.step (fun k => by rw [laws_markBoxS.l0, if_neg (by omega)]; rfl) (Ev.now _)⟩
 | x :: l, i, c, xs, hd, hc, hx, hi => by
  have hlt := drop_lt hd
  simp only [totB] at hc
  have hm := markMailS_ev x.f4 (c + 1 + 1 + 1 + 1) (by omega) (by omega)
  obtain ⟨ys, ih⟩ := markBoxS_l0 l (i + 1) (c + 1 + 1 + 1 + 1 + 3 * x.f4.length) (xs.set i ⟨(c : Int), mt (c + 1), mt (c + 1 + 1), ((c + 1 + 1 + 1 : Nat) : Int), marksM (c + 1 + 1 + 1 + 1) x.f4.length⟩) (by rw [List.drop_set_of_lt (by omega)]; exact drop_tail hd) (by omega) (by rw [List.length_set]; exact hx) (by rw [List.length_set]; omega)
  rw [show c + 1 + 1 + 1 + 1 + 3 * x.f4.length + totB l = c + totB (x :: l) by simp only [totB]; omega] at ih
  refine ⟨ys, Ev.step (f := fun k => (laws_markText.f k ((c + 1 : Nat) : Int)).bind fun t1 => (laws_markText.f k ((c + 1 + 1 : Nat) : Int)).bind fun t2 => (laws_markMailS.f k x.f4 ((c + 1 + 1 + 1 + 1 : Nat) : Int)).bind fun b => laws_markBoxS.l0 k (xs.set i ⟨(c : Int), t1, t2, ((c + 1 + 1 + 1 : Nat) : Int), b.2⟩) b.1 ((i + 1 : Nat) : Int)) (fun k => ?_) (Ev.bind (markText_ev (c + 1) (by omega)) (Ev.bind (markText_ev (c + 1 + 1) (by omega)) (Ev.bind hm ih)))⟩
  rw [laws_markBoxS.l0, if_pos (by omega), if_pos (by omega)]
  simp only [Option.bind_some, wrap_succ c (by omega), wrap_succ (c + 1) (by omega), wrap_succ (c + 1 + 1) (by omega), wrap_succ (c + 1 + 1 + 1) (by omega), wrap_succ i (by omega), Int.toNat_natCast, rdB_drop2 hd, List.set_set, fun v => rdB_set xs i v hlt]
def boxAt (u n : ByteArray) : List S84 → Int × ByteArray × ByteArray × Int × (List S101) × Bool
 | [] => (0, (⟨#[]⟩ : ByteArray), (⟨#[]⟩ : ByteArray), 0, [], false)
 | x :: l => if x.f1.toList = u.toList then (if x.f2.toList = n.toList then (x.f0, x.f1, x.f2, x.f3, x.f4, true) else boxAt u n l) else boxAt u n l
theorem spec_BoxOf_l0 (u n : ByteArray) (xs : List S84) (hx : xs.length ≤ 1048576) (hs : ∀ x ∈ xs, x.f4.length ≤ 1048576) :
  ∀ (l : List S84) (i : Nat), xs.drop i = l → i ≤ xs.length → Ev (fun k => spec_BoxOf.l0 k u n i xs) (boxAt u n l)
 | [], i, h, hi => by
  have e := drop_end h hi
  exact Ev.step (fun k => by rw [spec_BoxOf.l0, if_neg (by omega)]; rfl) (Ev.now _)
 | x :: l, i, h, hi => by
  have hlt := drop_lt h
  have hz := hs x (List.mem_of_mem_drop (i := i) (by rw [h]; exact List.mem_cons_self))
  have ih := spec_BoxOf_l0 u n xs hx hs l (i + 1) (drop_tail h) (by omega)
  rw [boxAt]
  by_cases c : x.f1.toList = u.toList
  ·rw [if_pos c]
   by_cases d : x.f2.toList = n.toList
   ·rw [if_pos d]
    refine Ev.step (f := fun _ => some (x.f0, x.f1, x.f2, x.f3, x.f4, true)) (fun k => ?_) (Ev.now _)
    rw [spec_BoxOf.l0, if_pos (by omega), if_pos (by omega), rdB_drop2 h, if_pos c, if_pos d]
    simp only [spec_l07Box.f, Option.bind_some, List.length_nil, List.nil_append, if_pos (show 0 + x.f4.length < 4398046511104 by omega)]
   ·rw [if_neg d]
    exact Ev.step (fun k => by rw [spec_BoxOf.l0, if_pos (by omega), if_pos (by omega), rdB_drop2 h, if_pos c, if_neg d, wrap_succ i (by omega)]) ih
  ·rw [if_neg c]
   exact Ev.step (fun k => by rw [spec_BoxOf.l0, if_pos (by omega), if_pos (by omega), rdB_drop2 h, if_neg c, wrap_succ i (by omega)]) ih
theorem impl_BoxOf_l0 (u n : ByteArray) (xs : List S84) (hx : xs.length ≤ 1048576) (hs : ∀ x ∈ xs, x.f4.length ≤ 1048576) :
  ∀ (l : List S84) (i : Nat), xs.drop i = l → i ≤ xs.length → Ev (fun k => impl_BoxOf.l0 k u n xs (xs.length : Int) i) (boxAt u n l)
 | [], i, h, hi => by
  have e := drop_end h hi
  exact Ev.step (fun k => by rw [impl_BoxOf.l0, if_neg (by omega)]; rfl) (Ev.now _)
 | x :: l, i, h, hi => by
  have hlt := drop_lt h
  have hz := hs x (List.mem_of_mem_drop (i := i) (by rw [h]; exact List.mem_cons_self))
  have ih := impl_BoxOf_l0 u n xs hx hs l (i + 1) (drop_tail h) (by omega)
  rw [boxAt]
  by_cases c : x.f1.toList = u.toList
  ·rw [if_pos c]
   by_cases d : x.f2.toList = n.toList
   ·rw [if_pos d]
    refine Ev.step (f := fun _ => some (x.f0, x.f1, x.f2, x.f3, x.f4, true)) (fun k => ?_) (Ev.now _)
    rw [impl_BoxOf.l0, if_pos (by omega), if_pos (by omega), if_pos (by omega), rdB_drop2 h, if_pos c, if_pos d]
    simp only [impl_cloneBox.f, impl_Mail.f, Option.bind_some, List.length_nil, List.nil_append, if_pos (show 0 + x.f4.length < 4398046511104 by omega)]
   ·rw [if_neg d]
    exact Ev.step (fun k => by rw [impl_BoxOf.l0, if_pos (by omega), if_pos (by omega), if_pos (by omega), rdB_drop2 h, if_pos c, if_neg d, wrap_succ i (by omega)]) ih
  ·rw [if_neg c]
   exact Ev.step (fun k => by rw [impl_BoxOf.l0, if_pos (by omega), if_pos (by omega), if_pos (by omega), rdB_drop2 h, if_neg c, wrap_succ i (by omega)]) ih
theorem rdC_drop {xs : List S65} {i : Nat} {x : S65} {l : List S65} (h : xs.drop i = x :: l) : rd_T65 xs (i : Int) = x := drop_getD _ h
theorem rdC_set (xs : List S65) (i : Nat) (v : S65) (h : i < xs.length) : rd_T65 (xs.set i v) (i : Int) = v := by
 unfold rd_T65
 rw [Int.toNat_natCast, List.getD_eq_getElem?_getD, List.getElem?_set_self h]
 rfl
theorem eqInt_nil : Ev (fun k => laws_eqIntS.f k [] []) true := by
 unfold laws_eqIntS.f
 simp only [if_true]
 refine Ev.step (fun k => rfl) ?_
 simp only [laws_eqIntS.l0, List.length_nil, if_neg (show ¬ ((0 : Int) < ((0 : Nat) : Int)) by decide)]
 exact Ev.now _
theorem markInt_nil (c : Int) : Ev (fun k => laws_markIntS.f k [] c) (c, []) := by
 unfold laws_markIntS.f
 refine Ev.step (fun k => rfl) ?_
 simp only [laws_markIntS.l0, List.length_nil, if_neg (show ¬ ((0 : Int) < ((0 : Nat) : Int)) by decide)]
 exact Ev.now _
theorem heldInt_nil (c : Int) : Ev (fun k => laws_heldIntS.f k [] c) c := by
 unfold laws_heldIntS.f
 refine Ev.step (fun k => rfl) ?_
 simp only [laws_heldIntS.l0, List.length_nil, if_neg (show ¬ ((0 : Int) < ((0 : Nat) : Int)) by decide)]
 exact Ev.now _
theorem eqCallS_l0 (xs : List S65) (hx : xs.length ≤ 1048576) (hf : ∀ x ∈ xs, x.f5 = []) :
  ∀ (l : List S65) (i : Nat), xs.drop i = l → i ≤ xs.length → Ev (fun k => laws_eqCallS.l0 k xs xs i) true
 | [], i, h, hi => by
  have e := drop_end h hi
  refine Ev.step (fun k => rfl) ?_
  simp only [laws_eqCallS.l0, if_neg (show ¬ ((i : Int) < (xs.length : Int)) by omega)]
  exact Ev.now _
 | x :: l, i, h, hi => by
  have hlt := drop_lt h
  have h5 : x.f5 = [] := hf x (List.mem_of_mem_drop (i := i) (by rw [h]; exact List.mem_cons_self))
  refine Ev.step (fun k => rfl) ?_
  simp only [laws_eqCallS.l0, if_pos (show (i : Int) < (xs.length : Int) by omega), if_pos (show (0 : Int) ≤ (i : Int) by omega), rdC_drop h, wrap_succ i (by omega), laws_eqCall.f, if_true, h5]
  refine Ev.bind (Ev.bind eqInt_nil (r := true) ?_) ?_
  ·simp only [if_true]; exact Ev.now _
  ·simp only [if_true]
   exact eqCallS_l0 xs hx hf l (i + 1) (drop_tail h) (by omega)
theorem eqCallS_ev (xs : List S65) (hx : xs.length ≤ 1048576) (hf : ∀ x ∈ xs, x.f5 = []) : Ev (fun k => laws_eqCallS.f k xs xs) true := by
 unfold laws_eqCallS.f
 simp only [if_true]
 exact Ev.congr (fun k => rfl) (eqCallS_l0 xs hx hf xs 0 rfl (Nat.zero_le _))
noncomputable def marksC : Nat → Nat → List S65
 | _, 0 => []
 | c, n + 1 => ⟨(c : Int), mt (c + 1), mt (c + 1 + 1), mt (c + 1 + 1 + 1), ((c + 1 + 1 + 1 + 1 : Nat) : Int), [], ((c + 1 + 1 + 1 + 1 + 1 : Nat) : Int), mt (c + 1 + 1 + 1 + 1 + 1 + 1)⟩ :: marksC (c + 7) n
theorem marksC_length : ∀ n c, (marksC c n).length = n
 | 0, _ => rfl
 | n + 1, c => by rw [marksC, List.length_cons, marksC_length n]
theorem markCallS_l0 : ∀ (l : List S65) (i c : Nat) (xs : List S65), xs.drop i = l → (∀ x ∈ l, x.f5 = []) → c + 7 * l.length ≤ 1099511627776 → xs.length ≤ 1099511627776 → i ≤ xs.length →
  Ev (fun k => laws_markCallS.l0 k xs c i) (((c + 7 * l.length : Nat) : Int), xs.take i ++ marksC c l.length)
 | [], i, c, xs, hd, hf, hc, hx, hi => by
  have e := drop_end hd hi
  rw [show xs.take i = xs from List.take_of_length_le (by omega)]
  refine Ev.step (fun k => rfl) ?_
  simp only [laws_markCallS.l0, if_neg (show ¬ ((i : Int) < (xs.length : Int)) by omega), List.length_nil, marksC, List.append_nil, Nat.mul_zero, Nat.add_zero]
  exact Ev.now _
 | x :: l, i, c, xs, hd, hf, hc, hx, hi => by
  have hlt := drop_lt hd
  have h5 : x.f5 = [] := hf x List.mem_cons_self
  simp only [List.length_cons] at hc
  have ih := markCallS_l0 l (i + 1) (c + 7) (xs.set i ⟨(c : Int), mt (c + 1), mt (c + 1 + 1), mt (c + 1 + 1 + 1), ((c + 1 + 1 + 1 + 1 : Nat) : Int), [], ((c + 1 + 1 + 1 + 1 + 1 : Nat) : Int), mt (c + 1 + 1 + 1 + 1 + 1 + 1)⟩)
   (by rw [List.drop_set_of_lt (by omega)]; exact drop_tail hd) (fun y hy => hf y (List.mem_cons_of_mem _ hy)) (by omega) (by rw [List.length_set]; exact hx) (by rw [List.length_set]; omega)
  rw [take_set_snoc _ xs i hlt, List.append_assoc, show c + 7 + 7 * l.length = c + 7 * (x :: l).length by rw [List.length_cons]; omega] at ih
  refine Ev.step (fun k => rfl) ?_
  simp only [laws_markCallS.l0, if_pos (show (i : Int) < (xs.length : Int) by omega), if_pos (show (0 : Int) ≤ (i : Int) by omega), Option.bind_some, wrap_succ c (by omega), wrap_succ (c + 1) (by omega), wrap_succ (c + 1 + 1) (by omega), wrap_succ (c + 1 + 1 + 1) (by omega), wrap_succ (c + 1 + 1 + 1 + 1) (by omega), wrap_succ i (by omega), Int.toNat_natCast, rdC_drop hd, List.set_set, fun v => rdC_set xs i v hlt, h5]
  refine Ev.bind (markText_ev (c + 1) (by omega)) (Ev.bind (markText_ev (c + 1 + 1) (by omega)) (Ev.bind (markText_ev (c + 1 + 1 + 1) (by omega)) (Ev.bind (markInt_nil _) ?_)))
  simp only [wrap_succ (c + 1 + 1 + 1 + 1 + 1) (by omega)]
  refine Ev.bind (markText_ev (c + 1 + 1 + 1 + 1 + 1 + 1) (by omega)) ?_
  simp only [wrap_succ (c + 1 + 1 + 1 + 1 + 1 + 1) (by omega)]
  exact ih
theorem markCallS_ev (xs : List S65) (c : Nat) (hf : ∀ x ∈ xs, x.f5 = []) (h : xs.length ≤ 1099511627776) (hc : c + 7 * xs.length ≤ 1099511627776) : Ev (fun k => laws_markCallS.f k xs c) (((c + 7 * xs.length : Nat) : Int), marksC c xs.length) :=
 Ev.congr (fun k => rfl) (markCallS_l0 xs 0 c xs rfl hf hc h (Nat.zero_le _))
theorem heldCallS_l0 (xs : List S65) : ∀ (n i c : Nat), xs.drop i = marksC c n → i + n = xs.length → c + 7 * n ≤ 1099511627776 → i + n ≤ 1099511627776 →
  Ev (fun k => laws_heldCallS.l0 k xs c i) ((c + 7 * n : Nat) : Int)
 | 0, i, c, hd, h, hc, hi => by
  refine Ev.step (fun k => rfl) ?_
  simp only [laws_heldCallS.l0, if_neg (show ¬ ((i : Int) < (xs.length : Int)) by omega), Nat.mul_zero, Nat.add_zero]
  exact Ev.now _
 | n + 1, i, c, hd, h, hc, hi => by
  have ih := heldCallS_l0 xs n (i + 1) (c + 7) (drop_tail hd) (by omega) (by omega) (by omega)
  rw [show c + 7 + 7 * n = c + 7 * (n + 1) by omega] at ih
  have nn : ∀ m : Nat, ¬ ((m : Int) < 0) := fun m => by omega
  refine Ev.step (fun k => rfl) ?_
  simp only [laws_heldCallS.l0, if_pos (show (i : Int) < (xs.length : Int) by omega), if_pos (show (0 : Int) ≤ (i : Int) by omega), rdC_drop hd, if_true, wrap_succ c (by omega), wrap_succ (c + 1) (by omega), wrap_succ (c + 1 + 1) (by omega), wrap_succ (c + 1 + 1 + 1) (by omega), wrap_succ (c + 1 + 1 + 1 + 1) (by omega), wrap_succ i (by omega)]
  refine Ev.bind (markText_ev (c + 1) (by omega)) ?_
  simp only [if_true]
  refine Ev.bind (markText_ev (c + 1 + 1) (by omega)) ?_
  simp only [if_true]
  refine Ev.bind (markText_ev (c + 1 + 1 + 1) (by omega)) ?_
  simp only [if_true]
  refine Ev.bind (heldInt_nil _) ?_
  simp only [if_neg (nn _), if_true, wrap_succ (c + 1 + 1 + 1 + 1 + 1) (by omega)]
  refine Ev.bind (markText_ev (c + 1 + 1 + 1 + 1 + 1 + 1) (by omega)) ?_
  simp only [if_true, wrap_succ (c + 1 + 1 + 1 + 1 + 1 + 1) (by omega)]
  exact ih
theorem heldCallS_ev (n c : Nat) (h : n ≤ 1099511627776) (hc : c + 7 * n ≤ 1099511627776) : Ev (fun k => laws_heldCallS.f k (marksC c n) c) ((c + 7 * n : Nat) : Int) :=
 Ev.congr (fun k => rfl) (heldCallS_l0 (marksC c n) n 0 c rfl (by rw [marksC_length]; omega) hc (by omega))
def traced (D F u : ByteArray) : ByteArray := (((((⟨#[102, 114, 111, 109, 58, 32]⟩ : ByteArray) ++ F) ++ (⟨#[10, 116, 111, 58, 32]⟩ : ByteArray)) ++ u) ++ (⟨#[10]⟩ : ByteArray)) ++ D
theorem spec_Traced_eq (D F u : ByteArray) (hD : D.size ≤ 1099511627776) (hF : F.size ≤ 1099511627776) (hu : u.size ≤ 1099511627776) : spec_Traced.f D F u = some (traced D F u) := by
 have e1 : (⟨#[102, 114, 111, 109, 58, 32]⟩ : ByteArray).size = 6 := rfl
 have e2 : (⟨#[10, 116, 111, 58, 32]⟩ : ByteArray).size = 5 := rfl
 have e3 : (⟨#[10]⟩ : ByteArray).size = 1 := rfl
 unfold spec_Traced.f traced
 rw [if_pos (by omega), if_pos (by simp only [ByteArray.size_append, e1, e2, e3]; omega), if_pos (by simp only [ByteArray.size_append, e1, e2, e3]; omega),
  if_pos (by simp only [ByteArray.size_append, e1, e2, e3]; omega), if_pos (by simp only [ByteArray.size_append, e1, e2, e3]; omega)]
theorem impl_Traced_eq (D F u : ByteArray) (hD : D.size ≤ 1099511627776) (hF : F.size ≤ 1099511627776) (hu : u.size ≤ 1099511627776) : impl_Traced.f D F u = some (traced D F u) := spec_Traced_eq D F u hD hF hu
theorem joined_size : ∀ (l : List ByteArray) (s : ByteArray), (joined l s).size = s.size + l.length + sumS l
 | [], s => rfl
 | x :: l, s => by
  have e3 : (⟨#[10]⟩ : ByteArray).size = 1 := rfl
  rw [joined, joined_size l, sumS, List.length_cons]
  simp only [ByteArray.size_append, e3]
  omega
theorem sumS_mem {x : ByteArray} : ∀ {xs : List ByteArray}, x ∈ xs → x.size ≤ sumS xs
 | y :: l, h => by
  rw [sumS]
  rcases List.mem_cons.mp h with h | h
  ·subst h; omega
  ·have := sumS_mem h; omega
def callOf (u t : ByteArray) : S65 := ⟨3, u, (⟨#[105, 110, 98, 111, 120]⟩ : ByteArray), (⟨#[]⟩ : ByteArray), 0, ([] : List Int), 0, t⟩
def deliv (D F : ByteArray) : List ByteArray → List S65 → ByteArray × ByteArray × List S65
 | [], acc => if (acc.length : Int) = 0 then ((⟨#[50, 53, 48, 32, 111, 107]⟩ : ByteArray), (⟨#[]⟩ : ByteArray), []) else ((⟨#[50, 53, 48, 32, 111, 107]⟩ : ByteArray), (⟨#[52, 53, 50, 32, 102, 117, 108, 108]⟩ : ByteArray), acc)
 | u :: l, acc => if ((traced D F u).size : Int) > 100 then ((⟨#[53, 53, 50, 32, 108, 111, 110, 103]⟩ : ByteArray), (⟨#[]⟩ : ByteArray), []) else deliv D F l (acc ++ [callOf u (traced D F u)])
theorem deliv_good (D F : ByteArray) : ∀ (l : List ByteArray) (acc : List S65), (∀ c ∈ acc, c.f5 = []) → (∀ c ∈ (deliv D F l acc).2.2, c.f5 = []) ∧ (deliv D F l acc).2.2.length ≤ acc.length + l.length
 | [], acc, h => by
  rw [deliv]
  split
  ·exact ⟨fun c hc => absurd hc (by simp), Nat.zero_le _⟩
  ·exact ⟨h, Nat.le_refl _⟩
 | u :: l, acc, h => by
  rw [deliv]
  split
  ·exact ⟨fun c hc => absurd hc (by simp), Nat.zero_le _⟩
  ·have := deliv_good D F l (acc ++ [callOf u (traced D F u)]) (fun c hc => by
    rcases List.mem_append.mp hc with q | q
    ·exact h c q
    ·rw [List.mem_singleton.mp q]; rfl)
   refine ⟨this.1, Nat.le_trans this.2 ?_⟩
   simp only [List.length_append, List.length_cons, List.length_nil]; omega
section
variable (st : Int) (F : ByteArray) (xs ys : List ByteArray)
theorem impl_delivered_l0 (hy : ys.length + sumS ys ≤ 1048576) (hF : F.size ≤ 1048576) (hx : xs.length + sumS xs ≤ 1048576) :
  ∀ (l : List ByteArray) (i : Nat) (acc : List S65), xs.drop i = l → i ≤ xs.length → acc.length ≤ i → Ev (fun k => impl_delivered.l0 k acc xs (xs.length : Int) i st F xs ys) (deliv (joined ys (⟨#[]⟩ : ByteArray)) F l acc)
 | [], i, acc, h, hi, ha => by
  have e := drop_end h hi
  refine Ev.step (fun k => rfl) ?_
  simp only [impl_delivered.l0, if_neg (show ¬ ((i : Int) < (xs.length : Int)) by omega), deliv]
  exact ev_ite (fun q => by simp only [if_pos q]; exact Ev.now _) (fun q => by simp only [if_neg q]; exact Ev.now _)
 | u :: l, i, acc, h, hi, ha => by
  have hlt := drop_lt h
  have hu := sumS_mem (List.mem_of_mem_drop (i := i) (by rw [h]; exact List.mem_cons_self) : u ∈ xs)
  have hD : (joined ys (⟨#[]⟩ : ByteArray)).size ≤ 1099511627776 := by rw [joined_size]; show 0 + _ + _ ≤ _; omega
  refine Ev.step (fun k => rfl) ?_
  simp only [impl_delivered.l0, if_pos (show (i : Int) < (xs.length : Int) by omega), if_pos (show (0 : Int) ≤ (i : Int) by omega), rdOf_drop _ h, wrap_succ i (by omega)]
  refine Ev.bind (impl_TextOf_ev ys hy) ?_
  simp only [impl_Traced_eq _ F u hD (by omega) (by omega), Option.bind_some, deliv]
  refine ev_ite (fun q => by simp only [if_pos q]; exact Ev.now _) (fun q => ?_)
  simp only [if_neg q, if_pos (show acc.length < 1256584717458 by omega)]
  exact impl_delivered_l0 hy hF hx l (i + 1) (acc ++ [callOf u (traced _ F u)]) (drop_tail h) (by omega) (by simp only [List.length_append, List.length_cons, List.length_nil]; omega)
theorem spec_l19Data_l0 (hy : ys.length + sumS ys ≤ 1048576) (hF : F.size ≤ 1048576) (hx : xs.length + sumS xs ≤ 1048576) :
  ∀ (l : List ByteArray) (i : Nat) (acc : List S65), xs.drop i = l → i ≤ xs.length → acc.length ≤ i → Ev (fun k => spec_l19Data.l0 k [] acc i st F xs ys)
   (1, (⟨#[]⟩ : ByteArray), ([] : List ByteArray), ([] : List ByteArray), (deliv (joined ys (⟨#[]⟩ : ByteArray)) F l acc).1, (deliv (joined ys (⟨#[]⟩ : ByteArray)) F l acc).2.1, (deliv (joined ys (⟨#[]⟩ : ByteArray)) F l acc).2.2)
 | [], i, acc, h, hi, ha => by
  have e := drop_end h hi
  refine Ev.step (fun k => rfl) ?_
  simp only [spec_l19Data.l0, if_neg (show ¬ ((i : Int) < (xs.length : Int)) by omega), deliv]
  refine ev_ite (fun q => ?_) (fun q => by simp only [if_neg q]; exact Ev.now _)
  simp only [if_pos q]
  rw [show acc = [] from List.eq_nil_of_length_eq_zero (by omega)]
  exact Ev.now _
 | u :: l, i, acc, h, hi, ha => by
  have hlt := drop_lt h
  have hu := sumS_mem (List.mem_of_mem_drop (i := i) (by rw [h]; exact List.mem_cons_self) : u ∈ xs)
  have hD : (joined ys (⟨#[]⟩ : ByteArray)).size ≤ 1099511627776 := by rw [joined_size]; show 0 + _ + _ ≤ _; omega
  refine Ev.step (fun k => rfl) ?_
  simp only [spec_l19Data.l0, if_pos (show (i : Int) < (xs.length : Int) by omega), if_pos (show (0 : Int) ≤ (i : Int) by omega), rdOf_drop _ h, wrap_succ i (by omega)]
  refine Ev.bind (spec_TextOf_ev ys hy) ?_
  simp only [spec_Traced_eq _ F u hD (by omega) (by omega), Option.bind_some, deliv]
  refine ev_ite (fun q => by simp only [if_pos q]; exact Ev.now _) (fun q => ?_)
  simp only [if_neg q, if_pos (show acc.length < 1256584717458 by omega)]
  exact spec_l19Data_l0 hy hF hx l (i + 1) (acc ++ [callOf u (traced _ F u)]) (drop_tail h) (by omega) (by simp only [List.length_append, List.length_cons, List.length_nil]; omega)
theorem spec_l19Copy_eq (hx : xs.length ≤ 1048576) (hy : ys.length ≤ 1048576) : spec_l19Copy.f st F xs ys = some (st, F, xs, ys) := by
 simp only [spec_l19Copy.f, Option.bind_some, List.length_nil, List.nil_append, if_pos (show 0 + xs.length < 8796093022208 by omega), if_pos (show 0 + ys.length < 8796093022208 by omega)]
theorem impl_cloneBring_eq (hx : xs.length ≤ 1048576) (hy : ys.length ≤ 1048576) : impl_cloneBring.f st F xs ys = some (st, F, xs, ys) := by
 simp only [impl_cloneBring.f, slices_Clone_string_string.f, Option.bind_some, List.length_nil, List.nil_append, if_pos (show 0 + xs.length < 8796093022208 by omega), if_pos (show 0 + ys.length < 8796093022208 by omega)]
def Okay (g : Int × ByteArray × List ByteArray × List ByteArray × ByteArray × ByteArray × List S65) : Prop := g.2.2.1.length ≤ 1048576 ∧ g.2.2.2.1.length ≤ 1048576 ∧ g.2.2.2.2.2.2.length ≤ 1048576 ∧ ∀ c ∈ g.2.2.2.2.2.2, c.f5 = []
theorem okay_nil (a : Int) (b : ByteArray) (c d : List ByteArray) (e f : ByteArray) (hc : c.length ≤ 1048576) (hd : d.length ≤ 1048576) : Okay (a, b, c, d, e, f, []) := ⟨hc, hd, Nat.zero_le _, fun x hx => absurd hx (by simp)⟩
theorem data_both (line : ByteArray) (hy : ys.length + sumS ys ≤ 1048576) (hF : F.size ≤ 1048576) (hx : xs.length + sumS xs ≤ 1048576) :
  ∃ g, Ev (fun k => spec_l19Data.f k st F xs ys line) g ∧ Ev (fun k => impl_stepData.f k st F xs ys line) g ∧ Okay g := by
 obtain ⟨eU, ⟨t, m⟩, hU⟩ := impl_UndotLine_eq line
 unfold spec_l19Data.f impl_stepData.f
 simp only [Option.bind_some, spec_l19Copy_eq st F xs ys (by omega) (by omega), eU, hU]
 cases m
 ·simp only [Bool.false_eq_true, if_false]
  have h1 := spec_l19Data_l0 st F xs ys hy hF hx xs 0 [] rfl (Nat.zero_le _) (Nat.le_refl _)
  have h2 := impl_delivered_l0 st F xs ys hy hF hx xs 0 [] rfl (Nat.zero_le _) (Nat.le_refl _)
  have hg := deliv_good (joined ys (⟨#[]⟩ : ByteArray)) F xs [] (fun c hc => absurd hc (by simp))
  generalize deliv (joined ys (⟨#[]⟩ : ByteArray)) F xs [] = d at h1 h2 hg
  refine ⟨_, Ev.congr (fun k => rfl) h1, ?_, ?_⟩
  ·refine Ev.bind (a := d) (Ev.congr (fun k => rfl) h2) ?_
   simp only [impl_hello.f, Option.bind_some]
   exact Ev.now _
  ·exact ⟨Nat.zero_le _, Nat.zero_le _, Nat.le_trans hg.2 (by simp only [List.length_nil]; omega), hg.1⟩
 ·simp only [if_true]
  by_cases h : (ys.length : Int) < 101
  ·simp only [if_pos h, if_pos (show ys.length < 8796093022208 by omega)]
   exact ⟨_, Ev.now _, Ev.now _, okay_nil _ _ _ _ _ _ (by omega) (by simp only [List.length_append, List.length_cons, List.length_nil]; omega)⟩
  ·simp only [if_neg h]
   exact ⟨_, Ev.now _, Ev.now _, okay_nil _ _ _ _ _ _ (by omega) (by omega)⟩
theorem rcpt_both (bs : List S84) (u : ByteArray) (hb : bs.length ≤ 1048576) (hm : ∀ x ∈ bs, x.f4.length ≤ 1048576) (hx : xs.length ≤ 1048576) (hy : ys.length ≤ 1048576) :
  ∃ g, Ev (fun k => spec_l19Rcpt.f k st F xs ys bs u) g ∧ Ev (fun k => impl_rcpt.f k st F xs ys bs u) g ∧ g.2.2.1.length ≤ 1048576 ∧ g.2.2.2.1.length ≤ 1048576 := by
 have hS : Ev (fun k => spec_BoxOf.f k bs u (⟨#[105, 110, 98, 111, 120]⟩ : ByteArray)) (boxAt u (⟨#[105, 110, 98, 111, 120]⟩ : ByteArray) bs) := Ev.congr (fun k => rfl) (spec_BoxOf_l0 u _ bs hb hm bs 0 rfl (Nat.zero_le _))
 have hI : Ev (fun k => impl_BoxOf.f k bs u (⟨#[105, 110, 98, 111, 120]⟩ : ByteArray)) (boxAt u (⟨#[105, 110, 98, 111, 120]⟩ : ByteArray) bs) := Ev.congr (fun k => rfl) (impl_BoxOf_l0 u _ bs hb hm bs 0 rfl (Nat.zero_le _))
 generalize boxAt u (⟨#[105, 110, 98, 111, 120]⟩ : ByteArray) bs = b at hS hI
 have h1 := spec_l19In_ev xs u hx
 have h2 := slices_Contains_ev xs u hx
 generalize hasB u xs = q at h1 h2
 unfold spec_l19Rcpt.f impl_rcpt.f
 simp only [Option.bind_some, spec_l19Copy_eq st F xs ys hx hy]
 by_cases hb2 : b.2.2.2.2.2 = true
 ·cases q
  ·by_cases h3 : (xs.length : Int) ≥ 3
   ·refine ⟨(st, F, xs, ys, (⟨#[53, 53, 50, 32, 109, 97, 110, 121]⟩ : ByteArray)), Ev.bind hS ?_, Ev.bind hI ?_, hx, hy⟩
    ·simp only [if_pos hb2]; refine Ev.bind h1 ?_; simp only [Bool.false_eq_true, if_false, if_pos h3]; exact Ev.now _
    ·simp only [if_pos hb2]; refine Ev.bind h2 ?_; simp only [Bool.false_eq_true, if_false, if_pos h3]; exact Ev.now _
   ·refine ⟨(3, F, xs ++ [u], ys, (⟨#[50, 53, 48, 32, 111, 107]⟩ : ByteArray)), Ev.bind hS ?_, Ev.bind hI ?_, ?_⟩
    ·simp only [if_pos hb2]; refine Ev.bind h1 ?_; simp only [Bool.false_eq_true, if_false, if_neg h3, if_pos (show xs.length < 8796093022208 by omega)]; exact Ev.now _
    ·simp only [if_pos hb2]; refine Ev.bind h2 ?_; simp only [Bool.false_eq_true, if_false, if_neg h3, if_pos (show xs.length < 8796093022208 by omega)]; exact Ev.now _
    ·exact ⟨by simp only [List.length_append, List.length_cons, List.length_nil]; omega, hy⟩
  ·refine ⟨(3, F, xs, ys, (⟨#[50, 53, 48, 32, 111, 107]⟩ : ByteArray)), Ev.bind hS ?_, Ev.bind hI ?_, hx, hy⟩
   ·simp only [if_pos hb2]; refine Ev.bind h1 ?_; simp only [if_true]; exact Ev.now _
   ·simp only [if_pos hb2]; refine Ev.bind h2 ?_; simp only [if_true]; exact Ev.now _
 ·refine ⟨(st, F, xs, ys, (⟨#[53, 53, 48, 32, 110, 111, 98, 111, 100, 121]⟩ : ByteArray)), Ev.bind hS ?_, Ev.bind hI ?_, hx, hy⟩
  ·simp only [if_neg hb2]; exact Ev.now _
  ·simp only [if_neg hb2]; exact Ev.now _
end
theorem fields_small : ∀ (l cur : List UInt8), ∀ w ∈ Lib.fieldsGo cur l, w.length ≤ cur.length + l.length
 | [], cur, w, h => by
  unfold Lib.fieldsGo at h
  split at h
  ·exact absurd h (by simp)
  ·rw [List.mem_singleton.mp h]; omega
 | b :: l, cur, w, h => by
  unfold Lib.fieldsGo at h
  rw [List.length_cons]
  split at h
  ·split at h
   ·have := fields_small l [] w h; simp only [List.length_nil] at this; omega
   ·rcases List.mem_cons.mp h with h | h
    ·rw [h]; omega
    ·have := fields_small l [] w h; simp only [List.length_nil] at this; omega
  ·have := fields_small l (cur ++ [b]) w h
   simp only [List.length_append, List.length_cons, List.length_nil] at this; omega
theorem parts_small (s : ByteArray) : ∀ w ∈ (parts s).1, w.size ≤ 1048576 := by
 intro w hw
 unfold parts at hw
 split at hw
 ·exact absurd hw (by simp)
 ·rename_i h6
  split at hw
  ·unfold endOf at hw
   split at hw
   ·exact absurd hw (by simp)
   ·obtain ⟨x, hx, rfl⟩ := List.mem_map.mp hw
    have := fields_small s.data.toList [] x hx
    rw [size_data] at this
    rw [mk_size]
    simp only [List.length_nil] at this
    omega
  ·exact absurd hw (by simp)
theorem rdOf_mem (xs : List ByteArray) (i : Nat) (h : i < xs.length) : rdOf ByteArray.empty xs (i : Int) ∈ xs := by
 obtain ⟨x, l, e⟩ : ∃ x l, xs.drop i = x :: l := by
  cases hd : xs.drop i with
  | nil => have := drop_end hd (by omega); omega
  | cons x l => exact ⟨x, l, rfl⟩
 rw [rdOf_drop _ e]
 exact List.mem_of_mem_drop (i := i) (by rw [e]; exact List.mem_cons_self)
section
variable (st : Int) (F : ByteArray) (xs ys : List ByteArray) (bs : List S84) (ws : List ByteArray) (w : ByteArray)
theorem spec_j0_t : Ev (fun k => spec_StepBring.j0 k [] ws w true st F xs ys bs st F xs ys) (st, F, xs, ys, (⟨#[53, 48, 49, 32, 119, 111, 114, 100, 115]⟩ : ByteArray), (⟨#[]⟩ : ByteArray), []) := by
 refine Ev.step (fun k => rfl) ?_
 simp only [spec_StepBring.j0, if_true]
 exact Ev.now _
theorem impl_j0_t (m : Bool) : Ev (fun k => impl_StepBring.j0 k ws w m true st F xs ys bs) (st, F, xs, ys, (⟨#[53, 48, 49, 32, 119, 111, 114, 100, 115]⟩ : ByteArray), (⟨#[]⟩ : ByteArray), []) := by
 refine Ev.step (fun k => rfl) ?_
 simp only [impl_StepBring.j0, if_true]
 exact Ev.now _
theorem impl_j0_no : Ev (fun k => impl_StepBring.j0 k ws w false false st F xs ys bs) (st, F, xs, ys, (⟨#[53, 48, 51, 32, 111, 114, 100, 101, 114]⟩ : ByteArray), (⟨#[]⟩ : ByteArray), []) := by
 refine Ev.step (fun k => rfl) ?_
 simp only [impl_StepBring.j0, Bool.false_eq_true, if_false]
 exact Ev.now _
theorem spec_j0_go (h1 : w.toList = ([109, 97, 105, 108] : List UInt8) → st = 1) (h2 : w.toList = ([114, 99, 112, 116] : List UInt8) → st = 2 ∨ st = 3) (h3 : w.toList = ([100, 97, 116, 97] : List UInt8) → st = 3) {r : Int × ByteArray × List ByteArray × List ByteArray × ByteArray × ByteArray × List S65}
  (h : Ev (fun k => spec_StepBring.j1 k [] ws w st F xs ys bs st F xs ys) r) : Ev (fun k => spec_StepBring.j0 k [] ws w false st F xs ys bs st F xs ys) r := by
 refine Ev.step (fun k => rfl) ?_
 simp only [spec_StepBring.j0, Bool.false_eq_true, if_false]
 repeat' (first | exact h | refine ev_ite (fun _ => ?_) (fun _ => ?_))
 all_goals first
  | exact absurd (h1 (by assumption)) (by assumption)
  | exact absurd (h3 (by assumption)) (by assumption)
  | (rcases h2 (by assumption) with q | q <;> exact absurd q (by assumption))
theorem spec_j0_mail (e : w.toList = ([109, 97, 105, 108] : List UInt8)) (h : ¬ st = 1) : Ev (fun k => spec_StepBring.j0 k [] ws w false st F xs ys bs st F xs ys) (st, F, xs, ys, (⟨#[53, 48, 51, 32, 111, 114, 100, 101, 114]⟩ : ByteArray), (⟨#[]⟩ : ByteArray), []) := by
 refine Ev.step (fun k => rfl) ?_
 simp (decide := true) only [spec_StepBring.j0, e, h, if_true, if_false]
 exact Ev.now _
theorem spec_j0_rcpt (e : w.toList = ([114, 99, 112, 116] : List UInt8)) (h : ¬ st = 2) (h3 : ¬ st = 3) : Ev (fun k => spec_StepBring.j0 k [] ws w false st F xs ys bs st F xs ys) (st, F, xs, ys, (⟨#[53, 48, 51, 32, 111, 114, 100, 101, 114]⟩ : ByteArray), (⟨#[]⟩ : ByteArray), []) := by
 refine Ev.step (fun k => rfl) ?_
 simp (decide := true) only [spec_StepBring.j0, e, h, h3, if_true, if_false]
 exact Ev.now _
theorem spec_j0_data (e : w.toList = ([100, 97, 116, 97] : List UInt8)) (h : ¬ st = 3) : Ev (fun k => spec_StepBring.j0 k [] ws w false st F xs ys bs st F xs ys) (st, F, xs, ys, (⟨#[53, 48, 51, 32, 111, 114, 100, 101, 114]⟩ : ByteArray), (⟨#[]⟩ : ByteArray), []) := by
 refine Ev.step (fun k => rfl) ?_
 simp (decide := true) only [spec_StepBring.j0, e, h, if_true, if_false]
 exact Ev.now _
theorem word_both (hb : bs.length ≤ 1048576) (hm : ∀ x ∈ bs, x.f4.length ≤ 1048576) (hx : xs.length ≤ 1048576) (hy : ys.length ≤ 1048576) :
  ∃ c m, impl_bringWords.f w st = some (c, m) ∧ Ev (fun k => spec_l19Size.f k w) c ∧
   (¬ c = 0 → (c = 2 → 1 < (ws.length : Int)) → ∃ g, Ev (fun k => spec_StepBring.j0 k [] ws w false st F xs ys bs st F xs ys) g ∧ Ev (fun k => impl_StepBring.j0 k ws w m false st F xs ys bs) g ∧ Okay g) := by
 by_cases e : w.toList = ([104, 101, 108, 111] : List UInt8)
 ·refine ⟨2, true, ?_, ?_, fun _ hl => ?_⟩
  ·simp (decide := true) only [impl_bringWords.f, e, if_true, if_false]
  ·unfold spec_l19Size.f
   simp (decide := true) only [e, if_true, if_false, beq_self_eq_true]
   refine Ev.step (fun k => rfl) ?_
   simp (decide := true) only [spec_l19Size.j0, e, if_true, if_false]
   exact Ev.now _
  ·refine ⟨(1, (⟨#[]⟩ : ByteArray), [], [], (⟨#[50, 53, 48, 32, 111, 107]⟩ : ByteArray), (⟨#[]⟩ : ByteArray), []), spec_j0_go st F xs ys bs ws w (fun q => ?_) (fun q => ?_) (fun q => ?_) (Ev.step (fun k => rfl) ?_), Ev.step (fun k => rfl) ?_, okay_nil _ _ _ _ _ _ (Nat.zero_le _) (Nat.zero_le _)⟩
   ·rw [e] at q; exact absurd q (by decide)
   ·rw [e] at q; exact absurd q (by decide)
   ·rw [e] at q; exact absurd q (by decide)
   ·simp (decide := true) only [spec_StepBring.j1, e, if_true, if_false]; exact Ev.now _
   ·simp (decide := true) only [impl_StepBring.j0, impl_hello.f, Option.bind_some, e, if_true, if_false]; exact Ev.now _
 have e1 := e
 clear e
 by_cases e : w.toList = ([109, 97, 105, 108] : List UInt8)
 ·refine ⟨2, (st == 1), ?_, ?_, fun _ hl => ?_⟩
  ·simp (decide := true) only [impl_bringWords.f, e, if_true, if_false]
  ·unfold spec_l19Size.f
   simp (decide := true) only [e, if_true, if_false, beq_self_eq_true]
   refine Ev.step (fun k => rfl) ?_
   simp (decide := true) only [spec_l19Size.j0, e, if_true, if_false]
   exact Ev.now _
  ·by_cases h : st = 1
   ·have hm1 : (st == 1) = true := beq_iff_eq.mpr h
    have h2 := hl rfl
    refine ⟨(2, rdOf ByteArray.empty ws 1, xs, ys, (⟨#[50, 53, 48, 32, 111, 107]⟩ : ByteArray), (⟨#[]⟩ : ByteArray), []), spec_j0_go st F xs ys bs ws w (fun _ => h) (fun q => ?_) (fun q => ?_) (Ev.step (fun k => rfl) ?_), Ev.step (fun k => rfl) ?_, okay_nil _ _ _ _ _ _ hx hy⟩
    ·rw [e] at q; exact absurd q (by decide)
    ·rw [e] at q; exact absurd q (by decide)
    ·simp (decide := true) only [spec_StepBring.j1, e, h2, if_true, if_false]; exact Ev.now _
    ·simp (decide := true) only [impl_StepBring.j0, hm1, e, h2, if_true, if_false]; exact Ev.now _
   ·have hm1 : (st == 1) = false := beq_eq_false_iff_ne.mpr h
    refine ⟨_, spec_j0_mail st F xs ys bs ws w e h, ?_, okay_nil _ _ _ _ _ _ hx hy⟩
    rw [hm1]
    exact impl_j0_no st F xs ys bs ws w
 have e2 := e
 clear e
 by_cases e : w.toList = ([114, 99, 112, 116] : List UInt8)
 ·refine ⟨2, (decide (st = 2) || (st == 3)), ?_, ?_, fun _ hl => ?_⟩
  ·simp (decide := true) only [impl_bringWords.f, e, if_true, if_false]
   by_cases h : st = 2
   ·simp only [if_pos h, decide_eq_true h, Bool.true_or]
   ·simp only [if_neg h, decide_eq_false h, Bool.false_or]
  ·unfold spec_l19Size.f
   simp (decide := true) only [e, if_true, if_false, beq_self_eq_true]
   refine Ev.step (fun k => rfl) ?_
   simp (decide := true) only [spec_l19Size.j0, e, if_true, if_false]
   exact Ev.now _
  ·by_cases h : st = 2 ∨ st = 3
   ·have h2 := hl rfl
    obtain ⟨g, g1, g2, g3, g4⟩ := rcpt_both st F xs ys bs (rdOf ByteArray.empty ws 1) hb hm hx hy
    have hm1 : (decide (st = 2) || (st == 3)) = true := by rcases h with h | h <;> subst h <;> rfl
    refine ⟨(g.1, g.2.1, g.2.2.1, g.2.2.2.1, g.2.2.2.2, (⟨#[]⟩ : ByteArray), []), spec_j0_go st F xs ys bs ws w (fun q => ?_) (fun _ => h) (fun q => ?_) (Ev.step (fun k => rfl) ?_), Ev.step (fun k => rfl) ?_, okay_nil _ _ _ _ _ _ g3 g4⟩
    ·rw [e] at q; exact absurd q (by decide)
    ·rw [e] at q; exact absurd q (by decide)
    ·simp (decide := true) only [spec_StepBring.j1, e, h2, if_true, if_false]; exact Ev.bind g1 (Ev.now _)
    ·simp (decide := true) only [impl_StepBring.j0, hm1, e, h2, if_true, if_false]; exact Ev.bind g2 (Ev.now _)
   ·have h2 : ¬ st = 2 := fun q => h (Or.inl q)
    have h3 : ¬ st = 3 := fun q => h (Or.inr q)
    have hm1 : (decide (st = 2) || (st == 3)) = false := by rw [decide_eq_false h2, beq_eq_false_iff_ne.mpr h3]; rfl
    refine ⟨_, spec_j0_rcpt st F xs ys bs ws w e h2 h3, ?_, okay_nil _ _ _ _ _ _ hx hy⟩
    rw [hm1]
    exact impl_j0_no st F xs ys bs ws w
 have e3 := e
 clear e
 by_cases e : w.toList = ([100, 97, 116, 97] : List UInt8)
 ·refine ⟨1, (st == 3), ?_, ?_, fun _ hl => ?_⟩
  ·simp (decide := true) only [impl_bringWords.f, e, if_true, if_false]
  ·unfold spec_l19Size.f
   simp (decide := true) only [e, if_true, if_false, beq_self_eq_true]
   refine Ev.step (fun k => rfl) ?_
   simp (decide := true) only [spec_l19Size.j0, e, if_true, if_false]
   exact Ev.now _
  ·by_cases h : st = 3
   ·have hm1 : (st == 3) = true := beq_iff_eq.mpr h
    refine ⟨(4, F, xs, ys, (⟨#[51, 53, 52, 32, 103, 111]⟩ : ByteArray), (⟨#[]⟩ : ByteArray), []), spec_j0_go st F xs ys bs ws w (fun q => ?_) (fun q => ?_) (fun _ => h) (Ev.step (fun k => rfl) ?_), Ev.step (fun k => rfl) ?_, okay_nil _ _ _ _ _ _ hx hy⟩
    ·rw [e] at q; exact absurd q (by decide)
    ·rw [e] at q; exact absurd q (by decide)
    ·simp (decide := true) only [spec_StepBring.j1, e, if_true, if_false]; exact Ev.now _
    ·simp (decide := true) only [impl_StepBring.j0, hm1, e, if_true, if_false]; exact Ev.now _
   ·have hm1 : (st == 3) = false := beq_eq_false_iff_ne.mpr h
    refine ⟨_, spec_j0_data st F xs ys bs ws w e h, ?_, okay_nil _ _ _ _ _ _ hx hy⟩
    rw [hm1]
    exact impl_j0_no st F xs ys bs ws w
 have e4 := e
 clear e
 by_cases e : w.toList = ([114, 115, 101, 116] : List UInt8)
 ·refine ⟨1, true, ?_, ?_, fun _ hl => ?_⟩
  ·simp (decide := true) only [impl_bringWords.f, e, if_true, if_false]
  ·unfold spec_l19Size.f
   simp (decide := true) only [e, if_true, if_false, beq_self_eq_true]
   refine Ev.step (fun k => rfl) ?_
   simp (decide := true) only [spec_l19Size.j0, e, if_true, if_false]
   exact Ev.now _
  ·by_cases h : st = 0
   ·refine ⟨(0, (⟨#[]⟩ : ByteArray), [], [], (⟨#[50, 53, 48, 32, 111, 107]⟩ : ByteArray), (⟨#[]⟩ : ByteArray), []), spec_j0_go st F xs ys bs ws w (fun q => ?_) (fun q => ?_) (fun q => ?_) (Ev.step (fun k => rfl) ?_), Ev.step (fun k => rfl) ?_, okay_nil _ _ _ _ _ _ (Nat.zero_le _) (Nat.zero_le _)⟩
    ·rw [e] at q; exact absurd q (by decide)
    ·rw [e] at q; exact absurd q (by decide)
    ·rw [e] at q; exact absurd q (by decide)
    ·simp (decide := true) only [spec_StepBring.j1, e, h, if_true, if_false]; exact Ev.now _
    ·simp (decide := true) only [impl_StepBring.j0, e, h, if_true, if_false]; exact Ev.now _
   ·refine ⟨(1, (⟨#[]⟩ : ByteArray), [], [], (⟨#[50, 53, 48, 32, 111, 107]⟩ : ByteArray), (⟨#[]⟩ : ByteArray), []), spec_j0_go st F xs ys bs ws w (fun q => ?_) (fun q => ?_) (fun q => ?_) (Ev.step (fun k => rfl) ?_), Ev.step (fun k => rfl) ?_, okay_nil _ _ _ _ _ _ (Nat.zero_le _) (Nat.zero_le _)⟩
    ·rw [e] at q; exact absurd q (by decide)
    ·rw [e] at q; exact absurd q (by decide)
    ·rw [e] at q; exact absurd q (by decide)
    ·simp (decide := true) only [spec_StepBring.j1, e, h, if_true, if_false]; exact Ev.now _
    ·simp (decide := true) only [impl_StepBring.j0, impl_hello.f, Option.bind_some, e, h, if_true, if_false]; exact Ev.now _
 have e5 := e
 clear e
 by_cases e : w.toList = ([110, 111, 111, 112] : List UInt8)
 ·refine ⟨1, true, ?_, ?_, fun _ hl => ?_⟩
  ·simp (decide := true) only [impl_bringWords.f, e, if_true, if_false]
  ·unfold spec_l19Size.f
   simp (decide := true) only [e, if_true, if_false, beq_self_eq_true]
   refine Ev.step (fun k => rfl) ?_
   simp (decide := true) only [spec_l19Size.j0, e, if_true, if_false]
   exact Ev.now _
  ·refine ⟨(st, F, xs, ys, (⟨#[50, 53, 48, 32, 111, 107]⟩ : ByteArray), (⟨#[]⟩ : ByteArray), []), spec_j0_go st F xs ys bs ws w (fun q => ?_) (fun q => ?_) (fun q => ?_) (Ev.step (fun k => rfl) ?_), Ev.step (fun k => rfl) ?_, okay_nil _ _ _ _ _ _ hx hy⟩
   ·rw [e] at q; exact absurd q (by decide)
   ·rw [e] at q; exact absurd q (by decide)
   ·rw [e] at q; exact absurd q (by decide)
   ·simp (decide := true) only [spec_StepBring.j1, e, if_true, if_false]; exact Ev.now _
   ·simp (decide := true) only [impl_StepBring.j0, impl_hello.f, Option.bind_some, e, if_true, if_false]; exact Ev.now _
 have e6 := e
 clear e
 by_cases e : w.toList = ([113, 117, 105, 116] : List UInt8)
 ·refine ⟨1, true, ?_, ?_, fun _ hl => ?_⟩
  ·simp (decide := true) only [impl_bringWords.f, e, if_true, if_false]
  ·unfold spec_l19Size.f
   simp (decide := true) only [e, if_true, if_false, beq_self_eq_true]
   refine Ev.step (fun k => rfl) ?_
   simp (decide := true) only [spec_l19Size.j0, e, if_true, if_false]
   exact Ev.now _
  ·refine ⟨(st, F, xs, ys, (⟨#[50, 50, 49, 32, 98, 121, 101]⟩ : ByteArray), (⟨#[]⟩ : ByteArray), []), spec_j0_go st F xs ys bs ws w (fun q => ?_) (fun q => ?_) (fun q => ?_) (Ev.step (fun k => rfl) ?_), Ev.step (fun k => rfl) ?_, okay_nil _ _ _ _ _ _ hx hy⟩
   ·rw [e] at q; exact absurd q (by decide)
   ·rw [e] at q; exact absurd q (by decide)
   ·rw [e] at q; exact absurd q (by decide)
   ·simp (decide := true) only [spec_StepBring.j1, e, if_true, if_false]; exact Ev.now _
   ·simp (decide := true) only [impl_StepBring.j0, impl_hello.f, Option.bind_some, e, if_true, if_false]; exact Ev.now _
 refine ⟨0, false, ?_, ?_, fun h => absurd rfl h⟩
 ·simp only [impl_bringWords.f, if_neg e1, if_neg e2, if_neg e3, if_neg e4, if_neg e5, if_neg e6, if_neg e]
 ·unfold spec_l19Size.f
  simp only [if_neg e1, if_neg e2]
  refine Ev.step (fun k => rfl) ?_
  simp only [spec_l19Size.j0, beq_eq_false_iff_ne.mpr e3, Bool.false_eq_true, if_false, if_neg e4, if_neg e5, if_neg e6, if_neg e]
  exact Ev.now _
end
theorem step_both (st : Int) (F : ByteArray) (xs ys : List ByteArray) (bs : List S84) (line : ByteArray) (hb : bs.length ≤ 1048576) (hm : ∀ x ∈ bs, x.f4.length ≤ 1048576) (hy : ys.length + sumS ys ≤ 1048576) (hF : F.size ≤ 1048576) (hx : xs.length + sumS xs ≤ 1048576) :
  ∃ g, Ev (fun k => spec_StepBring.f k st F xs ys bs line) g ∧ Ev (fun k => impl_StepBring.f k st F xs ys bs line) g ∧ Okay g := by
 have hx1 : xs.length ≤ 1048576 := by omega
 have hy1 : ys.length ≤ 1048576 := by omega
 unfold spec_StepBring.f impl_StepBring.f
 simp only [Option.bind_some, spec_l19Copy_eq st F xs ys hx1 hy1, impl_cloneBring_eq st F xs ys hx1 hy1]
 by_cases h4 : st = 4
 ·obtain ⟨g, e1, e2, ok⟩ := data_both st F xs ys line hy hF hx
  refine ⟨g, ?_, ?_, ok⟩
  ·simp only [if_pos h4]; exact Ev.bind e1 (Ev.now g)
  ·simp only [if_pos h4]; exact Ev.bind e2 (Ev.now g)
 have hW := spec_WordsOf_ev line
 have hV := impl_WordsOf_ev line
 have hs := parts_small line
 generalize (parts line).1 = ws at hW hV hs
 simp only [if_neg h4]
 by_cases h0 : (ws.length : Int) = 0
 ·refine ⟨(st, F, xs, ys, (⟨#[53, 48, 48, 32, 119, 104, 97, 116]⟩ : ByteArray), (⟨#[]⟩ : ByteArray), []), Ev.bind hW ?_, Ev.bind hV ?_, okay_nil _ _ _ _ _ _ hx1 hy1⟩
  ·simp only [if_pos h0]; exact Ev.now _
  ·simp only [if_pos h0]; exact Ev.now _
 have hp : 0 < (ws.length : Int) := by omega
 have h1 : (rdOf ByteArray.empty ws 0).size ≤ 1048576 := hs _ (rdOf_mem ws 0 (by omega))
 obtain ⟨c, m, hB, hS, hJ⟩ := word_both st F xs ys bs ws (Go.Proofs.YtdokcckgnamnfaaDoorL.lowered (rdOf ByteArray.empty ws 0)) hb hm hx1 hy1
 by_cases hc : c = 0
 ·refine ⟨(st, F, xs, ys, (⟨#[53, 48, 48, 32, 119, 104, 97, 116]⟩ : ByteArray), (⟨#[]⟩ : ByteArray), []), Ev.bind hW ?_, Ev.bind hV ?_, okay_nil _ _ _ _ _ _ hx1 hy1⟩
  ·simp only [if_neg h0, if_pos hp, spec_LowWord.f, if_pos h1, Option.bind_some]
   refine Ev.bind hS ?_
   simp only [if_pos hc]; exact Ev.now _
  ·simp only [if_neg h0, if_pos hp, impl_LowWord.f, if_pos h1, Option.bind_some, hB, if_pos hc]; exact Ev.now _
 by_cases hn : (ws.length : Int) = c
 ·obtain ⟨g, j1, j2, ok⟩ := hJ hc (fun q => by omega)
  by_cases h2 : c = 2
  ·have h3 : 1 < (ws.length : Int) := by omega
   have h5 : (rdOf ByteArray.empty ws 1).size ≤ 1048576 := hs _ (rdOf_mem ws 1 (by omega))
   have w1 := spec_WordOk_ev (rdOf ByteArray.empty ws 1) (by omega)
   have w2 := impl_WordOk_ev (rdOf ByteArray.empty ws 1) (by omega)
   generalize wordOk (rdOf ByteArray.empty ws 1) = q at w1 w2
   cases q
   ·refine ⟨_, Ev.bind hW (r := (st, F, xs, ys, (⟨#[53, 48, 49, 32, 119, 111, 114, 100, 115]⟩ : ByteArray), (⟨#[]⟩ : ByteArray), [])) ?_, Ev.bind hV ?_, okay_nil _ _ _ _ _ _ hx1 hy1⟩
    ·simp only [if_neg h0, if_pos hp, spec_LowWord.f, if_pos h1, Option.bind_some]
     refine Ev.bind hS ?_
     simp only [if_neg hc, if_pos hn, if_pos h2, if_pos h3]
     exact Ev.bind w1 (spec_j0_t st F xs ys bs ws _)
    ·simp only [if_neg h0, if_pos hp, impl_LowWord.f, if_pos h1, Option.bind_some, hB, if_neg hc, if_pos hn, if_pos h2, if_pos h3]
     exact Ev.bind w2 (impl_j0_t st F xs ys bs ws _ m)
   ·refine ⟨g, Ev.bind hW ?_, Ev.bind hV ?_, ok⟩
    ·simp only [if_neg h0, if_pos hp, spec_LowWord.f, if_pos h1, Option.bind_some]
     refine Ev.bind hS ?_
     simp only [if_neg hc, if_pos hn, if_pos h2, if_pos h3]
     exact Ev.bind w1 j1
    ·simp only [if_neg h0, if_pos hp, impl_LowWord.f, if_pos h1, Option.bind_some, hB, if_neg hc, if_pos hn, if_pos h2, if_pos h3]
     exact Ev.bind w2 j2
  ·refine ⟨g, Ev.bind hW ?_, Ev.bind hV ?_, ok⟩
   ·simp only [if_neg h0, if_pos hp, spec_LowWord.f, if_pos h1, Option.bind_some]
    refine Ev.bind hS ?_
    simp only [if_neg hc, if_pos hn, if_neg h2]
    exact j1
   ·simp only [if_neg h0, if_pos hp, impl_LowWord.f, if_pos h1, Option.bind_some, hB, if_neg hc, if_pos hn, if_neg h2]
    exact j2
 ·refine ⟨_, Ev.bind hW (r := (st, F, xs, ys, (⟨#[53, 48, 49, 32, 119, 111, 114, 100, 115]⟩ : ByteArray), (⟨#[]⟩ : ByteArray), [])) ?_, Ev.bind hV ?_, okay_nil _ _ _ _ _ _ hx1 hy1⟩
  ·simp only [if_neg h0, if_pos hp, spec_LowWord.f, if_pos h1, Option.bind_some]
   refine Ev.bind hS ?_
   simp only [if_neg hc, if_neg hn]
   exact spec_j0_t st F xs ys bs ws _
  ·simp only [if_neg h0, if_pos hp, impl_LowWord.f, if_pos h1, Option.bind_some, hB, if_neg hc, if_neg hn]
   exact impl_j0_t st F xs ys bs ws _ m
theorem markBring_ev (a : Int) (b : ByteArray) (xs ys : List ByteArray) (c : Nat) (h : c + xs.length + ys.length ≤ 1099511627776) : Ev (fun k => laws_markBring.f k a b xs ys c) (((c + xs.length + ys.length : Nat) : Int), marks c xs.length, marks (c + xs.length) ys.length) := by
 unfold laws_markBring.f
 exact Ev.bind (markStringS_ev xs c (by omega) (by omega)) (Ev.bind (markStringS_ev ys (c + xs.length) (by omega) (by omega)) (Ev.now _))
theorem heldBring_ev (a : Int) (b : ByteArray) (n m c : Nat) (h : c + n + m ≤ 1099511627776) : Ev (fun k => laws_heldBring.f k a b (marks c n) (marks (c + n) m) c) ((c + n + m : Nat) : Int) := by
 have nn : ∀ n : Nat, ¬ ((n : Int) < 0) := fun n => by omega
 unfold laws_heldBring.f
 refine Ev.bind (heldStringS_ev n c (by omega) (by omega)) ?_
 simp only [if_neg (nn _)]
 refine Ev.bind (heldStringS_ev m (c + n) (by omega) (by omega)) ?_
 simp only [if_neg (nn _)]
 exact Ev.now _
theorem markState_at (xs : List S84) (c : Nat) (h : c + totB xs ≤ 1099511627776) (hx : xs.length ≤ 1099511627776) : ∃ ys, Ev (fun k => laws_markState.f k xs c) (((c + totB xs : Nat) : Int), ys) := by
 obtain ⟨ys, e⟩ := markBoxS_l0 xs 0 c xs rfl h hx (Nat.zero_le _)
 refine ⟨ys, ?_⟩
 unfold laws_markState.f
 exact Ev.bind (Ev.congr (fun k => rfl) e) (Ev.now _)
theorem FnExactStepBring : laws_FnExactStepBring.Pure := by
 rintro ⟨st, F, xs, ys⟩ ⟨bs⟩ line ⟨g0, gF, ⟨gx1, gx2⟩, gy1, gy2⟩ ⟨gb1, gb2⟩ gl
 refine Ev.rounds (g := fun k => laws_FnExactStepBring.f k st F xs ys bs line) ?_
 unfold laws_FnExactStepBring.f
 have nn : ∀ n : Nat, ¬ ((n : Int) < 0) := fun n => by omega
 by_cases hz : (line.size : Int) > 1048576
 ·simp only [if_pos hz]; exact Ev.now _
 simp only [if_neg hz]
 rcases szBring_ev st F xs ys gF gx1 gx2 gy1 gy2 1048576 (Nat.le_refl _) with ⟨hs, h1⟩ | h1
 case inr => refine Ev.bind h1 ?_; simp only [if_pos (show (-1 : Int) < 0 by decide)]; exact Ev.now _
 refine Ev.bind h1 ?_
 simp only [if_neg (nn _)]
 rcases szState_ev bs gb1 (fun x hx => ⟨(gb2 x hx).2.1, (gb2 x hx).2.2.1, (gb2 x hx).2.2.2.2.1, fun m hm => ((gb2 x hx).2.2.2.2.2 m hm).2.2⟩) (1048576 - (F.size + xs.length + sumS xs + ys.length + sumS ys)) (by omega) with ⟨ht, h2⟩ | h2
 case inr => refine Ev.bind h2 ?_; simp only [if_pos (show (-1 : Int) < 0 by decide)]; exact Ev.now _
 refine Ev.bind h2 ?_
 simp only [if_neg (nn _)]
 have hx1 : xs.length ≤ 1048576 := by omega
 have hy1 : ys.length ≤ 1048576 := by omega
 have hbl : bs.length ≤ 1048576 := by omega
 have hm4 : ∀ x ∈ bs, x.f4.length ≤ 1048576 := fun x hx => by have := sumB_mem hx; omega
 have tB := toBring_ev st F xs ys hx1 hy1
 have tS := toState_ev bs hbl hm4
 have hlen : (bs.map boxOf).length ≤ 1048576 := by rw [List.length_map]; exact hbl
 have hml := boxOf_len hm4
 have eS := eqState_ev (bs.map boxOf) hlen hml
 have eB := eqBring_ev st F xs ys hx1 hy1
 have htot := totB_le bs
 obtain ⟨zs, mS⟩ := markState_at (bs.map boxOf) (1 + xs.length + ys.length) (by omega) (by omega)
 have mB := markBring_ev st F xs ys 1 (by omega)
 obtain ⟨g, hS, hI, ok⟩ := step_both st F xs ys (bs.map boxOf) line hlen hml (by omega) (by omega) (by omega)
 generalize bs.map boxOf = bt at tS hlen hml eS mS hS hI
 obtain ⟨a, b, c, d, e, f, cs⟩ := g
 obtain ⟨o1, o2, o3, o4⟩ := ok
 simp only at o1 o2 o3 o4
 have qB := eqBring_ev a b c d o1 o2
 have qC := eqCallS_ev cs o3 o4
 have kB := markBring_ev a b c d 1 (by omega)
 have kC := markCallS_ev cs (1 + c.length + d.length) o4 (by omega) (by omega)
 have lB := heldBring_ev a b c.length d.length 1 (by omega)
 have lC := heldCallS_ev cs.length (1 + c.length + d.length) (by omega) (by omega)
 refine Ev.bind tB (Ev.bind tS (Ev.bind hS (Ev.bind tB (Ev.bind tS (Ev.bind hI (Ev.bind qB ?_))))))
 simp only [if_true]
 refine Ev.bind qC ?_
 simp only [if_true]
 refine Ev.bind tB (Ev.bind eB ?_)
 simp only [if_true]
 refine Ev.bind tS (Ev.bind eS ?_)
 simp only [if_true]
 refine Ev.bind mB (Ev.bind mS ?_)
 simp only [if_neg (nn _)]
 refine Ev.bind qB ?_
 simp only [if_true]
 refine Ev.bind qC ?_
 simp only [if_true]
 refine Ev.bind kB (Ev.bind kC (Ev.bind lB ?_))
 simp only [if_neg (nn _)]
 refine Ev.bind lC ?_
 simp only [if_neg (nn _), if_true]
 refine Ev.bind tB (Ev.bind tS (Ev.bind hI (Ev.bind qB ?_)))
 simp only [if_true]
 refine Ev.bind qC ?_
 simp only [if_true]
 refine Ev.bind lB ?_
 simp only [if_neg (nn _)]
 refine Ev.bind lC ?_
 simp only [if_neg (nn _), if_true]
 exact Ev.now _
end Go.Proofs.YtdokcckgnamnfaaDoor.Pure
