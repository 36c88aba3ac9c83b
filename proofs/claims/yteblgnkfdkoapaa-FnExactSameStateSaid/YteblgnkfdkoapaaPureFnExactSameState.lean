/- The program's SameState answers what the reference's answers. Conditions: none beyond the statement's own. -/
import Derived.Test.YteblgnkfdkoapaaQFnExactSameStatePure0
import Derived.Test.YteblgnkfdkoapaaBase
namespace Go.Proofs.Yteblgnkfdkoapaa.Pure
open Go.RowKit Go.Proofs.Yteblgnkfdkoapaa.QFnExactSameState Go.Proofs.YteblgnkfdkoapaaW.PrintWords Go.Proofs.YteblgnkfdkoapaaW.PrintLast Go.Proofs.YteblgnkfdkoapaaB Go.Proofs.YteblgnkfdkoapaaO
set_option linter.unusedVariables false
set_option linter.unusedSimpArgs false

/-- Mails with their texts' lengths. -/
def sumM : List S109 → Nat
  | [] => 0
  | x :: l => x.f2.size + sumM l
def mailOf (x : S109) : S84 := ⟨x.f0, x.f1, x.f2⟩
theorem rdT_drop1 {xs : List S109} {i : Nat} {x : S109} {l : List S109} (h : xs.drop i = x :: l) : rd_T109 xs (i : Int) = x := drop_getD _ h
theorem rdT_drop2 {xs : List S84} {i : Nat} {x : S84} {l : List S84} (h : xs.drop i = x :: l) : rd_T84 xs (i : Int) = x := drop_getD _ h

theorem szMailS_l0 (xs : List S109) (hx : xs.length ≤ 9223372036854775807) (hs : ∀ x ∈ xs, x.f2.size ≤ 9223372036854775807) :
    ∀ (l : List S109) (i : Nat) (a : Nat), xs.drop i = l → i ≤ xs.length → a ≤ 1048576 →
      (sumM l ≤ a ∧ Ev (fun k => laws_szMailS.l0 k xs a i) ((a - sumM l : Nat) : Int)) ∨ Ev (fun k => laws_szMailS.l0 k xs a i) (-1)
  | [], i, a, h, hi, ha => by
    left
    have e := drop_end h hi
    exact ⟨Nat.zero_le _, Ev.step (fun k => by rw [laws_szMailS.l0, if_neg (by omega)]; rfl) (Ev.now _)⟩
  | x :: l, i, a, h, hi, ha => by
    have hlt := drop_lt h
    have hz : x.f2.size ≤ 9223372036854775807 := hs x (List.mem_of_mem_drop (i := i) (by rw [h]; exact List.mem_cons_self))
    have e := rdT_drop1 h
    by_cases hb : x.f2.size ≤ a
    · have ew : wrap64 ((a : Int) - (x.f2.size : Int)) = ((a - x.f2.size : Nat) : Int) := by unfold wrap64; omega
      have hstep : ∀ k, laws_szMailS.l0 (k + 1) xs a i = laws_szMailS.l0 k xs ((a - x.f2.size : Nat) : Int) ((i + 1 : Nat) : Int) := fun k => by
        rw [laws_szMailS.l0, if_pos (by omega), if_pos (by omega), e, laws_szMail.f, ew, if_neg (by omega), Option.bind_some, if_neg (by omega), wrap_succ i (by omega)]
      rcases szMailS_l0 xs hx hs l (i + 1) (a - x.f2.size) (drop_tail h) (by omega) (by omega) with ⟨h1, h2⟩ | h2
      · left
        refine ⟨by simp only [sumM]; omega, Ev.step hstep ?_⟩
        have e3 : a - sumM (x :: l) = a - x.f2.size - sumM l := by simp only [sumM]; omega
        rw [e3]; exact h2
      · right; exact Ev.step hstep h2
    · right
      refine Ev.step (fun k => ?_) (Ev.now _)
      rw [laws_szMailS.l0, if_pos (by omega), if_pos (by omega), e, laws_szMail.f, if_pos (by unfold wrap64; omega), Option.bind_some, if_pos (by decide)]

theorem szMailS_ev (xs : List S109) (hx : xs.length ≤ 9223372036854775807) (hs : ∀ x ∈ xs, x.f2.size ≤ 9223372036854775807) (a : Nat) (ha : a ≤ 1048576) :
    (xs.length + sumM xs ≤ a ∧ Ev (fun k => laws_szMailS.f k xs a) ((a - (xs.length + sumM xs) : Nat) : Int)) ∨ Ev (fun k => laws_szMailS.f k xs a) (-1) := by
  by_cases hb : xs.length ≤ a
  · have ew : wrap64 ((a : Int) - (xs.length : Int)) = ((a - xs.length : Nat) : Int) := by unfold wrap64; omega
    have hf : ∀ k, laws_szMailS.f k xs a = laws_szMailS.l0 k xs ((a - xs.length : Nat) : Int) ((0 : Nat) : Int) := fun k => by
      rw [laws_szMailS.f, ew, if_neg (by omega)]; rfl
    rcases szMailS_l0 xs hx hs xs 0 (a - xs.length) rfl (by omega) (by omega) with ⟨h1, h2⟩ | h2
    · left
      refine ⟨by omega, Ev.congr hf ?_⟩
      rw [show a - (xs.length + sumM xs) = a - xs.length - sumM xs by omega]; exact h2
    · right; exact Ev.congr hf h2
  · right
    refine Ev.congr (fun k => ?_) (Ev.now _)
    rw [laws_szMailS.f, if_pos (by unfold wrap64; omega)]

theorem toMailS_l0 (xs : List S109) (hx : xs.length ≤ 1048576) :
    ∀ (l : List S109) (i : Nat), xs.drop i = l → i ≤ xs.length →
      Ev (fun k => laws_toMailS.l0 k xs ((xs.take i).map mailOf ++ List.replicate (xs.length - i) z84) i) (xs.map mailOf)
  | [], i, h, hi => by
    have e := drop_end h hi
    subst e
    refine Ev.step (fun k => by rw [laws_toMailS.l0, if_neg (by omega)]) ?_
    rw [fill_end]; exact Ev.now _
  | x :: l, i, h, hi => by
    have hlt := drop_lt h
    refine Ev.step (fun k => ?_) (toMailS_l0 xs hx l (i + 1) (drop_tail h) (by omega))
    rw [laws_toMailS.l0, if_pos (by omega), if_pos (by omega), rdT_drop1 h, laws_toMail.f, Option.bind_some, fill_len _ _ _ hi, if_pos (by omega), Int.toNat_natCast, wrap_succ i (by omega)]
    rw [← fill_set xs mailOf z84 h]
    rfl
theorem toMailS_ev (xs : List S109) (hx : xs.length ≤ 1048576) : Ev (fun k => laws_toMailS.f k xs) (xs.map mailOf) := by
  refine Ev.congr (fun k => ?_) (toMailS_l0 xs hx xs 0 rfl (by omega))
  rw [laws_toMailS.f, if_pos (by omega), Int.toNat_natCast, if_pos (by omega)]
  simp
theorem eqMail_self (a b : Int) (c : ByteArray) : laws_eqMail.f a b c a b c = some true := by
  unfold laws_eqMail.f
  simp only [if_true]
theorem eqMailS_l0 (xs : List S84) (hx : xs.length ≤ 9223372036854775807) :
    ∀ (l : List S84) (i : Nat), xs.drop i = l → i ≤ xs.length → Ev (fun k => laws_eqMailS.l0 k xs xs i) true
  | [], i, h, hi => by
    have e := drop_end h hi
    exact Ev.step (fun k => by rw [laws_eqMailS.l0, if_neg (by omega)]) (Ev.now true)
  | x :: l, i, h, hi => by
    have hlt := drop_lt h
    refine Ev.step (fun k => ?_) (eqMailS_l0 xs hx l (i + 1) (drop_tail h) (by omega))
    rw [laws_eqMailS.l0, if_pos (by omega), if_pos (by omega), if_pos (by omega), rdT_drop2 h, eqMail_self, Option.bind_some, if_pos rfl, wrap_succ i (by omega)]
theorem eqMailS_ev (xs : List S84) (hx : xs.length ≤ 9223372036854775807) : Ev (fun k => laws_eqMailS.f k xs xs) true := by
  refine Ev.congr (fun k => ?_) (eqMailS_l0 xs hx xs 0 rfl (by omega))
  rw [laws_eqMailS.f, if_pos rfl]; rfl

theorem szBox_ev (v : Int) (u n : ByteArray) (w : Int) (xs : List S109) (hu : u.size ≤ 9223372036854775807) (hn : n.size ≤ 9223372036854775807) (hx : xs.length ≤ 9223372036854775807) (hs : ∀ x ∈ xs, x.f2.size ≤ 9223372036854775807) (a : Nat) (ha : a ≤ 1048576) :
    (u.size + n.size + xs.length + sumM xs ≤ a ∧ Ev (fun k => laws_szBox.f k v u n w xs a) ((a - (u.size + n.size + xs.length + sumM xs) : Nat) : Int)) ∨ Ev (fun k => laws_szBox.f k v u n w xs a) (-1) := by
  unfold laws_szBox.f
  by_cases h1 : u.size ≤ a
  · have e1 : wrap64 ((a : Int) - (u.size : Int)) = ((a - u.size : Nat) : Int) := by unfold wrap64; omega
    have q1 : ¬ (((a - u.size : Nat) : Int) < 0) := by omega
    simp only [e1, if_neg q1]
    by_cases h2 : n.size ≤ a - u.size
    · have e2 : wrap64 (((a - u.size : Nat) : Int) - (n.size : Int)) = ((a - u.size - n.size : Nat) : Int) := by unfold wrap64; omega
      have q2 : ¬ (((a - u.size - n.size : Nat) : Int) < 0) := by omega
      simp only [e2, if_neg q2]
      rcases szMailS_ev xs hx hs (a - u.size - n.size) (by omega) with ⟨h3, e3⟩ | e3
      · left
        refine ⟨by omega, Ev.bind e3 ?_⟩
        have q3 : ¬ (((a - u.size - n.size - (xs.length + sumM xs) : Nat) : Int) < 0) := by omega
        simp only [if_neg q3]
        rw [show a - (u.size + n.size + xs.length + sumM xs) = a - u.size - n.size - (xs.length + sumM xs) by omega]
        exact Ev.now _
      · right
        refine Ev.bind e3 ?_
        simp only [if_pos (show (-1 : Int) < 0 by decide)]
        exact Ev.now _
    · right
      have q : wrap64 (((a - u.size : Nat) : Int) - (n.size : Int)) < 0 := by unfold wrap64; omega
      simp only [if_pos q]
      exact Ev.now _
  · right
    have q : wrap64 ((a : Int) - (u.size : Int)) < 0 := by unfold wrap64; omega
    simp only [if_pos q]
    exact Ev.now _
theorem toBox_ev (v : Int) (u n : ByteArray) (w : Int) (xs : List S109) (hx : xs.length ≤ 1048576) : Ev (fun k => laws_toBox.f k v u n w xs) (v, u, n, w, xs.map mailOf) := by
  unfold laws_toBox.f
  exact Ev.bind (toMailS_ev xs hx) (Ev.now _)
theorem eqBox_ev (v : Int) (u n : ByteArray) (w : Int) (xs : List S84) (hx : xs.length ≤ 1048576) : Ev (fun k => laws_eqBox.f k v u n w xs v u n w xs) true := by
  unfold laws_eqBox.f
  simp only [if_true]
  refine Ev.bind (eqMailS_ev xs (by omega)) ?_
  simp only [if_true]
  exact Ev.now _

/-- Boxes with their texts' and mails' lengths. -/
def sumB : List S117 → Nat
  | [] => 0
  | x :: l => x.f1.size + x.f2.size + x.f4.length + sumM x.f4 + sumB l
def fitB (x : S117) : Prop := x.f1.size ≤ 9223372036854775807 ∧ x.f2.size ≤ 9223372036854775807 ∧ x.f4.length ≤ 9223372036854775807 ∧ ∀ m ∈ x.f4, m.f2.size ≤ 9223372036854775807
def boxOf (x : S117) : S99 := ⟨x.f0, x.f1, x.f2, x.f3, x.f4.map mailOf⟩
theorem rdB_drop1 {xs : List S117} {i : Nat} {x : S117} {l : List S117} (h : xs.drop i = x :: l) : rd_T117 xs (i : Int) = x := drop_getD _ h
theorem rdB_drop2 {xs : List S99} {i : Nat} {x : S99} {l : List S99} (h : xs.drop i = x :: l) : rd_T99 xs (i : Int) = x := drop_getD _ h
theorem sumB_mem {x : S117} : ∀ {xs : List S117}, x ∈ xs → x.f1.size + x.f2.size + x.f4.length + sumM x.f4 ≤ sumB xs
  | y :: l, h => by
    rcases List.mem_cons.1 h with rfl | h
    · simp only [sumB]; omega
    · have := sumB_mem h
      simp only [sumB]; omega
theorem szBoxS_l0 (xs : List S117) (hx : xs.length ≤ 9223372036854775807) (hs : ∀ x ∈ xs, fitB x) :
    ∀ (l : List S117) (i : Nat) (a : Nat), xs.drop i = l → i ≤ xs.length → a ≤ 1048576 →
      (sumB l ≤ a ∧ Ev (fun k => laws_szBoxS.l0 k xs a i) ((a - sumB l : Nat) : Int)) ∨ Ev (fun k => laws_szBoxS.l0 k xs a i) (-1)
  | [], i, a, h, hi, ha => by
    left
    have e := drop_end h hi
    exact ⟨Nat.zero_le _, Ev.step (fun k => by rw [laws_szBoxS.l0, if_neg (by omega)]; rfl) (Ev.now _)⟩
  | x :: l, i, a, h, hi, ha => by
    have hlt := drop_lt h
    obtain ⟨z1, z2, z3, z4⟩ := hs x (List.mem_of_mem_drop (i := i) (by rw [h]; exact List.mem_cons_self))
    have e := rdB_drop1 h
    have hst : ∀ k, laws_szBoxS.l0 (k + 1) xs a i = (laws_szBox.f k x.f0 x.f1 x.f2 x.f3 x.f4 a).bind fun t => if t < 0 then some (-1) else laws_szBoxS.l0 k xs t ((i + 1 : Nat) : Int) := fun k => by
      rw [laws_szBoxS.l0, if_pos (by omega), if_pos (by omega), e, wrap_succ i (by omega)]
    rcases szBox_ev x.f0 x.f1 x.f2 x.f3 x.f4 z1 z2 z3 z4 a ha with ⟨h1, h2⟩ | h2
    · have q : ¬ (((a - (x.f1.size + x.f2.size + x.f4.length + sumM x.f4) : Nat) : Int) < 0) := by omega
      rcases szBoxS_l0 xs hx hs l (i + 1) (a - (x.f1.size + x.f2.size + x.f4.length + sumM x.f4)) (drop_tail h) (by omega) (by omega) with ⟨h3, h4⟩ | h4
      · left
        refine ⟨by simp only [sumB]; omega, Ev.step hst (Ev.bind h2 ?_)⟩
        simp only [if_neg q]
        have e3 : a - sumB (x :: l) = a - (x.f1.size + x.f2.size + x.f4.length + sumM x.f4) - sumB l := by simp only [sumB]; omega
        rw [e3]; exact h4
      · right
        refine Ev.step hst (Ev.bind h2 ?_)
        simp only [if_neg q]
        exact h4
    · right
      refine Ev.step hst (Ev.bind h2 ?_)
      simp only [if_pos (show (-1 : Int) < 0 by decide)]
      exact Ev.now _
theorem szState_ev (xs : List S117) (hx : xs.length ≤ 9223372036854775807) (hs : ∀ x ∈ xs, fitB x) (a : Nat) (ha : a ≤ 1048576) :
    (xs.length + sumB xs ≤ a ∧ Ev (fun k => laws_szState.f k xs a) ((a - (xs.length + sumB xs) : Nat) : Int)) ∨ Ev (fun k => laws_szState.f k xs a) (-1) := by
  have hB : (xs.length + sumB xs ≤ a ∧ Ev (fun k => laws_szBoxS.f k xs a) ((a - (xs.length + sumB xs) : Nat) : Int)) ∨ Ev (fun k => laws_szBoxS.f k xs a) (-1) := by
    by_cases hb : xs.length ≤ a
    · have ew : wrap64 ((a : Int) - (xs.length : Int)) = ((a - xs.length : Nat) : Int) := by unfold wrap64; omega
      have hf : ∀ k, laws_szBoxS.f k xs a = laws_szBoxS.l0 k xs ((a - xs.length : Nat) : Int) ((0 : Nat) : Int) := fun k => by
        rw [laws_szBoxS.f, ew, if_neg (by omega)]; rfl
      rcases szBoxS_l0 xs hx hs xs 0 (a - xs.length) rfl (by omega) (by omega) with ⟨h1, h2⟩ | h2
      · left
        refine ⟨by omega, Ev.congr hf ?_⟩
        rw [show a - (xs.length + sumB xs) = a - xs.length - sumB xs by omega]; exact h2
      · right; exact Ev.congr hf h2
    · right
      refine Ev.congr (fun k => ?_) (Ev.now _)
      rw [laws_szBoxS.f, if_pos (by unfold wrap64; omega)]
  unfold laws_szState.f
  rcases hB with ⟨h1, h2⟩ | h2
  · left
    have q : ¬ (((a - (xs.length + sumB xs) : Nat) : Int) < 0) := by omega
    refine ⟨h1, Ev.bind h2 ?_⟩
    simp only [if_neg q]
    exact Ev.now _
  · right
    refine Ev.bind h2 ?_
    simp only [if_pos (show (-1 : Int) < 0 by decide)]
    exact Ev.now _
theorem toBoxS_l0 (xs : List S117) (hx : xs.length ≤ 1048576) (hs : ∀ x ∈ xs, x.f4.length ≤ 1048576) :
    ∀ (l : List S117) (i : Nat), xs.drop i = l → i ≤ xs.length →
      Ev (fun k => laws_toBoxS.l0 k xs ((xs.take i).map boxOf ++ List.replicate (xs.length - i) z99) i) (xs.map boxOf)
  | [], i, h, hi => by
    have e := drop_end h hi
    subst e
    refine Ev.step (fun k => by rw [laws_toBoxS.l0, if_neg (by omega)]) ?_
    rw [fill_end]; exact Ev.now _
  | x :: l, i, h, hi => by
    have hlt := drop_lt h
    have hz := hs x (List.mem_of_mem_drop (i := i) (by rw [h]; exact List.mem_cons_self))
    have hlen := fill_len xs boxOf z99 hi
    have hset := fill_set xs boxOf z99 h
    generalize (xs.take i).map boxOf ++ List.replicate (xs.length - i) z99 = Y at hlen hset
    refine Ev.step (f := fun k => (laws_toBox.f k x.f0 x.f1 x.f2 x.f3 x.f4).bind fun bt => if (i : Int) < (Y.length : Int) then laws_toBoxS.l0 k xs (Y.set (i : Int).toNat (⟨bt.1, bt.2.1, bt.2.2.1, bt.2.2.2.1, bt.2.2.2.2⟩ : S99)) ((i + 1 : Nat) : Int) else none) (fun k => by
      rw [laws_toBoxS.l0, if_pos (by omega), if_pos (by omega), rdB_drop1 h, wrap_succ i (by omega)]) ?_
    refine Ev.bind (toBox_ev x.f0 x.f1 x.f2 x.f3 x.f4 hz) ?_
    simp only [if_pos (show (i : Int) < (Y.length : Int) by omega), Int.toNat_natCast]
    rw [show (⟨x.f0, x.f1, x.f2, x.f3, x.f4.map mailOf⟩ : S99) = boxOf x from rfl, hset]
    exact toBoxS_l0 xs hx hs l (i + 1) (drop_tail h) (by omega)
theorem toState_ev (xs : List S117) (hx : xs.length ≤ 1048576) (hs : ∀ x ∈ xs, x.f4.length ≤ 1048576) : Ev (fun k => laws_toState.f k xs) (xs.map boxOf) := by
  unfold laws_toState.f
  refine Ev.bind (a := xs.map boxOf) ?_ (Ev.now _)
  refine Ev.congr (fun k => ?_) (toBoxS_l0 xs hx hs xs 0 rfl (by omega))
  rw [laws_toBoxS.f, if_pos (by omega), Int.toNat_natCast, if_pos (by omega)]
  simp
theorem eqBoxS_l0 (xs : List S99) (hx : xs.length ≤ 1048576) (hs : ∀ x ∈ xs, x.f4.length ≤ 1048576) :
    ∀ (l : List S99) (i : Nat), xs.drop i = l → i ≤ xs.length → Ev (fun k => laws_eqBoxS.l0 k xs xs i) true
  | [], i, h, hi => by
    have e := drop_end h hi
    exact Ev.step (fun k => by rw [laws_eqBoxS.l0, if_neg (by omega)]) (Ev.now true)
  | x :: l, i, h, hi => by
    have hlt := drop_lt h
    have hz := hs x (List.mem_of_mem_drop (i := i) (by rw [h]; exact List.mem_cons_self))
    refine Ev.step (f := fun k => (laws_eqBox.f k x.f0 x.f1 x.f2 x.f3 x.f4 x.f0 x.f1 x.f2 x.f3 x.f4).bind fun t => if t = true then laws_eqBoxS.l0 k xs xs ((i + 1 : Nat) : Int) else some false) (fun k => by
      rw [laws_eqBoxS.l0, if_pos (by omega), if_pos (by omega), if_pos (by omega), rdB_drop2 h, wrap_succ i (by omega)]) ?_
    refine Ev.bind (eqBox_ev x.f0 x.f1 x.f2 x.f3 x.f4 hz) ?_
    simp only [if_true]
    exact eqBoxS_l0 xs hx hs l (i + 1) (drop_tail h) (by omega)
theorem eqState_ev (xs : List S99) (hx : xs.length ≤ 1048576) (hs : ∀ x ∈ xs, x.f4.length ≤ 1048576) : Ev (fun k => laws_eqState.f k xs xs) true := by
  unfold laws_eqState.f
  refine Ev.bind (a := true) ?_ ?_
  · refine Ev.congr (fun k => ?_) (eqBoxS_l0 xs hx hs xs 0 rfl (by omega))
    rw [laws_eqBoxS.f, if_pos rfl]; rfl
  · simp only [if_true]
    exact Ev.now _
theorem boxOf_len {xs : List S117} (hs : ∀ x ∈ xs, x.f4.length ≤ 1048576) : ∀ x ∈ xs.map boxOf, x.f4.length ≤ 1048576 := by
  intro x hx
  obtain ⟨y, hy, rfl⟩ := List.mem_map.1 hx
  show (y.f4.map mailOf).length ≤ _
  rw [List.length_map]
  exact hs y hy

def neM (x y : S84) : Bool := !(x.f0 == y.f0) || (!(x.f1 == y.f1) || (!(x.f2.toList == y.f2.toList)))
def allM : List S84 → List S84 → Bool
  | x :: l, y :: m => if neM x y = true then false else allM l m
  | _, _ => true
def sameB (x y : S99) : Bool := if x.f0 = y.f0 then (if x.f1.toList = y.f1.toList then (if x.f2.toList = y.f2.toList then (if x.f3 = y.f3 then (if x.f4.length = y.f4.length then allM x.f4 y.f4 else false) else false) else false) else false) else false
def sameS : List S99 → List S99 → Bool
  | x :: l, y :: m => if sameB x y = true then sameS l m else false
  | _, _ => true
theorem impl_Mail_l0 (xs ys : List S84) (hx : xs.length ≤ 1048576) (hl : xs.length = ys.length) :
    ∀ (l m : List S84) (i : Nat), xs.drop i = l → ys.drop i = m → i ≤ xs.length → Ev (fun k => impl_Mail.l0 k xs ys (xs.length : Int) i) (allM l m)
  | [], m, i, h, h2, hi => by
    have e := drop_end h hi
    exact Ev.step (fun k => by rw [impl_Mail.l0, if_neg (by omega)]) (by rw [allM.eq_def]; exact Ev.now true)
  | x :: l, [], i, h, h2, hi => by
    have hlt := drop_lt h
    have := drop_end h2 (by omega)
    omega
  | x :: l, y :: m, i, h, h2, hi => by
    have hlt := drop_lt h
    refine Ev.step (f := fun k => if neM x y = true then some false else impl_Mail.l0 k xs ys (xs.length : Int) ((i + 1 : Nat) : Int)) (fun k => by
      rw [impl_Mail.l0, if_pos (by omega), if_pos (by omega), if_pos (by omega), if_pos (by omega), rdT_drop2 h, rdT_drop2 h2, wrap_succ i (by omega)]; rfl) ?_
    refine ev_ite (fun hn => ?_) (fun hn => ?_)
    · simp only [allM, if_pos hn]; exact Ev.now _
    · simp only [allM, if_neg hn]
      exact impl_Mail_l0 xs ys hx hl l m (i + 1) (drop_tail h) (drop_tail h2) (by omega)
theorem impl_sameBox_ev (x y : S99) (hx : x.f4.length ≤ 1048576) : Ev (fun k => impl_sameBox.f k x.f0 x.f1 x.f2 x.f3 x.f4 y.f0 y.f1 y.f2 y.f3 y.f4) (sameB x y) := by
  unfold impl_sameBox.f sameB
  refine ev_ite (fun h => ?_) (fun h => ?_)
  · rw [if_pos h]
    refine ev_ite (fun h => ?_) (fun h => ?_)
    · rw [if_pos h]
      refine ev_ite (fun h => ?_) (fun h => ?_)
      · rw [if_pos h]
        refine ev_ite (fun h => ?_) (fun h => ?_)
        · rw [if_pos h]
          refine Ev.bind (a := if x.f4.length = y.f4.length then allM x.f4 y.f4 else false) ?_ (Ev.now _)
          unfold impl_Mail.f
          refine ev_ite (fun h => ?_) (fun h => ?_)
          · have hl : x.f4.length = y.f4.length := by omega
            rw [if_pos hl]
            exact impl_Mail_l0 x.f4 y.f4 hx hl x.f4 y.f4 0 rfl rfl (by omega)
          · rw [if_neg (by omega)]; exact Ev.now _
        · rw [if_neg h]; exact Ev.now _
      · rw [if_neg h]; exact Ev.now _
    · rw [if_neg h]; exact Ev.now _
  · rw [if_neg h]; exact Ev.now _
theorem impl_Box_l0 (xs ys : List S99) (hx : xs.length ≤ 1048576) (hs : ∀ x ∈ xs, x.f4.length ≤ 1048576) (hl : xs.length = ys.length) :
    ∀ (l m : List S99) (i : Nat), xs.drop i = l → ys.drop i = m → i ≤ xs.length → Ev (fun k => impl_Box.l0 k ys xs (xs.length : Int) i) (sameS l m)
  | [], m, i, h, h2, hi => by
    have e := drop_end h hi
    exact Ev.step (fun k => by rw [impl_Box.l0, if_neg (by omega)]) (by rw [sameS.eq_def]; exact Ev.now true)
  | x :: l, [], i, h, h2, hi => by
    have hlt := drop_lt h
    have := drop_end h2 (by omega)
    omega
  | x :: l, y :: m, i, h, h2, hi => by
    have hlt := drop_lt h
    have hz := hs x (List.mem_of_mem_drop (i := i) (by rw [h]; exact List.mem_cons_self))
    refine Ev.step (f := fun k => (impl_sameBox.f k x.f0 x.f1 x.f2 x.f3 x.f4 y.f0 y.f1 y.f2 y.f3 y.f4).bind fun t => if t = true then impl_Box.l0 k ys xs (xs.length : Int) ((i + 1 : Nat) : Int) else some false) (fun k => by
      rw [impl_Box.l0, if_pos (by omega), if_pos (by omega), if_pos (by omega), if_pos (by omega), rdB_drop2 h, rdB_drop2 h2, wrap_succ i (by omega)]) ?_
    refine Ev.bind (impl_sameBox_ev x y hz) ?_
    refine ev_ite (fun hn => ?_) (fun hn => ?_)
    · simp only [sameS, if_pos hn]
      exact impl_Box_l0 xs ys hx hs hl l m (i + 1) (drop_tail h) (drop_tail h2) (by omega)
    · simp only [sameS, if_neg hn]; exact Ev.now _
def sameState (xs ys : List S99) : Bool := if xs.length = ys.length then sameS xs ys else false
theorem impl_SameState_ev (xs ys : List S99) (hx : xs.length ≤ 1048576) (hs : ∀ x ∈ xs, x.f4.length ≤ 1048576) : Ev (fun k => impl_SameState.f k xs ys) (sameState xs ys) := by
  unfold impl_SameState.f sameState
  refine Ev.bind (a := if xs.length = ys.length then sameS xs ys else false) ?_ (Ev.now _)
  unfold impl_Box.f
  refine ev_ite (fun h => ?_) (fun h => ?_)
  · have hl : xs.length = ys.length := by omega
    rw [if_pos hl]
    exact impl_Box_l0 xs ys hx hs hl xs ys 0 rfl rfl (by omega)
  · rw [if_neg (by omega)]; exact Ev.now _
theorem spec_l1 (xs ys : List S99) (i : Nat) (x y : S99) (r : Bool) (hi : i < 1048576) (hx : x.f4.length ≤ 1048576) (hl : x.f4.length = y.f4.length) (hr : Ev (fun k => spec_SameState.l0 k ((i + 1 : Nat) : Int) xs ys) r) :
    ∀ (l m : List S84) (j : Nat), x.f4.drop j = l → y.f4.drop j = m → j ≤ x.f4.length → Ev (fun k => spec_SameState.l1 k (i : Int) (j : Int) xs ys x.f0 x.f1 x.f2 x.f3 x.f4 y.f0 y.f1 y.f2 y.f3 y.f4) (if allM l m = true then r else false)
  | [], m, j, h, h2, hj => by
    have e := drop_end h hj
    have ea : allM [] m = true := by rw [allM.eq_def]
    rw [if_pos ea]
    exact Ev.step (fun k => by rw [spec_SameState.l1, if_neg (by omega), wrap_succ i (by omega)]) hr
  | a :: l, [], j, h, h2, hj => by
    have hlt := drop_lt h
    have := drop_end h2 (by omega)
    omega
  | a :: l, b :: m, j, h, h2, hj => by
    have hlt := drop_lt h
    refine Ev.step (f := fun k => if neM a b = true then some false else spec_SameState.l1 k (i : Int) ((j + 1 : Nat) : Int) xs ys x.f0 x.f1 x.f2 x.f3 x.f4 y.f0 y.f1 y.f2 y.f3 y.f4) (fun k => by
      rw [spec_SameState.l1, if_pos (by omega), if_pos (by omega), if_pos (by omega), rdT_drop2 h, rdT_drop2 h2, wrap_succ j (by omega)]; rfl) ?_
    refine ev_ite (fun hn => ?_) (fun hn => ?_)
    · simp only [allM, if_pos hn]; exact Ev.now _
    · simp only [allM, if_neg hn]
      exact spec_l1 xs ys i x y r hi hx hl hr l m (j + 1) (drop_tail h) (drop_tail h2) (by omega)
theorem spec_j1 (xs ys : List S99) (i : Nat) (x y : S99) (r c : Bool) (hi : i < 1048576) (hx : x.f4.length ≤ 1048576) (hl : c = false → x.f4.length = y.f4.length) (hr : Ev (fun k => spec_SameState.l0 k ((i + 1 : Nat) : Int) xs ys) r) :
    Ev (fun k => spec_SameState.j1 k (i : Int) c xs ys x.f0 x.f1 x.f2 x.f3 x.f4 y.f0 y.f1 y.f2 y.f3 y.f4) (if c = true then false else if allM x.f4 y.f4 = true then r else false) := by
  refine Ev.step (f := fun k => if c = true then (some false) else (spec_SameState.l1 k (i : Int) 0 xs ys x.f0 x.f1 x.f2 x.f3 x.f4 y.f0 y.f1 y.f2 y.f3 y.f4)) (fun k => by rw [spec_SameState.j1]) ?_
  refine ev_ite (fun h => ?_) (fun h => ?_)
  · rw [if_pos h]; exact Ev.now _
  · rw [if_neg h]
    exact spec_l1 xs ys i x y r hi hx (hl (by simpa using h)) hr x.f4 y.f4 0 rfl rfl (by omega)
theorem spec_l0 (xs ys : List S99) (hx : xs.length ≤ 1048576) (hs : ∀ x ∈ xs, x.f4.length ≤ 1048576) (hl : xs.length = ys.length) :
    ∀ (l m : List S99) (i : Nat), xs.drop i = l → ys.drop i = m → i ≤ xs.length → Ev (fun k => spec_SameState.l0 k (i : Int) xs ys) (sameS l m)
  | [], m, i, h, h2, hi => by
    have e := drop_end h hi
    exact Ev.step (fun k => by rw [spec_SameState.l0, if_neg (by omega)]) (by rw [sameS.eq_def]; exact Ev.now true)
  | x :: l, [], i, h, h2, hi => by
    have hlt := drop_lt h
    have := drop_end h2 (by omega)
    omega
  | x :: l, y :: m, i, h, h2, hi => by
    have hlt := drop_lt h
    have hz := hs x (List.mem_of_mem_drop (i := i) (by rw [h]; exact List.mem_cons_self))
    have ih := spec_l0 xs ys hx hs hl l m (i + 1) (drop_tail h) (drop_tail h2) (by omega)
    have J := fun c hc => spec_j1 xs ys i x y (sameS l m) c (by omega) hz hc ih
    have J0 : Ev (fun k => spec_SameState.j1 k (i : Int) true xs ys x.f0 x.f1 x.f2 x.f3 x.f4 y.f0 y.f1 y.f2 y.f3 y.f4) false := J true (fun h => by cases h)
    refine Ev.step (f := fun k => if x.f0 = y.f0 then (if x.f1.toList = y.f1.toList then (if x.f2.toList = y.f2.toList then (if x.f3 = y.f3 then spec_SameState.j1 k (i : Int) ((x.f4.length : Int) != (y.f4.length : Int)) xs ys x.f0 x.f1 x.f2 x.f3 x.f4 y.f0 y.f1 y.f2 y.f3 y.f4 else spec_SameState.j1 k (i : Int) true xs ys x.f0 x.f1 x.f2 x.f3 x.f4 y.f0 y.f1 y.f2 y.f3 y.f4) else spec_SameState.j1 k (i : Int) true xs ys x.f0 x.f1 x.f2 x.f3 x.f4 y.f0 y.f1 y.f2 y.f3 y.f4) else spec_SameState.j1 k (i : Int) true xs ys x.f0 x.f1 x.f2 x.f3 x.f4 y.f0 y.f1 y.f2 y.f3 y.f4) else spec_SameState.j1 k (i : Int) true xs ys x.f0 x.f1 x.f2 x.f3 x.f4 y.f0 y.f1 y.f2 y.f3 y.f4) (fun k => by
      rw [spec_SameState.l0, if_pos (by omega), if_pos (by omega), if_pos (by omega), rdB_drop2 h, rdB_drop2 h2]) ?_
    have no : sameB x y = false → sameS (x :: l) (y :: m) = false := fun e => by simp only [sameS, e]; rfl
    refine ev_ite (fun q0 => ?_) (fun q0 => by rw [no (by unfold sameB; rw [if_neg q0])]; exact J0)
    refine ev_ite (fun q1 => ?_) (fun q1 => by rw [no (by unfold sameB; rw [if_pos q0, if_neg q1])]; exact J0)
    refine ev_ite (fun q2 => ?_) (fun q2 => by rw [no (by unfold sameB; rw [if_pos q0, if_pos q1, if_neg q2])]; exact J0)
    refine ev_ite (fun q3 => ?_) (fun q3 => by rw [no (by unfold sameB; rw [if_pos q0, if_pos q1, if_pos q2, if_neg q3])]; exact J0)
    by_cases hm : x.f4.length = y.f4.length
    · have ec : ((x.f4.length : Int) != (y.f4.length : Int)) = false := bne_eq_false_iff_eq.mpr (by omega)
      have eb : sameB x y = allM x.f4 y.f4 := by unfold sameB; rw [if_pos q0, if_pos q1, if_pos q2, if_pos q3, if_pos hm]
      rw [ec]
      have e2 : sameS (x :: l) (y :: m) = (if allM x.f4 y.f4 = true then sameS l m else false) := by rw [← eb]; simp only [sameS]
      rw [e2]
      exact J false (fun _ => hm)
    · have ec : ((x.f4.length : Int) != (y.f4.length : Int)) = true := bne_iff_ne.mpr (by omega)
      rw [ec, no (by unfold sameB; rw [if_pos q0, if_pos q1, if_pos q2, if_pos q3, if_neg hm])]
      exact J0
theorem spec_SameState_ev (xs ys : List S99) (hx : xs.length ≤ 1048576) (hs : ∀ x ∈ xs, x.f4.length ≤ 1048576) : Ev (fun k => spec_SameState.f k xs ys) (sameState xs ys) := by
  unfold spec_SameState.f sameState
  refine ev_ite (fun h => ?_) (fun h => ?_)
  · have hl : xs.length = ys.length := by omega
    rw [if_pos hl]
    exact spec_l0 xs ys hx hs hl xs ys 0 rfl rfl (by omega)
  · rw [if_neg (by omega)]; exact Ev.now _

theorem FnExactSameState : laws_FnExactSameState.Pure := by
  intro x0 x1 ⟨h0, g0⟩ ⟨h1, g1⟩
  refine Ev.rounds (g := fun k => laws_FnExactSameState.f k x0.f0 x1.f0) ?_
  unfold laws_FnExactSameState.f
  generalize x0.f0 = xs at h0 g0
  generalize x1.f0 = ys at h1 g1
  have fx : ∀ x ∈ xs, fitB x := fun x hx => ⟨(g0 x hx).2.1, (g0 x hx).2.2.1, (g0 x hx).2.2.2.2.1, fun m hm => ((g0 x hx).2.2.2.2.2 m hm).2.2⟩
  have fy : ∀ x ∈ ys, fitB x := fun x hx => ⟨(g1 x hx).2.1, (g1 x hx).2.2.1, (g1 x hx).2.2.2.2.1, fun m hm => ((g1 x hx).2.2.2.2.2 m hm).2.2⟩
  rcases szState_ev xs h0 fx 1048576 (by omega) with ⟨hs, hz⟩ | hz
  · have h9 : ¬ (((1048576 - (xs.length + sumB xs) : Nat) : Int) < 0) := by omega
    refine Ev.bind hz ?_
    simp only [if_neg h9]
    rcases szState_ev ys h1 fy (1048576 - (xs.length + sumB xs)) (by omega) with ⟨hs2, hz2⟩ | hz2
    · have h8 : ¬ (((1048576 - (xs.length + sumB xs) - (ys.length + sumB ys) : Nat) : Int) < 0) := by omega
      refine Ev.bind hz2 ?_
      simp only [if_neg h8]
      have lx : ∀ x ∈ xs, x.f4.length ≤ 1048576 := fun x hx => by have := sumB_mem hx; omega
      have ly : ∀ x ∈ ys, x.f4.length ≤ 1048576 := fun x hx => by have := sumB_mem hx; omega
      have tx := toState_ev xs (by omega) lx
      have ty := toState_ev ys (by omega) ly
      have mx_ : (xs.map boxOf).length ≤ 1048576 := by rw [List.length_map]; omega
      have my_ : (ys.map boxOf).length ≤ 1048576 := by rw [List.length_map]; omega
      refine Ev.bind tx ?_
      refine Ev.bind ty ?_
      refine Ev.bind (spec_SameState_ev _ _ mx_ (boxOf_len lx)) ?_
      refine Ev.bind tx ?_
      refine Ev.bind ty ?_
      refine Ev.bind (impl_SameState_ev _ _ mx_ (boxOf_len lx)) ?_
      simp only [bne_self_eq_false, if_neg (show ¬ (false = true) by decide)]
      refine Ev.bind tx ?_
      refine Ev.bind (eqState_ev _ mx_ (boxOf_len lx)) ?_
      simp only [if_true]
      refine Ev.bind ty ?_
      refine Ev.bind (eqState_ev _ my_ (boxOf_len ly)) ?_
      simp only [if_true]
      exact Ev.now _
    · refine Ev.bind hz2 ?_
      simp only [if_pos (show (-1 : Int) < 0 by decide)]
      exact Ev.now _
  · refine Ev.bind hz ?_
    simp only [if_pos (show (-1 : Int) < 0 by decide)]
    exact Ev.now _

end Go.Proofs.Yteblgnkfdkoapaa.Pure
