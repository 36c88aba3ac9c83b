/- The program's StateOk answers what the reference's answers. Conditions: none beyond the statement's own. -/
import Derived.Test.YtjfcdjfnfhkjlaaQFnExactStateOkPure0
import Derived.Test.YtjfcdjfnfhkjlaaBase
namespace Go.Proofs.Ytjfcdjfnfhkjlaa.Pure
open Go.RowKit Go.Proofs.Ytjfcdjfnfhkjlaa.QFnExactStateOk Go.Proofs.YtjfcdjfnfhkjlaaW.PrintWords Go.Proofs.YtjfcdjfnfhkjlaaW.PrintLast Go.Proofs.YtjfcdjfnfhkjlaaB Go.Proofs.YtjfcdjfnfhkjlaaO
set_option linter.unusedVariables false
set_option linter.unusedSimpArgs false

/-- Mails with their texts' lengths. -/
def sumM : List S56 → Nat
  | [] => 0
  | x :: l => x.f2.size + sumM l
def mailOf (x : S56) : S40 := ⟨x.f0, x.f1, x.f2⟩
theorem rdT_drop1 {xs : List S56} {i : Nat} {x : S56} {l : List S56} (h : xs.drop i = x :: l) : rd_T56 xs (i : Int) = x := drop_getD _ h
theorem rdT_drop2 {xs : List S40} {i : Nat} {x : S40} {l : List S40} (h : xs.drop i = x :: l) : rd_T40 xs (i : Int) = x := drop_getD _ h

theorem szMailS_l0 (xs : List S56) (hx : xs.length ≤ 9223372036854775807) (hs : ∀ x ∈ xs, x.f2.size ≤ 9223372036854775807) :
    ∀ (l : List S56) (i : Nat) (a : Nat), xs.drop i = l → i ≤ xs.length → a ≤ 1048576 →
      (sumM l ≤ a ∧ Ev (fun k => laws_szMailS.l0 k xs a i) ((a - sumM l : Nat) : Int)) ∨ Ev (fun k => laws_szMailS.l0 k xs a i) (-1)
  | [], i, a, h, hi, ha => by
    left
    have e := drop_end h hi
    exact ⟨Nat.zero_le _, Ev.step (fun k => by rw [laws_szMailS.l0, if_neg (by omega)]; rfl) (Ev.now _)⟩
  | x :: l, i, a, h, hi, ha => by
    have hlt := drop_lt h
    have hz : x.f2.size ≤ 9223372036854775807 := hs x (List.mem_of_mem_drop (i := i) (by rw [h]; exact List.mem_cons_self))
    have e := rdT_drop1 h
    by_cases hb : x.f2.size ≤ a
    · have ew : wrap64 ((a : Int) - (x.f2.size : Int)) = ((a - x.f2.size : Nat) : Int) := by unfold wrap64; omega
      have hstep : ∀ k, laws_szMailS.l0 (k + 1) xs a i = laws_szMailS.l0 k xs ((a - x.f2.size : Nat) : Int) ((i + 1 : Nat) : Int) := fun k => by
        rw [laws_szMailS.l0, if_pos (by omega), if_pos (by omega), e, laws_szMail.f, ew, if_neg (by omega), Option.bind_some, if_neg (by omega), wrap_succ i (by omega)]
      rcases szMailS_l0 xs hx hs l (i + 1) (a - x.f2.size) (drop_tail h) (by omega) (by omega) with ⟨h1, h2⟩ | h2
      · left
        refine ⟨by simp only [sumM]; omega, Ev.step hstep ?_⟩
        have e3 : a - sumM (x :: l) = a - x.f2.size - sumM l := by simp only [sumM]; omega
        rw [e3]; exact h2
      · right; exact Ev.step hstep h2
    · right
      refine Ev.step (fun k => ?_) (Ev.now _)
      rw [laws_szMailS.l0, if_pos (by omega), if_pos (by omega), e, laws_szMail.f, if_pos (by unfold wrap64; omega), Option.bind_some, if_pos (by decide)]

theorem szMailS_ev (xs : List S56) (hx : xs.length ≤ 9223372036854775807) (hs : ∀ x ∈ xs, x.f2.size ≤ 9223372036854775807) (a : Nat) (ha : a ≤ 1048576) :
    (xs.length + sumM xs ≤ a ∧ Ev (fun k => laws_szMailS.f k xs a) ((a - (xs.length + sumM xs) : Nat) : Int)) ∨ Ev (fun k => laws_szMailS.f k xs a) (-1) := by
  by_cases hb : xs.length ≤ a
  · have ew : wrap64 ((a : Int) - (xs.length : Int)) = ((a - xs.length : Nat) : Int) := by unfold wrap64; omega
    have hf : ∀ k, laws_szMailS.f k xs a = laws_szMailS.l0 k xs ((a - xs.length : Nat) : Int) ((0 : Nat) : Int) := fun k => by
      rw [laws_szMailS.f, ew, if_neg (by omega)]; rfl
    rcases szMailS_l0 xs hx hs xs 0 (a - xs.length) rfl (by omega) (by omega) with ⟨h1, h2⟩ | h2
    · left
      refine ⟨by omega, Ev.congr hf ?_⟩
      rw [show a - (xs.length + sumM xs) = a - xs.length - sumM xs by omega]; exact h2
    · right; exact Ev.congr hf h2
  · right
    refine Ev.congr (fun k => ?_) (Ev.now _)
    rw [laws_szMailS.f, if_pos (by unfold wrap64; omega)]

theorem toMailS_l0 (xs : List S56) (hx : xs.length ≤ 1048576) :
    ∀ (l : List S56) (i : Nat), xs.drop i = l → i ≤ xs.length →
      Ev (fun k => laws_toMailS.l0 k xs ((xs.take i).map mailOf ++ List.replicate (xs.length - i) z40) i) (xs.map mailOf)
  | [], i, h, hi => by
    have e := drop_end h hi
    subst e
    refine Ev.step (fun k => by rw [laws_toMailS.l0, if_neg (by omega)]) ?_
    rw [fill_end]; exact Ev.now _
  | x :: l, i, h, hi => by
    have hlt := drop_lt h
    refine Ev.step (fun k => ?_) (toMailS_l0 xs hx l (i + 1) (drop_tail h) (by omega))
    rw [laws_toMailS.l0, if_pos (by omega), if_pos (by omega), rdT_drop1 h, laws_toMail.f, Option.bind_some, fill_len _ _ _ hi, if_pos (by omega), Int.toNat_natCast, wrap_succ i (by omega)]
    rw [← fill_set xs mailOf z40 h]
    rfl
theorem toMailS_ev (xs : List S56) (hx : xs.length ≤ 1048576) : Ev (fun k => laws_toMailS.f k xs) (xs.map mailOf) := by
  refine Ev.congr (fun k => ?_) (toMailS_l0 xs hx xs 0 rfl (by omega))
  rw [laws_toMailS.f, if_pos (by omega), Int.toNat_natCast, if_pos (by omega)]
  simp
theorem eqMail_self (a b : Int) (c : ByteArray) : laws_eqMail.f a b c a b c = some true := by
  unfold laws_eqMail.f
  simp only [if_true]
theorem eqMailS_l0 (xs : List S40) (hx : xs.length ≤ 9223372036854775807) :
    ∀ (l : List S40) (i : Nat), xs.drop i = l → i ≤ xs.length → Ev (fun k => laws_eqMailS.l0 k xs xs i) true
  | [], i, h, hi => by
    have e := drop_end h hi
    exact Ev.step (fun k => by rw [laws_eqMailS.l0, if_neg (by omega)]) (Ev.now true)
  | x :: l, i, h, hi => by
    have hlt := drop_lt h
    refine Ev.step (fun k => ?_) (eqMailS_l0 xs hx l (i + 1) (drop_tail h) (by omega))
    rw [laws_eqMailS.l0, if_pos (by omega), if_pos (by omega), if_pos (by omega), rdT_drop2 h, eqMail_self, Option.bind_some, if_pos rfl, wrap_succ i (by omega)]
theorem eqMailS_ev (xs : List S40) (hx : xs.length ≤ 9223372036854775807) : Ev (fun k => laws_eqMailS.f k xs xs) true := by
  refine Ev.congr (fun k => ?_) (eqMailS_l0 xs hx xs 0 rfl (by omega))
  rw [laws_eqMailS.f, if_pos rfl]; rfl

theorem szBox_ev (v : Int) (u n : ByteArray) (w : Int) (xs : List S56) (hu : u.size ≤ 9223372036854775807) (hn : n.size ≤ 9223372036854775807) (hx : xs.length ≤ 9223372036854775807) (hs : ∀ x ∈ xs, x.f2.size ≤ 9223372036854775807) (a : Nat) (ha : a ≤ 1048576) :
    (u.size + n.size + xs.length + sumM xs ≤ a ∧ Ev (fun k => laws_szBox.f k v u n w xs a) ((a - (u.size + n.size + xs.length + sumM xs) : Nat) : Int)) ∨ Ev (fun k => laws_szBox.f k v u n w xs a) (-1) := by
  unfold laws_szBox.f
  by_cases h1 : u.size ≤ a
  · have e1 : wrap64 ((a : Int) - (u.size : Int)) = ((a - u.size : Nat) : Int) := by unfold wrap64; omega
    have q1 : ¬ (((a - u.size : Nat) : Int) < 0) := by omega
    simp only [e1, if_neg q1]
    by_cases h2 : n.size ≤ a - u.size
    · have e2 : wrap64 (((a - u.size : Nat) : Int) - (n.size : Int)) = ((a - u.size - n.size : Nat) : Int) := by unfold wrap64; omega
      have q2 : ¬ (((a - u.size - n.size : Nat) : Int) < 0) := by omega
      simp only [e2, if_neg q2]
      rcases szMailS_ev xs hx hs (a - u.size - n.size) (by omega) with ⟨h3, e3⟩ | e3
      · left
        refine ⟨by omega, Ev.bind e3 ?_⟩
        have q3 : ¬ (((a - u.size - n.size - (xs.length + sumM xs) : Nat) : Int) < 0) := by omega
        simp only [if_neg q3]
        rw [show a - (u.size + n.size + xs.length + sumM xs) = a - u.size - n.size - (xs.length + sumM xs) by omega]
        exact Ev.now _
      · right
        refine Ev.bind e3 ?_
        simp only [if_pos (show (-1 : Int) < 0 by decide)]
        exact Ev.now _
    · right
      have q : wrap64 (((a - u.size : Nat) : Int) - (n.size : Int)) < 0 := by unfold wrap64; omega
      simp only [if_pos q]
      exact Ev.now _
  · right
    have q : wrap64 ((a : Int) - (u.size : Int)) < 0 := by unfold wrap64; omega
    simp only [if_pos q]
    exact Ev.now _
theorem toBox_ev (v : Int) (u n : ByteArray) (w : Int) (xs : List S56) (hx : xs.length ≤ 1048576) : Ev (fun k => laws_toBox.f k v u n w xs) (v, u, n, w, xs.map mailOf) := by
  unfold laws_toBox.f
  exact Ev.bind (toMailS_ev xs hx) (Ev.now _)
theorem eqBox_ev (v : Int) (u n : ByteArray) (w : Int) (xs : List S40) (hx : xs.length ≤ 1048576) : Ev (fun k => laws_eqBox.f k v u n w xs v u n w xs) true := by
  unfold laws_eqBox.f
  simp only [if_true]
  refine Ev.bind (eqMailS_ev xs (by omega)) ?_
  simp only [if_true]
  exact Ev.now _

/-- Boxes with their texts' and mails' lengths. -/
def sumB : List S48 → Nat
  | [] => 0
  | x :: l => x.f1.size + x.f2.size + x.f4.length + sumM x.f4 + sumB l
def fitB (x : S48) : Prop := x.f1.size ≤ 9223372036854775807 ∧ x.f2.size ≤ 9223372036854775807 ∧ x.f4.length ≤ 9223372036854775807 ∧ ∀ m ∈ x.f4, m.f2.size ≤ 9223372036854775807
def boxOf (x : S48) : S36 := ⟨x.f0, x.f1, x.f2, x.f3, x.f4.map mailOf⟩
theorem rdB_drop1 {xs : List S48} {i : Nat} {x : S48} {l : List S48} (h : xs.drop i = x :: l) : rd_T48 xs (i : Int) = x := drop_getD _ h
theorem rdB_drop2 {xs : List S36} {i : Nat} {x : S36} {l : List S36} (h : xs.drop i = x :: l) : rd_T36 xs (i : Int) = x := drop_getD _ h
theorem sumB_mem {x : S48} : ∀ {xs : List S48}, x ∈ xs → x.f1.size + x.f2.size + x.f4.length + sumM x.f4 ≤ sumB xs
  | y :: l, h => by
    rcases List.mem_cons.1 h with rfl | h
    · simp only [sumB]; omega
    · have := sumB_mem h
      simp only [sumB]; omega
theorem szBoxS_l0 (xs : List S48) (hx : xs.length ≤ 9223372036854775807) (hs : ∀ x ∈ xs, fitB x) :
    ∀ (l : List S48) (i : Nat) (a : Nat), xs.drop i = l → i ≤ xs.length → a ≤ 1048576 →
      (sumB l ≤ a ∧ Ev (fun k => laws_szBoxS.l0 k xs a i) ((a - sumB l : Nat) : Int)) ∨ Ev (fun k => laws_szBoxS.l0 k xs a i) (-1)
  | [], i, a, h, hi, ha => by
    left
    have e := drop_end h hi
    exact ⟨Nat.zero_le _, Ev.step (fun k => by rw [laws_szBoxS.l0, if_neg (by omega)]; rfl) (Ev.now _)⟩
  | x :: l, i, a, h, hi, ha => by
    have hlt := drop_lt h
    obtain ⟨z1, z2, z3, z4⟩ := hs x (List.mem_of_mem_drop (i := i) (by rw [h]; exact List.mem_cons_self))
    have e := rdB_drop1 h
    have hst : ∀ k, laws_szBoxS.l0 (k + 1) xs a i = (laws_szBox.f k x.f0 x.f1 x.f2 x.f3 x.f4 a).bind fun t => if t < 0 then some (-1) else laws_szBoxS.l0 k xs t ((i + 1 : Nat) : Int) := fun k => by
      rw [laws_szBoxS.l0, if_pos (by omega), if_pos (by omega), e, wrap_succ i (by omega)]
    rcases szBox_ev x.f0 x.f1 x.f2 x.f3 x.f4 z1 z2 z3 z4 a ha with ⟨h1, h2⟩ | h2
    · have q : ¬ (((a - (x.f1.size + x.f2.size + x.f4.length + sumM x.f4) : Nat) : Int) < 0) := by omega
      rcases szBoxS_l0 xs hx hs l (i + 1) (a - (x.f1.size + x.f2.size + x.f4.length + sumM x.f4)) (drop_tail h) (by omega) (by omega) with ⟨h3, h4⟩ | h4
      · left
        refine ⟨by simp only [sumB]; omega, Ev.step hst (Ev.bind h2 ?_)⟩
        simp only [if_neg q]
        have e3 : a - sumB (x :: l) = a - (x.f1.size + x.f2.size + x.f4.length + sumM x.f4) - sumB l := by simp only [sumB]; omega
        rw [e3]; exact h4
      · right
        refine Ev.step hst (Ev.bind h2 ?_)
        simp only [if_neg q]
        exact h4
    · right
      refine Ev.step hst (Ev.bind h2 ?_)
      simp only [if_pos (show (-1 : Int) < 0 by decide)]
      exact Ev.now _
theorem szState_ev (xs : List S48) (hx : xs.length ≤ 9223372036854775807) (hs : ∀ x ∈ xs, fitB x) (a : Nat) (ha : a ≤ 1048576) :
    (xs.length + sumB xs ≤ a ∧ Ev (fun k => laws_szState.f k xs a) ((a - (xs.length + sumB xs) : Nat) : Int)) ∨ Ev (fun k => laws_szState.f k xs a) (-1) := by
  have hB : (xs.length + sumB xs ≤ a ∧ Ev (fun k => laws_szBoxS.f k xs a) ((a - (xs.length + sumB xs) : Nat) : Int)) ∨ Ev (fun k => laws_szBoxS.f k xs a) (-1) := by
    by_cases hb : xs.length ≤ a
    · have ew : wrap64 ((a : Int) - (xs.length : Int)) = ((a - xs.length : Nat) : Int) := by unfold wrap64; omega
      have hf : ∀ k, laws_szBoxS.f k xs a = laws_szBoxS.l0 k xs ((a - xs.length : Nat) : Int) ((0 : Nat) : Int) := fun k => by
        rw [laws_szBoxS.f, ew, if_neg (by omega)]; rfl
      rcases szBoxS_l0 xs hx hs xs 0 (a - xs.length) rfl (by omega) (by omega) with ⟨h1, h2⟩ | h2
      · left
        refine ⟨by omega, Ev.congr hf ?_⟩
        rw [show a - (xs.length + sumB xs) = a - xs.length - sumB xs by omega]; exact h2
      · right; exact Ev.congr hf h2
    · right
      refine Ev.congr (fun k => ?_) (Ev.now _)
      rw [laws_szBoxS.f, if_pos (by unfold wrap64; omega)]
  unfold laws_szState.f
  rcases hB with ⟨h1, h2⟩ | h2
  · left
    have q : ¬ (((a - (xs.length + sumB xs) : Nat) : Int) < 0) := by omega
    refine ⟨h1, Ev.bind h2 ?_⟩
    simp only [if_neg q]
    exact Ev.now _
  · right
    refine Ev.bind h2 ?_
    simp only [if_pos (show (-1 : Int) < 0 by decide)]
    exact Ev.now _
theorem toBoxS_l0 (xs : List S48) (hx : xs.length ≤ 1048576) (hs : ∀ x ∈ xs, x.f4.length ≤ 1048576) :
    ∀ (l : List S48) (i : Nat), xs.drop i = l → i ≤ xs.length →
      Ev (fun k => laws_toBoxS.l0 k xs ((xs.take i).map boxOf ++ List.replicate (xs.length - i) z36) i) (xs.map boxOf)
  | [], i, h, hi => by
    have e := drop_end h hi
    subst e
    refine Ev.step (fun k => by rw [laws_toBoxS.l0, if_neg (by omega)]) ?_
    rw [fill_end]; exact Ev.now _
  | x :: l, i, h, hi => by
    have hlt := drop_lt h
    have hz := hs x (List.mem_of_mem_drop (i := i) (by rw [h]; exact List.mem_cons_self))
    have hlen := fill_len xs boxOf z36 hi
    have hset := fill_set xs boxOf z36 h
    generalize (xs.take i).map boxOf ++ List.replicate (xs.length - i) z36 = Y at hlen hset
    refine Ev.step (f := fun k => (laws_toBox.f k x.f0 x.f1 x.f2 x.f3 x.f4).bind fun bt => if (i : Int) < (Y.length : Int) then laws_toBoxS.l0 k xs (Y.set (i : Int).toNat (⟨bt.1, bt.2.1, bt.2.2.1, bt.2.2.2.1, bt.2.2.2.2⟩ : S36)) ((i + 1 : Nat) : Int) else none) (fun k => by
      rw [laws_toBoxS.l0, if_pos (by omega), if_pos (by omega), rdB_drop1 h, wrap_succ i (by omega)]) ?_
    refine Ev.bind (toBox_ev x.f0 x.f1 x.f2 x.f3 x.f4 hz) ?_
    simp only [if_pos (show (i : Int) < (Y.length : Int) by omega), Int.toNat_natCast]
    rw [show (⟨x.f0, x.f1, x.f2, x.f3, x.f4.map mailOf⟩ : S36) = boxOf x from rfl, hset]
    exact toBoxS_l0 xs hx hs l (i + 1) (drop_tail h) (by omega)
theorem toState_ev (xs : List S48) (hx : xs.length ≤ 1048576) (hs : ∀ x ∈ xs, x.f4.length ≤ 1048576) : Ev (fun k => laws_toState.f k xs) (xs.map boxOf) := by
  unfold laws_toState.f
  refine Ev.bind (a := xs.map boxOf) ?_ (Ev.now _)
  refine Ev.congr (fun k => ?_) (toBoxS_l0 xs hx hs xs 0 rfl (by omega))
  rw [laws_toBoxS.f, if_pos (by omega), Int.toNat_natCast, if_pos (by omega)]
  simp
theorem eqBoxS_l0 (xs : List S36) (hx : xs.length ≤ 1048576) (hs : ∀ x ∈ xs, x.f4.length ≤ 1048576) :
    ∀ (l : List S36) (i : Nat), xs.drop i = l → i ≤ xs.length → Ev (fun k => laws_eqBoxS.l0 k xs xs i) true
  | [], i, h, hi => by
    have e := drop_end h hi
    exact Ev.step (fun k => by rw [laws_eqBoxS.l0, if_neg (by omega)]) (Ev.now true)
  | x :: l, i, h, hi => by
    have hlt := drop_lt h
    have hz := hs x (List.mem_of_mem_drop (i := i) (by rw [h]; exact List.mem_cons_self))
    refine Ev.step (f := fun k => (laws_eqBox.f k x.f0 x.f1 x.f2 x.f3 x.f4 x.f0 x.f1 x.f2 x.f3 x.f4).bind fun t => if t = true then laws_eqBoxS.l0 k xs xs ((i + 1 : Nat) : Int) else some false) (fun k => by
      rw [laws_eqBoxS.l0, if_pos (by omega), if_pos (by omega), if_pos (by omega), rdB_drop2 h, wrap_succ i (by omega)]) ?_
    refine Ev.bind (eqBox_ev x.f0 x.f1 x.f2 x.f3 x.f4 hz) ?_
    simp only [if_true]
    exact eqBoxS_l0 xs hx hs l (i + 1) (drop_tail h) (by omega)
theorem eqState_ev (xs : List S36) (hx : xs.length ≤ 1048576) (hs : ∀ x ∈ xs, x.f4.length ≤ 1048576) : Ev (fun k => laws_eqState.f k xs xs) true := by
  unfold laws_eqState.f
  refine Ev.bind (a := true) ?_ ?_
  · refine Ev.congr (fun k => ?_) (eqBoxS_l0 xs hx hs xs 0 rfl (by omega))
    rw [laws_eqBoxS.f, if_pos rfl]; rfl
  · simp only [if_true]
    exact Ev.now _
theorem boxOf_len {xs : List S48} (hs : ∀ x ∈ xs, x.f4.length ≤ 1048576) : ∀ x ∈ xs.map boxOf, x.f4.length ≤ 1048576 := by
  intro x hx
  obtain ⟨y, hy, rfl⟩ := List.mem_map.1 hx
  show (y.f4.map mailOf).length ≤ _
  rw [List.length_map]
  exact hs y hy

theorem spec_in (a b c : Int) : spec_l01In.f a b c = some (decide (b ≤ a ∧ a ≤ c)) := by
  unfold spec_l01In.f
  by_cases h : a ≥ b
  · rw [if_pos h]; have : b ≤ a := h; simp [this]
  · rw [if_neg h]; have : ¬ b ≤ a := h; simp [this]

theorem impl_in_eq (a b c : Int) : impl_in.f a b c = some (decide (b ≤ a ∧ a ≤ c)) := by
  unfold impl_in.f
  by_cases h : a ≥ b
  · rw [if_pos h]; have : b ≤ a := h; simp [this]
  · rw [if_neg h]; have : ¬ b ≤ a := h; simp [this]


def letters : List UInt8 → Bool
  | [] => true
  | c :: l => if (c.toNat : Int) < 97 then false else if (c.toNat : Int) > 122 then false else letters l
def wordOk (s : ByteArray) : Bool := letters s.data.toList && decide (1 ≤ (s.size : Int) ∧ (s.size : Int) ≤ 8)

theorem spec_WordOk_l0 (s : ByteArray) (hs : s.size ≤ 9223372036854775807) :
    ∀ (l : List UInt8) (i : Nat), s.data.toList.drop i = l → i ≤ s.size → Ev (fun k => spec_WordOk.l0 k s i) (letters l && decide (1 ≤ (s.size : Int) ∧ (s.size : Int) ≤ 8))
  | [], i, h, hi => by
    have e := drop_end h (by rw [size_data]; exact hi)
    rw [size_data] at e
    exact Ev.step (fun k => by rw [spec_WordOk.l0, if_neg (by omega), spec_in]; rfl) (Ev.now _)
  | c :: l, i, h, hi => by
    have hlt := drop_lt h
    rw [size_data] at hlt
    have hb := bt_cons h
    by_cases h1 : (c.toNat : Int) < 97
    · exact Ev.step (fun k => by rw [spec_WordOk.l0, if_pos (by omega), if_pos (by omega), hb, if_pos h1]; simp only [letters, if_pos h1, Bool.false_and]) (Ev.now _)
    · by_cases h2 : (c.toNat : Int) > 122
      · exact Ev.step (fun k => by rw [spec_WordOk.l0, if_pos (by omega), if_pos (by omega), hb, if_neg h1, if_pos h2]; simp only [letters, if_neg h1, if_pos h2, Bool.false_and]) (Ev.now _)
      · have ih := spec_WordOk_l0 s hs l (i + 1) (drop_tail h) (by omega)
        have e : letters (c :: l) = letters l := by simp only [letters, if_neg h1, if_neg h2]
        rw [e]
        exact Ev.step (fun k => by rw [spec_WordOk.l0, if_pos (by omega), if_pos (by omega), hb, if_neg h1, if_neg h2, wrap_succ i (by omega)]) ih

theorem spec_WordOk_ev (s : ByteArray) (hs : s.size ≤ 9223372036854775807) : Ev (fun k => spec_WordOk.f k s) (wordOk s) :=
  Ev.congr (fun k => rfl) (spec_WordOk_l0 s hs _ 0 rfl (by omega))

theorem impl_WordOk_l0 (s : ByteArray) (hs : s.size ≤ 9223372036854775807) :
    ∀ (l : List UInt8) (i : Nat), s.data.toList.drop i = l → i ≤ s.size → Ev (fun k => impl_WordOk.l0 k s (s.size : Int) i) (letters l)
  | [], i, h, hi => by
    have e := drop_end h (by rw [size_data]; exact hi)
    rw [size_data] at e
    exact Ev.step (fun k => by rw [impl_WordOk.l0, if_neg (by omega)]; rfl) (Ev.now _)
  | c :: l, i, h, hi => by
    have hlt := drop_lt h
    rw [size_data] at hlt
    have hb := bt_cons h
    by_cases h1 : (c.toNat : Int) < 97
    · exact Ev.step (fun k => by rw [impl_WordOk.l0, if_pos (by omega), if_pos (by omega), if_pos (by omega), hb, if_pos h1]; simp only [letters, if_pos h1]) (Ev.now _)
    · by_cases h2 : (c.toNat : Int) > 122
      · exact Ev.step (fun k => by rw [impl_WordOk.l0, if_pos (by omega), if_pos (by omega), if_pos (by omega), hb, if_neg h1, if_pos h2]; simp only [letters, if_neg h1, if_pos h2]) (Ev.now _)
      · have ih := impl_WordOk_l0 s hs l (i + 1) (drop_tail h) (by omega)
        have e : letters (c :: l) = letters l := by simp only [letters, if_neg h1, if_neg h2]
        rw [e]
        exact Ev.step (fun k => by rw [impl_WordOk.l0, if_pos (by omega), if_pos (by omega), if_pos (by omega), hb, if_neg h1, if_neg h2, wrap_succ i (by omega)]) ih

theorem impl_WordOk_ev (s : ByteArray) (hs : s.size ≤ 9223372036854775807) : Ev (fun k => impl_WordOk.f k s) (wordOk s) := by
  unfold impl_WordOk.f
  simp only [impl_in_eq, Option.bind_some]
  by_cases h : 1 ≤ (s.size : Int) ∧ (s.size : Int) ≤ 8
  · simp only [h, and_self, decide_true, if_true, wordOk, Bool.and_true]
    exact impl_WordOk_l0 s hs _ 0 rfl (by omega)
  · simp only [wordOk, h, decide_false, Bool.and_false]
    exact Ev.now _

def Both {α : Type} (f g : Nat → Option α) : Prop := ∃ r, Ev f r ∧ Ev g r
theorem Both.now {α : Type} (a : α) : Both (fun _ => some a) (fun _ => some a) := ⟨a, Ev.now _, Ev.now _⟩
theorem Both.up {α : Type} {f g : Nat → Option α} (h : Both (fun k => f (k + 1)) (fun k => g (k + 1))) : Both f g := by
  obtain ⟨r, e1, e2⟩ := h
  exact ⟨r, Ev.step (fun k => rfl) e1, Ev.step (fun k => rfl) e2⟩
theorem Both.of {α : Type} {f g : Nat → Option α} {r : α} (e1 : Ev f r) (e2 : Ev g r) : Both f g := ⟨r, e1, e2⟩

section
variable (xs : List S36) (i : Nat) (v : Int) (u nm : ByteArray) (nx : Int) (ms : List S40)
theorem mails_both (hi : i < 1048576) (hm : ms.length ≤ 1048576) (h : Both (fun k => spec_StateOk.l0 k ((i + 1 : Nat) : Int) xs) (fun k => impl_StateOk.l0 k xs (xs.length : Int) ((i + 1 : Nat) : Int) xs)) :
    ∀ (n j : Nat), j + n = ms.length → Both (fun k => spec_StateOk.l2 k i j xs v u nm nx ms) (fun k => impl_StateOk.l1 k xs (xs.length : Int) i ms (ms.length : Int) j xs v u nm nx ms)
  | n, j, e => by
    refine Both.up ?_
    simp only [spec_StateOk.l2, impl_StateOk.l1, spec_in, impl_in_eq, Option.bind_some]
    cases n with
    | zero =>
      simp only [if_neg (show ¬ ((j : Int) < (ms.length : Int)) by omega), wrap_succ i (show i < 9223372036854775807 by omega)]
      exact h
    | succ n =>
      have ih := mails_both hi hm h n (j + 1) (by omega)
      simp only [if_pos (show (j : Int) < (ms.length : Int) by omega), if_pos (show (0 : Int) ≤ (j : Int) by omega), wrap_succ j (show j < 9223372036854775807 by omega)]
      by_cases hA : decide (1 ≤ (rd_T40 ms j).f0 ∧ (rd_T40 ms j).f0 ≤ wrap64 (nx - 1)) = true
      · simp only [if_pos hA]
        by_cases hB : decide (0 ≤ (rd_T40 ms j).f1 ∧ (rd_T40 ms j).f1 ≤ 7) = true
        · simp only [if_pos hB]
          by_cases hD : (j : Int) > 0
          · have hw : wrap64 ((j : Int) - 1) = ((j - 1 : Nat) : Int) := wrap_nat _ _ (by omega) (by omega)
            simp only [if_pos hD, hw, if_pos (show (0 : Int) ≤ ((j - 1 : Nat) : Int) by omega), if_pos (show ((j - 1 : Nat) : Int) < (ms.length : Int) by omega)]
            by_cases hC : (((rd_T40 ms j).f2).size : Int) > 100
            · simp only [if_pos hC]
              by_cases hE : (rd_T40 ms ((j - 1 : Nat) : Int)).f0 ≥ (rd_T40 ms j).f0
              · simp only [if_pos hE]; exact Both.now false
              · simp only [if_neg hE]; exact Both.now false
            · simp only [if_neg hC]
              by_cases hE : (rd_T40 ms ((j - 1 : Nat) : Int)).f0 ≥ (rd_T40 ms j).f0
              · simp only [if_pos hE]; exact Both.now false
              · simp only [if_neg hE]; exact ih
          · simp only [if_neg hD]
            by_cases hC : (((rd_T40 ms j).f2).size : Int) > 100
            · simp only [if_pos hC]; exact Both.now false
            · simp only [if_neg hC]; exact ih
        · simp only [if_neg hB]
          by_cases hD : (j : Int) > 0
          · have hw : wrap64 ((j : Int) - 1) = ((j - 1 : Nat) : Int) := wrap_nat _ _ (by omega) (by omega)
            simp only [if_pos hD, hw, if_pos (show (0 : Int) ≤ ((j - 1 : Nat) : Int) by omega), if_pos (show ((j - 1 : Nat) : Int) < (ms.length : Int) by omega)]
            by_cases hE : (rd_T40 ms ((j - 1 : Nat) : Int)).f0 ≥ (rd_T40 ms j).f0
            · simp only [if_pos hE]; exact Both.now false
            · simp only [if_neg hE]; exact Both.now false
          · simp only [if_neg hD]; exact Both.now false
      · simp only [if_neg hA]; exact Both.now false
theorem rd_take (q : Nat) (hq : q < i) : rd_T36 (xs.take i) (q : Int) = rd_T36 xs (q : Int) := by
  unfold rd_T36
  rw [List.getD_eq_getElem?_getD, List.getD_eq_getElem?_getD, Int.toNat_natCast, List.getElem?_take, if_pos hq]
theorem once_both (hx : xs.length ≤ 1048576) (hi : i < xs.length) (r : Bool) (hr : Ev (fun k => spec_StateOk.l2 k i 0 xs v u nm nx ms) r) :
    ∀ (n j : Nat), j + n = i → ∃ (b : Bool) (t : Int), Ev (fun k => spec_StateOk.l1 k i j xs v u nm nx ms) (if b = true then false else r) ∧ Ev (fun k => impl_Box.l0 k (xs.take i) u nm j) t ∧ (decide (t ≥ 0)) = b
  | 0, j, e => by
    have hl : (xs.take i).length = i := by rw [List.length_take]; omega
    refine ⟨false, -1, Ev.step (fun k => by rw [spec_StateOk.l1, if_neg (by omega)]) ?_, Ev.step (fun k => by rw [impl_Box.l0, if_neg (by omega)]) (Ev.now _), by decide⟩
    rw [if_neg (by decide)]; exact hr
  | n + 1, j, e => by
    have hl : (xs.take i).length = i := by rw [List.length_take]; omega
    obtain ⟨b, t, h1, h2, h3⟩ := once_both hx hi r hr n (j + 1) (by omega)
    have er := rd_take xs i j (by omega)
    by_cases c1 : ((rd_T36 xs j).f1).toList = u.toList
    · by_cases c2 : ((rd_T36 xs j).f2).toList = nm.toList
      · refine ⟨true, j, ?_, ?_, decide_eq_true (by omega)⟩
        · rw [if_pos rfl]
          exact Ev.step (fun k => by rw [spec_StateOk.l1, if_pos (by omega), if_pos (by omega), if_pos (by omega), if_pos c1, if_pos c2]) (Ev.now _)
        · exact Ev.step (fun k => by rw [impl_Box.l0, if_pos (by omega), if_pos (by omega), er, if_pos c1, if_pos c2]) (Ev.now _)
      · refine ⟨b, t, ?_, ?_, h3⟩
        · exact Ev.step (fun k => by rw [spec_StateOk.l1, if_pos (by omega), if_pos (by omega), if_pos (by omega), if_pos c1, if_neg c2, wrap_succ j (by omega)]) h1
        · exact Ev.step (fun k => by rw [impl_Box.l0, if_pos (by omega), if_pos (by omega), er, if_pos c1, if_neg c2, wrap_succ j (by omega)]) h2
    · refine ⟨b, t, ?_, ?_, h3⟩
      · exact Ev.step (fun k => by rw [spec_StateOk.l1, if_pos (by omega), if_pos (by omega), if_pos (by omega), if_neg c1, wrap_succ j (by omega)]) h1
      · exact Ev.step (fun k => by rw [impl_Box.l0, if_pos (by omega), if_pos (by omega), er, if_neg c1, wrap_succ j (by omega)]) h2
theorem j1_both (hx : xs.length ≤ 1048576) (hi : i < xs.length) (hm : ms.length ≤ 1048576) (c : Bool) (h : Both (fun k => spec_StateOk.l0 k ((i + 1 : Nat) : Int) xs) (fun k => impl_StateOk.l0 k xs (xs.length : Int) ((i + 1 : Nat) : Int) xs)) :
    Both (fun k => spec_StateOk.j1 k i c xs v u nm nx ms) (fun k => impl_StateOk.j1 k i xs (xs.length : Int) i c xs v u nm nx ms) := by
  refine Both.up ?_
  simp only [spec_StateOk.j1, impl_StateOk.j1]
  cases c with
  | true => simp only [if_true]; exact Both.now false
  | false =>
    simp only [Bool.false_eq_true, if_false, if_pos (show (0 : Int) ≤ (i : Int) by omega), if_pos (show (i : Int) ≤ (xs.length : Int) by omega), Int.toNat_natCast]
    obtain ⟨r, m1, m2⟩ := mails_both xs i v u nm nx ms (by omega) hm h ms.length 0 (by omega)
    obtain ⟨b, t, h1, h2, h3⟩ := once_both xs i v u nm nx ms hx hi r m1 i 0 (by omega)
    refine ⟨if b = true then false else r, h1, ?_⟩
    refine Ev.bind (a := b) ?_ ?_
    · unfold impl_Box.f
      refine Ev.bind h2 ?_
      rw [h3]; exact Ev.now _
    · cases b with
      | true => simp only [if_true]; exact Ev.now _
      | false => simp only [Bool.false_eq_true, if_false]; exact m2
end
def FitOk (x : S36) : Prop := x.f1.size ≤ 9223372036854775807 ∧ x.f2.size ≤ 9223372036854775807 ∧ x.f4.length ≤ 1048576
theorem boxes_both (xs : List S36) (hx : xs.length ≤ 1048576) (hs : ∀ x ∈ xs, FitOk x) : ∀ (n i : Nat), i + n = xs.length → Both (fun k => spec_StateOk.l0 k i xs) (fun k => impl_StateOk.l0 k xs (xs.length : Int) i xs)
  | 0, i, e => Both.of (Ev.step (fun k => by rw [spec_StateOk.l0, if_neg (by omega)]) (Ev.now true)) (Ev.step (fun k => by rw [impl_StateOk.l0, if_neg (by omega)]) (Ev.now true))
  | n + 1, i, e => by
    have ih := boxes_both xs hx hs n (i + 1) (by omega)
    have hi : i < xs.length := by omega
    have hz : FitOk (rd_T36 xs (i : Int)) := by
      unfold rd_T36
      rw [List.getD_eq_getElem?_getD, Int.toNat_natCast, List.getElem?_eq_getElem hi, Option.getD_some]
      exact hs _ (List.getElem_mem hi)
    generalize hX : rd_T36 xs (i : Int) = x at hz
    have J := fun c => j1_both xs i x.f0 x.f1 x.f2 x.f3 x.f4 hx hi hz.2.2 c ih
    obtain ⟨rt, s1, i1⟩ := J true
    obtain ⟨rf, s2, i2⟩ := J false
    have nf : Ev (fun k => spec_StateOk.j1 k i true xs x.f0 x.f1 x.f2 x.f3 x.f4) false := Ev.step (fun k => by rw [spec_StateOk.j1, if_pos rfl]) (Ev.now _)
    have nj : Ev (fun k => impl_StateOk.j1 k i xs (xs.length : Int) i true xs x.f0 x.f1 x.f2 x.f3 x.f4) false := Ev.step (fun k => by rw [impl_StateOk.j1, if_pos rfl]) (Ev.now _)
    have w1 := spec_WordOk_ev x.f1 hz.1
    have w2 := spec_WordOk_ev x.f2 hz.2.1
    have w3 := impl_WordOk_ev x.f1 hz.1
    have w4 := impl_WordOk_ev x.f2 hz.2.1
    refine Both.up ?_
    simp only [spec_StateOk.l0, impl_StateOk.l0, spec_in, impl_in_eq, Option.bind_some, hX]
    simp only [if_pos (show (i : Int) < (xs.length : Int) by omega), if_pos (show (0 : Int) ≤ (i : Int) by omega)]
    by_cases hA0 : ¬ (decide (1 ≤ x.f0 ∧ x.f0 ≤ 9999) = true)
    · simp only [if_neg hA0]; exact Both.of nf nj
    have hA := Classical.not_not.mp hA0
    simp only [if_pos hA]
    -- what the reference asks behind the order: both words and the next number
    have S : ∀ c : Bool, Ev (fun k => (spec_WordOk.f k x.f1).bind fun t => if t = true then ((spec_WordOk.f k x.f2).bind fun t => if t = true then spec_StateOk.j1 k i (!decide (1 ≤ x.f3 ∧ x.f3 ≤ 10000)) xs x.f0 x.f1 x.f2 x.f3 x.f4 else spec_StateOk.j1 k i true xs x.f0 x.f1 x.f2 x.f3 x.f4) else spec_StateOk.j1 k i true xs x.f0 x.f1 x.f2 x.f3 x.f4) (if wordOk x.f1 = true then (if wordOk x.f2 = true then (if decide (1 ≤ x.f3 ∧ x.f3 ≤ 10000) = true then rf else false) else false) else false) := fun _ => by
      refine Ev.bind w1 (ev_ite (fun q => ?_) (fun q => by rw [if_neg q]; exact nf))
      rw [if_pos q]
      refine Ev.bind w2 (ev_ite (fun q2 => ?_) (fun q2 => by rw [if_neg q2]; exact nf))
      rw [if_pos q2]
      by_cases q3 : decide (1 ≤ x.f3 ∧ x.f3 ≤ 10000) = true
      · rw [if_pos q3, q3]; exact s2
      · rw [if_neg q3, Bool.eq_false_iff.mpr q3]; exact nf
    by_cases hD : (i : Int) > 0
    · have hw : wrap64 ((i : Int) - 1) = ((i - 1 : Nat) : Int) := wrap_nat _ _ (by omega) (by omega)
      simp only [if_pos hD, hw, if_pos (show (0 : Int) ≤ ((i - 1 : Nat) : Int) by omega), if_pos (show ((i - 1 : Nat) : Int) < (xs.length : Int) by omega)]
      generalize (rd_T36 xs ((i - 1 : Nat) : Int)).f0 = p
      by_cases hE : p ≥ x.f0
      · simp only [if_pos hE, decide_eq_true hE]
        refine Both.of nf ?_
        refine Ev.bind w3 (ev_ite (fun _ => ?_) (fun _ => nj))
        refine Ev.bind w4 (ev_ite (fun _ => ?_) (fun _ => nj))
        exact ev_ite (fun _ => nj) (fun _ => nj)
      · simp only [if_neg hE, decide_eq_false hE]
        refine Both.of (S true) ?_
        refine Ev.bind w3 (ev_ite (fun q => ?_) (fun q => by rw [if_neg q]; exact nj))
        rw [if_pos q]
        refine Ev.bind w4 (ev_ite (fun q2 => ?_) (fun q2 => by rw [if_neg q2]; exact nj))
        rw [if_pos q2]
        exact ev_ite (fun q3 => by rw [if_pos q3]; exact i2) (fun q3 => by rw [if_neg q3]; exact nj)
    · simp only [if_neg hD]
      refine Both.of (S true) ?_
      refine Ev.bind w3 (ev_ite (fun q => ?_) (fun q => by rw [if_neg q]; exact nj))
      rw [if_pos q]
      refine Ev.bind w4 (ev_ite (fun q2 => ?_) (fun q2 => by rw [if_neg q2]; exact nj))
      rw [if_pos q2]
      exact ev_ite (fun q3 => by rw [if_pos q3]; exact i2) (fun q3 => by rw [if_neg q3]; exact nj)

theorem FnExactStateOk : laws_FnExactStateOk.Pure := by
  intro x0 ⟨h0, g0⟩
  refine Ev.rounds (g := fun k => laws_FnExactStateOk.f k x0.f0) ?_
  unfold laws_FnExactStateOk.f
  generalize x0.f0 = xs at h0 g0
  have fx : ∀ x ∈ xs, fitB x := fun x hx => ⟨(g0 x hx).2.1, (g0 x hx).2.2.1, (g0 x hx).2.2.2.2.1, fun m hm => ((g0 x hx).2.2.2.2.2 m hm).2.2⟩
  rcases szState_ev xs h0 fx 1048576 (by omega) with ⟨hs, hz⟩ | hz
  · have h9 : ¬ (((1048576 - (xs.length + sumB xs) : Nat) : Int) < 0) := by omega
    refine Ev.bind hz ?_
    simp only [if_neg h9]
    have lx : ∀ x ∈ xs, x.f4.length ≤ 1048576 := fun x hx => by have := sumB_mem hx; omega
    have tx := toState_ev xs (by omega) lx
    have mx_ : (xs.map boxOf).length ≤ 1048576 := by rw [List.length_map]; omega
    have hf : ∀ x ∈ xs.map boxOf, FitOk x := by
      intro x hx
      obtain ⟨y, hy, rfl⟩ := List.mem_map.1 hx
      refine ⟨(fx y hy).1, (fx y hy).2.1, ?_⟩
      show (y.f4.map mailOf).length ≤ _
      rw [List.length_map]
      exact lx y hy
    obtain ⟨r, e1, e2⟩ := boxes_both (xs.map boxOf) mx_ hf (xs.map boxOf).length 0 (by omega)
    refine Ev.bind tx ?_
    refine Ev.bind (Ev.congr (fun k => rfl) e1) ?_
    refine Ev.bind tx ?_
    refine Ev.bind (Ev.congr (fun k => rfl) e2) ?_
    simp only [bne_self_eq_false, if_neg (show ¬ (false = true) by decide)]
    refine Ev.bind tx ?_
    refine Ev.bind (eqState_ev _ mx_ (boxOf_len lx)) ?_
    simp only [if_true]
    exact Ev.now _
  · refine Ev.bind hz ?_
    simp only [if_pos (show (-1 : Int) < 0 by decide)]
    exact Ev.now _

end Go.Proofs.Ytjfcdjfnfhkjlaa.Pure
