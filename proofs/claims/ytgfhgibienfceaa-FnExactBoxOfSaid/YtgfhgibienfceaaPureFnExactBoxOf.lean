/- The program's BoxOf answers what the reference's answers, keeps nothing and changes nothing. Conditions: none beyond the statement's own. -/
import Derived.Test.YtgfhgibienfceaaQFnExactBoxOfPure0
import Derived.Test.YtgfhgibienfceaaBase
namespace Go.Proofs.Ytgfhgibienfceaa.Pure
open Go.RowKit Go.Proofs.Ytgfhgibienfceaa.QFnExactBoxOf Go.Proofs.YtgfhgibienfceaaW.PrintWords Go.Proofs.YtgfhgibienfceaaW.PrintLast Go.Proofs.YtgfhgibienfceaaB Go.Proofs.YtgfhgibienfceaaO
set_option linter.unusedVariables false
set_option linter.unusedSimpArgs false

/-- Mails with their texts' lengths. -/
def sumM : List S139 → Nat
  | [] => 0
  | x :: l => x.f2.size + sumM l
def mailOf (x : S139) : S112 := ⟨x.f0, x.f1, x.f2⟩
theorem rdT_drop1 {xs : List S139} {i : Nat} {x : S139} {l : List S139} (h : xs.drop i = x :: l) : rd_T139 xs (i : Int) = x := drop_getD _ h
theorem rdT_drop2 {xs : List S112} {i : Nat} {x : S112} {l : List S112} (h : xs.drop i = x :: l) : rd_T112 xs (i : Int) = x := drop_getD _ h

theorem szMailS_l0 (xs : List S139) (hx : xs.length ≤ 9223372036854775807) (hs : ∀ x ∈ xs, x.f2.size ≤ 9223372036854775807) :
    ∀ (l : List S139) (i : Nat) (a : Nat), xs.drop i = l → i ≤ xs.length → a ≤ 1048576 →
      (sumM l ≤ a ∧ Ev (fun k => laws_szMailS.l0 k xs a i) ((a - sumM l : Nat) : Int)) ∨ Ev (fun k => laws_szMailS.l0 k xs a i) (-1)
  | [], i, a, h, hi, ha => by
    left
    have e := drop_end h hi
    exact ⟨Nat.zero_le _, Ev.step (fun k => by rw [laws_szMailS.l0, if_neg (by omega)]; rfl) (Ev.now _)⟩
  | x :: l, i, a, h, hi, ha => by
    have hlt := drop_lt h
    have hz : x.f2.size ≤ 9223372036854775807 := hs x (List.mem_of_mem_drop (i := i) (by rw [h]; exact List.mem_cons_self))
    have e := rdT_drop1 h
    by_cases hb : x.f2.size ≤ a
    · have ew : wrap64 ((a : Int) - (x.f2.size : Int)) = ((a - x.f2.size : Nat) : Int) := by unfold wrap64; omega
      have hstep : ∀ k, laws_szMailS.l0 (k + 1) xs a i = laws_szMailS.l0 k xs ((a - x.f2.size : Nat) : Int) ((i + 1 : Nat) : Int) := fun k => by
        rw [laws_szMailS.l0, if_pos (by omega), if_pos (by omega), e, laws_szMail.f, ew, if_neg (by omega), Option.bind_some, if_neg (by omega), wrap_succ i (by omega)]
      rcases szMailS_l0 xs hx hs l (i + 1) (a - x.f2.size) (drop_tail h) (by omega) (by omega) with ⟨h1, h2⟩ | h2
      · left
        refine ⟨by simp only [sumM]; omega, Ev.step hstep ?_⟩
        have e3 : a - sumM (x :: l) = a - x.f2.size - sumM l := by simp only [sumM]; omega
        rw [e3]; exact h2
      · right; exact Ev.step hstep h2
    · right
      refine Ev.step (fun k => ?_) (Ev.now _)
      rw [laws_szMailS.l0, if_pos (by omega), if_pos (by omega), e, laws_szMail.f, if_pos (by unfold wrap64; omega), Option.bind_some, if_pos (by decide)]

theorem szMailS_ev (xs : List S139) (hx : xs.length ≤ 9223372036854775807) (hs : ∀ x ∈ xs, x.f2.size ≤ 9223372036854775807) (a : Nat) (ha : a ≤ 1048576) :
    (xs.length + sumM xs ≤ a ∧ Ev (fun k => laws_szMailS.f k xs a) ((a - (xs.length + sumM xs) : Nat) : Int)) ∨ Ev (fun k => laws_szMailS.f k xs a) (-1) := by
  by_cases hb : xs.length ≤ a
  · have ew : wrap64 ((a : Int) - (xs.length : Int)) = ((a - xs.length : Nat) : Int) := by unfold wrap64; omega
    have hf : ∀ k, laws_szMailS.f k xs a = laws_szMailS.l0 k xs ((a - xs.length : Nat) : Int) ((0 : Nat) : Int) := fun k => by
      rw [laws_szMailS.f, ew, if_neg (by omega)]; rfl
    rcases szMailS_l0 xs hx hs xs 0 (a - xs.length) rfl (by omega) (by omega) with ⟨h1, h2⟩ | h2
    · left
      refine ⟨by omega, Ev.congr hf ?_⟩
      rw [show a - (xs.length + sumM xs) = a - xs.length - sumM xs by omega]; exact h2
    · right; exact Ev.congr hf h2
  · right
    refine Ev.congr (fun k => ?_) (Ev.now _)
    rw [laws_szMailS.f, if_pos (by unfold wrap64; omega)]

theorem toMailS_l0 (xs : List S139) (hx : xs.length ≤ 1048576) :
    ∀ (l : List S139) (i : Nat), xs.drop i = l → i ≤ xs.length →
      Ev (fun k => laws_toMailS.l0 k xs ((xs.take i).map mailOf ++ List.replicate (xs.length - i) z112) i) (xs.map mailOf)
  | [], i, h, hi => by
    have e := drop_end h hi
    subst e
    refine Ev.step (fun k => by rw [laws_toMailS.l0, if_neg (by omega)]) ?_
    rw [fill_end]; exact Ev.now _
  | x :: l, i, h, hi => by
    have hlt := drop_lt h
    refine Ev.step (fun k => ?_) (toMailS_l0 xs hx l (i + 1) (drop_tail h) (by omega))
    rw [laws_toMailS.l0, if_pos (by omega), if_pos (by omega), rdT_drop1 h, laws_toMail.f, Option.bind_some, fill_len _ _ _ hi, if_pos (by omega), Int.toNat_natCast, wrap_succ i (by omega)]
    rw [← fill_set xs mailOf z112 h]
    rfl
theorem toMailS_ev (xs : List S139) (hx : xs.length ≤ 1048576) : Ev (fun k => laws_toMailS.f k xs) (xs.map mailOf) := by
  refine Ev.congr (fun k => ?_) (toMailS_l0 xs hx xs 0 rfl (by omega))
  rw [laws_toMailS.f, if_pos (by omega), Int.toNat_natCast, if_pos (by omega)]
  simp
theorem eqMail_self (a b : Int) (c : ByteArray) : laws_eqMail.f a b c a b c = some true := by
  unfold laws_eqMail.f
  simp only [if_true]
theorem eqMailS_l0 (xs : List S112) (hx : xs.length ≤ 9223372036854775807) :
    ∀ (l : List S112) (i : Nat), xs.drop i = l → i ≤ xs.length → Ev (fun k => laws_eqMailS.l0 k xs xs i) true
  | [], i, h, hi => by
    have e := drop_end h hi
    exact Ev.step (fun k => by rw [laws_eqMailS.l0, if_neg (by omega)]) (Ev.now true)
  | x :: l, i, h, hi => by
    have hlt := drop_lt h
    refine Ev.step (fun k => ?_) (eqMailS_l0 xs hx l (i + 1) (drop_tail h) (by omega))
    rw [laws_eqMailS.l0, if_pos (by omega), if_pos (by omega), if_pos (by omega), rdT_drop2 h, eqMail_self, Option.bind_some, if_pos rfl, wrap_succ i (by omega)]
theorem eqMailS_ev (xs : List S112) (hx : xs.length ≤ 9223372036854775807) : Ev (fun k => laws_eqMailS.f k xs xs) true := by
  refine Ev.congr (fun k => ?_) (eqMailS_l0 xs hx xs 0 rfl (by omega))
  rw [laws_eqMailS.f, if_pos rfl]; rfl

theorem szBox_ev (v : Int) (u n : ByteArray) (w : Int) (xs : List S139) (hu : u.size ≤ 9223372036854775807) (hn : n.size ≤ 9223372036854775807) (hx : xs.length ≤ 9223372036854775807) (hs : ∀ x ∈ xs, x.f2.size ≤ 9223372036854775807) (a : Nat) (ha : a ≤ 1048576) :
    (u.size + n.size + xs.length + sumM xs ≤ a ∧ Ev (fun k => laws_szBox.f k v u n w xs a) ((a - (u.size + n.size + xs.length + sumM xs) : Nat) : Int)) ∨ Ev (fun k => laws_szBox.f k v u n w xs a) (-1) := by
  unfold laws_szBox.f
  by_cases h1 : u.size ≤ a
  · have e1 : wrap64 ((a : Int) - (u.size : Int)) = ((a - u.size : Nat) : Int) := by unfold wrap64; omega
    have q1 : ¬ (((a - u.size : Nat) : Int) < 0) := by omega
    simp only [e1, if_neg q1]
    by_cases h2 : n.size ≤ a - u.size
    · have e2 : wrap64 (((a - u.size : Nat) : Int) - (n.size : Int)) = ((a - u.size - n.size : Nat) : Int) := by unfold wrap64; omega
      have q2 : ¬ (((a - u.size - n.size : Nat) : Int) < 0) := by omega
      simp only [e2, if_neg q2]
      rcases szMailS_ev xs hx hs (a - u.size - n.size) (by omega) with ⟨h3, e3⟩ | e3
      · left
        refine ⟨by omega, Ev.bind e3 ?_⟩
        have q3 : ¬ (((a - u.size - n.size - (xs.length + sumM xs) : Nat) : Int) < 0) := by omega
        simp only [if_neg q3]
        rw [show a - (u.size + n.size + xs.length + sumM xs) = a - u.size - n.size - (xs.length + sumM xs) by omega]
        exact Ev.now _
      · right
        refine Ev.bind e3 ?_
        simp only [if_pos (show (-1 : Int) < 0 by decide)]
        exact Ev.now _
    · right
      have q : wrap64 (((a - u.size : Nat) : Int) - (n.size : Int)) < 0 := by unfold wrap64; omega
      simp only [if_pos q]
      exact Ev.now _
  · right
    have q : wrap64 ((a : Int) - (u.size : Int)) < 0 := by unfold wrap64; omega
    simp only [if_pos q]
    exact Ev.now _
theorem toBox_ev (v : Int) (u n : ByteArray) (w : Int) (xs : List S139) (hx : xs.length ≤ 1048576) : Ev (fun k => laws_toBox.f k v u n w xs) (v, u, n, w, xs.map mailOf) := by
  unfold laws_toBox.f
  exact Ev.bind (toMailS_ev xs hx) (Ev.now _)
theorem eqBox_ev (v : Int) (u n : ByteArray) (w : Int) (xs : List S112) (hx : xs.length ≤ 1048576) : Ev (fun k => laws_eqBox.f k v u n w xs v u n w xs) true := by
  unfold laws_eqBox.f
  simp only [if_true]
  refine Ev.bind (eqMailS_ev xs (by omega)) ?_
  simp only [if_true]
  exact Ev.now _

/-- Boxes with their texts' and mails' lengths. -/
def sumB : List S107 → Nat
  | [] => 0
  | x :: l => x.f1.size + x.f2.size + x.f4.length + sumM x.f4 + sumB l
def fitB (x : S107) : Prop := x.f1.size ≤ 9223372036854775807 ∧ x.f2.size ≤ 9223372036854775807 ∧ x.f4.length ≤ 9223372036854775807 ∧ ∀ m ∈ x.f4, m.f2.size ≤ 9223372036854775807
def boxOf (x : S107) : S39 := ⟨x.f0, x.f1, x.f2, x.f3, x.f4.map mailOf⟩
theorem rdB_drop1 {xs : List S107} {i : Nat} {x : S107} {l : List S107} (h : xs.drop i = x :: l) : rd_T107 xs (i : Int) = x := drop_getD _ h
theorem rdB_drop2 {xs : List S39} {i : Nat} {x : S39} {l : List S39} (h : xs.drop i = x :: l) : rd_T39 xs (i : Int) = x := drop_getD _ h
theorem sumB_mem {x : S107} : ∀ {xs : List S107}, x ∈ xs → x.f1.size + x.f2.size + x.f4.length + sumM x.f4 ≤ sumB xs
  | y :: l, h => by
    rcases List.mem_cons.1 h with rfl | h
    · simp only [sumB]; omega
    · have := sumB_mem h
      simp only [sumB]; omega
theorem szBoxS_l0 (xs : List S107) (hx : xs.length ≤ 9223372036854775807) (hs : ∀ x ∈ xs, fitB x) :
    ∀ (l : List S107) (i : Nat) (a : Nat), xs.drop i = l → i ≤ xs.length → a ≤ 1048576 →
      (sumB l ≤ a ∧ Ev (fun k => laws_szBoxS.l0 k xs a i) ((a - sumB l : Nat) : Int)) ∨ Ev (fun k => laws_szBoxS.l0 k xs a i) (-1)
  | [], i, a, h, hi, ha => by
    left
    have e := drop_end h hi
    exact ⟨Nat.zero_le _, Ev.step (fun k => by rw [laws_szBoxS.l0, if_neg (by omega)]; rfl) (Ev.now _)⟩
  | x :: l, i, a, h, hi, ha => by
    have hlt := drop_lt h
    obtain ⟨z1, z2, z3, z4⟩ := hs x (List.mem_of_mem_drop (i := i) (by rw [h]; exact List.mem_cons_self))
    have e := rdB_drop1 h
    have hst : ∀ k, laws_szBoxS.l0 (k + 1) xs a i = (laws_szBox.f k x.f0 x.f1 x.f2 x.f3 x.f4 a).bind fun t => if t < 0 then some (-1) else laws_szBoxS.l0 k xs t ((i + 1 : Nat) : Int) := fun k => by
      rw [laws_szBoxS.l0, if_pos (by omega), if_pos (by omega), e, wrap_succ i (by omega)]
    rcases szBox_ev x.f0 x.f1 x.f2 x.f3 x.f4 z1 z2 z3 z4 a ha with ⟨h1, h2⟩ | h2
    · have q : ¬ (((a - (x.f1.size + x.f2.size + x.f4.length + sumM x.f4) : Nat) : Int) < 0) := by omega
      rcases szBoxS_l0 xs hx hs l (i + 1) (a - (x.f1.size + x.f2.size + x.f4.length + sumM x.f4)) (drop_tail h) (by omega) (by omega) with ⟨h3, h4⟩ | h4
      · left
        refine ⟨by simp only [sumB]; omega, Ev.step hst (Ev.bind h2 ?_)⟩
        simp only [if_neg q]
        have e3 : a - sumB (x :: l) = a - (x.f1.size + x.f2.size + x.f4.length + sumM x.f4) - sumB l := by simp only [sumB]; omega
        rw [e3]; exact h4
      · right
        refine Ev.step hst (Ev.bind h2 ?_)
        simp only [if_neg q]
        exact h4
    · right
      refine Ev.step hst (Ev.bind h2 ?_)
      simp only [if_pos (show (-1 : Int) < 0 by decide)]
      exact Ev.now _
theorem szState_ev (xs : List S107) (hx : xs.length ≤ 9223372036854775807) (hs : ∀ x ∈ xs, fitB x) (a : Nat) (ha : a ≤ 1048576) :
    (xs.length + sumB xs ≤ a ∧ Ev (fun k => laws_szState.f k xs a) ((a - (xs.length + sumB xs) : Nat) : Int)) ∨ Ev (fun k => laws_szState.f k xs a) (-1) := by
  have hB : (xs.length + sumB xs ≤ a ∧ Ev (fun k => laws_szBoxS.f k xs a) ((a - (xs.length + sumB xs) : Nat) : Int)) ∨ Ev (fun k => laws_szBoxS.f k xs a) (-1) := by
    by_cases hb : xs.length ≤ a
    · have ew : wrap64 ((a : Int) - (xs.length : Int)) = ((a - xs.length : Nat) : Int) := by unfold wrap64; omega
      have hf : ∀ k, laws_szBoxS.f k xs a = laws_szBoxS.l0 k xs ((a - xs.length : Nat) : Int) ((0 : Nat) : Int) := fun k => by
        rw [laws_szBoxS.f, ew, if_neg (by omega)]; rfl
      rcases szBoxS_l0 xs hx hs xs 0 (a - xs.length) rfl (by omega) (by omega) with ⟨h1, h2⟩ | h2
      · left
        refine ⟨by omega, Ev.congr hf ?_⟩
        rw [show a - (xs.length + sumB xs) = a - xs.length - sumB xs by omega]; exact h2
      · right; exact Ev.congr hf h2
    · right
      refine Ev.congr (fun k => ?_) (Ev.now _)
      rw [laws_szBoxS.f, if_pos (by unfold wrap64; omega)]
  unfold laws_szState.f
  rcases hB with ⟨h1, h2⟩ | h2
  · left
    have q : ¬ (((a - (xs.length + sumB xs) : Nat) : Int) < 0) := by omega
    refine ⟨h1, Ev.bind h2 ?_⟩
    simp only [if_neg q]
    exact Ev.now _
  · right
    refine Ev.bind h2 ?_
    simp only [if_pos (show (-1 : Int) < 0 by decide)]
    exact Ev.now _
theorem toBoxS_l0 (xs : List S107) (hx : xs.length ≤ 1048576) (hs : ∀ x ∈ xs, x.f4.length ≤ 1048576) :
    ∀ (l : List S107) (i : Nat), xs.drop i = l → i ≤ xs.length →
      Ev (fun k => laws_toBoxS.l0 k xs ((xs.take i).map boxOf ++ List.replicate (xs.length - i) z39) i) (xs.map boxOf)
  | [], i, h, hi => by
    have e := drop_end h hi
    subst e
    refine Ev.step (fun k => by rw [laws_toBoxS.l0, if_neg (by omega)]) ?_
    rw [fill_end]; exact Ev.now _
  | x :: l, i, h, hi => by
    have hlt := drop_lt h
    have hz := hs x (List.mem_of_mem_drop (i := i) (by rw [h]; exact List.mem_cons_self))
    have hlen := fill_len xs boxOf z39 hi
    have hset := fill_set xs boxOf z39 h
    generalize (xs.take i).map boxOf ++ List.replicate (xs.length - i) z39 = Y at hlen hset
    refine Ev.step (f := fun k => (laws_toBox.f k x.f0 x.f1 x.f2 x.f3 x.f4).bind fun bt => if (i : Int) < (Y.length : Int) then laws_toBoxS.l0 k xs (Y.set (i : Int).toNat (⟨bt.1, bt.2.1, bt.2.2.1, bt.2.2.2.1, bt.2.2.2.2⟩ : S39)) ((i + 1 : Nat) : Int) else none) (fun k => by
      rw [laws_toBoxS.l0, if_pos (by omega), if_pos (by omega), rdB_drop1 h, wrap_succ i (by omega)]) ?_
    refine Ev.bind (toBox_ev x.f0 x.f1 x.f2 x.f3 x.f4 hz) ?_
    simp only [if_pos (show (i : Int) < (Y.length : Int) by omega), Int.toNat_natCast]
    rw [show (⟨x.f0, x.f1, x.f2, x.f3, x.f4.map mailOf⟩ : S39) = boxOf x from rfl, hset]
    exact toBoxS_l0 xs hx hs l (i + 1) (drop_tail h) (by omega)
theorem toState_ev (xs : List S107) (hx : xs.length ≤ 1048576) (hs : ∀ x ∈ xs, x.f4.length ≤ 1048576) : Ev (fun k => laws_toState.f k xs) (xs.map boxOf) := by
  unfold laws_toState.f
  refine Ev.bind (a := xs.map boxOf) ?_ (Ev.now _)
  refine Ev.congr (fun k => ?_) (toBoxS_l0 xs hx hs xs 0 rfl (by omega))
  rw [laws_toBoxS.f, if_pos (by omega), Int.toNat_natCast, if_pos (by omega)]
  simp
theorem eqBoxS_l0 (xs : List S39) (hx : xs.length ≤ 1048576) (hs : ∀ x ∈ xs, x.f4.length ≤ 1048576) :
    ∀ (l : List S39) (i : Nat), xs.drop i = l → i ≤ xs.length → Ev (fun k => laws_eqBoxS.l0 k xs xs i) true
  | [], i, h, hi => by
    have e := drop_end h hi
    exact Ev.step (fun k => by rw [laws_eqBoxS.l0, if_neg (by omega)]) (Ev.now true)
  | x :: l, i, h, hi => by
    have hlt := drop_lt h
    have hz := hs x (List.mem_of_mem_drop (i := i) (by rw [h]; exact List.mem_cons_self))
    refine Ev.step (f := fun k => (laws_eqBox.f k x.f0 x.f1 x.f2 x.f3 x.f4 x.f0 x.f1 x.f2 x.f3 x.f4).bind fun t => if t = true then laws_eqBoxS.l0 k xs xs ((i + 1 : Nat) : Int) else some false) (fun k => by
      rw [laws_eqBoxS.l0, if_pos (by omega), if_pos (by omega), if_pos (by omega), rdB_drop2 h, wrap_succ i (by omega)]) ?_
    refine Ev.bind (eqBox_ev x.f0 x.f1 x.f2 x.f3 x.f4 hz) ?_
    simp only [if_true]
    exact eqBoxS_l0 xs hx hs l (i + 1) (drop_tail h) (by omega)
theorem eqState_ev (xs : List S39) (hx : xs.length ≤ 1048576) (hs : ∀ x ∈ xs, x.f4.length ≤ 1048576) : Ev (fun k => laws_eqState.f k xs xs) true := by
  unfold laws_eqState.f
  refine Ev.bind (a := true) ?_ ?_
  · refine Ev.congr (fun k => ?_) (eqBoxS_l0 xs hx hs xs 0 rfl (by omega))
    rw [laws_eqBoxS.f, if_pos rfl]; rfl
  · simp only [if_true]
    exact Ev.now _
theorem boxOf_len {xs : List S107} (hs : ∀ x ∈ xs, x.f4.length ≤ 1048576) : ∀ x ∈ xs.map boxOf, x.f4.length ≤ 1048576 := by
  intro x hx
  obtain ⟨y, hy, rfl⟩ := List.mem_map.1 hx
  show (y.f4.map mailOf).length ≤ _
  rw [List.length_map]
  exact hs y hy

theorem strOfNums_one (x : Int) : (strOfNums [x]).size = 1 := rfl
theorem markText_l0 : ∀ (m n : Nat), n ≤ m → n ≤ 1099511627776 → ∀ t : ByteArray, t.size + n ≤ 2199023255552 → ∃ r, Ev (fun k => laws_markText.l0 k n t) r
  | m, 0, _, _, t, ht => ⟨_, Ev.step (fun k => by rw [laws_markText.l0, if_neg (by omega), if_pos (by omega)]) (Ev.now _)⟩
  | 0, n + 1, h, _, _, _ => absurd h (by omega)
  | m + 1, n + 1, h, hn, t, ht => by
    have e1 : Int.tdiv ((n + 1 : Nat) : Int) 10 = (((n + 1) / 10 : Nat) : Int) := rfl
    have e2 : wrap64 (Int.tdiv ((n + 1 : Nat) : Int) 10) = (((n + 1) / 10 : Nat) : Int) := by rw [e1]; exact wrap_nat _ _ rfl (by omega)
    have hs : ((strOfNums [wrap64 (48 + (Int.tmod ((n + 1 : Nat) : Int) 10)) % 256]) ++ t).size = 1 + t.size := by rw [ByteArray.size_append, strOfNums_one]
    obtain ⟨r, hr⟩ := markText_l0 m ((n + 1) / 10) (by omega) (by omega) ((strOfNums [wrap64 (48 + (Int.tmod ((n + 1 : Nat) : Int) 10)) % 256]) ++ t) (by rw [hs]; omega)
    refine ⟨r, Ev.step (fun k => ?_) hr⟩
    rw [laws_markText.l0, if_pos (by omega), Option.bind_some, strOfNums_one, if_pos (by omega), e2]
theorem markText_some (n : Nat) (h : n ≤ 1099511627776) : ∃ r, Ev (fun k => laws_markText.f k n) r := by
  unfold laws_markText.f
  by_cases c : (n : Int) ≤ 0
  · simp only [if_pos c]; exact ⟨_, Ev.now _⟩
  · simp only [if_neg c]
    exact markText_l0 n n (Nat.le_refl _) h _ (by show 0 + n ≤ _; omega)
open Classical in
noncomputable def mt (n : Nat) : ByteArray := if h : ∃ r, Ev (fun k => laws_markText.f k n) r then Classical.choose h else ByteArray.empty
theorem markText_ev (n : Nat) (h : n ≤ 1099511627776) : Ev (fun k => laws_markText.f k n) (mt n) := by
  unfold mt
  rw [dif_pos (markText_some n h)]
  exact Classical.choose_spec (markText_some n h)
theorem take_set_snoc {α : Type} (v : α) : ∀ (xs : List α) (i : Nat), i < xs.length → (xs.set i v).take (i + 1) = xs.take i ++ [v]
  | [], i, h => absurd h (by simp)
  | x :: l, 0, _ => rfl
  | x :: l, i + 1, h => by
    have := take_set_snoc v l i (by simpa using h)
    simp only [List.set_cons_succ, List.take_succ_cons, this, List.cons_append]

noncomputable def marksM : Nat → Nat → List S112
  | _, 0 => []
  | c, n + 1 => ⟨(c : Int), ((c + 1 : Nat) : Int), mt (c + 2)⟩ :: marksM (c + 3) n
theorem marksM_length : ∀ n c, (marksM c n).length = n
  | 0, _ => rfl
  | n + 1, c => by rw [marksM, List.length_cons, marksM_length n]
theorem rdM_set (xs : List S112) (i : Nat) (v : S112) (h : i < xs.length) : rd_T112 (xs.set i v) (i : Int) = v := by
  unfold rd_T112
  rw [Int.toNat_natCast, List.getD_eq_getElem?_getD, List.getElem?_set_self h]
  rfl
theorem rdM_drop {xs : List S112} {i : Nat} {x : S112} {l : List S112} (h : xs.drop i = x :: l) : rd_T112 xs (i : Int) = x := drop_getD _ h
theorem markMailS_l0 : ∀ (n i c : Nat) (xs : List S112), i + n = xs.length → c + 3 * n ≤ 1099511627776 → i + n ≤ 1099511627776 →
    Ev (fun k => laws_markMailS.l0 k xs c i) (((c + 3 * n : Nat) : Int), xs.take i ++ marksM c n)
  | 0, i, c, xs, h, hc, hi => by
    rw [show xs.take i = xs from List.take_of_length_le (by omega)]
    exact Ev.step (fun k => by rw [laws_markMailS.l0, if_neg (by omega)]; simp [marksM]) (Ev.now _)
  | n + 1, i, c, xs, h, hc, hi => by
    have hlt : i < xs.length := by omega
    have ih := markMailS_l0 n (i + 1) (c + 3) (xs.set i ⟨(c : Int), ((c + 1 : Nat) : Int), mt (c + 2)⟩) (by rw [List.length_set]; omega) (by omega) (by omega)
    rw [take_set_snoc _ xs i hlt, List.append_assoc, show c + 3 + 3 * n = c + 3 * (n + 1) by omega] at ih
    refine Ev.step (f := fun k => (laws_markText.f k ((c + 2 : Nat) : Int)).bind fun t => laws_markMailS.l0 k (xs.set i ⟨(c : Int), ((c + 1 : Nat) : Int), t⟩) ((c + 3 : Nat) : Int) ((i + 1 : Nat) : Int)) (fun k => ?_) (Ev.bind (markText_ev (c + 2) (by omega)) ih)
    rw [laws_markMailS.l0, if_pos (by omega), if_pos (by omega), Option.bind_some, Option.bind_some, wrap_succ c (by omega), wrap_succ (c + 1) (by omega), wrap_succ (c + 1 + 1) (by omega), wrap_succ i (by omega), Int.toNat_natCast]
    simp only [List.set_set, rdM_set xs i _ hlt]
theorem markMailS_ev (xs : List S112) (c : Nat) (h : xs.length ≤ 1099511627776) (hc : c + 3 * xs.length ≤ 1099511627776) : Ev (fun k => laws_markMailS.f k xs c) (((c + 3 * xs.length : Nat) : Int), marksM c xs.length) :=
  Ev.congr (fun k => rfl) (markMailS_l0 xs.length 0 c xs (by omega) hc (by omega))

theorem heldMailS_l0 (xs : List S112) : ∀ (n i c : Nat), xs.drop i = marksM c n → i + n = xs.length → c + 3 * n ≤ 1099511627776 → i + n ≤ 1099511627776 →
    Ev (fun k => laws_heldMailS.l0 k xs c i) ((c + 3 * n : Nat) : Int)
  | 0, i, c, hd, h, hc, hi => Ev.step (fun k => by rw [laws_heldMailS.l0, if_neg (by omega)]; rfl) (Ev.now _)
  | n + 1, i, c, hd, h, hc, hi => by
    have ih := heldMailS_l0 xs n (i + 1) (c + 3) (drop_tail hd) (by omega) (by omega) (by omega)
    rw [show c + 3 + 3 * n = c + 3 * (n + 1) by omega] at ih
    refine Ev.step (f := fun k => (laws_markText.f k ((c + 2 : Nat) : Int)).bind fun t => if (mt (c + 2)).toList = t.toList then laws_heldMailS.l0 k xs ((c + 3 : Nat) : Int) ((i + 1 : Nat) : Int) else some (-1)) (fun k => ?_) ?_
    · rw [laws_heldMailS.l0, if_pos (by omega), if_pos (by omega), rdM_drop hd, if_pos rfl, wrap_succ c (by omega), if_pos rfl, wrap_succ (c + 1) (by omega), wrap_succ (c + 1 + 1) (by omega), wrap_succ i (by omega)]
    · refine Ev.bind (markText_ev (c + 2) (by omega)) ?_
      simp only [if_true]
      exact ih
theorem heldMailS_ev (n c : Nat) (h : n ≤ 1099511627776) (hc : c + 3 * n ≤ 1099511627776) : Ev (fun k => laws_heldMailS.f k (marksM c n) c) ((c + 3 * n : Nat) : Int) :=
  Ev.congr (fun k => rfl) (heldMailS_l0 (marksM c n) n 0 c rfl (by rw [marksM_length]; omega) hc (by omega))

def totB : List S39 → Nat
  | [] => 0
  | x :: l => 4 + 3 * x.f4.length + totB l
theorem totB_le : ∀ xs : List S107, totB (xs.map boxOf) ≤ 4 * xs.length + 3 * sumB xs
  | [] => Nat.le_refl _
  | x :: l => by
    have := totB_le l
    have e : (boxOf x).f4.length = x.f4.length := List.length_map ..
    simp only [List.map_cons, totB, sumB, List.length_cons]
    omega
theorem rdB_set (xs : List S39) (i : Nat) (v : S39) (h : i < xs.length) : rd_T39 (xs.set i v) (i : Int) = v := by
  unfold rd_T39
  rw [Int.toNat_natCast, List.getD_eq_getElem?_getD, List.getElem?_set_self h]
  rfl
theorem markBoxS_l0 : ∀ (l : List S39) (i c : Nat) (xs : List S39), xs.drop i = l → c + totB l ≤ 1099511627776 → xs.length ≤ 1099511627776 → i ≤ xs.length →
    ∃ ys, Ev (fun k => laws_markBoxS.l0 k xs c i) (((c + totB l : Nat) : Int), ys)
  | [], i, c, xs, hd, hc, hx, hi => by
    have e := drop_end hd hi
    exact ⟨xs, Ev.step (fun k => by rw [laws_markBoxS.l0, if_neg (by omega)]; rfl) (Ev.now _)⟩
  | x :: l, i, c, xs, hd, hc, hx, hi => by
    have hlt := drop_lt hd
    simp only [totB] at hc
    have hm := markMailS_ev x.f4 (c + 1 + 1 + 1 + 1) (by omega) (by omega)
    obtain ⟨ys, ih⟩ := markBoxS_l0 l (i + 1) (c + 1 + 1 + 1 + 1 + 3 * x.f4.length) (xs.set i ⟨(c : Int), mt (c + 1), mt (c + 1 + 1), ((c + 1 + 1 + 1 : Nat) : Int), marksM (c + 1 + 1 + 1 + 1) x.f4.length⟩) (by rw [List.drop_set_of_lt (by omega)]; exact drop_tail hd) (by omega) (by rw [List.length_set]; exact hx) (by rw [List.length_set]; omega)
    rw [show c + 1 + 1 + 1 + 1 + 3 * x.f4.length + totB l = c + totB (x :: l) by simp only [totB]; omega] at ih
    refine ⟨ys, Ev.step (f := fun k => (laws_markText.f k ((c + 1 : Nat) : Int)).bind fun t1 => (laws_markText.f k ((c + 1 + 1 : Nat) : Int)).bind fun t2 => (laws_markMailS.f k x.f4 ((c + 1 + 1 + 1 + 1 : Nat) : Int)).bind fun b => laws_markBoxS.l0 k (xs.set i ⟨(c : Int), t1, t2, ((c + 1 + 1 + 1 : Nat) : Int), b.2⟩) b.1 ((i + 1 : Nat) : Int)) (fun k => ?_) (Ev.bind (markText_ev (c + 1) (by omega)) (Ev.bind (markText_ev (c + 1 + 1) (by omega)) (Ev.bind hm ih)))⟩
    rw [laws_markBoxS.l0, if_pos (by omega), if_pos (by omega)]
    simp only [Option.bind_some, wrap_succ c (by omega), wrap_succ (c + 1) (by omega), wrap_succ (c + 1 + 1) (by omega), wrap_succ (c + 1 + 1 + 1) (by omega), wrap_succ i (by omega), Int.toNat_natCast, rdB_drop2 hd, List.set_set, fun v => rdB_set xs i v hlt]
theorem markState_ev (xs : List S39) (h : 1 + totB xs ≤ 1099511627776) (hx : xs.length ≤ 1099511627776) : ∃ ys, Ev (fun k => laws_markState.f k xs 1) (((1 + totB xs : Nat) : Int), ys) := by
  obtain ⟨ys, e⟩ := markBoxS_l0 xs 0 1 xs rfl h hx (Nat.zero_le _)
  refine ⟨ys, ?_⟩
  unfold laws_markState.f
  exact Ev.bind (Ev.congr (fun k => rfl) e) (Ev.now _)

def boxAt (u n : ByteArray) : List S39 → Int × ByteArray × ByteArray × Int × (List S112) × Bool
  | [] => (0, (⟨#[]⟩ : ByteArray), (⟨#[]⟩ : ByteArray), 0, [], false)
  | x :: l => if x.f1.toList = u.toList then (if x.f2.toList = n.toList then (x.f0, x.f1, x.f2, x.f3, x.f4, true) else boxAt u n l) else boxAt u n l
theorem boxAt_len (u n : ByteArray) : ∀ l : List S39, (∀ x ∈ l, x.f4.length ≤ 1048576) → (boxAt u n l).2.2.2.2.1.length ≤ 1048576
  | [], _ => Nat.zero_le _
  | x :: l, h => by
    have := boxAt_len u n l (fun y hy => h y (List.mem_cons_of_mem _ hy))
    rw [boxAt]
    split
    · split
      · exact h x List.mem_cons_self
      · exact this
    · exact this
theorem spec_l0 (u n : ByteArray) (xs : List S39) (hx : xs.length ≤ 1048576) (hs : ∀ x ∈ xs, x.f4.length ≤ 1048576) :
    ∀ (l : List S39) (i : Nat), xs.drop i = l → i ≤ xs.length → Ev (fun k => spec_BoxOf.l0 k u n i xs) (boxAt u n l)
  | [], i, h, hi => by
    have e := drop_end h hi
    exact Ev.step (fun k => by rw [spec_BoxOf.l0, if_neg (by omega)]; rfl) (Ev.now _)
  | x :: l, i, h, hi => by
    have hlt := drop_lt h
    have hz := hs x (List.mem_of_mem_drop (i := i) (by rw [h]; exact List.mem_cons_self))
    have ih := spec_l0 u n xs hx hs l (i + 1) (drop_tail h) (by omega)
    rw [boxAt]
    by_cases c : x.f1.toList = u.toList
    · rw [if_pos c]
      by_cases d : x.f2.toList = n.toList
      · rw [if_pos d]
        refine Ev.step (f := fun _ => some (x.f0, x.f1, x.f2, x.f3, x.f4, true)) (fun k => ?_) (Ev.now _)
        rw [spec_BoxOf.l0, if_pos (by omega), if_pos (by omega), rdB_drop2 h, if_pos c, if_pos d]
        simp only [spec_l07Box.f, Option.bind_some, List.length_nil, List.nil_append, if_pos (show 0 + x.f4.length < 4398046511104 by omega)]
      · rw [if_neg d]
        exact Ev.step (fun k => by rw [spec_BoxOf.l0, if_pos (by omega), if_pos (by omega), rdB_drop2 h, if_pos c, if_neg d, wrap_succ i (by omega)]) ih
    · rw [if_neg c]
      exact Ev.step (fun k => by rw [spec_BoxOf.l0, if_pos (by omega), if_pos (by omega), rdB_drop2 h, if_neg c, wrap_succ i (by omega)]) ih
theorem impl_l0 (u n : ByteArray) (xs : List S39) (hx : xs.length ≤ 1048576) (hs : ∀ x ∈ xs, x.f4.length ≤ 1048576) :
    ∀ (l : List S39) (i : Nat), xs.drop i = l → i ≤ xs.length → Ev (fun k => impl_BoxOf.l0 k u n xs (xs.length : Int) i) (boxAt u n l)
  | [], i, h, hi => by
    have e := drop_end h hi
    exact Ev.step (fun k => by rw [impl_BoxOf.l0, if_neg (by omega)]; rfl) (Ev.now _)
  | x :: l, i, h, hi => by
    have hlt := drop_lt h
    have hz := hs x (List.mem_of_mem_drop (i := i) (by rw [h]; exact List.mem_cons_self))
    have ih := impl_l0 u n xs hx hs l (i + 1) (drop_tail h) (by omega)
    rw [boxAt]
    by_cases c : x.f1.toList = u.toList
    · rw [if_pos c]
      by_cases d : x.f2.toList = n.toList
      · rw [if_pos d]
        refine Ev.step (f := fun _ => some (x.f0, x.f1, x.f2, x.f3, x.f4, true)) (fun k => ?_) (Ev.now _)
        rw [impl_BoxOf.l0, if_pos (by omega), if_pos (by omega), if_pos (by omega), rdB_drop2 h, if_pos c, if_pos d]
        simp only [impl_cloneBox.f, impl_Mail.f, Option.bind_some, List.length_nil, List.nil_append, if_pos (show 0 + x.f4.length < 4398046511104 by omega)]
      · rw [if_neg d]
        exact Ev.step (fun k => by rw [impl_BoxOf.l0, if_pos (by omega), if_pos (by omega), if_pos (by omega), rdB_drop2 h, if_pos c, if_neg d, wrap_succ i (by omega)]) ih
    · rw [if_neg c]
      exact Ev.step (fun k => by rw [impl_BoxOf.l0, if_pos (by omega), if_pos (by omega), if_pos (by omega), rdB_drop2 h, if_neg c, wrap_succ i (by omega)]) ih
theorem FnExactBoxOf : laws_FnExactBoxOf.Pure := by
  rintro ⟨xs⟩ a b ⟨gx, gb⟩ ga gc
  refine Ev.rounds (g := fun k => laws_FnExactBoxOf.f k xs a b) ?_
  unfold laws_FnExactBoxOf.f
  by_cases ha : (a.size : Int) > 1048576
  · simp only [if_pos ha]; exact Ev.now _
  simp only [if_neg ha]
  by_cases hb0 : (b.size : Int) > 1048576
  · simp only [if_pos hb0]; exact Ev.now _
  simp only [if_neg hb0]
  rcases szState_ev xs gx (fun x hx => ⟨(gb x hx).2.1, (gb x hx).2.2.1, (gb x hx).2.2.2.2.1, fun m hm => ((gb x hx).2.2.2.2.2 m hm).2.2⟩) 1048576 (Nat.le_refl _) with ⟨hs, hz⟩ | hz
  case inr => refine Ev.bind hz ?_; simp only [if_pos (show (-1 : Int) < 0 by decide)]; exact Ev.now _
  have nn : ∀ n : Nat, ¬ ((n : Int) < 0) := fun n => by omega
  refine Ev.bind hz ?_
  simp only [if_neg (nn _)]
  have hxl : xs.length ≤ 1048576 := by omega
  have hm4 : ∀ x ∈ xs, x.f4.length ≤ 1048576 := fun x hx => by have := sumB_mem hx; omega
  have ht := toState_ev xs hxl hm4
  have hlen : (xs.map boxOf).length ≤ 1048576 := by rw [List.length_map]; exact hxl
  have hml := boxOf_len hm4
  have hE := eqState_ev (xs.map boxOf) hlen hml
  have hb := totB_le xs
  obtain ⟨zs, hM⟩ := markState_ev (xs.map boxOf) (by omega) (by omega)
  generalize xs.map boxOf = ys at ht hlen hml hE hM
  have hS : Ev (fun k => spec_BoxOf.f k ys a b) (boxAt a b ys) := Ev.congr (fun k => rfl) (spec_l0 a b ys hlen hml ys 0 rfl (Nat.zero_le _))
  have hI : Ev (fun k => impl_BoxOf.f k ys a b) (boxAt a b ys) := Ev.congr (fun k => rfl) (impl_l0 a b ys hlen hml ys 0 rfl (Nat.zero_le _))
  have hl := boxAt_len a b ys hml
  generalize boxAt a b ys = g at hS hI hl
  obtain ⟨v, u, n, w, m, o⟩ := g
  have hQ := eqBox_ev v u n w m hl
  have hl2 : m.length ≤ 1048576 := hl
  have hK : Ev (fun k => laws_markBox.f k v u n w m 1) (((1 + 3 * m.length : Nat) : Int), marksM 1 m.length) := by
    unfold laws_markBox.f
    exact Ev.bind (markMailS_ev m 1 (by omega) (by omega)) (Ev.now _)
  have hH : Ev (fun k => laws_heldBox.f k v u n w (marksM 1 m.length) 1) ((1 + 3 * m.length : Nat) : Int) := by
    unfold laws_heldBox.f
    refine Ev.bind (heldMailS_ev m.length 1 (by omega) (by omega)) ?_
    simp only [if_neg (nn _)]
    exact Ev.now _
  refine Ev.bind ht (Ev.bind hS (Ev.bind ht (Ev.bind hI (Ev.bind hQ ?_))))
  simp only [if_true, bne_self_eq_false, Bool.false_eq_true, if_false]
  refine Ev.bind ht (Ev.bind hE ?_)
  simp only [if_true]
  refine Ev.bind hM ?_
  simp only [if_neg (nn _)]
  refine Ev.bind hQ ?_
  simp only [if_true]
  refine Ev.bind hK (Ev.bind hH ?_)
  simp only [if_neg (nn _), if_true]
  refine Ev.bind ht (Ev.bind hI (Ev.bind hQ ?_))
  simp only [if_true, bne_self_eq_false, Bool.false_eq_true, if_false]
  refine Ev.bind hH ?_
  simp only [if_neg (nn _), if_true]
  exact Ev.now _

end Go.Proofs.Ytgfhgibienfceaa.Pure
