/- The program's Fitting answers what the reference's answers and changes nothing. Conditions: none beyond the statement's own. -/
import Derived.Test.YthfcpngomdhbpaaQFnExactFittingPure0
import Derived.Test.YthfcpngomdhbpaaBase
namespace Go.Proofs.Ythfcpngomdhbpaa.Pure
open Go.RowKit Go.Proofs.Ythfcpngomdhbpaa.QFnExactFitting Go.Proofs.YthfcpngomdhbpaaW.PrintWords Go.Proofs.YthfcpngomdhbpaaW.PrintLast Go.Proofs.YthfcpngomdhbpaaB Go.Proofs.YthfcpngomdhbpaaO
set_option linter.unusedVariables false
set_option linter.unusedSimpArgs false

/-- Mails with their texts' lengths. -/
def sumM : List S71 → Nat
  | [] => 0
  | x :: l => x.f2.size + sumM l
def mailOf (x : S71) : S59 := ⟨x.f0, x.f1, x.f2⟩
theorem rdT_drop1 {xs : List S71} {i : Nat} {x : S71} {l : List S71} (h : xs.drop i = x :: l) : rd_T71 xs (i : Int) = x := drop_getD _ h
theorem rdT_drop2 {xs : List S59} {i : Nat} {x : S59} {l : List S59} (h : xs.drop i = x :: l) : rd_T59 xs (i : Int) = x := drop_getD _ h

theorem szMailS_l0 (xs : List S71) (hx : xs.length ≤ 9223372036854775807) (hs : ∀ x ∈ xs, x.f2.size ≤ 9223372036854775807) :
    ∀ (l : List S71) (i : Nat) (a : Nat), xs.drop i = l → i ≤ xs.length → a ≤ 1048576 →
      (sumM l ≤ a ∧ Ev (fun k => laws_szMailS.l0 k xs a i) ((a - sumM l : Nat) : Int)) ∨ Ev (fun k => laws_szMailS.l0 k xs a i) (-1)
  | [], i, a, h, hi, ha => by
    left
    have e := drop_end h hi
    exact ⟨Nat.zero_le _, Ev.step (fun k => by rw [laws_szMailS.l0, if_neg (by omega)]; rfl) (Ev.now _)⟩
  | x :: l, i, a, h, hi, ha => by
    have hlt := drop_lt h
    have hz : x.f2.size ≤ 9223372036854775807 := hs x (List.mem_of_mem_drop (i := i) (by rw [h]; exact List.mem_cons_self))
    have e := rdT_drop1 h
    by_cases hb : x.f2.size ≤ a
    · have ew : wrap64 ((a : Int) - (x.f2.size : Int)) = ((a - x.f2.size : Nat) : Int) := by unfold wrap64; omega
      have hstep : ∀ k, laws_szMailS.l0 (k + 1) xs a i = laws_szMailS.l0 k xs ((a - x.f2.size : Nat) : Int) ((i + 1 : Nat) : Int) := fun k => by
        rw [laws_szMailS.l0, if_pos (by omega), if_pos (by omega), e, laws_szMail.f, ew, if_neg (by omega), Option.bind_some, if_neg (by omega), wrap_succ i (by omega)]
      rcases szMailS_l0 xs hx hs l (i + 1) (a - x.f2.size) (drop_tail h) (by omega) (by omega) with ⟨h1, h2⟩ | h2
      · left
        refine ⟨by simp only [sumM]; omega, Ev.step hstep ?_⟩
        have e3 : a - sumM (x :: l) = a - x.f2.size - sumM l := by simp only [sumM]; omega
        rw [e3]; exact h2
      · right; exact Ev.step hstep h2
    · right
      refine Ev.step (fun k => ?_) (Ev.now _)
      rw [laws_szMailS.l0, if_pos (by omega), if_pos (by omega), e, laws_szMail.f, if_pos (by unfold wrap64; omega), Option.bind_some, if_pos (by decide)]

theorem szMailS_ev (xs : List S71) (hx : xs.length ≤ 9223372036854775807) (hs : ∀ x ∈ xs, x.f2.size ≤ 9223372036854775807) (a : Nat) (ha : a ≤ 1048576) :
    (xs.length + sumM xs ≤ a ∧ Ev (fun k => laws_szMailS.f k xs a) ((a - (xs.length + sumM xs) : Nat) : Int)) ∨ Ev (fun k => laws_szMailS.f k xs a) (-1) := by
  by_cases hb : xs.length ≤ a
  · have ew : wrap64 ((a : Int) - (xs.length : Int)) = ((a - xs.length : Nat) : Int) := by unfold wrap64; omega
    have hf : ∀ k, laws_szMailS.f k xs a = laws_szMailS.l0 k xs ((a - xs.length : Nat) : Int) ((0 : Nat) : Int) := fun k => by
      rw [laws_szMailS.f, ew, if_neg (by omega)]; rfl
    rcases szMailS_l0 xs hx hs xs 0 (a - xs.length) rfl (by omega) (by omega) with ⟨h1, h2⟩ | h2
    · left
      refine ⟨by omega, Ev.congr hf ?_⟩
      rw [show a - (xs.length + sumM xs) = a - xs.length - sumM xs by omega]; exact h2
    · right; exact Ev.congr hf h2
  · right
    refine Ev.congr (fun k => ?_) (Ev.now _)
    rw [laws_szMailS.f, if_pos (by unfold wrap64; omega)]

theorem toMailS_l0 (xs : List S71) (hx : xs.length ≤ 1048576) :
    ∀ (l : List S71) (i : Nat), xs.drop i = l → i ≤ xs.length →
      Ev (fun k => laws_toMailS.l0 k xs ((xs.take i).map mailOf ++ List.replicate (xs.length - i) z59) i) (xs.map mailOf)
  | [], i, h, hi => by
    have e := drop_end h hi
    subst e
    refine Ev.step (fun k => by rw [laws_toMailS.l0, if_neg (by omega)]) ?_
    rw [fill_end]; exact Ev.now _
  | x :: l, i, h, hi => by
    have hlt := drop_lt h
    refine Ev.step (fun k => ?_) (toMailS_l0 xs hx l (i + 1) (drop_tail h) (by omega))
    rw [laws_toMailS.l0, if_pos (by omega), if_pos (by omega), rdT_drop1 h, laws_toMail.f, Option.bind_some, fill_len _ _ _ hi, if_pos (by omega), Int.toNat_natCast, wrap_succ i (by omega)]
    rw [← fill_set xs mailOf z59 h]
    rfl
theorem toMailS_ev (xs : List S71) (hx : xs.length ≤ 1048576) : Ev (fun k => laws_toMailS.f k xs) (xs.map mailOf) := by
  refine Ev.congr (fun k => ?_) (toMailS_l0 xs hx xs 0 rfl (by omega))
  rw [laws_toMailS.f, if_pos (by omega), Int.toNat_natCast, if_pos (by omega)]
  simp
theorem eqMail_self (a b : Int) (c : ByteArray) : laws_eqMail.f a b c a b c = some true := by
  unfold laws_eqMail.f
  simp only [if_true]
theorem eqMailS_l0 (xs : List S59) (hx : xs.length ≤ 9223372036854775807) :
    ∀ (l : List S59) (i : Nat), xs.drop i = l → i ≤ xs.length → Ev (fun k => laws_eqMailS.l0 k xs xs i) true
  | [], i, h, hi => by
    have e := drop_end h hi
    exact Ev.step (fun k => by rw [laws_eqMailS.l0, if_neg (by omega)]) (Ev.now true)
  | x :: l, i, h, hi => by
    have hlt := drop_lt h
    refine Ev.step (fun k => ?_) (eqMailS_l0 xs hx l (i + 1) (drop_tail h) (by omega))
    rw [laws_eqMailS.l0, if_pos (by omega), if_pos (by omega), if_pos (by omega), rdT_drop2 h, eqMail_self, Option.bind_some, if_pos rfl, wrap_succ i (by omega)]
theorem eqMailS_ev (xs : List S59) (hx : xs.length ≤ 9223372036854775807) : Ev (fun k => laws_eqMailS.f k xs xs) true := by
  refine Ev.congr (fun k => ?_) (eqMailS_l0 xs hx xs 0 rfl (by omega))
  rw [laws_eqMailS.f, if_pos rfl]; rfl

theorem szBox_ev (v : Int) (u n : ByteArray) (w : Int) (xs : List S71) (hu : u.size ≤ 9223372036854775807) (hn : n.size ≤ 9223372036854775807) (hx : xs.length ≤ 9223372036854775807) (hs : ∀ x ∈ xs, x.f2.size ≤ 9223372036854775807) (a : Nat) (ha : a ≤ 1048576) :
    (u.size + n.size + xs.length + sumM xs ≤ a ∧ Ev (fun k => laws_szBox.f k v u n w xs a) ((a - (u.size + n.size + xs.length + sumM xs) : Nat) : Int)) ∨ Ev (fun k => laws_szBox.f k v u n w xs a) (-1) := by
  unfold laws_szBox.f
  by_cases h1 : u.size ≤ a
  · have e1 : wrap64 ((a : Int) - (u.size : Int)) = ((a - u.size : Nat) : Int) := by unfold wrap64; omega
    have q1 : ¬ (((a - u.size : Nat) : Int) < 0) := by omega
    simp only [e1, if_neg q1]
    by_cases h2 : n.size ≤ a - u.size
    · have e2 : wrap64 (((a - u.size : Nat) : Int) - (n.size : Int)) = ((a - u.size - n.size : Nat) : Int) := by unfold wrap64; omega
      have q2 : ¬ (((a - u.size - n.size : Nat) : Int) < 0) := by omega
      simp only [e2, if_neg q2]
      rcases szMailS_ev xs hx hs (a - u.size - n.size) (by omega) with ⟨h3, e3⟩ | e3
      · left
        refine ⟨by omega, Ev.bind e3 ?_⟩
        have q3 : ¬ (((a - u.size - n.size - (xs.length + sumM xs) : Nat) : Int) < 0) := by omega
        simp only [if_neg q3]
        rw [show a - (u.size + n.size + xs.length + sumM xs) = a - u.size - n.size - (xs.length + sumM xs) by omega]
        exact Ev.now _
      · right
        refine Ev.bind e3 ?_
        simp only [if_pos (show (-1 : Int) < 0 by decide)]
        exact Ev.now _
    · right
      have q : wrap64 (((a - u.size : Nat) : Int) - (n.size : Int)) < 0 := by unfold wrap64; omega
      simp only [if_pos q]
      exact Ev.now _
  · right
    have q : wrap64 ((a : Int) - (u.size : Int)) < 0 := by unfold wrap64; omega
    simp only [if_pos q]
    exact Ev.now _
theorem toBox_ev (v : Int) (u n : ByteArray) (w : Int) (xs : List S71) (hx : xs.length ≤ 1048576) : Ev (fun k => laws_toBox.f k v u n w xs) (v, u, n, w, xs.map mailOf) := by
  unfold laws_toBox.f
  exact Ev.bind (toMailS_ev xs hx) (Ev.now _)
theorem eqBox_ev (v : Int) (u n : ByteArray) (w : Int) (xs : List S59) (hx : xs.length ≤ 1048576) : Ev (fun k => laws_eqBox.f k v u n w xs v u n w xs) true := by
  unfold laws_eqBox.f
  simp only [if_true]
  refine Ev.bind (eqMailS_ev xs (by omega)) ?_
  simp only [if_true]
  exact Ev.now _

/-- Boxes with their texts' and mails' lengths. -/
def sumB : List S54 → Nat
  | [] => 0
  | x :: l => x.f1.size + x.f2.size + x.f4.length + sumM x.f4 + sumB l
def fitB (x : S54) : Prop := x.f1.size ≤ 9223372036854775807 ∧ x.f2.size ≤ 9223372036854775807 ∧ x.f4.length ≤ 9223372036854775807 ∧ ∀ m ∈ x.f4, m.f2.size ≤ 9223372036854775807
def boxOf (x : S54) : S42 := ⟨x.f0, x.f1, x.f2, x.f3, x.f4.map mailOf⟩
theorem rdB_drop1 {xs : List S54} {i : Nat} {x : S54} {l : List S54} (h : xs.drop i = x :: l) : rd_T54 xs (i : Int) = x := drop_getD _ h
theorem rdB_drop2 {xs : List S42} {i : Nat} {x : S42} {l : List S42} (h : xs.drop i = x :: l) : rd_T42 xs (i : Int) = x := drop_getD _ h
theorem sumB_mem {x : S54} : ∀ {xs : List S54}, x ∈ xs → x.f1.size + x.f2.size + x.f4.length + sumM x.f4 ≤ sumB xs
  | y :: l, h => by
    rcases List.mem_cons.1 h with rfl | h
    · simp only [sumB]; omega
    · have := sumB_mem h
      simp only [sumB]; omega
theorem szBoxS_l0 (xs : List S54) (hx : xs.length ≤ 9223372036854775807) (hs : ∀ x ∈ xs, fitB x) :
    ∀ (l : List S54) (i : Nat) (a : Nat), xs.drop i = l → i ≤ xs.length → a ≤ 1048576 →
      (sumB l ≤ a ∧ Ev (fun k => laws_szBoxS.l0 k xs a i) ((a - sumB l : Nat) : Int)) ∨ Ev (fun k => laws_szBoxS.l0 k xs a i) (-1)
  | [], i, a, h, hi, ha => by
    left
    have e := drop_end h hi
    exact ⟨Nat.zero_le _, Ev.step (fun k => by rw [laws_szBoxS.l0, if_neg (by omega)]; rfl) (Ev.now _)⟩
  | x :: l, i, a, h, hi, ha => by
    have hlt := drop_lt h
    obtain ⟨z1, z2, z3, z4⟩ := hs x (List.mem_of_mem_drop (i := i) (by rw [h]; exact List.mem_cons_self))
    have e := rdB_drop1 h
    have hst : ∀ k, laws_szBoxS.l0 (k + 1) xs a i = (laws_szBox.f k x.f0 x.f1 x.f2 x.f3 x.f4 a).bind fun t => if t < 0 then some (-1) else laws_szBoxS.l0 k xs t ((i + 1 : Nat) : Int) := fun k => by
      rw [laws_szBoxS.l0, if_pos (by omega), if_pos (by omega), e, wrap_succ i (by omega)]
    rcases szBox_ev x.f0 x.f1 x.f2 x.f3 x.f4 z1 z2 z3 z4 a ha with ⟨h1, h2⟩ | h2
    · have q : ¬ (((a - (x.f1.size + x.f2.size + x.f4.length + sumM x.f4) : Nat) : Int) < 0) := by omega
      rcases szBoxS_l0 xs hx hs l (i + 1) (a - (x.f1.size + x.f2.size + x.f4.length + sumM x.f4)) (drop_tail h) (by omega) (by omega) with ⟨h3, h4⟩ | h4
      · left
        refine ⟨by simp only [sumB]; omega, Ev.step hst (Ev.bind h2 ?_)⟩
        simp only [if_neg q]
        have e3 : a - sumB (x :: l) = a - (x.f1.size + x.f2.size + x.f4.length + sumM x.f4) - sumB l := by simp only [sumB]; omega
        rw [e3]; exact h4
      · right
        refine Ev.step hst (Ev.bind h2 ?_)
        simp only [if_neg q]
        exact h4
    · right
      refine Ev.step hst (Ev.bind h2 ?_)
      simp only [if_pos (show (-1 : Int) < 0 by decide)]
      exact Ev.now _
theorem szState_ev (xs : List S54) (hx : xs.length ≤ 9223372036854775807) (hs : ∀ x ∈ xs, fitB x) (a : Nat) (ha : a ≤ 1048576) :
    (xs.length + sumB xs ≤ a ∧ Ev (fun k => laws_szState.f k xs a) ((a - (xs.length + sumB xs) : Nat) : Int)) ∨ Ev (fun k => laws_szState.f k xs a) (-1) := by
  have hB : (xs.length + sumB xs ≤ a ∧ Ev (fun k => laws_szBoxS.f k xs a) ((a - (xs.length + sumB xs) : Nat) : Int)) ∨ Ev (fun k => laws_szBoxS.f k xs a) (-1) := by
    by_cases hb : xs.length ≤ a
    · have ew : wrap64 ((a : Int) - (xs.length : Int)) = ((a - xs.length : Nat) : Int) := by unfold wrap64; omega
      have hf : ∀ k, laws_szBoxS.f k xs a = laws_szBoxS.l0 k xs ((a - xs.length : Nat) : Int) ((0 : Nat) : Int) := fun k => by
        rw [laws_szBoxS.f, ew, if_neg (by omega)]; rfl
      rcases szBoxS_l0 xs hx hs xs 0 (a - xs.length) rfl (by omega) (by omega) with ⟨h1, h2⟩ | h2
      · left
        refine ⟨by omega, Ev.congr hf ?_⟩
        rw [show a - (xs.length + sumB xs) = a - xs.length - sumB xs by omega]; exact h2
      · right; exact Ev.congr hf h2
    · right
      refine Ev.congr (fun k => ?_) (Ev.now _)
      rw [laws_szBoxS.f, if_pos (by unfold wrap64; omega)]
  unfold laws_szState.f
  rcases hB with ⟨h1, h2⟩ | h2
  · left
    have q : ¬ (((a - (xs.length + sumB xs) : Nat) : Int) < 0) := by omega
    refine ⟨h1, Ev.bind h2 ?_⟩
    simp only [if_neg q]
    exact Ev.now _
  · right
    refine Ev.bind h2 ?_
    simp only [if_pos (show (-1 : Int) < 0 by decide)]
    exact Ev.now _
theorem toBoxS_l0 (xs : List S54) (hx : xs.length ≤ 1048576) (hs : ∀ x ∈ xs, x.f4.length ≤ 1048576) :
    ∀ (l : List S54) (i : Nat), xs.drop i = l → i ≤ xs.length →
      Ev (fun k => laws_toBoxS.l0 k xs ((xs.take i).map boxOf ++ List.replicate (xs.length - i) z42) i) (xs.map boxOf)
  | [], i, h, hi => by
    have e := drop_end h hi
    subst e
    refine Ev.step (fun k => by rw [laws_toBoxS.l0, if_neg (by omega)]) ?_
    rw [fill_end]; exact Ev.now _
  | x :: l, i, h, hi => by
    have hlt := drop_lt h
    have hz := hs x (List.mem_of_mem_drop (i := i) (by rw [h]; exact List.mem_cons_self))
    have hlen := fill_len xs boxOf z42 hi
    have hset := fill_set xs boxOf z42 h
    generalize (xs.take i).map boxOf ++ List.replicate (xs.length - i) z42 = Y at hlen hset
    refine Ev.step (f := fun k => (laws_toBox.f k x.f0 x.f1 x.f2 x.f3 x.f4).bind fun bt => if (i : Int) < (Y.length : Int) then laws_toBoxS.l0 k xs (Y.set (i : Int).toNat (⟨bt.1, bt.2.1, bt.2.2.1, bt.2.2.2.1, bt.2.2.2.2⟩ : S42)) ((i + 1 : Nat) : Int) else none) (fun k => by
      rw [laws_toBoxS.l0, if_pos (by omega), if_pos (by omega), rdB_drop1 h, wrap_succ i (by omega)]) ?_
    refine Ev.bind (toBox_ev x.f0 x.f1 x.f2 x.f3 x.f4 hz) ?_
    simp only [if_pos (show (i : Int) < (Y.length : Int) by omega), Int.toNat_natCast]
    rw [show (⟨x.f0, x.f1, x.f2, x.f3, x.f4.map mailOf⟩ : S42) = boxOf x from rfl, hset]
    exact toBoxS_l0 xs hx hs l (i + 1) (drop_tail h) (by omega)
theorem toState_ev (xs : List S54) (hx : xs.length ≤ 1048576) (hs : ∀ x ∈ xs, x.f4.length ≤ 1048576) : Ev (fun k => laws_toState.f k xs) (xs.map boxOf) := by
  unfold laws_toState.f
  refine Ev.bind (a := xs.map boxOf) ?_ (Ev.now _)
  refine Ev.congr (fun k => ?_) (toBoxS_l0 xs hx hs xs 0 rfl (by omega))
  rw [laws_toBoxS.f, if_pos (by omega), Int.toNat_natCast, if_pos (by omega)]
  simp
theorem eqBoxS_l0 (xs : List S42) (hx : xs.length ≤ 1048576) (hs : ∀ x ∈ xs, x.f4.length ≤ 1048576) :
    ∀ (l : List S42) (i : Nat), xs.drop i = l → i ≤ xs.length → Ev (fun k => laws_eqBoxS.l0 k xs xs i) true
  | [], i, h, hi => by
    have e := drop_end h hi
    exact Ev.step (fun k => by rw [laws_eqBoxS.l0, if_neg (by omega)]) (Ev.now true)
  | x :: l, i, h, hi => by
    have hlt := drop_lt h
    have hz := hs x (List.mem_of_mem_drop (i := i) (by rw [h]; exact List.mem_cons_self))
    refine Ev.step (f := fun k => (laws_eqBox.f k x.f0 x.f1 x.f2 x.f3 x.f4 x.f0 x.f1 x.f2 x.f3 x.f4).bind fun t => if t = true then laws_eqBoxS.l0 k xs xs ((i + 1 : Nat) : Int) else some false) (fun k => by
      rw [laws_eqBoxS.l0, if_pos (by omega), if_pos (by omega), if_pos (by omega), rdB_drop2 h, wrap_succ i (by omega)]) ?_
    refine Ev.bind (eqBox_ev x.f0 x.f1 x.f2 x.f3 x.f4 hz) ?_
    simp only [if_true]
    exact eqBoxS_l0 xs hx hs l (i + 1) (drop_tail h) (by omega)
theorem eqState_ev (xs : List S42) (hx : xs.length ≤ 1048576) (hs : ∀ x ∈ xs, x.f4.length ≤ 1048576) : Ev (fun k => laws_eqState.f k xs xs) true := by
  unfold laws_eqState.f
  refine Ev.bind (a := true) ?_ ?_
  · refine Ev.congr (fun k => ?_) (eqBoxS_l0 xs hx hs xs 0 rfl (by omega))
    rw [laws_eqBoxS.f, if_pos rfl]; rfl
  · simp only [if_true]
    exact Ev.now _
theorem boxOf_len {xs : List S54} (hs : ∀ x ∈ xs, x.f4.length ≤ 1048576) : ∀ x ∈ xs.map boxOf, x.f4.length ≤ 1048576 := by
  intro x hx
  obtain ⟨y, hy, rfl⟩ := List.mem_map.1 hx
  show (y.f4.map mailOf).length ≤ _
  rw [List.length_map]
  exact hs y hy

def boxAt (u n : ByteArray) : List S42 → Int × ByteArray × ByteArray × Int × (List S59) × Bool
  | [] => (0, (⟨#[]⟩ : ByteArray), (⟨#[]⟩ : ByteArray), 0, [], false)
  | x :: l => if x.f1.toList = u.toList then (if x.f2.toList = n.toList then (x.f0, x.f1, x.f2, x.f3, x.f4, true) else boxAt u n l) else boxAt u n l
theorem boxAt_len (u n : ByteArray) : ∀ l : List S42, (∀ x ∈ l, x.f4.length ≤ 1048576) → (boxAt u n l).2.2.2.2.1.length ≤ 1048576
  | [], _ => Nat.zero_le _
  | x :: l, h => by
    have := boxAt_len u n l (fun y hy => h y (List.mem_cons_of_mem _ hy))
    rw [boxAt]
    split
    · split
      · exact h x List.mem_cons_self
      · exact this
    · exact this
theorem spec_BoxOf_l0 (u n : ByteArray) (xs : List S42) (hx : xs.length ≤ 1048576) (hs : ∀ x ∈ xs, x.f4.length ≤ 1048576) :
    ∀ (l : List S42) (i : Nat), xs.drop i = l → i ≤ xs.length → Ev (fun k => spec_BoxOf.l0 k u n i xs) (boxAt u n l)
  | [], i, h, hi => by
    have e := drop_end h hi
    exact Ev.step (fun k => by rw [spec_BoxOf.l0, if_neg (by omega)]; rfl) (Ev.now _)
  | x :: l, i, h, hi => by
    have hlt := drop_lt h
    have hz := hs x (List.mem_of_mem_drop (i := i) (by rw [h]; exact List.mem_cons_self))
    have ih := spec_BoxOf_l0 u n xs hx hs l (i + 1) (drop_tail h) (by omega)
    rw [boxAt]
    by_cases c : x.f1.toList = u.toList
    · rw [if_pos c]
      by_cases d : x.f2.toList = n.toList
      · rw [if_pos d]
        refine Ev.step (f := fun _ => some (x.f0, x.f1, x.f2, x.f3, x.f4, true)) (fun k => ?_) (Ev.now _)
        rw [spec_BoxOf.l0, if_pos (by omega), if_pos (by omega), rdB_drop2 h, if_pos c, if_pos d]
        simp only [spec_l07Box.f, Option.bind_some, List.length_nil, List.nil_append, if_pos (show 0 + x.f4.length < 4398046511104 by omega)]
      · rw [if_neg d]
        exact Ev.step (fun k => by rw [spec_BoxOf.l0, if_pos (by omega), if_pos (by omega), rdB_drop2 h, if_pos c, if_neg d, wrap_succ i (by omega)]) ih
    · rw [if_neg c]
      exact Ev.step (fun k => by rw [spec_BoxOf.l0, if_pos (by omega), if_pos (by omega), rdB_drop2 h, if_neg c, wrap_succ i (by omega)]) ih
theorem impl_BoxOf_l0 (u n : ByteArray) (xs : List S42) (hx : xs.length ≤ 1048576) (hs : ∀ x ∈ xs, x.f4.length ≤ 1048576) :
    ∀ (l : List S42) (i : Nat), xs.drop i = l → i ≤ xs.length → Ev (fun k => impl_BoxOf.l0 k u n xs (xs.length : Int) i) (boxAt u n l)
  | [], i, h, hi => by
    have e := drop_end h hi
    exact Ev.step (fun k => by rw [impl_BoxOf.l0, if_neg (by omega)]; rfl) (Ev.now _)
  | x :: l, i, h, hi => by
    have hlt := drop_lt h
    have hz := hs x (List.mem_of_mem_drop (i := i) (by rw [h]; exact List.mem_cons_self))
    have ih := impl_BoxOf_l0 u n xs hx hs l (i + 1) (drop_tail h) (by omega)
    rw [boxAt]
    by_cases c : x.f1.toList = u.toList
    · rw [if_pos c]
      by_cases d : x.f2.toList = n.toList
      · rw [if_pos d]
        refine Ev.step (f := fun _ => some (x.f0, x.f1, x.f2, x.f3, x.f4, true)) (fun k => ?_) (Ev.now _)
        rw [impl_BoxOf.l0, if_pos (by omega), if_pos (by omega), if_pos (by omega), rdB_drop2 h, if_pos c, if_pos d]
        simp only [impl_cloneBox.f, impl_Mail.f, Option.bind_some, List.length_nil, List.nil_append, if_pos (show 0 + x.f4.length < 4398046511104 by omega)]
      · rw [if_neg d]
        exact Ev.step (fun k => by rw [impl_BoxOf.l0, if_pos (by omega), if_pos (by omega), if_pos (by omega), rdB_drop2 h, if_pos c, if_neg d, wrap_succ i (by omega)]) ih
    · rw [if_neg c]
      exact Ev.step (fun k => by rw [impl_BoxOf.l0, if_pos (by omega), if_pos (by omega), if_pos (by omega), rdB_drop2 h, if_neg c, wrap_succ i (by omega)]) ih
def boxesOf (u : ByteArray) : List S42 → List ByteArray
  | [] => []
  | x :: l => if x.f1.toList = u.toList then x.f2 :: boxesOf u l else boxesOf u l
theorem boxesOf_len (u : ByteArray) : ∀ l, (boxesOf u l).length ≤ l.length
  | [] => Nat.le_refl _
  | x :: l => by
    have := boxesOf_len u l
    rw [boxesOf]
    split
    · simp only [List.length_cons]; omega
    · simp only [List.length_cons]; omega
theorem spec_BoxesOf_l0 (u : ByteArray) (xs : List S42) (hx : xs.length ≤ 1048576) :
    ∀ (l : List S42) (i : Nat) (acc : List ByteArray), xs.drop i = l → i ≤ xs.length → acc.length ≤ i → Ev (fun k => spec_BoxesOf.l0 k u acc i xs) (acc ++ boxesOf u l)
  | [], i, acc, h, hi, ha => by
    have e := drop_end h hi
    exact Ev.step (fun k => by rw [spec_BoxesOf.l0, if_neg (by omega)]) (by rw [boxesOf, List.append_nil]; exact Ev.now _)
  | x :: l, i, acc, h, hi, ha => by
    have hlt := drop_lt h
    by_cases c : x.f1.toList = u.toList
    · have ih := spec_BoxesOf_l0 u xs hx l (i + 1) (acc ++ [x.f2]) (drop_tail h) (by omega) (by rw [List.length_append]; simp only [List.length_cons, List.length_nil]; omega)
      rw [boxesOf, if_pos c]
      rw [List.append_assoc] at ih
      exact Ev.step (fun k => by rw [spec_BoxesOf.l0, if_pos (by omega), if_pos (by omega), rdB_drop2 h, if_pos c, if_pos (by omega), wrap_succ i (by omega)]) ih
    · have ih := spec_BoxesOf_l0 u xs hx l (i + 1) acc (drop_tail h) (by omega) (by omega)
      rw [boxesOf, if_neg c]
      exact Ev.step (fun k => by rw [spec_BoxesOf.l0, if_pos (by omega), if_pos (by omega), rdB_drop2 h, if_neg c, wrap_succ i (by omega)]) ih
theorem impl_BoxesOf_l0 (u : ByteArray) (xs : List S42) (hx : xs.length ≤ 1048576) :
    ∀ (l : List S42) (i : Nat) (acc : List ByteArray), xs.drop i = l → i ≤ xs.length → acc.length ≤ i → Ev (fun k => impl_BoxesOf.l0 k u acc xs (xs.length : Int) i) (acc ++ boxesOf u l)
  | [], i, acc, h, hi, ha => by
    have e := drop_end h hi
    exact Ev.step (fun k => by rw [impl_BoxesOf.l0, if_neg (by omega)]) (by rw [boxesOf, List.append_nil]; exact Ev.now _)
  | x :: l, i, acc, h, hi, ha => by
    have hlt := drop_lt h
    by_cases c : x.f1.toList = u.toList
    · have ih := impl_BoxesOf_l0 u xs hx l (i + 1) (acc ++ [x.f2]) (drop_tail h) (by omega) (by rw [List.length_append]; simp only [List.length_cons, List.length_nil]; omega)
      rw [boxesOf, if_pos c]
      rw [List.append_assoc] at ih
      exact Ev.step (fun k => by rw [impl_BoxesOf.l0, if_pos (by omega), if_pos (by omega), if_pos (by omega), rdB_drop2 h, if_pos c, if_pos (by omega), wrap_succ i (by omega)]) ih
    · have ih := impl_BoxesOf_l0 u xs hx l (i + 1) acc (drop_tail h) (by omega) (by omega)
      rw [boxesOf, if_neg c]
      exact Ev.step (fun k => by rw [impl_BoxesOf.l0, if_pos (by omega), if_pos (by omega), if_pos (by omega), rdB_drop2 h, if_neg c, wrap_succ i (by omega)]) ih

theorem spec_in (a b c : Int) : spec_l01In.f a b c = some (decide (b ≤ a ∧ a ≤ c)) := by
  unfold spec_l01In.f
  by_cases h : a ≥ b
  · rw [if_pos h]; have : b ≤ a := h; simp [this]
  · rw [if_neg h]; have : ¬ b ≤ a := h; simp [this]

theorem impl_in_eq (a b c : Int) : impl_in.f a b c = some (decide (b ≤ a ∧ a ≤ c)) := by
  unfold impl_in.f
  by_cases h : a ≥ b
  · rw [if_pos h]; have : b ≤ a := h; simp [this]
  · rw [if_neg h]; have : ¬ b ≤ a := h; simp [this]


def letters : List UInt8 → Bool
  | [] => true
  | c :: l => if (c.toNat : Int) < 97 then false else if (c.toNat : Int) > 122 then false else letters l
def wordOk (s : ByteArray) : Bool := letters s.data.toList && decide (1 ≤ (s.size : Int) ∧ (s.size : Int) ≤ 8)

theorem spec_WordOk_l0 (s : ByteArray) (hs : s.size ≤ 9223372036854775807) :
    ∀ (l : List UInt8) (i : Nat), s.data.toList.drop i = l → i ≤ s.size → Ev (fun k => spec_WordOk.l0 k s i) (letters l && decide (1 ≤ (s.size : Int) ∧ (s.size : Int) ≤ 8))
  | [], i, h, hi => by
    have e := drop_end h (by rw [size_data]; exact hi)
    rw [size_data] at e
    exact Ev.step (fun k => by rw [spec_WordOk.l0, if_neg (by omega), spec_in]; rfl) (Ev.now _)
  | c :: l, i, h, hi => by
    have hlt := drop_lt h
    rw [size_data] at hlt
    have hb := bt_cons h
    by_cases h1 : (c.toNat : Int) < 97
    · exact Ev.step (fun k => by rw [spec_WordOk.l0, if_pos (by omega), if_pos (by omega), hb, if_pos h1]; simp only [letters, if_pos h1, Bool.false_and]) (Ev.now _)
    · by_cases h2 : (c.toNat : Int) > 122
      · exact Ev.step (fun k => by rw [spec_WordOk.l0, if_pos (by omega), if_pos (by omega), hb, if_neg h1, if_pos h2]; simp only [letters, if_neg h1, if_pos h2, Bool.false_and]) (Ev.now _)
      · have ih := spec_WordOk_l0 s hs l (i + 1) (drop_tail h) (by omega)
        have e : letters (c :: l) = letters l := by simp only [letters, if_neg h1, if_neg h2]
        rw [e]
        exact Ev.step (fun k => by rw [spec_WordOk.l0, if_pos (by omega), if_pos (by omega), hb, if_neg h1, if_neg h2, wrap_succ i (by omega)]) ih

theorem spec_WordOk_ev (s : ByteArray) (hs : s.size ≤ 9223372036854775807) : Ev (fun k => spec_WordOk.f k s) (wordOk s) :=
  Ev.congr (fun k => rfl) (spec_WordOk_l0 s hs _ 0 rfl (by omega))

theorem impl_WordOk_l0 (s : ByteArray) (hs : s.size ≤ 9223372036854775807) :
    ∀ (l : List UInt8) (i : Nat), s.data.toList.drop i = l → i ≤ s.size → Ev (fun k => impl_WordOk.l0 k s (s.size : Int) i) (letters l)
  | [], i, h, hi => by
    have e := drop_end h (by rw [size_data]; exact hi)
    rw [size_data] at e
    exact Ev.step (fun k => by rw [impl_WordOk.l0, if_neg (by omega)]; rfl) (Ev.now _)
  | c :: l, i, h, hi => by
    have hlt := drop_lt h
    rw [size_data] at hlt
    have hb := bt_cons h
    by_cases h1 : (c.toNat : Int) < 97
    · exact Ev.step (fun k => by rw [impl_WordOk.l0, if_pos (by omega), if_pos (by omega), if_pos (by omega), hb, if_pos h1]; simp only [letters, if_pos h1]) (Ev.now _)
    · by_cases h2 : (c.toNat : Int) > 122
      · exact Ev.step (fun k => by rw [impl_WordOk.l0, if_pos (by omega), if_pos (by omega), if_pos (by omega), hb, if_neg h1, if_pos h2]; simp only [letters, if_neg h1, if_pos h2]) (Ev.now _)
      · have ih := impl_WordOk_l0 s hs l (i + 1) (drop_tail h) (by omega)
        have e : letters (c :: l) = letters l := by simp only [letters, if_neg h1, if_neg h2]
        rw [e]
        exact Ev.step (fun k => by rw [impl_WordOk.l0, if_pos (by omega), if_pos (by omega), if_pos (by omega), hb, if_neg h1, if_neg h2, wrap_succ i (by omega)]) ih

theorem impl_WordOk_ev (s : ByteArray) (hs : s.size ≤ 9223372036854775807) : Ev (fun k => impl_WordOk.f k s) (wordOk s) := by
  unfold impl_WordOk.f
  simp only [impl_in_eq, Option.bind_some]
  by_cases h : 1 ≤ (s.size : Int) ∧ (s.size : Int) ≤ 8
  · simp only [h, and_self, decide_true, if_true, wordOk, Bool.and_true]
    exact impl_WordOk_l0 s hs _ 0 rfl (by omega)
  · simp only [wordOk, h, decide_false, Bool.and_false]
    exact Ev.now _

theorem ev_to {α : Type} {g : Nat → Option α} {r r' : α} (h : Ev g r) (e : r = r') : Ev g r' := e ▸ h
def inR (x a b : Int) : Bool := decide (a ≤ x ∧ x ≤ b)
section
variable (K v u n f : Int) (us na te : ByteArray)
def s5 : Bool := if K = 3 then decide ((te.size : Int) ≤ 100) else (te.toList == ([] : List UInt8))
theorem spec_j5 (b : Bool) : Ev (fun k => spec_RecOk.j5 k b K v u n f us na te) (!b && s5 K te) :=
  Ev.step (f := fun _ => if b = true then some false else (if K = 3 then some (decide ((te.size : Int) ≤ 100)) else some (te.toList == ([] : List UInt8)))) (fun k => by rw [spec_RecOk.j5]; try rfl) (ev_some (fun _ => by unfold s5; cases b <;> by_cases h : K = 3 <;> simp [h]))
theorem spec_j4 (x5 b : Bool) : Ev (fun k => spec_RecOk.j4 k x5 b K v u n f us na te) (!b && ((if x5 = true then inR f 0 7 else f == 0) && s5 K te)) := by
  refine Ev.step (f := fun k => if b = true then some false else (if x5 = true then ((spec_l01In.f f 0 7).bind fun t => if t = true then spec_RecOk.j5 k false K v u n f us na te else spec_RecOk.j5 k true K v u n f us na te) else spec_RecOk.j5 k (f != 0) K v u n f us na te)) (fun k => by rw [spec_RecOk.j4]) ?_
  refine ev_ite (fun h => ev_now (by simp [h])) (fun h => ev_ite (fun h2 => ?_) (fun h2 => ?_))
  · refine ev_bind1 (spec_in _ _ _) ?_
    refine ev_ite (fun q => ev_to (spec_j5 K v u n f us na te false) ?_) (fun q => ev_to (spec_j5 K v u n f us na te true) ?_)
    · simp only [Bool.not_eq_true] at h; simp [h, h2, inR, q]
    · simp only [Bool.not_eq_true] at h q; simp only [h, h2, inR, q, if_true]; rfl
  · refine ev_to (spec_j5 K v u n f us na te (f != 0)) ?_
    simp only [Bool.not_eq_true] at h
    simp only [h, if_neg h2]
    by_cases e : f = 0 <;> simp [e, bne]
theorem spec_j3 (x4 x5 b : Bool) : Ev (fun k => spec_RecOk.j3 k x4 x5 b K v u n f us na te) (!b && ((if x4 = true then inR u 1 9999 else u == 0) && ((if x5 = true then inR f 0 7 else f == 0) && s5 K te))) := by
  refine Ev.step (f := fun k => if b = true then some false else (if x4 = true then ((spec_l01In.f u 1 9999).bind fun t => if t = true then spec_RecOk.j4 k x5 false K v u n f us na te else spec_RecOk.j4 k x5 true K v u n f us na te) else spec_RecOk.j4 k x5 (u != 0) K v u n f us na te)) (fun k => by rw [spec_RecOk.j3]) ?_
  refine ev_ite (fun h => ev_now (by simp [h])) (fun h => ev_ite (fun h2 => ?_) (fun h2 => ?_))
  · refine ev_bind1 (spec_in _ _ _) ?_
    refine ev_ite (fun q => ev_to (spec_j4 K v u n f us na te x5 false) ?_) (fun q => ev_to (spec_j4 K v u n f us na te x5 true) ?_)
    · simp only [Bool.not_eq_true] at h; simp only [h, h2, inR, q, if_true]; rfl
    · simp only [Bool.not_eq_true] at h q; simp only [h, h2, inR, q, if_true]; rfl
  · refine ev_to (spec_j4 K v u n f us na te x5 (u != 0)) ?_
    simp only [Bool.not_eq_true] at h
    simp only [h, if_neg h2]
    by_cases e : u = 0 <;> simp [e, bne]
def r2 (x3 x4 x5 : Bool) : Bool := (if x3 = true then (wordOk us && (wordOk na && inR n 1 10000)) else ((us.toList == ([] : List UInt8)) && ((na.toList == ([] : List UInt8)) && (n == 0)))) && ((if x4 = true then inR u 1 9999 else u == 0) && ((if x5 = true then inR f 0 7 else f == 0) && s5 K te))
theorem spec_j2 (hu : us.size ≤ 9223372036854775807) (hn : na.size ≤ 9223372036854775807) (x3 x4 x5 : Bool) : Ev (fun k => spec_RecOk.j2 k x3 x4 x5 K v u n f us na te) (r2 K u n f us na te x3 x4 x5) := by
  refine Ev.step (f := fun k => if x3 = true then ((spec_WordOk.f k us).bind fun t115 => (if t115 = true then ((spec_WordOk.f k na).bind fun t116 => (if t116 = true then ((spec_l01In.f n 1 10000).bind fun t117 => (if t117 = true then (spec_RecOk.j3 k x4 x5 false K v u n f us na te) else (spec_RecOk.j3 k x4 x5 true K v u n f us na te))) else (spec_RecOk.j3 k x4 x5 true K v u n f us na te))) else (spec_RecOk.j3 k x4 x5 true K v u n f us na te))) else (if us.toList = ([] : List UInt8) then (if na.toList = ([] : List UInt8) then (spec_RecOk.j3 k x4 x5 (n != 0) K v u n f us na te) else (spec_RecOk.j3 k x4 x5 true K v u n f us na te)) else (spec_RecOk.j3 k x4 x5 true K v u n f us na te))) (fun k => by rw [spec_RecOk.j2]) ?_
  have T := spec_j3 K v u n f us na te x4 x5 true
  have F := spec_j3 K v u n f us na te x4 x5 false
  refine ev_ite (fun h => ?_) (fun h => ?_)
  · refine Ev.bind (spec_WordOk_ev us hu) (ev_ite (fun q => ?_) (fun q => ev_to T ?_))
    · refine Ev.bind (spec_WordOk_ev na hn) (ev_ite (fun q2 => ?_) (fun q2 => ev_to T ?_))
      · refine ev_bind1 (spec_in _ _ _) (ev_ite (fun q3 => ev_to F ?_) (fun q3 => ev_to T ?_))
        · simp only [r2, h, q, q2, inR, q3, if_true]; rfl
        · simp only [Bool.not_eq_true] at q3; simp only [r2, h, q, q2, inR, q3, if_true]; rfl
      · simp only [Bool.not_eq_true] at q2; simp only [r2, h, q, q2, if_true]; rfl
    · simp only [Bool.not_eq_true] at q; simp only [r2, h, q, if_true]; rfl
  · refine ev_ite (fun q => ?_) (fun q => ev_to T ?_)
    · refine ev_ite (fun q2 => ?_) (fun q2 => ev_to T ?_)
      · refine ev_to (spec_j3 K v u n f us na te x4 x5 (n != 0)) ?_
        simp only [r2, if_neg h, q, q2]
        by_cases e : n = 0 <;> simp [e, bne]
      · simp only [r2, if_neg h, q]
        rw [show (na.toList == ([] : List UInt8)) = false from by simpa using q2]; rfl
    · simp only [r2, if_neg h]
      rw [show (us.toList == ([] : List UInt8)) = false from by simpa using q]; rfl
def recVal : Bool := inR K 1 5 && (inR v 1 9999 && r2 K u n f us na te (K == 1) (K == 3 || K == 4 || K == 5) (K == 3 || K == 4))
theorem spec_j1 (hu : us.size ≤ 9223372036854775807) (hn : na.size ≤ 9223372036854775807) (x3 x4 : Bool) : Ev (fun k => spec_RecOk.j1 k x3 x4 K v u n f us na te) (r2 K u n f us na te x3 x4 (K == 3 || K == 4)) := by
  refine Ev.step (f := fun k => if K = 3 then spec_RecOk.j2 k x3 x4 true K v u n f us na te else spec_RecOk.j2 k x3 x4 (K == 4) K v u n f us na te) (fun k => by rw [spec_RecOk.j1]; try rfl) (ev_ite (fun h => ev_to (spec_j2 K v u n f us na te hu hn x3 x4 true) ?_) (fun h => ev_to (spec_j2 K v u n f us na te hu hn x3 x4 (K == 4)) ?_))
  · simp [h]
  · rw [show (K == 3) = false from beq_eq_false_iff_ne.2 h]; rfl
theorem spec_j0 (hu : us.size ≤ 9223372036854775807) (hn : na.size ≤ 9223372036854775807) (b : Bool) : Ev (fun k => spec_RecOk.j0 k b K v u n f us na te) (!b && r2 K u n f us na te (K == 1) (K == 3 || K == 4 || K == 5) (K == 3 || K == 4)) := by
  refine Ev.step (f := fun k => if b = true then some false else (if K = 3 then (spec_RecOk.j1 k (K == 1) true K v u n f us na te) else (if K = 4 then (spec_RecOk.j1 k (K == 1) true K v u n f us na te) else (spec_RecOk.j1 k (K == 1) (K == 5) K v u n f us na te)))) (fun k => by rw [spec_RecOk.j0]; try rfl) ?_
  refine ev_ite (fun h => ev_now (by simp [h])) (fun h => ?_)
  simp only [Bool.not_eq_true] at h
  subst h
  refine ev_ite (fun h => ev_to (spec_j1 K v u n f us na te hu hn (K == 1) true) ?_) (fun h => ev_ite (fun h2 => ev_to (spec_j1 K v u n f us na te hu hn (K == 1) true) ?_) (fun h2 => ev_to (spec_j1 K v u n f us na te hu hn (K == 1) (K == 5)) ?_))
  · simp [h]
  · simp [h2]
  · rw [show (K == 3) = false from beq_eq_false_iff_ne.2 h, show (K == 4) = false from beq_eq_false_iff_ne.2 h2]; rfl
theorem spec_RecOk_ev (hu : us.size ≤ 9223372036854775807) (hn : na.size ≤ 9223372036854775807) : Ev (fun k => spec_RecOk.f k K v u n f us na te) (recVal K v u n f us na te) := by
  unfold spec_RecOk.f recVal
  refine ev_bind1 (spec_in _ _ _) (ev_ite (fun q => ?_) (fun q => ev_to (spec_j0 K v u n f us na te hu hn true) ?_))
  · refine ev_bind1 (spec_in _ _ _) (ev_to (spec_j0 K v u n f us na te hu hn _) ?_)
    simp only [inR, q, Bool.not_not, Bool.true_and]
  · simp only [Bool.not_eq_true] at q
    simp only [inR, q]; rfl
def i3 (x4 : Bool) (ru rf : Int) : Bool := if K = 1 then (wordOk us && (wordOk na && (inR n 1 10000 && ((ru == 0) && ((rf == 0) && (te.toList == ([] : List UInt8))))))) else if K = 3 then (x4 && (decide ((te.size : Int) ≤ 100) && ((ru == 0) && ((n == 0) && ((rf == 0) && ((us.toList == ([] : List UInt8)) && (na.toList == ([] : List UInt8)))))))) else if K = 2 ∨ K = 4 ∨ K = 5 then (x4 && ((ru == 0) && ((n == 0) && ((rf == 0) && ((us.toList == ([] : List UInt8)) && ((na.toList == ([] : List UInt8)) && (te.toList == ([] : List UInt8)))))))) else false
theorem impl_j3 (hu : us.size ≤ 9223372036854775807) (hn : na.size ≤ 9223372036854775807) (x4 : Bool) (ru rf : Int) : Ev (fun k => impl_RecOk.j3 k x4 K v u n f us na te 0 0 ru n rf us na te) (i3 K n us na te x4 ru rf) := by
  by_cases h1 : K = 1
  · subst h1
    refine Ev.step (f := fun k => ((impl_WordOk.f k us).bind fun t217 => (if t217 = true then ((impl_WordOk.f k na).bind fun t218 => (if t218 = true then ((impl_in.f n 1 10000).bind fun t219 => (if t219 = true then (some ((0 : Int) == 0 && ((0 : Int) == 0 && (ru == 0 && (rf == 0 && (te.toList == ([] : List UInt8))))))) else (some false))) else (some false))) else (some false)))) (fun k => by rw [impl_RecOk.j3, if_pos rfl]) ?_
    refine Ev.bind (impl_WordOk_ev us hu) (ev_ite (fun q => ?_) (fun q => ev_now ?_))
    · refine Ev.bind (impl_WordOk_ev na hn) (ev_ite (fun q2 => ?_) (fun q2 => ev_now ?_))
      · refine ev_bind1 (impl_in_eq _ _ _) (ev_ite (fun q3 => ev_now ?_) (fun q3 => ev_now ?_))
        · simp only [i3, if_true, q, q2, inR, q3]; rfl
        · simp only [Bool.not_eq_true] at q3; simp only [i3, if_true, q, q2, inR, q3]; rfl
      · simp only [Bool.not_eq_true] at q2; simp only [i3, if_true, q, q2]; rfl
    · simp only [Bool.not_eq_true] at q; simp only [i3, if_true, q]; rfl
  refine Ev.step (f := fun _ => some (i3 K n us na te x4 ru rf)) (fun k => ?_) (Ev.now _)
  rw [impl_RecOk.j3, if_neg h1]
  unfold i3
  rw [if_neg h1]
  by_cases h3 : K = 3
  · rw [if_pos h3, if_pos h3]
    cases x4
    · rfl
    · by_cases q : (te.size : Int) ≤ 100
      · rw [if_pos rfl, if_pos q, decide_eq_true q]; rfl
      · rw [if_pos rfl, if_neg q, decide_eq_false q]; rfl
  rw [if_neg h3, if_neg h3]
  by_cases h2 : K = 2
  · rw [if_pos h2, if_pos (Or.inl h2)]; cases x4 <;> rfl
  rw [if_neg h2]
  by_cases h4 : K = 4
  · rw [if_pos h4, if_pos (Or.inr (Or.inl h4))]; cases x4 <;> rfl
  rw [if_neg h4]
  by_cases h5 : K = 5
  · rw [if_pos h5, if_pos (Or.inr (Or.inr h5))]; cases x4 <;> rfl
  · rw [if_neg h5, if_neg (by omega)]
def i2 (x4 x36 : Bool) (ru : Int) : Bool := if x36 = true then i3 K n us na te (x4 && inR f 0 7) ru 0 else i3 K n us na te x4 ru f
theorem impl_j2 (hu : us.size ≤ 9223372036854775807) (hn : na.size ≤ 9223372036854775807) (x4 x36 : Bool) (ru : Int) : Ev (fun k => impl_RecOk.j2 k x4 x36 K v u n f us na te 0 0 ru n f us na te) (i2 K n f us na te x4 x36 ru) := by
  refine Ev.step (f := fun k => if x36 = true then (if x4 = true then ((impl_in.f f 0 7).bind fun t216 => (impl_RecOk.j3 k t216 K v u n f us na te 0 0 ru n 0 us na te)) else (impl_RecOk.j3 k false K v u n f us na te 0 0 ru n 0 us na te)) else (impl_RecOk.j3 k x4 K v u n f us na te 0 0 ru n f us na te)) (fun k => by rw [impl_RecOk.j2]) ?_
  refine ev_ite (fun h => ev_ite (fun q => ?_) (fun q => ev_to (impl_j3 K v u n f us na te hu hn false ru 0) ?_)) (fun h => ev_to (impl_j3 K v u n f us na te hu hn x4 ru f) ?_)
  · refine ev_bind1 (impl_in_eq _ _ _) (ev_to (impl_j3 K v u n f us na te hu hn _ ru 0) ?_)
    simp only [i2, h, q, if_true, inR, Bool.true_and]
  · simp only [Bool.not_eq_true] at q; simp only [i2, h, q, if_true, Bool.false_and]
  · simp only [i2, if_neg h]
theorem impl_j1 (hu : us.size ≤ 9223372036854775807) (hn : na.size ≤ 9223372036854775807) (x4 : Bool) (ru : Int) : Ev (fun k => impl_RecOk.j1 k x4 K v u n f us na te 0 0 ru n f us na te) (i2 K n f us na te x4 (K == 3 || K == 4) ru) := by
  refine Ev.step (f := fun k => if K = 3 then (impl_RecOk.j2 k x4 true K v u n f us na te 0 0 ru n f us na te) else (impl_RecOk.j2 k x4 (K == 4) K v u n f us na te 0 0 ru n f us na te)) (fun k => by rw [impl_RecOk.j1]) (ev_ite (fun h => ev_to (impl_j2 K v u n f us na te hu hn x4 true ru) ?_) (fun h => ev_to (impl_j2 K v u n f us na te hu hn x4 (K == 4) ru) ?_))
  · simp [h]
  · rw [show (K == 3) = false from beq_eq_false_iff_ne.2 h]; rfl
def i0 (x24 : Bool) : Bool := if x24 = true then i2 K n f us na te (inR u 1 9999) (K == 3 || K == 4) 0 else i2 K n f us na te true (K == 3 || K == 4) u
theorem impl_j0 (hu : us.size ≤ 9223372036854775807) (hn : na.size ≤ 9223372036854775807) (x24 : Bool) : Ev (fun k => impl_RecOk.j0 k true x24 K v u n f us na te 0 0 u n f us na te) (i0 K u n f us na te x24) := by
  refine Ev.step (f := fun k => if x24 = true then ((impl_in.f u 1 9999).bind fun t215 => (impl_RecOk.j1 k t215 K v u n f us na te 0 0 0 n f us na te)) else (impl_RecOk.j1 k true K v u n f us na te 0 0 u n f us na te)) (fun k => by rw [impl_RecOk.j0]) ?_
  refine ev_ite (fun h => ?_) (fun h => ev_to (impl_j1 K v u n f us na te hu hn true u) ?_)
  · refine ev_bind1 (impl_in_eq _ _ _) (ev_to (impl_j1 K v u n f us na te hu hn _ 0) ?_)
    simp only [i0, h, if_true, inR]
  · simp only [i0, if_neg h]
theorem rec_same : (inR v 1 9999 && i0 K u n f us na te (K == 3 || K == 4 || K == 5)) = recVal K v u n f us na te := by
  unfold recVal r2 i0 i2 i3 s5
  generalize inR v 1 9999 = a0
  generalize inR u 1 9999 = a1
  generalize inR f 0 7 = a2
  generalize inR n 1 10000 = a3
  generalize wordOk us = a4
  generalize wordOk na = a5
  generalize (us.toList == ([] : List UInt8)) = a6
  generalize (na.toList == ([] : List UInt8)) = a7
  generalize (te.toList == ([] : List UInt8)) = a8
  generalize decide ((te.size : Int) ≤ 100) = a9
  by_cases h1 : K = 1
  · subst h1
    generalize (u == 0) = b; generalize (f == 0) = c; generalize (n == 0) = d
    simp [inR]
    revert a0 a3 a4 a5 a8 b c
    decide
  by_cases h2 : K = 2
  · subst h2
    generalize (u == 0) = b; generalize (f == 0) = c; generalize (n == 0) = d
    simp [inR]
    revert a0 a6 a7 a8 b c d
    decide
  by_cases h3 : K = 3
  · subst h3
    generalize (n == 0) = d
    simp [inR]
    revert a0 a1 a2 a6 a7 a9 d
    decide
  by_cases h4 : K = 4
  · subst h4
    generalize (n == 0) = d
    simp [inR]
    revert a0 a1 a2 a6 a7 a8 d
    decide
  by_cases h5 : K = 5
  · subst h5
    generalize (f == 0) = c; generalize (n == 0) = d
    simp [inR]
    revert a0 a1 a6 a7 a8 c d
    decide
  · have e : inR K 1 5 = false := by unfold inR; exact decide_eq_false (by omega)
    rw [e]
    simp [h1, h2, h3, h4, h5]
theorem impl_RecOk_ev (hu : us.size ≤ 9223372036854775807) (hn : na.size ≤ 9223372036854775807) : Ev (fun k => impl_RecOk.f k K v u n f us na te) (recVal K v u n f us na te) := by
  rw [← rec_same]
  unfold impl_RecOk.f
  refine ev_bind1 (impl_in_eq _ _ _) (ev_ite (fun q => ?_) (fun q => ev_now ?_))
  · have e : inR v 1 9999 = true := q
    rw [e, Bool.true_and]
    refine ev_ite (fun h => ev_to (impl_j0 K v u n f us na te hu hn true) ?_) (fun h => ev_ite (fun h2 => ev_to (impl_j0 K v u n f us na te hu hn true) ?_) (fun h2 => ev_to (impl_j0 K v u n f us na te hu hn (K == 5)) ?_))
    · simp [h]
    · simp [h2]
    · rw [show (K == 3) = false from beq_eq_false_iff_ne.2 h, show (K == 4) = false from beq_eq_false_iff_ne.2 h2]; rfl
  · have e : inR v 1 9999 = false := Bool.not_eq_true _ ▸ q
    rw [e, Bool.false_and]
end

def findB (v : Int) : List S42 → Nat → Int
  | [], _ => -1
  | x :: l, i => if x.f0 = v then (i : Int) else findB v l (i + 1)
def findM (v : Int) : List S59 → Nat → Int
  | [], _ => -1
  | x :: l, i => if x.f0 = v then (i : Int) else findM v l (i + 1)
theorem findB_in (v : Int) : ∀ (l : List S42) (i : Nat), findB v l i = -1 ∨ ∃ j : Nat, findB v l i = (j : Int) ∧ i ≤ j ∧ j < i + l.length
  | [], _ => Or.inl rfl
  | x :: l, i => by
    rw [findB]
    split
    · exact Or.inr ⟨i, rfl, Nat.le_refl _, by simp only [List.length_cons]; omega⟩
    · rcases findB_in v l (i + 1) with h | ⟨j, h, h1, h2⟩
      · exact Or.inl h
      · exact Or.inr ⟨j, h, by omega, by simp only [List.length_cons]; omega⟩
theorem spec_l12Box_l0 (v : Int) (xs : List S42) (hx : xs.length ≤ 1048576) :
    ∀ (l : List S42) (i : Nat), xs.drop i = l → i ≤ xs.length → Ev (fun k => spec_l12Box.l0 k v i xs) (findB v l i)
  | [], i, h, hi => by
    have e := drop_end h hi
    exact Ev.step (fun k => by rw [spec_l12Box.l0, if_neg (by omega)]; rfl) (Ev.now _)
  | x :: l, i, h, hi => by
    have hlt := drop_lt h
    rw [findB]
    by_cases c : x.f0 = v
    · rw [if_pos c]
      exact Ev.step (f := fun _ => some (i : Int)) (fun k => by rw [spec_l12Box.l0, if_pos (by omega), if_pos (by omega), rdB_drop2 h, if_pos c]) (Ev.now _)
    · rw [if_neg c]
      exact Ev.step (fun k => by rw [spec_l12Box.l0, if_pos (by omega), if_pos (by omega), rdB_drop2 h, if_neg c, wrap_succ i (by omega)]) (spec_l12Box_l0 v xs hx l (i + 1) (drop_tail h) (by omega))
theorem impl_boxWith_l0 (v : Int) (xs : List S42) (hx : xs.length ≤ 1048576) :
    ∀ (l : List S42) (i : Nat), xs.drop i = l → i ≤ xs.length → Ev (fun k => impl_boxWith.l0 k xs v i) (findB v l i)
  | [], i, h, hi => by
    have e := drop_end h hi
    exact Ev.step (fun k => by rw [impl_boxWith.l0, if_neg (by omega)]; rfl) (Ev.now _)
  | x :: l, i, h, hi => by
    have hlt := drop_lt h
    rw [findB]
    by_cases c : x.f0 = v
    · rw [if_pos c]
      exact Ev.step (f := fun _ => some (i : Int)) (fun k => by rw [impl_boxWith.l0, if_pos (by omega), if_pos (by omega), rdB_drop2 h, if_pos c]) (Ev.now _)
    · rw [if_neg c]
      exact Ev.step (fun k => by rw [impl_boxWith.l0, if_pos (by omega), if_pos (by omega), rdB_drop2 h, if_neg c, wrap_succ i (by omega)]) (impl_boxWith_l0 v xs hx l (i + 1) (drop_tail h) (by omega))
theorem spec_l12Mail_l0 (v a d : Int) (b c0 : ByteArray) (xs : List S59) (hx : xs.length ≤ 1048576) :
    ∀ (l : List S59) (i : Nat), xs.drop i = l → i ≤ xs.length → Ev (fun k => spec_l12Mail.l0 k v i a b c0 d xs) (findM v l i)
  | [], i, h, hi => by
    have e := drop_end h hi
    exact Ev.step (fun k => by rw [spec_l12Mail.l0, if_neg (by omega)]; rfl) (Ev.now _)
  | x :: l, i, h, hi => by
    have hlt := drop_lt h
    rw [findM]
    by_cases c : x.f0 = v
    · rw [if_pos c]
      exact Ev.step (f := fun _ => some (i : Int)) (fun k => by rw [spec_l12Mail.l0, if_pos (by omega), if_pos (by omega), rdT_drop2 h, if_pos c]) (Ev.now _)
    · rw [if_neg c]
      exact Ev.step (fun k => by rw [spec_l12Mail.l0, if_pos (by omega), if_pos (by omega), rdT_drop2 h, if_neg c, wrap_succ i (by omega)]) (spec_l12Mail_l0 v a d b c0 xs hx l (i + 1) (drop_tail h) (by omega))
theorem impl_mailWith_l0 (v : Int) (xs : List S59) (hx : xs.length ≤ 1048576) :
    ∀ (l : List S59) (i : Nat), xs.drop i = l → i ≤ xs.length → Ev (fun k => impl_mailWith.l0 k xs v i) (findM v l i)
  | [], i, h, hi => by
    have e := drop_end h hi
    exact Ev.step (fun k => by rw [impl_mailWith.l0, if_neg (by omega)]; rfl) (Ev.now _)
  | x :: l, i, h, hi => by
    have hlt := drop_lt h
    rw [findM]
    by_cases c : x.f0 = v
    · rw [if_pos c]
      exact Ev.step (f := fun _ => some (i : Int)) (fun k => by rw [impl_mailWith.l0, if_pos (by omega), if_pos (by omega), rdT_drop2 h, if_pos c]) (Ev.now _)
    · rw [if_neg c]
      exact Ev.step (fun k => by rw [impl_mailWith.l0, if_pos (by omega), if_pos (by omega), rdT_drop2 h, if_neg c, wrap_succ i (by omega)]) (impl_mailWith_l0 v xs hx l (i + 1) (drop_tail h) (by omega))
theorem fit {A : Nat → Option Bool} {B : Nat → Option (Int × ByteArray × ByteArray × Int × (List S59) × Bool)} {G : Nat → Option (List ByteArray)} {C : Nat → Option Int} {D : Nat → Int → Option Int} (K v u n a1 : Int) (xs : List S42)
    {r : Bool} {b : Int × ByteArray × ByteArray × Int × (List S59) × Bool} {g : List ByteArray} {c : Int} {d : Int → Int} (hA : Ev A r) (hB : Ev B b) (hG : Ev G g) (hC : Ev C c) (hc : c = -1 ∨ ∃ j : Nat, c = (j : Int) ∧ j < xs.length) (hD : ∀ j : Nat, j < xs.length → Ev (fun k => D k j) (d j)) :
    Ev (fun k => (A k).bind fun t155 => (if t155 = true then (if K = 1 then ((B k).bind fun bt156 => (if v = a1 then (if n = 1 then (if bt156.2.2.2.2.2 = true then (some false) else ((G k).bind fun t165 => (some (decide ((t165.length : Int) < 3))))) else (some false)) else (some false))) else ((C k).bind fun t168 => (if t168 < 0 then (some false) else (if 0 ≤ t168 then (if t168 < (xs.length : Int) then (if K = 3 then (if u = ((rd_T42 xs t168).f3) then (some (decide ((((rd_T42 xs t168).f4).length : Int) < 8))) else (some false)) else (if K = 4 then ((D k t168).bind fun t171 => (some (decide (t171 ≥ 0)))) else (if K = 5 then ((D k t168).bind fun t172 => (some (decide (t172 ≥ 0)))) else (some true)))) else (none)) else (none))))) else (some false)))
      (if r = true then (if K = 1 then (if v = a1 then (if n = 1 then (if b.2.2.2.2.2 = true then false else decide ((g.length : Int) < 3)) else false) else false) else (if c < 0 then false else (if K = 3 then (if u = ((rd_T42 xs c).f3) then decide ((((rd_T42 xs c).f4).length : Int) < 8) else false) else (if K = 4 then decide (d c ≥ 0) else (if K = 5 then decide (d c ≥ 0) else true))))) else false) := by
  refine Ev.bind hA ?_
  refine ev_ite (fun h => ?_) (fun h => ev_now (by rw [if_neg h]))
  rw [if_pos h]
  refine ev_ite (fun h1 => ?_) (fun h1 => ?_)
  · rw [if_pos h1]
    refine Ev.bind hB ?_
    refine ev_ite (fun h2 => ?_) (fun h2 => ev_now (by rw [if_neg h2]))
    rw [if_pos h2]
    refine ev_ite (fun h3 => ?_) (fun h3 => ev_now (by rw [if_neg h3]))
    rw [if_pos h3]
    refine ev_ite (fun h4 => ev_now (by rw [if_pos h4])) (fun h4 => ?_)
    rw [if_neg h4]
    exact Ev.bind hG (Ev.now _)
  · rw [if_neg h1]
    refine Ev.bind hC ?_
    refine ev_ite (fun h2 => ev_now (by rw [if_pos h2])) (fun h2 => ?_)
    rw [if_neg h2]
    rcases hc with rfl | ⟨j, rfl, hj⟩
    · exact absurd (show (-1 : Int) < 0 by decide) h2
    simp only [if_pos (show 0 ≤ (j : Int) by omega), if_pos (show (j : Int) < (xs.length : Int) by omega)]
    refine ev_ite (fun h3 => ?_) (fun h3 => ?_)
    · rw [if_pos h3]
      exact ev_ite (fun h4 => ev_now (by rw [if_pos h4])) (fun h4 => ev_now (by rw [if_neg h4]))
    · rw [if_neg h3]
      refine ev_ite (fun h4 => ?_) (fun h4 => ?_)
      · rw [if_pos h4]
        exact Ev.bind (hD j hj) (Ev.now _)
      · rw [if_neg h4]
        refine ev_ite (fun h5 => ?_) (fun h5 => ev_now (by rw [if_neg h5]))
        rw [if_pos h5]
        exact Ev.bind (hD j hj) (Ev.now _)
theorem szRec_some (a b c d e : Int) (x y z : ByteArray) (hx : x.size ≤ 9223372036854775807) (hy : y.size ≤ 9223372036854775807) (hz : z.size ≤ 9223372036854775807) (m : Nat) (hm : m ≤ 1048576) :
    laws_szRec.f a b c d e x y z m = some (-1) ∨ ∃ r : Nat, laws_szRec.f a b c d e x y z m = some (r : Int) := by
  unfold laws_szRec.f
  by_cases h1 : x.size ≤ m
  case neg => left; rw [if_pos (by unfold wrap64; omega)]
  have e1 : wrap64 ((m : Int) - (x.size : Int)) = ((m - x.size : Nat) : Int) := by unfold wrap64; omega
  rw [e1, if_neg (by omega)]
  by_cases h2 : y.size ≤ m - x.size
  case neg => left; rw [if_pos (by unfold wrap64; omega)]
  have e2 : wrap64 (((m - x.size : Nat) : Int) - (y.size : Int)) = ((m - x.size - y.size : Nat) : Int) := by unfold wrap64; omega
  rw [e2, if_neg (by omega)]
  by_cases h3 : z.size ≤ m - x.size - y.size
  case neg => left; rw [if_pos (by unfold wrap64; omega)]
  have e3 : wrap64 (((m - x.size - y.size : Nat) : Int) - (z.size : Int)) = ((m - x.size - y.size - z.size : Nat) : Int) := by unfold wrap64; omega
  rw [e3, if_neg (by omega)]
  exact Or.inr ⟨_, rfl⟩
theorem FnExactFitting : laws_FnExactFitting.Pure := by
  rintro ⟨xs⟩ a1 ⟨K, v, u, n, f, us, na, te⟩ ⟨gx, gb⟩ _ ⟨_, _, _, _, _, g5, g6, g7⟩
  refine Ev.rounds (g := fun k => laws_FnExactFitting.f k xs a1 K v u n f us na te) ?_
  unfold laws_FnExactFitting.f
  rcases szState_ev xs gx (fun x hx => ⟨(gb x hx).2.1, (gb x hx).2.2.1, (gb x hx).2.2.2.2.1, fun m hm => ((gb x hx).2.2.2.2.2 m hm).2.2⟩) 1048576 (Nat.le_refl _) with ⟨hs, hz⟩ | hz
  case inr => refine Ev.bind hz ?_; simp only [if_pos (show (-1 : Int) < 0 by decide)]; exact Ev.now _
  have nn : ∀ n : Nat, ¬ ((n : Int) < 0) := fun n => by omega
  refine Ev.bind hz ?_
  simp only [if_neg (nn _)]
  rcases szRec_some K v u n f us na te g5 g6 g7 (1048576 - (xs.length + sumB xs)) (by omega) with hr | ⟨q, hr⟩
  · refine ev_bind1 hr ?_; simp only [if_pos (show (-1 : Int) < 0 by decide)]; exact Ev.now _
  refine ev_bind1 hr ?_
  simp only [if_neg (nn _)]
  have hxl : xs.length ≤ 1048576 := by omega
  have hm4 : ∀ x ∈ xs, x.f4.length ≤ 1048576 := fun x hx => by have := sumB_mem hx; omega
  have ht := toState_ev xs hxl hm4
  have hlen : (xs.map boxOf).length ≤ 1048576 := by rw [List.length_map]; exact hxl
  have hml := boxOf_len hm4
  have hE := eqState_ev (xs.map boxOf) hlen hml
  generalize xs.map boxOf = ys at ht hlen hml hE
  have hrange : findB v ys 0 = -1 ∨ ∃ j : Nat, findB v ys 0 = (j : Int) ∧ j < ys.length := (findB_in v ys 0).imp id (fun ⟨j, h, _, h2⟩ => ⟨j, h, by omega⟩)
  have hmj : ∀ j : Nat, j < ys.length → (rd_T42 ys (j : Int)).f4.length ≤ 1048576 := fun j hj => by
    have e : rd_T42 ys (j : Int) = ys[j] := by
      unfold rd_T42
      rw [Int.toNat_natCast, List.getD_eq_getElem?_getD, List.getElem?_eq_getElem hj]; rfl
    rw [e]
    exact hml _ (List.getElem_mem hj)
  have hS := fit K v u n a1 ys (spec_RecOk_ev K v u n f us na te g5 g6) (Ev.congr (fun k => rfl) (spec_BoxOf_l0 us na ys hlen hml ys 0 rfl (Nat.zero_le _)) : Ev (fun k => spec_BoxOf.f k ys us na) (boxAt us na ys))
    (Ev.congr (fun k => rfl) (spec_BoxesOf_l0 us ys hlen ys 0 [] rfl (Nat.zero_le _) (Nat.le_refl _)) : Ev (fun k => spec_BoxesOf.f k ys us) (boxesOf us ys)) (Ev.congr (fun k => rfl) (spec_l12Box_l0 v ys hlen ys 0 rfl (Nat.zero_le _)) : Ev (fun k => spec_l12Box.f k ys v) (findB v ys 0)) hrange
    (D := fun k j => spec_l12Mail.f k ((rd_T42 ys j).f0) ((rd_T42 ys j).f1) ((rd_T42 ys j).f2) ((rd_T42 ys j).f3) ((rd_T42 ys j).f4) u) (d := fun j => findM u ((rd_T42 ys j).f4) 0) (fun j hj => Ev.congr (fun k => rfl) (spec_l12Mail_l0 u _ _ _ _ _ (hmj j hj) _ 0 rfl (Nat.zero_le _)))
  have hI := fit K v u n a1 ys (impl_RecOk_ev K v u n f us na te g5 g6) (Ev.congr (fun k => rfl) (impl_BoxOf_l0 us na ys hlen hml ys 0 rfl (Nat.zero_le _)) : Ev (fun k => impl_BoxOf.f k ys us na) (boxAt us na ys))
    (Ev.congr (fun k => rfl) (impl_BoxesOf_l0 us ys hlen ys 0 [] rfl (Nat.zero_le _) (Nat.le_refl _)) : Ev (fun k => impl_BoxesOf.f k ys us) (boxesOf us ys)) (Ev.congr (fun k => rfl) (impl_boxWith_l0 v ys hlen ys 0 rfl (Nat.zero_le _)) : Ev (fun k => impl_boxWith.f k ys v) (findB v ys 0)) hrange
    (D := fun k j => impl_mailWith.f k ((rd_T42 ys j).f0) ((rd_T42 ys j).f1) ((rd_T42 ys j).f2) ((rd_T42 ys j).f3) ((rd_T42 ys j).f4) u) (d := fun j => findM u ((rd_T42 ys j).f4) 0) (fun j hj => Ev.congr (fun k => rfl) (impl_mailWith_l0 u _ (hmj j hj) _ 0 rfl (Nat.zero_le _)))
  have hS2 : Ev (fun k => spec_Fitting.f k ys a1 K v u n f us na te) _ := hS
  have hI2 : Ev (fun k => impl_Fitting.f k ys a1 K v u n f us na te) _ := hI
  refine Ev.bind ht ?_
  refine ev_bind1 (show laws_toRec.f K v u n f us na te = some _ from rfl) ?_
  refine Ev.bind hS2 (Ev.bind ht ?_)
  refine ev_bind1 (show laws_toRec.f K v u n f us na te = some _ from rfl) ?_
  refine Ev.bind hI2 ?_
  simp only [bne_self_eq_false, Bool.false_eq_true, if_false]
  refine Ev.bind ht (Ev.bind hE ?_)
  simp only [if_true]
  exact Ev.now _

end Go.Proofs.Ythfcpngomdhbpaa.Pure
