/- The program's CallOk answers what the reference's answers. Conditions: none beyond the statement's own. -/
import Derived.Test.YteblgnkfdkoapaaQFnExactCallOkPure0
import Derived.Test.YteblgnkfdkoapaaBase
namespace Go.Proofs.Yteblgnkfdkoapaa.Pure
open Go.RowKit Go.Proofs.Yteblgnkfdkoapaa.QFnExactCallOk Go.Proofs.YteblgnkfdkoapaaW.PrintWords Go.Proofs.YteblgnkfdkoapaaW.PrintLast Go.Proofs.YteblgnkfdkoapaaB Go.Proofs.YteblgnkfdkoapaaO
set_option linter.unusedVariables false
set_option linter.unusedSimpArgs false

theorem spec_in (a b c : Int) : spec_l01In.f a b c = some (decide (b ≤ a ∧ a ≤ c)) := by
  unfold spec_l01In.f
  by_cases h : a ≥ b
  · rw [if_pos h]; have : b ≤ a := h; simp [this]
  · rw [if_neg h]; have : ¬ b ≤ a := h; simp [this]

theorem impl_in_eq (a b c : Int) : impl_in.f a b c = some (decide (b ≤ a ∧ a ≤ c)) := by
  unfold impl_in.f
  by_cases h : a ≥ b
  · rw [if_pos h]; have : b ≤ a := h; simp [this]
  · rw [if_neg h]; have : ¬ b ≤ a := h; simp [this]


def letters : List UInt8 → Bool
  | [] => true
  | c :: l => if (c.toNat : Int) < 97 then false else if (c.toNat : Int) > 122 then false else letters l
def wordOk (s : ByteArray) : Bool := letters s.data.toList && decide (1 ≤ (s.size : Int) ∧ (s.size : Int) ≤ 8)

theorem spec_WordOk_l0 (s : ByteArray) (hs : s.size ≤ 9223372036854775807) :
    ∀ (l : List UInt8) (i : Nat), s.data.toList.drop i = l → i ≤ s.size → Ev (fun k => spec_WordOk.l0 k s i) (letters l && decide (1 ≤ (s.size : Int) ∧ (s.size : Int) ≤ 8))
  | [], i, h, hi => by
    have e := drop_end h (by rw [size_data]; exact hi)
    rw [size_data] at e
    exact Ev.step (fun k => by rw [spec_WordOk.l0, if_neg (by omega), spec_in]; rfl) (Ev.now _)
  | c :: l, i, h, hi => by
    have hlt := drop_lt h
    rw [size_data] at hlt
    have hb := bt_cons h
    by_cases h1 : (c.toNat : Int) < 97
    · exact Ev.step (fun k => by rw [spec_WordOk.l0, if_pos (by omega), if_pos (by omega), hb, if_pos h1]; simp only [letters, if_pos h1, Bool.false_and]) (Ev.now _)
    · by_cases h2 : (c.toNat : Int) > 122
      · exact Ev.step (fun k => by rw [spec_WordOk.l0, if_pos (by omega), if_pos (by omega), hb, if_neg h1, if_pos h2]; simp only [letters, if_neg h1, if_pos h2, Bool.false_and]) (Ev.now _)
      · have ih := spec_WordOk_l0 s hs l (i + 1) (drop_tail h) (by omega)
        have e : letters (c :: l) = letters l := by simp only [letters, if_neg h1, if_neg h2]
        rw [e]
        exact Ev.step (fun k => by rw [spec_WordOk.l0, if_pos (by omega), if_pos (by omega), hb, if_neg h1, if_neg h2, wrap_succ i (by omega)]) ih

theorem spec_WordOk_ev (s : ByteArray) (hs : s.size ≤ 9223372036854775807) : Ev (fun k => spec_WordOk.f k s) (wordOk s) :=
  Ev.congr (fun k => rfl) (spec_WordOk_l0 s hs _ 0 rfl (by omega))

theorem impl_WordOk_l0 (s : ByteArray) (hs : s.size ≤ 9223372036854775807) :
    ∀ (l : List UInt8) (i : Nat), s.data.toList.drop i = l → i ≤ s.size → Ev (fun k => impl_WordOk.l0 k s (s.size : Int) i) (letters l)
  | [], i, h, hi => by
    have e := drop_end h (by rw [size_data]; exact hi)
    rw [size_data] at e
    exact Ev.step (fun k => by rw [impl_WordOk.l0, if_neg (by omega)]; rfl) (Ev.now _)
  | c :: l, i, h, hi => by
    have hlt := drop_lt h
    rw [size_data] at hlt
    have hb := bt_cons h
    by_cases h1 : (c.toNat : Int) < 97
    · exact Ev.step (fun k => by rw [impl_WordOk.l0, if_pos (by omega), if_pos (by omega), if_pos (by omega), hb, if_pos h1]; simp only [letters, if_pos h1]) (Ev.now _)
    · by_cases h2 : (c.toNat : Int) > 122
      · exact Ev.step (fun k => by rw [impl_WordOk.l0, if_pos (by omega), if_pos (by omega), if_pos (by omega), hb, if_neg h1, if_pos h2]; simp only [letters, if_neg h1, if_pos h2]) (Ev.now _)
      · have ih := impl_WordOk_l0 s hs l (i + 1) (drop_tail h) (by omega)
        have e : letters (c :: l) = letters l := by simp only [letters, if_neg h1, if_neg h2]
        rw [e]
        exact Ev.step (fun k => by rw [impl_WordOk.l0, if_pos (by omega), if_pos (by omega), if_pos (by omega), hb, if_neg h1, if_neg h2, wrap_succ i (by omega)]) ih

theorem impl_WordOk_ev (s : ByteArray) (hs : s.size ≤ 9223372036854775807) : Ev (fun k => impl_WordOk.f k s) (wordOk s) := by
  unfold impl_WordOk.f
  simp only [impl_in_eq, Option.bind_some]
  by_cases h : 1 ≤ (s.size : Int) ∧ (s.size : Int) ≤ 8
  · simp only [h, and_self, decide_true, if_true, wordOk, Bool.and_true]
    exact impl_WordOk_l0 s hs _ 0 rfl (by omega)
  · simp only [wordOk, h, decide_false, Bool.and_false]
    exact Ev.now _

theorem szIntS_eq (xs : List Int) (hx : xs.length ≤ 9223372036854775807) (a : Nat) (ha : a ≤ 1048576) :
    (xs.length ≤ a ∧ laws_szIntS.f xs a = some ((a - xs.length : Nat) : Int)) ∨ laws_szIntS.f xs a = some (-1) := by
  unfold laws_szIntS.f
  by_cases h : xs.length ≤ a
  · left
    have ew : wrap64 ((a : Int) - (xs.length : Int)) = ((a - xs.length : Nat) : Int) := by unfold wrap64; omega
    exact ⟨h, by rw [ew, if_neg (by omega)]⟩
  · right
    rw [if_pos (by unfold wrap64; omega)]
theorem toIntS_l0 (xs : List Int) (hx : xs.length ≤ 1048576) :
    ∀ (l : List Int) (i : Nat), xs.drop i = l → i ≤ xs.length → Ev (fun k => laws_toIntS.l0 k xs ((xs.take i).map id ++ List.replicate (xs.length - i) 0) i) (xs.map id)
  | [], i, h, hi => by
    have e := drop_end h hi
    subst e
    refine Ev.step (fun k => by rw [laws_toIntS.l0, if_neg (by omega)]) ?_
    rw [fill_end]; exact Ev.now _
  | x :: l, i, h, hi => by
    have hlt := drop_lt h
    refine Ev.step (fun k => ?_) (toIntS_l0 xs hx l (i + 1) (drop_tail h) (by omega))
    rw [laws_toIntS.l0, if_pos (by omega), if_pos (by omega), fill_len _ _ _ hi, if_pos (by omega), rd_drop h, Int.toNat_natCast, wrap_succ i (by omega)]
    rw [← fill_set xs id 0 h]
    rfl
theorem toIntS_ev (xs : List Int) (hx : xs.length ≤ 1048576) : Ev (fun k => laws_toIntS.f k xs) xs := by
  have h := toIntS_l0 xs hx xs 0 rfl (by omega)
  rw [List.map_id xs] at h
  refine Ev.congr (fun k => ?_) h
  rw [laws_toIntS.f, if_pos (by omega), Int.toNat_natCast, if_pos (by omega)]
  simp
theorem eqIntS_l0 (xs ys : List Int) (hx : xs.length ≤ 9223372036854775807) (hl : xs.length = ys.length) :
    ∀ (l m : List Int) (i : Nat), xs.drop i = l → ys.drop i = m → i ≤ xs.length → Ev (fun k => laws_eqIntS.l0 k xs ys i) (decide (l = m))
  | [], m, i, h, h2, hi => by
    have e := drop_end h hi
    have e2 : m = [] := by rw [← h2]; exact List.drop_of_length_le (by omega)
    subst e2
    exact Ev.step (fun k => by rw [laws_eqIntS.l0, if_neg (by omega)]) (by simpa using Ev.now true)
  | x :: l, [], i, h, h2, hi => by
    have hlt := drop_lt h
    have := drop_end h2 (by omega)
    omega
  | x :: l, y :: m, i, h, h2, hi => by
    have hlt := drop_lt h
    by_cases hxy : x = y
    · subst hxy
      have ih := eqIntS_l0 xs ys hx hl l m (i + 1) (drop_tail h) (drop_tail h2) (by omega)
      have e : decide (x :: l = x :: m) = decide (l = m) := by simp
      rw [e]
      refine Ev.step (fun k => ?_) ih
      rw [laws_eqIntS.l0, if_pos (by omega), if_pos (by omega), if_pos (by omega), rd_drop h, rd_drop h2, if_pos rfl, wrap_succ i (by omega)]
    · have e : decide (x :: l = y :: m) = false := by simp [hxy]
      rw [e]
      refine Ev.step (fun k => ?_) (Ev.now _)
      rw [laws_eqIntS.l0, if_pos (by omega), if_pos (by omega), if_pos (by omega), rd_drop h, rd_drop h2, if_neg hxy]
theorem eqIntS_ev (xs ys : List Int) (hx : xs.length ≤ 9223372036854775807) (hy : ys.length ≤ 9223372036854775807) : Ev (fun k => laws_eqIntS.f k xs ys) (decide (xs = ys)) := by
  by_cases hl : xs.length = ys.length
  · refine Ev.congr (fun k => ?_) (eqIntS_l0 xs ys hx hl xs ys 0 rfl rfl (by omega))
    rw [laws_eqIntS.f, if_pos (by omega)]; rfl
  · have e : decide (xs = ys) = false := decide_eq_false (fun h => hl (by rw [h]))
    rw [e]
    refine Ev.congr (fun k => ?_) (Ev.now _)
    rw [laws_eqIntS.f, if_neg (by omega)]

theorem ev_if {α : Type} {c : Prop} [Decidable c] {f g : Nat → Option α} {a b : α} (h1 : Ev f a) (h2 : Ev g b) : Ev (fun k => if c then f k else g k) (if c then a else b) := by
  by_cases h : c
  · simp only [if_pos h]; exact h1
  · simp only [if_neg h]; exact h2
def inU (x : Int) : Bool := decide (1 ≤ x ∧ x ≤ 9999)
/-- Uids that are right, behind one. -/
def okU : Option Int → List Int → Bool
  | _, [] => true
  | none, x :: l => if inU x = true then okU (some x) l else false
  | some y, x :: l => if inU x = true then (if y ≥ x then false else okU (some x) l) else false
section
variable (kd : Int) (us bx tw : ByteArray) (uid : Int) (ux : List Int) (fl : Int) (tx : ByteArray)
def tailB : Bool := if decide (0 ≤ fl ∧ fl ≤ 7) = true then (if (tx.size : Int) ≤ 100 then decide ((ux.length : Int) ≤ 8) else false) else false
def restB : Bool := okU none ux && tailB ux fl tx
theorem spec_l0_some (hx : ux.length ≤ 1048576) : ∀ (l : List Int) (y : Int) (i : Nat), ux.drop i = y :: l →
    Ev (fun k => spec_CallOk.l0 k ((i + 1 : Nat) : Int) kd us bx tw uid ux fl tx) (okU (some y) l && tailB ux fl tx)
  | [], y, i, h => by
    have hlt := drop_lt h
    have e := drop_end (drop_tail h) (by omega)
    refine Ev.step (f := fun k => if decide (0 ≤ fl ∧ fl ≤ 7) = true then (if (tx.size : Int) ≤ 100 then (some (decide ((ux.length : Int) ≤ 8))) else some false) else some false) (fun k => by rw [spec_CallOk.l0, if_neg (by omega), spec_in]; rfl) ?_
    have et : (okU (some y) [] && tailB ux fl tx) = tailB ux fl tx := by simp [okU]
    rw [et]
    unfold tailB
    exact ev_if (ev_if (Ev.now _) (Ev.now _)) (Ev.now _)
  | x :: l, y, i, h => by
    have h2 := drop_tail h
    have hlt := drop_lt h2
    have ew : wrap64 (((i + 1 : Nat) : Int) - 1) = (i : Int) := by unfold wrap64; omega
    refine Ev.step (f := fun k => if inU x = true then (if y ≥ x then some false else spec_CallOk.l0 k ((i + 1 + 1 : Nat) : Int) kd us bx tw uid ux fl tx) else some false) (fun k => by
      rw [spec_CallOk.l0, if_pos (by omega), if_pos (by omega), rd_drop h2, spec_in, ew, rd_drop h, wrap_succ (i + 1) (by omega), Option.bind_some, if_pos (show ((i + 1 : Nat) : Int) > 0 by omega), if_pos (show (0 : Int) ≤ (i : Int) by omega), if_pos (show (i : Int) < (ux.length : Int) by omega)]; rfl) ?_
    have ih := spec_l0_some hx l x (i + 1) h2
    refine ev_ite (fun q => ?_) (fun q => ?_)
    · refine ev_ite (fun q2 => ?_) (fun q2 => ?_)
      · simp only [okU, if_pos q, if_pos q2, Bool.false_and]; exact Ev.now _
      · simp only [okU, if_pos q, if_neg q2]; exact ih
    · simp only [okU, if_neg q, Bool.false_and]; exact Ev.now _
theorem spec_l0 (hx : ux.length ≤ 1048576) : Ev (fun k => spec_CallOk.l0 k 0 kd us bx tw uid ux fl tx) (restB ux fl tx) := by
  unfold restB
  cases hu : ux with
  | nil =>
    refine Ev.step (f := fun k => if decide (0 ≤ fl ∧ fl ≤ 7) = true then (if (tx.size : Int) ≤ 100 then (some (decide (((([] : List Int)).length : Int) ≤ 8))) else some false) else some false) (fun k => by rw [spec_CallOk.l0, if_neg (by simp), spec_in]; rfl) ?_
    simp only [okU, Bool.true_and]
    unfold tailB
    exact ev_if (ev_if (Ev.now _) (Ev.now _)) (Ev.now _)
  | cons x l =>
    have hd : ux.drop 0 = x :: l := hu
    have hlt := drop_lt hd
    rw [← hu]
    refine Ev.step (f := fun k => if inU x = true then spec_CallOk.l0 k ((0 + 1 : Nat) : Int) kd us bx tw uid ux fl tx else some false) (fun k => by
      rw [spec_CallOk.l0, if_pos (by omega), if_pos (by omega), show (0 : Int) = ((0 : Nat) : Int) from rfl, rd_drop hd, spec_in, Option.bind_some, if_neg (show ¬ (((0 : Nat) : Int) > ((0 : Nat) : Int)) by omega), wrap_succ 0 (by omega)]; rfl) ?_
    refine ev_ite (fun q => ?_) (fun q => ?_)
    · rw [hu]; simp only [okU, if_pos q]; rw [← hu]
      exact spec_l0_some kd us bx tw uid ux fl tx hx l x 0 hd
    · rw [hu]; simp only [okU, if_neg q, Bool.false_and]; exact Ev.now _
def J1B (c6 c4 bad : Bool) : Bool := if bad = true then false else (if c6 = true then (inU uid && restB ux fl tx) else (if c4 = true then (inU uid && restB ux fl tx) else restB ux fl tx))
theorem spec_j2 (hx : ux.length ≤ 1048576) (c r : Bool) (hr : r = (!c && restB ux fl tx)) : Ev (fun k => spec_CallOk.j2 k c kd us bx tw uid ux fl tx) r := by
  subst hr
  cases c with
  | true => exact Ev.step (fun k => by rw [spec_CallOk.j2, if_pos rfl]; rfl) (Ev.now _)
  | false => exact Ev.step (fun k => by rw [spec_CallOk.j2, if_neg (by decide)]) (spec_l0 kd us bx tw uid ux fl tx hx)
theorem spec_j1 (hx : ux.length ≤ 1048576) (c6 c4 bad : Bool) : Ev (fun k => spec_CallOk.j1 k c6 c4 bad kd us bx tw uid ux fl tx) (J1B uid ux fl tx c6 c4 bad) := by
  refine Ev.step (f := fun k => if bad = true then some false else (if c6 = true then spec_CallOk.j2 k (!inU uid) kd us bx tw uid ux fl tx else (if c4 = true then spec_CallOk.j2 k (!inU uid) kd us bx tw uid ux fl tx else spec_CallOk.j2 k false kd us bx tw uid ux fl tx))) (fun k => by rw [spec_CallOk.j1, spec_in]; rfl) ?_
  unfold J1B
  exact ev_if (Ev.now _) (ev_if (spec_j2 kd us bx tw uid ux fl tx hx _ _ (by simp)) (ev_if (spec_j2 kd us bx tw uid ux fl tx hx _ _ (by simp)) (spec_j2 kd us bx tw uid ux fl tx hx _ _ (by simp))))
def KB (c6 c4 : Bool) : Bool := if kd = 5 then J1B uid ux fl tx c6 c4 false else J1B uid ux fl tx c6 c4 (decide ((ux.length : Int) > 0))
def j0B (c6 c3 c4 : Bool) : Bool :=
  if c6 = true then (if wordOk tw = true then (if c3 = true then KB kd uid ux fl tx c6 c4 else (if c4 = true then (if tx.toList = ([] : List UInt8) then KB kd uid ux fl tx c6 c4 else J1B uid ux fl tx c6 c4 true) else (if fl = 0 then (if tx.toList = ([] : List UInt8) then KB kd uid ux fl tx c6 c4 else J1B uid ux fl tx c6 c4 true) else J1B uid ux fl tx c6 c4 true))) else J1B uid ux fl tx c6 c4 true)
  else (if tw.toList = ([] : List UInt8) then (if c4 = true then (if c3 = true then KB kd uid ux fl tx c6 c4 else (if tx.toList = ([] : List UInt8) then KB kd uid ux fl tx c6 c4 else J1B uid ux fl tx c6 c4 true)) else (if uid = 0 then (if c3 = true then KB kd uid ux fl tx c6 c4 else (if fl = 0 then (if tx.toList = ([] : List UInt8) then KB kd uid ux fl tx c6 c4 else J1B uid ux fl tx c6 c4 true) else J1B uid ux fl tx c6 c4 true)) else J1B uid ux fl tx c6 c4 true)) else J1B uid ux fl tx c6 c4 true)
theorem spec_j0 (hx : ux.length ≤ 1048576) (ht : tw.size ≤ 9223372036854775807) (c r : Bool) (hr : r = (!c && j0B kd tw uid ux fl tx (kd == 6) (kd == 3) (kd == 4))) : Ev (fun k => spec_CallOk.j0 k c kd us bx tw uid ux fl tx) r := by
  subst hr
  cases c with
  | true => exact Ev.step (fun k => by rw [spec_CallOk.j0, if_pos rfl]; rfl) (Ev.now _)
  | false =>
    simp only [Bool.not_false, Bool.true_and]
    have J := spec_j1 kd us bx tw uid ux fl tx hx
    have W := spec_WordOk_ev tw ht
    refine Ev.step (fun k => by rw [spec_CallOk.j0, if_neg (by decide), Option.bind_some, Option.bind_some, Option.bind_some]) ?_
    unfold j0B KB
    refine ev_if (Ev.bind W ?_) ?_
    all_goals (repeat' (first | exact J _ _ _ | refine ev_if ?_ ?_))
def specB : Bool := if decide (1 ≤ kd ∧ kd ≤ 6) = true then (if wordOk us = true then (wordOk bx && j0B kd tw uid ux fl tx (kd == 6) (kd == 3) (kd == 4)) else false) else false
theorem spec_CallOk_ev (hx : ux.length ≤ 1048576) (hu : us.size ≤ 9223372036854775807) (hb : bx.size ≤ 9223372036854775807) (ht : tw.size ≤ 9223372036854775807) : Ev (fun k => spec_CallOk.f k kd us bx tw uid ux fl tx) (specB kd us bx tw uid ux fl tx) := by
  have J := spec_j0 kd us bx tw uid ux fl tx hx ht
  unfold spec_CallOk.f specB
  simp only [spec_in, Option.bind_some]
  refine ev_if (Ev.bind (spec_WordOk_ev us hu) (ev_if (Ev.bind (spec_WordOk_ev bx hb) (J _ _ (by simp))) (J _ _ (by simp)))) (J _ _ (by simp))
def endB : Bool := if uid = 0 then (if tw.toList = ([] : List UInt8) then (if fl = 0 then (tx.toList == ([] : List UInt8)) else false) else false) else false
theorem impl_l0_some (hx : ux.length ≤ 1048576) : ∀ (l : List Int) (y : Int) (i : Nat) (g : Bool), ux.drop i = y :: l →
    Ev (fun k => impl_CallOk.l0 k g uid tw ux fl tx ux (ux.length : Int) ((i + 1 : Nat) : Int)) (if (g && okU (some y) l) = true then endB tw uid fl tx else false)
  | [], y, i, g, h => by
    have hlt := drop_lt h
    have e := drop_end (drop_tail h) (by omega)
    refine Ev.step (f := fun k => if g = true then (if uid = 0 then (if tw.toList = ([] : List UInt8) then (if fl = 0 then (some (tx.toList == ([] : List UInt8))) else (some false)) else (some false)) else (some false)) else (some false)) (fun k => by rw [impl_CallOk.l0, if_neg (by omega)]) ?_
    simp only [okU, Bool.and_true]
    unfold endB
    exact ev_if (ev_if (ev_if (ev_if (Ev.now _) (Ev.now _)) (Ev.now _)) (Ev.now _)) (Ev.now _)
  | x :: l, y, i, g, h => by
    have h2 := drop_tail h
    have hlt := drop_lt h2
    have ew : wrap64 (((i + 1 : Nat) : Int) - 1) = (i : Int) := by unfold wrap64; omega
    have ih := fun g => impl_l0_some hx l x (i + 1) g h2
    refine Ev.step (f := fun k => if g = true then (if inU x = true then impl_CallOk.l0 k (decide (y < x)) uid tw ux fl tx ux (ux.length : Int) ((i + 1 + 1 : Nat) : Int) else impl_CallOk.l0 k false uid tw ux fl tx ux (ux.length : Int) ((i + 1 + 1 : Nat) : Int)) else impl_CallOk.l0 k false uid tw ux fl tx ux (ux.length : Int) ((i + 1 + 1 : Nat) : Int)) (fun k => by
      rw [impl_CallOk.l0, if_pos (by omega), if_pos (by omega), if_pos (by omega), rd_drop h2, impl_in_eq, ew, rd_drop h, wrap_succ (i + 1) (by omega), Option.bind_some, if_neg (show ¬ (((i + 1 : Nat) : Int) = 0) by omega), if_pos (show (0 : Int) ≤ (i : Int) by omega), if_pos (show (i : Int) < (ux.length : Int) by omega)]; rfl) ?_
    refine ev_ite (fun q => ?_) (fun q => ?_)
    · subst q
      refine ev_ite (fun q2 => ?_) (fun q2 => ?_)
      · have := ih (decide (y < x))
        have e : (true && okU (some y) (x :: l)) = (decide (y < x) && okU (some x) l) := by
          simp only [okU, if_pos q2, Bool.true_and]
          by_cases c : y < x
          · rw [if_neg (by omega), decide_eq_true c, Bool.true_and]
          · rw [if_pos (by omega), decide_eq_false c, Bool.false_and]
        rw [e]; exact this
      · have := ih false
        simp only [okU, if_neg q2, Bool.and_false]
        simpa using this
    · have hg : g = false := by simpa using q
      subst hg
      have := ih false
      simpa using this
theorem impl_l0 (hx : ux.length ≤ 1048576) (g : Bool) : Ev (fun k => impl_CallOk.l0 k g uid tw ux fl tx ux (ux.length : Int) 0) (if (g && okU none ux) = true then endB tw uid fl tx else false) := by
  cases hu : ux with
  | nil =>
    refine Ev.step (f := fun k => if g = true then (if uid = 0 then (if tw.toList = ([] : List UInt8) then (if fl = 0 then (some (tx.toList == ([] : List UInt8))) else (some false)) else (some false)) else (some false)) else (some false)) (fun k => by rw [impl_CallOk.l0, if_neg (by simp)]) ?_
    simp only [okU, Bool.and_true]
    unfold endB
    exact ev_if (ev_if (ev_if (ev_if (Ev.now _) (Ev.now _)) (Ev.now _)) (Ev.now _)) (Ev.now _)
  | cons x l =>
    have hd : ux.drop 0 = x :: l := hu
    have hlt := drop_lt hd
    rw [← hu]
    have ih := fun g => impl_l0_some tw uid ux fl tx hx l x 0 g hd
    refine Ev.step (f := fun k => if g = true then (if inU x = true then impl_CallOk.l0 k true uid tw ux fl tx ux (ux.length : Int) ((0 + 1 : Nat) : Int) else impl_CallOk.l0 k false uid tw ux fl tx ux (ux.length : Int) ((0 + 1 : Nat) : Int)) else impl_CallOk.l0 k false uid tw ux fl tx ux (ux.length : Int) ((0 + 1 : Nat) : Int)) (fun k => by
      rw [impl_CallOk.l0, if_pos (by omega), if_pos (by omega), if_pos (by omega), show (0 : Int) = ((0 : Nat) : Int) from rfl, rd_drop hd, impl_in_eq, wrap_succ 0 (by omega), Option.bind_some, if_pos rfl]; rfl) ?_
    refine ev_ite (fun q => ?_) (fun q => ?_)
    · subst q
      refine ev_ite (fun q2 => ?_) (fun q2 => ?_)
      · have := ih true
        have e : (true && okU none ux) = (true && okU (some x) l) := by rw [hu]; simp only [okU, if_pos q2]
        rw [e]; exact this
      · have := ih false
        have e : okU none ux = false := by rw [hu]; simp only [okU, if_neg q2]
        rw [e]
        simpa using this
    · have hg : g = false := by simpa using q
      subst hg
      have := ih false
      simpa using this
def end1 : Bool := if (ux.length : Int) = 0 then (if fl = 0 then (tx.toList == ([] : List UInt8)) else false) else false
def j1I (c : Bool) : Bool :=
  if c = true then (if uid = 0 then (if tw.toList = ([] : List UInt8) then end1 ux fl tx else false) else false)
  else (if kd = 3 then (if (tx.size : Int) ≤ 100 then (if decide (0 ≤ fl ∧ fl ≤ 7) = true then (if uid = 0 then (if tw.toList = ([] : List UInt8) then (if (ux.length : Int) = 0 then true else false) else false) else false) else false) else false)
  else (if kd = 4 then (if inU uid = true then (if decide (0 ≤ fl ∧ fl ≤ 7) = true then (if tw.toList = ([] : List UInt8) then (if (ux.length : Int) = 0 then (tx.toList == ([] : List UInt8)) else false) else false) else false) else false)
  else (if kd = 5 then (if (decide ((ux.length : Int) ≤ 8) && okU none ux) = true then endB tw uid fl tx else false)
  else (if kd = 6 then (if inU uid = true then (if wordOk tw = true then end1 ux fl tx else false) else false) else false))))
theorem impl_j1 (hx : ux.length ≤ 1048576) (ht : tw.size ≤ 9223372036854775807) (c : Bool) : Ev (fun k => impl_CallOk.j1 k true uid tw ux fl tx kd c) (j1I kd tw uid ux fl tx c) := by
  refine Ev.step (f := fun k => _) (fun k => by rw [impl_CallOk.j1]) ?_
  simp only [impl_in_eq, Option.bind_some, if_true]
  unfold j1I end1
  refine ev_if (ev_if (ev_if (ev_if (ev_if (Ev.now _) (Ev.now _)) (Ev.now _)) (Ev.now _)) (Ev.now _)) ?_
  refine ev_if (ev_if (ev_if (ev_if (ev_if (ev_if (Ev.now _) (Ev.now _)) (Ev.now _)) (Ev.now _)) (Ev.now _)) (Ev.now _)) ?_
  refine ev_if (ev_if (ev_if (ev_if (ev_if (Ev.now _) (Ev.now _)) (Ev.now _)) (Ev.now _)) (Ev.now _)) ?_
  refine ev_if (impl_l0 tw uid ux fl tx hx _) ?_
  exact ev_if (ev_if (Ev.bind (impl_WordOk_ev tw ht) (ev_if (ev_if (ev_if (Ev.now _) (Ev.now _)) (Ev.now _)) (Ev.now _))) (Ev.now _)) (Ev.now _)
def implB : Bool := if wordOk us = true then (wordOk bx && (if kd = 1 then j1I kd tw uid ux fl tx (kd == 1) else j1I kd tw uid ux fl tx (kd == 2))) else false
theorem impl_j0 (hx : ux.length ≤ 1048576) (ht : tw.size ≤ 9223372036854775807) (c r : Bool) (hr : r = (!c && (if kd = 1 then j1I kd tw uid ux fl tx (kd == 1) else j1I kd tw uid ux fl tx (kd == 2)))) : Ev (fun k => impl_CallOk.j0 k c kd us bx tw uid ux fl tx) r := by
  subst hr
  cases c with
  | true => exact Ev.step (fun k => by rw [impl_CallOk.j0, if_pos rfl]; rfl) (Ev.now _)
  | false =>
    simp only [Bool.not_false, Bool.true_and]
    refine Ev.step (fun k => by rw [impl_CallOk.j0, if_neg (by decide)]) ?_
    exact ev_if (impl_j1 kd tw uid ux fl tx hx ht _) (impl_j1 kd tw uid ux fl tx hx ht _)
theorem impl_CallOk_ev (hx : ux.length ≤ 1048576) (hu : us.size ≤ 9223372036854775807) (hb : bx.size ≤ 9223372036854775807) (ht : tw.size ≤ 9223372036854775807) : Ev (fun k => impl_CallOk.f k kd us bx tw uid ux fl tx) (implB kd us bx tw uid ux fl tx) := by
  have J := impl_j0 kd us bx tw uid ux fl tx hx ht
  unfold impl_CallOk.f implB
  refine Ev.bind (impl_WordOk_ev us hu) (ev_if (Ev.bind (impl_WordOk_ev bx hb) (J _ _ (by simp))) (J _ _ (by simp)))
theorem okU_nil (h : (ux.length : Int) = 0) : okU none ux = true := by
  have : ux = [] := List.eq_nil_of_length_eq_zero (by omega)
  rw [this]; rfl
theorem tl_nil (x : ByteArray) (h : x.toList = ([] : List UInt8)) : (x.size : Int) ≤ 100 := by
  have e := size_data x
  rw [← list_data, h] at e
  have e2 : (0 : Nat) = x.size := e
  omega
theorem callOk_eq : implB kd us bx tw uid ux fl tx = specB kd us bx tw uid ux fl tx := by
  have o := okU_nil ux
  have q := tl_nil tx
  unfold implB specB
  by_cases w1 : wordOk us = true
  case neg => simp [w1]
  by_cases w2 : wordOk bx = true
  case neg => simp [w1, w2]
  simp only [w1, w2, if_true, Bool.true_and]
  unfold j1I j0B KB J1B restB tailB end1 endB
  generalize okU none ux = b1 at *
  generalize wordOk tw = b5
  generalize inU uid = b6
  have hl : (0 : Int) ≤ (ux.length : Int) := by omega
  generalize (ux.length : Int) = n at *
  generalize (tx.size : Int) = m at *
  have g : kd = 1 ∨ kd = 2 ∨ kd = 3 ∨ kd = 4 ∨ kd = 5 ∨ kd = 6 ∨ ¬ (1 ≤ kd ∧ kd ≤ 6) := by omega
  rcases g with rfl | rfl | rfl | rfl | rfl | rfl | g
  · simp; grind
  · simp; grind
  · simp; grind
  · simp; grind
  · simp; grind
  · simp; grind
  · have g1 : kd ≠ 1 := by omega
    have g2 : kd ≠ 2 := by omega
    have g3 : kd ≠ 3 := by omega
    have g4 : kd ≠ 4 := by omega
    have g5 : kd ≠ 5 := by omega
    have g6 : kd ≠ 6 := by omega
    simp [g, g1, g2, g3, g4, g5, g6]
end
theorem szCall_eq (kd : Int) (us bx tw : ByteArray) (uid : Int) (ux : List Int) (fl : Int) (tx : ByteArray) (h1 : us.size ≤ 9223372036854775807) (h2 : bx.size ≤ 9223372036854775807) (h3 : tw.size ≤ 9223372036854775807) (h4 : ux.length ≤ 9223372036854775807) (h5 : tx.size ≤ 9223372036854775807) (a : Nat) (ha : a ≤ 1048576) :
    (ux.length ≤ a ∧ us.size ≤ a ∧ bx.size ≤ a ∧ tw.size ≤ a ∧ ∃ r : Int, 0 ≤ r ∧ laws_szCall.f kd us bx tw uid ux fl tx a = some r) ∨ laws_szCall.f kd us bx tw uid ux fl tx a = some (-1) := by
  unfold laws_szCall.f
  by_cases q1 : us.size ≤ a
  case neg => right; rw [if_pos (by unfold wrap64; omega)]
  have e1 : wrap64 ((a : Int) - (us.size : Int)) = ((a - us.size : Nat) : Int) := by unfold wrap64; omega
  rw [e1, if_neg (by omega)]
  by_cases q2 : bx.size ≤ a - us.size
  case neg => right; rw [if_pos (by unfold wrap64; omega)]
  have e2 : wrap64 (((a - us.size : Nat) : Int) - (bx.size : Int)) = ((a - us.size - bx.size : Nat) : Int) := by unfold wrap64; omega
  rw [e2, if_neg (by omega)]
  by_cases q3 : tw.size ≤ a - us.size - bx.size
  case neg => right; rw [if_pos (by unfold wrap64; omega)]
  have e3 : wrap64 (((a - us.size - bx.size : Nat) : Int) - (tw.size : Int)) = ((a - us.size - bx.size - tw.size : Nat) : Int) := by unfold wrap64; omega
  rw [e3, if_neg (by omega)]
  rcases szIntS_eq ux h4 (a - us.size - bx.size - tw.size) (by omega) with ⟨q4, e4⟩ | e4
  case inr => right; rw [e4, Option.bind_some, if_pos (by decide)]
  rw [e4, Option.bind_some, if_neg (by omega)]
  by_cases q5 : tx.size ≤ a - us.size - bx.size - tw.size - ux.length
  case neg => right; rw [if_pos (by unfold wrap64; omega)]
  have e5 : wrap64 (((a - us.size - bx.size - tw.size - ux.length : Nat) : Int) - (tx.size : Int)) = ((a - us.size - bx.size - tw.size - ux.length - tx.size : Nat) : Int) := by unfold wrap64; omega
  left
  exact ⟨by omega, by omega, by omega, by omega, ((a - us.size - bx.size - tw.size - ux.length - tx.size : Nat) : Int), by omega, by rw [e5, if_neg (by omega)]⟩
theorem eqCall_ev (kd : Int) (us bx tw : ByteArray) (uid : Int) (ux : List Int) (fl : Int) (tx : ByteArray) (h4 : ux.length ≤ 9223372036854775807) : Ev (fun k => laws_eqCall.f k kd us bx tw uid ux fl tx kd us bx tw uid ux fl tx) true := by
  unfold laws_eqCall.f
  simp only [if_true]
  refine Ev.bind (eqIntS_ev ux ux h4 h4) ?_
  simp only [decide_true, if_true]
  exact Ev.now _
theorem FnExactCallOk : laws_FnExactCallOk.Pure := by
  intro x0 ⟨h0, h1, h2, h3, h4, ⟨h5, _⟩, h6, h7⟩
  refine Ev.rounds (g := fun k => laws_FnExactCallOk.f k x0.f0 x0.f1 x0.f2 x0.f3 x0.f4 x0.f5 x0.f6 x0.f7) ?_
  unfold laws_FnExactCallOk.f
  rcases szCall_eq x0.f0 x0.f1 x0.f2 x0.f3 x0.f4 x0.f5 x0.f6 x0.f7 h1 h2 h3 h5 h7 1048576 (by omega) with ⟨l1, l2, l3, l4, r, hr, hz⟩ | hz
  · have hz' : laws_szCall.f x0.f0 x0.f1 x0.f2 x0.f3 x0.f4 x0.f5 x0.f6 x0.f7 1048576 = some r := hz
    simp only [hz', Option.bind_some, if_neg (show ¬ (r < 0) by omega)]
    have ht : Ev (fun k => laws_toCall.f k x0.f0 x0.f1 x0.f2 x0.f3 x0.f4 x0.f5 x0.f6 x0.f7) (x0.f0, x0.f1, x0.f2, x0.f3, x0.f4, x0.f5, x0.f6, x0.f7) := by
      unfold laws_toCall.f
      exact Ev.bind (toIntS_ev x0.f5 l1) (Ev.now _)
    refine Ev.bind ht ?_
    refine Ev.bind (spec_CallOk_ev x0.f0 x0.f1 x0.f2 x0.f3 x0.f4 x0.f5 x0.f6 x0.f7 l1 h1 h2 h3) ?_
    refine Ev.bind ht ?_
    refine Ev.bind (impl_CallOk_ev x0.f0 x0.f1 x0.f2 x0.f3 x0.f4 x0.f5 x0.f6 x0.f7 l1 h1 h2 h3) ?_
    simp only [callOk_eq, bne_self_eq_false, if_neg (show ¬ (false = true) by decide)]
    refine Ev.bind ht ?_
    refine Ev.bind (eqCall_ev x0.f0 x0.f1 x0.f2 x0.f3 x0.f4 x0.f5 x0.f6 x0.f7 h5) ?_
    simp only [if_true]
    exact Ev.now _
  · have hz' : laws_szCall.f x0.f0 x0.f1 x0.f2 x0.f3 x0.f4 x0.f5 x0.f6 x0.f7 1048576 = some (-1) := hz
    simp only [hz', Option.bind_some, if_pos (show (-1 : Int) < 0 by decide)]
    exact Ev.now _

end Go.Proofs.Yteblgnkfdkoapaa.Pure
