/- The program's SizesOf answers what the reference's answers. Conditions: none beyond the statement's own. -/
import Derived.Test.YtdclbjfpkhljeabQFnExactSizesOfPure0
import Derived.Test.YtdclbjfpkhljeabBase
namespace Go.Proofs.Ytdclbjfpkhljeab.Pure
open Go.RowKit Go.Proofs.Ytdclbjfpkhljeab.QFnExactSizesOf Go.Proofs.YtdclbjfpkhljeabW.PrintWords Go.Proofs.YtdclbjfpkhljeabW.PrintLast Go.Proofs.YtdclbjfpkhljeabB Go.Proofs.YtdclbjfpkhljeabO
set_option linter.unusedVariables false
set_option linter.unusedSimpArgs false

/-- Mails with their texts' lengths. -/
def sumM : List S77 → Nat
  | [] => 0
  | x :: l => x.f2.size + sumM l
def mailOf (x : S77) : S58 := ⟨x.f0, x.f1, x.f2⟩
theorem rdT_drop1 {xs : List S77} {i : Nat} {x : S77} {l : List S77} (h : xs.drop i = x :: l) : rd_T77 xs (i : Int) = x := drop_getD _ h
theorem rdT_drop2 {xs : List S58} {i : Nat} {x : S58} {l : List S58} (h : xs.drop i = x :: l) : rd_T58 xs (i : Int) = x := drop_getD _ h

theorem szMailS_l0 (xs : List S77) (hx : xs.length ≤ 9223372036854775807) (hs : ∀ x ∈ xs, x.f2.size ≤ 9223372036854775807) :
    ∀ (l : List S77) (i : Nat) (a : Nat), xs.drop i = l → i ≤ xs.length → a ≤ 1048576 →
      (sumM l ≤ a ∧ Ev (fun k => laws_szMailS.l0 k xs a i) ((a - sumM l : Nat) : Int)) ∨ Ev (fun k => laws_szMailS.l0 k xs a i) (-1)
  | [], i, a, h, hi, ha => by
    left
    have e := drop_end h hi
    exact ⟨Nat.zero_le _, Ev.step (fun k => by rw [laws_szMailS.l0, if_neg (by omega)]; rfl) (Ev.now _)⟩
  | x :: l, i, a, h, hi, ha => by
    have hlt := drop_lt h
    have hz : x.f2.size ≤ 9223372036854775807 := hs x (List.mem_of_mem_drop (i := i) (by rw [h]; exact List.mem_cons_self))
    have e := rdT_drop1 h
    by_cases hb : x.f2.size ≤ a
    · have ew : wrap64 ((a : Int) - (x.f2.size : Int)) = ((a - x.f2.size : Nat) : Int) := by unfold wrap64; omega
      have hstep : ∀ k, laws_szMailS.l0 (k + 1) xs a i = laws_szMailS.l0 k xs ((a - x.f2.size : Nat) : Int) ((i + 1 : Nat) : Int) := fun k => by
        rw [laws_szMailS.l0, if_pos (by omega), if_pos (by omega), e, laws_szMail.f, ew, if_neg (by omega), Option.bind_some, if_neg (by omega), wrap_succ i (by omega)]
      rcases szMailS_l0 xs hx hs l (i + 1) (a - x.f2.size) (drop_tail h) (by omega) (by omega) with ⟨h1, h2⟩ | h2
      · left
        refine ⟨by simp only [sumM]; omega, Ev.step hstep ?_⟩
        have e3 : a - sumM (x :: l) = a - x.f2.size - sumM l := by simp only [sumM]; omega
        rw [e3]; exact h2
      · right; exact Ev.step hstep h2
    · right
      refine Ev.step (fun k => ?_) (Ev.now _)
      rw [laws_szMailS.l0, if_pos (by omega), if_pos (by omega), e, laws_szMail.f, if_pos (by unfold wrap64; omega), Option.bind_some, if_pos (by decide)]

theorem szMailS_ev (xs : List S77) (hx : xs.length ≤ 9223372036854775807) (hs : ∀ x ∈ xs, x.f2.size ≤ 9223372036854775807) (a : Nat) (ha : a ≤ 1048576) :
    (xs.length + sumM xs ≤ a ∧ Ev (fun k => laws_szMailS.f k xs a) ((a - (xs.length + sumM xs) : Nat) : Int)) ∨ Ev (fun k => laws_szMailS.f k xs a) (-1) := by
  by_cases hb : xs.length ≤ a
  · have ew : wrap64 ((a : Int) - (xs.length : Int)) = ((a - xs.length : Nat) : Int) := by unfold wrap64; omega
    have hf : ∀ k, laws_szMailS.f k xs a = laws_szMailS.l0 k xs ((a - xs.length : Nat) : Int) ((0 : Nat) : Int) := fun k => by
      rw [laws_szMailS.f, ew, if_neg (by omega)]; rfl
    rcases szMailS_l0 xs hx hs xs 0 (a - xs.length) rfl (by omega) (by omega) with ⟨h1, h2⟩ | h2
    · left
      refine ⟨by omega, Ev.congr hf ?_⟩
      rw [show a - (xs.length + sumM xs) = a - xs.length - sumM xs by omega]; exact h2
    · right; exact Ev.congr hf h2
  · right
    refine Ev.congr (fun k => ?_) (Ev.now _)
    rw [laws_szMailS.f, if_pos (by unfold wrap64; omega)]

theorem toMailS_l0 (xs : List S77) (hx : xs.length ≤ 1048576) :
    ∀ (l : List S77) (i : Nat), xs.drop i = l → i ≤ xs.length →
      Ev (fun k => laws_toMailS.l0 k xs ((xs.take i).map mailOf ++ List.replicate (xs.length - i) z58) i) (xs.map mailOf)
  | [], i, h, hi => by
    have e := drop_end h hi
    subst e
    refine Ev.step (fun k => by rw [laws_toMailS.l0, if_neg (by omega)]) ?_
    rw [fill_end]; exact Ev.now _
  | x :: l, i, h, hi => by
    have hlt := drop_lt h
    refine Ev.step (fun k => ?_) (toMailS_l0 xs hx l (i + 1) (drop_tail h) (by omega))
    rw [laws_toMailS.l0, if_pos (by omega), if_pos (by omega), rdT_drop1 h, laws_toMail.f, Option.bind_some, fill_len _ _ _ hi, if_pos (by omega), Int.toNat_natCast, wrap_succ i (by omega)]
    rw [← fill_set xs mailOf z58 h]
    rfl
theorem toMailS_ev (xs : List S77) (hx : xs.length ≤ 1048576) : Ev (fun k => laws_toMailS.f k xs) (xs.map mailOf) := by
  refine Ev.congr (fun k => ?_) (toMailS_l0 xs hx xs 0 rfl (by omega))
  rw [laws_toMailS.f, if_pos (by omega), Int.toNat_natCast, if_pos (by omega)]
  simp
theorem eqMail_self (a b : Int) (c : ByteArray) : laws_eqMail.f a b c a b c = some true := by
  unfold laws_eqMail.f
  simp only [if_true]
theorem eqMailS_l0 (xs : List S58) (hx : xs.length ≤ 9223372036854775807) :
    ∀ (l : List S58) (i : Nat), xs.drop i = l → i ≤ xs.length → Ev (fun k => laws_eqMailS.l0 k xs xs i) true
  | [], i, h, hi => by
    have e := drop_end h hi
    exact Ev.step (fun k => by rw [laws_eqMailS.l0, if_neg (by omega)]) (Ev.now true)
  | x :: l, i, h, hi => by
    have hlt := drop_lt h
    refine Ev.step (fun k => ?_) (eqMailS_l0 xs hx l (i + 1) (drop_tail h) (by omega))
    rw [laws_eqMailS.l0, if_pos (by omega), if_pos (by omega), if_pos (by omega), rdT_drop2 h, eqMail_self, Option.bind_some, if_pos rfl, wrap_succ i (by omega)]
theorem eqMailS_ev (xs : List S58) (hx : xs.length ≤ 9223372036854775807) : Ev (fun k => laws_eqMailS.f k xs xs) true := by
  refine Ev.congr (fun k => ?_) (eqMailS_l0 xs hx xs 0 rfl (by omega))
  rw [laws_eqMailS.f, if_pos rfl]; rfl

theorem szBox_ev (v : Int) (u n : ByteArray) (w : Int) (xs : List S77) (hu : u.size ≤ 9223372036854775807) (hn : n.size ≤ 9223372036854775807) (hx : xs.length ≤ 9223372036854775807) (hs : ∀ x ∈ xs, x.f2.size ≤ 9223372036854775807) (a : Nat) (ha : a ≤ 1048576) :
    (u.size + n.size + xs.length + sumM xs ≤ a ∧ Ev (fun k => laws_szBox.f k v u n w xs a) ((a - (u.size + n.size + xs.length + sumM xs) : Nat) : Int)) ∨ Ev (fun k => laws_szBox.f k v u n w xs a) (-1) := by
  unfold laws_szBox.f
  by_cases h1 : u.size ≤ a
  · have e1 : wrap64 ((a : Int) - (u.size : Int)) = ((a - u.size : Nat) : Int) := by unfold wrap64; omega
    have q1 : ¬ (((a - u.size : Nat) : Int) < 0) := by omega
    simp only [e1, if_neg q1]
    by_cases h2 : n.size ≤ a - u.size
    · have e2 : wrap64 (((a - u.size : Nat) : Int) - (n.size : Int)) = ((a - u.size - n.size : Nat) : Int) := by unfold wrap64; omega
      have q2 : ¬ (((a - u.size - n.size : Nat) : Int) < 0) := by omega
      simp only [e2, if_neg q2]
      rcases szMailS_ev xs hx hs (a - u.size - n.size) (by omega) with ⟨h3, e3⟩ | e3
      · left
        refine ⟨by omega, Ev.bind e3 ?_⟩
        have q3 : ¬ (((a - u.size - n.size - (xs.length + sumM xs) : Nat) : Int) < 0) := by omega
        simp only [if_neg q3]
        rw [show a - (u.size + n.size + xs.length + sumM xs) = a - u.size - n.size - (xs.length + sumM xs) by omega]
        exact Ev.now _
      · right
        refine Ev.bind e3 ?_
        simp only [if_pos (show (-1 : Int) < 0 by decide)]
        exact Ev.now _
    · right
      have q : wrap64 (((a - u.size : Nat) : Int) - (n.size : Int)) < 0 := by unfold wrap64; omega
      simp only [if_pos q]
      exact Ev.now _
  · right
    have q : wrap64 ((a : Int) - (u.size : Int)) < 0 := by unfold wrap64; omega
    simp only [if_pos q]
    exact Ev.now _
theorem toBox_ev (v : Int) (u n : ByteArray) (w : Int) (xs : List S77) (hx : xs.length ≤ 1048576) : Ev (fun k => laws_toBox.f k v u n w xs) (v, u, n, w, xs.map mailOf) := by
  unfold laws_toBox.f
  exact Ev.bind (toMailS_ev xs hx) (Ev.now _)
theorem eqBox_ev (v : Int) (u n : ByteArray) (w : Int) (xs : List S58) (hx : xs.length ≤ 1048576) : Ev (fun k => laws_eqBox.f k v u n w xs v u n w xs) true := by
  unfold laws_eqBox.f
  simp only [if_true]
  refine Ev.bind (eqMailS_ev xs (by omega)) ?_
  simp only [if_true]
  exact Ev.now _

def sizes : List S58 → Nat
  | [] => 0
  | x :: l => x.f2.size + sizes l
theorem sizes_map : ∀ xs : List S77, sizes (xs.map mailOf) = sumM xs
  | [] => rfl
  | x :: l => by simp only [List.map_cons, sizes, sumM, sizes_map l]; rfl

theorem spec_SizesOf_l0 (v : Int) (u n : ByteArray) (w : Int) (xs : List S58) (hx : xs.length ≤ 1048576) :
    ∀ (l : List S58) (i s : Nat), xs.drop i = l → i ≤ xs.length → s + sizes l ≤ 1048576 → Ev (fun k => spec_SizesOf.l0 k s i v u n w xs) ((s + sizes l : Nat) : Int)
  | [], i, s, h, hi, hs => by
    have e := drop_end h hi
    exact Ev.step (fun k => by rw [spec_SizesOf.l0, if_neg (by omega)]; rfl) (Ev.now _)
  | x :: l, i, s, h, hi, hs => by
    have hlt := drop_lt h
    simp only [sizes] at hs
    have ih := spec_SizesOf_l0 v u n w xs hx l (i + 1) (s + x.f2.size) (drop_tail h) (by omega) (by omega)
    rw [show s + sizes (x :: l) = s + x.f2.size + sizes l by simp only [sizes]; omega]
    refine Ev.step (fun k => ?_) ih
    rw [spec_SizesOf.l0, if_pos (by omega), if_pos (by omega), rdT_drop2 h, wrap_succ i (by omega), wrap_nat _ (s + x.f2.size) (by omega) (by omega)]
theorem impl_SizesOf_l0 (xs : List S58) (hx : xs.length ≤ 1048576) :
    ∀ (l : List S58) (i s : Nat), xs.drop i = l → i ≤ xs.length → s + sizes l ≤ 1048576 → Ev (fun k => impl_SizesOf.l0 k s xs (xs.length : Int) i) ((s + sizes l : Nat) : Int)
  | [], i, s, h, hi, hs => by
    have e := drop_end h hi
    exact Ev.step (fun k => by rw [impl_SizesOf.l0, if_neg (by omega)]; rfl) (Ev.now _)
  | x :: l, i, s, h, hi, hs => by
    have hlt := drop_lt h
    simp only [sizes] at hs
    have ih := impl_SizesOf_l0 xs hx l (i + 1) (s + x.f2.size) (drop_tail h) (by omega) (by omega)
    rw [show s + sizes (x :: l) = s + x.f2.size + sizes l by simp only [sizes]; omega]
    refine Ev.step (fun k => ?_) ih
    rw [impl_SizesOf.l0, if_pos (by omega), if_pos (by omega), if_pos (by omega), rdT_drop2 h, wrap_succ i (by omega), wrap_nat _ (s + x.f2.size) (by omega) (by omega)]

theorem FnExactSizesOf : laws_FnExactSizesOf.Pure := by
  intro x0 ⟨h0, h1, h2, h3, h4, h5⟩
  refine Ev.rounds (g := fun k => laws_FnExactSizesOf.f k x0.f0 x0.f1 x0.f2 x0.f3 x0.f4) ?_
  unfold laws_FnExactSizesOf.f
  rcases szBox_ev x0.f0 x0.f1 x0.f2 x0.f3 x0.f4 h1 h2 h4 (fun x hx => (h5 x hx).2.2) 1048576 (by omega) with ⟨hs, hz⟩ | hz
  · have h9 : ¬ (((1048576 - (x0.f1.size + x0.f2.size + x0.f4.length + sumM x0.f4) : Nat) : Int) < 0) := by omega
    refine Ev.bind hz ?_
    simp only [if_neg h9]
    have ht := toBox_ev x0.f0 x0.f1 x0.f2 x0.f3 x0.f4 (by omega)
    have hl : (x0.f4.map mailOf).length ≤ 1048576 := by rw [List.length_map]; omega
    have hm := sizes_map x0.f4
    refine Ev.bind ht ?_
    refine Ev.bind (Ev.congr (fun k => rfl) (spec_SizesOf_l0 x0.f0 x0.f1 x0.f2 x0.f3 (x0.f4.map mailOf) hl (x0.f4.map mailOf) 0 0 rfl (by omega) (by omega))) ?_
    refine Ev.bind ht ?_
    refine Ev.bind (Ev.congr (fun k => rfl) (impl_SizesOf_l0 (x0.f4.map mailOf) hl (x0.f4.map mailOf) 0 0 rfl (by omega) (by omega))) ?_
    simp only [if_true]
    refine Ev.bind ht ?_
    refine Ev.bind (eqBox_ev x0.f0 x0.f1 x0.f2 x0.f3 _ hl) ?_
    simp only [if_true]
    exact Ev.now _
  · refine Ev.bind hz ?_
    simp only [if_pos (show (-1 : Int) < 0 by decide)]
    exact Ev.now _

end Go.Proofs.Ytdclbjfpkhljeab.Pure
