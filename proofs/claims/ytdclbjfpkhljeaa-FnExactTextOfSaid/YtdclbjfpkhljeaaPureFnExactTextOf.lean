/- The program's TextOf answers what the reference's answers. Conditions: none beyond the statement's own. -/
import Derived.Test.YtdclbjfpkhljeaaQFnExactTextOfPure0
import Derived.Test.YtdclbjfpkhljeaaBase
namespace Go.Proofs.Ytdclbjfpkhljeaa.Pure
open Go.RowKit Go.Proofs.Ytdclbjfpkhljeaa.QFnExactTextOf Go.Proofs.YtdclbjfpkhljeaaW.PrintWords Go.Proofs.YtdclbjfpkhljeaaW.PrintLast Go.Proofs.YtdclbjfpkhljeaaB Go.Proofs.YtdclbjfpkhljeaaO
set_option linter.unusedVariables false
set_option linter.unusedSimpArgs false

/-- The lengths of texts, together and with their number, are within what is left; else it answers something below 0. -/
def sumS : List ByteArray → Nat
  | [] => 0
  | x :: l => x.size + sumS l

theorem szStringS_l0 (xs : List ByteArray) (hx : xs.length ≤ 9223372036854775807) (hs : ∀ x ∈ xs, x.size ≤ 9223372036854775807) :
    ∀ (l : List ByteArray) (i : Nat) (a : Nat), xs.drop i = l → i ≤ xs.length → a ≤ 1048576 →
      (sumS l ≤ a ∧ Ev (fun k => laws_szStringS.l0 k xs a i) ((a - sumS l : Nat) : Int)) ∨ Ev (fun k => laws_szStringS.l0 k xs a i) (-1)
  | [], i, a, h, hi, ha => by
    left
    have e := drop_end h hi
    refine ⟨Nat.zero_le _, Ev.step (fun k => by rw [laws_szStringS.l0, if_neg (by omega)]; rfl) (Ev.now _)⟩
  | x :: l, i, a, h, hi, ha => by
    have hlt := drop_lt h
    have hz : x.size ≤ 9223372036854775807 := hs x (List.mem_of_mem_drop (i := i) (by rw [h]; exact List.mem_cons_self))
    have e := rdOf_drop ByteArray.empty h
    by_cases hb : x.size ≤ a
    · have ew : wrap64 ((a : Int) - (x.size : Int)) = ((a - x.size : Nat) : Int) := by unfold wrap64; omega
      have hstep : ∀ k, laws_szStringS.l0 (k + 1) xs a i = laws_szStringS.l0 k xs ((a - x.size : Nat) : Int) ((i + 1 : Nat) : Int) := fun k => by
        rw [laws_szStringS.l0, if_pos (by omega), if_pos (by omega), e, ew, if_neg (by omega), wrap_succ i (by omega)]
      rcases szStringS_l0 xs hx hs l (i + 1) (a - x.size) (drop_tail h) (by omega) (by omega) with ⟨h1, h2⟩ | h2
      · left
        refine ⟨by simp only [sumS]; omega, Ev.step hstep ?_⟩
        have e3 : a - sumS (x :: l) = a - x.size - sumS l := by simp only [sumS]; omega
        rw [e3]; exact h2
      · right; exact Ev.step hstep h2
    · right
      refine Ev.step (fun k => ?_) (Ev.now _)
      rw [laws_szStringS.l0, if_pos (by omega), if_pos (by omega), e, if_pos (by unfold wrap64; omega)]

theorem szStringS_ev (xs : List ByteArray) (hx : xs.length ≤ 9223372036854775807) (hs : ∀ x ∈ xs, x.size ≤ 9223372036854775807) (a : Nat) (ha : a ≤ 1048576) :
    (xs.length + sumS xs ≤ a ∧ Ev (fun k => laws_szStringS.f k xs a) ((a - (xs.length + sumS xs) : Nat) : Int)) ∨ Ev (fun k => laws_szStringS.f k xs a) (-1) := by
  by_cases hb : xs.length ≤ a
  · have ew : wrap64 ((a : Int) - (xs.length : Int)) = ((a - xs.length : Nat) : Int) := by unfold wrap64; omega
    have hf : ∀ k, laws_szStringS.f k xs a = laws_szStringS.l0 k xs ((a - xs.length : Nat) : Int) ((0 : Nat) : Int) := fun k => by
      rw [laws_szStringS.f, ew, if_neg (by omega)]; rfl
    rcases szStringS_l0 xs hx hs xs 0 (a - xs.length) rfl (by omega) (by omega) with ⟨h1, h2⟩ | h2
    · left
      refine ⟨by omega, Ev.congr hf ?_⟩
      rw [show a - (xs.length + sumS xs) = a - xs.length - sumS xs by omega]; exact h2
    · right; exact Ev.congr hf h2
  · right
    refine Ev.congr (fun k => ?_) (Ev.now _)
    rw [laws_szStringS.f, if_pos (by unfold wrap64; omega)]

theorem toStringS_l0 (xs : List ByteArray) (hx : xs.length ≤ 1048576) :
    ∀ (l : List ByteArray) (i : Nat), xs.drop i = l → i ≤ xs.length →
      Ev (fun k => laws_toStringS.l0 k xs ((xs.take i).map id ++ List.replicate (xs.length - i) (⟨#[]⟩ : ByteArray)) i) (xs.map id)
  | [], i, h, hi => by
    have e := drop_end h hi
    subst e
    refine Ev.step (fun k => by rw [laws_toStringS.l0, if_neg (by omega)]) ?_
    rw [fill_end]; exact Ev.now _
  | x :: l, i, h, hi => by
    have hlt := drop_lt h
    refine Ev.step (fun k => ?_) (toStringS_l0 xs hx l (i + 1) (drop_tail h) (by omega))
    rw [laws_toStringS.l0, if_pos (by omega), if_pos (by omega), fill_len _ _ _ hi, if_pos (by omega), rdOf_drop _ h, Int.toNat_natCast, wrap_succ i (by omega)]
    rw [← fill_set xs id (⟨#[]⟩ : ByteArray) h]
    rfl

theorem toStringS_ev (xs : List ByteArray) (hx : xs.length ≤ 1048576) : Ev (fun k => laws_toStringS.f k xs) xs := by
  have h := toStringS_l0 xs hx xs 0 rfl (by omega)
  rw [List.map_id xs] at h
  refine Ev.congr (fun k => ?_) h
  rw [laws_toStringS.f, if_pos (by omega), Int.toNat_natCast, if_pos (by omega)]
  simp

theorem eqStringS_l0 (xs ys : List ByteArray) (hx : xs.length ≤ 9223372036854775807) (hl : xs.length = ys.length) :
    ∀ (l m : List ByteArray) (i : Nat), xs.drop i = l → ys.drop i = m → i ≤ xs.length → Ev (fun k => laws_eqStringS.l0 k xs ys i) (decide (l = m))
  | [], m, i, h, h2, hi => by
    have e := drop_end h hi
    have e2 : m = [] := by rw [← h2]; exact List.drop_of_length_le (by omega)
    subst e2
    exact Ev.step (fun k => by rw [laws_eqStringS.l0, if_neg (by omega)]) (by simpa using Ev.now true)
  | x :: l, [], i, h, h2, hi => by
    have hlt := drop_lt h
    have := drop_end h2 (by omega)
    omega
  | x :: l, y :: m, i, h, h2, hi => by
    have hlt := drop_lt h
    by_cases hxy : x = y
    · subst hxy
      have ih := eqStringS_l0 xs ys hx hl l m (i + 1) (drop_tail h) (drop_tail h2) (by omega)
      have e : decide (x :: l = x :: m) = decide (l = m) := by simp
      rw [e]
      refine Ev.step (fun k => ?_) ih
      rw [laws_eqStringS.l0, if_pos (by omega), if_pos (by omega), if_pos (by omega), rdOf_drop _ h, rdOf_drop _ h2, if_pos rfl, wrap_succ i (by omega)]
    · have e : decide (x :: l = y :: m) = false := by simp [hxy]
      rw [e]
      refine Ev.step (fun k => ?_) (Ev.now _)
      rw [laws_eqStringS.l0, if_pos (by omega), if_pos (by omega), if_pos (by omega), rdOf_drop _ h, rdOf_drop _ h2, if_neg (fun h => hxy (toList_inj.mp h))]

theorem eqStringS_ev (xs ys : List ByteArray) (hx : xs.length ≤ 9223372036854775807) (hy : ys.length ≤ 9223372036854775807) : Ev (fun k => laws_eqStringS.f k xs ys) (decide (xs = ys)) := by
  by_cases hl : xs.length = ys.length
  · refine Ev.congr (fun k => ?_) (eqStringS_l0 xs ys hx hl xs ys 0 rfl rfl (by omega))
    rw [laws_eqStringS.f, if_pos (by omega)]; rfl
  · have e : decide (xs = ys) = false := decide_eq_false (fun h => hl (by rw [h]))
    rw [e]
    refine Ev.congr (fun k => ?_) (Ev.now _)
    rw [laws_eqStringS.f, if_neg (by omega)]

def joined : List ByteArray → ByteArray → ByteArray
  | [], s => s
  | x :: l, s => joined l (s ++ x ++ (⟨#[10]⟩ : ByteArray))

theorem spec_TextOf_l0 (xs : List ByteArray) (hx : xs.length + sumS xs ≤ 1048576) :
    ∀ (l : List ByteArray) (i : Nat) (s : ByteArray), xs.drop i = l → i ≤ xs.length → s.size + l.length + sumS l ≤ 1048576 → Ev (fun k => spec_TextOf.l0 k xs s i) (joined l s)
  | [], i, s, h, hi, hs => by
    have e := drop_end h hi
    exact Ev.step (fun k => by rw [spec_TextOf.l0, if_neg (by omega)]; rfl) (Ev.now _)
  | x :: l, i, s, h, hi, hs => by
    have hlt := drop_lt h
    have e := rdOf_drop ByteArray.empty h
    simp only [sumS, List.length_cons] at hs
    have h10 : (⟨#[10]⟩ : ByteArray).size = 1 := rfl
    refine Ev.step (fun k => ?_) (spec_TextOf_l0 xs hx l (i + 1) (s ++ x ++ (⟨#[10]⟩ : ByteArray)) (drop_tail h) (by omega) (by rw [ByteArray.size_append, ByteArray.size_append, h10]; omega))
    rw [spec_TextOf.l0, if_pos (by omega), if_pos (by omega), e, if_pos (by omega), if_pos (by rw [ByteArray.size_append]; omega), wrap_succ i (by omega)]

theorem impl_TextOf_l0 (xs : List ByteArray) (hx : xs.length + sumS xs ≤ 1048576) :
    ∀ (l : List ByteArray) (i : Nat) (s : ByteArray), xs.drop i = l → i ≤ xs.length → s.size + l.length + sumS l ≤ 1048576 → Ev (fun k => impl_TextOf.l0 k s xs (xs.length : Int) i) (joined l s)
  | [], i, s, h, hi, hs => by
    have e := drop_end h hi
    exact Ev.step (fun k => by rw [impl_TextOf.l0, if_neg (by omega)]; rfl) (Ev.now _)
  | x :: l, i, s, h, hi, hs => by
    have hlt := drop_lt h
    have e := rdOf_drop ByteArray.empty h
    simp only [sumS, List.length_cons] at hs
    have h10 : (⟨#[10]⟩ : ByteArray).size = 1 := rfl
    have ih := impl_TextOf_l0 xs hx l (i + 1) (s ++ (x ++ (⟨#[10]⟩ : ByteArray))) (drop_tail h) (by omega) (by rw [ByteArray.size_append, ByteArray.size_append, h10]; omega)
    rw [show joined (x :: l) s = joined l (s ++ (x ++ (⟨#[10]⟩ : ByteArray))) by rw [joined, append_assoc]]
    refine Ev.step (fun k => ?_) ih
    rw [impl_TextOf.l0, if_pos (by omega), if_pos (by omega), if_pos (by omega), e, if_pos (by omega), if_pos (by rw [ByteArray.size_append]; omega), wrap_succ i (by omega)]

theorem spec_TextOf_ev (xs : List ByteArray) (hx : xs.length + sumS xs ≤ 1048576) : Ev (fun k => spec_TextOf.f k xs) (joined xs (⟨#[]⟩ : ByteArray)) :=
  Ev.congr (fun k => rfl) (spec_TextOf_l0 xs hx xs 0 (⟨#[]⟩ : ByteArray) rfl (by omega) (by show 0 + _ + _ ≤ _; omega))
theorem impl_TextOf_ev (xs : List ByteArray) (hx : xs.length + sumS xs ≤ 1048576) : Ev (fun k => impl_TextOf.f k xs) (joined xs (⟨#[]⟩ : ByteArray)) :=
  Ev.congr (fun k => rfl) (impl_TextOf_l0 xs hx xs 0 (⟨#[]⟩ : ByteArray) rfl (by omega) (by show 0 + _ + _ ≤ _; omega))

theorem FnExactTextOf : laws_FnExactTextOf.Pure := by
  intro l0 ⟨h1, h2⟩
  refine Ev.rounds (g := fun k => laws_FnExactTextOf.f k l0) ?_
  unfold laws_FnExactTextOf.f
  rcases szStringS_ev l0 h1 h2 1048576 (by omega) with ⟨hs, hz⟩ | hz
  · refine Ev.bind hz ?_
    have h0 : ¬ (((1048576 - (l0.length + sumS l0) : Nat) : Int) < 0) := by omega
    simp only [if_neg h0]
    refine Ev.bind (toStringS_ev l0 (by omega)) ?_
    refine Ev.bind (spec_TextOf_ev l0 hs) ?_
    refine Ev.bind (toStringS_ev l0 (by omega)) ?_
    refine Ev.bind (impl_TextOf_ev l0 hs) ?_
    simp only [if_true]
    refine Ev.bind (toStringS_ev l0 (by omega)) ?_
    refine Ev.bind (eqStringS_ev l0 l0 (by omega) (by omega)) ?_
    simp only [decide_true, if_true]
    exact Ev.now _
  · refine Ev.bind hz ?_
    simp only [if_pos (show (-1 : Int) < 0 by decide)]
    exact Ev.now _

end Go.Proofs.Ytdclbjfpkhljeaa.Pure
