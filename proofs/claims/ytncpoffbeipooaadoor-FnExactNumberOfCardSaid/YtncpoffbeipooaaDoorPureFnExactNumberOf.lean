/- The program's NumberOf answers what the reference's answers. Conditions: none beyond the statement's own. -/
import Derived.Lib.AtoiTie
import Derived.Lib.ItoaNum
import Derived.Test.YtncpoffbeipooaaDoorQFnExactNumberOfPure0
import Derived.Test.YtncpoffbeipooaaDoorBase
namespace Go.Proofs.YtncpoffbeipooaaDoor.Pure
open Go.RowKit Go.Proofs.YtncpoffbeipooaaDoor.QFnExactNumberOf Go.Proofs.YtncpoffbeipooaaDoorW.PrintWords Go.Proofs.YtncpoffbeipooaaDoorW.PrintLast Go.Proofs.YtncpoffbeipooaaDoorB Go.Proofs.YtncpoffbeipooaaDoorO
set_option linter.unusedVariables false
set_option linter.unusedSimpArgs false

theorem digit_dec (u : Nat) (h : u < 10) : Lib.digitVal (UInt8.ofNat (48 + u)) = some u := by
  have : (UInt8.ofNat (48 + u)).toNat = 48 + u := by simp [UInt8.toNat_ofNat']; omega
  unfold Lib.digitVal
  rw [this, if_pos (by omega)]
  congr 1; omega
theorem decFrom_snoc (b : UInt8) : ∀ (l : List UInt8) (acc n d : Nat), Lib.decFrom acc l = some n → Lib.digitVal b = some d → Lib.decFrom acc (l ++ [b]) = some (n * 10 + d)
  | [], acc, n, d, h, hd => by
    simp only [Lib.decFrom, Option.some.injEq] at h
    subst h
    simp [Lib.decFrom, hd]
  | a :: l, acc, n, d, h, hd => by
    simp only [Lib.decFrom, List.cons_append] at h ⊢
    cases ha : Lib.digitVal a with
    | none => simp [ha] at h
    | some e =>
      simp only [ha] at h ⊢
      exact decFrom_snoc b l _ n d h hd
theorem decFrom_decDigits (u : Nat) : Lib.decFrom 0 (Lib.decDigits u) = some u := by
  induction u using Nat.strongRecOn with
  | _ u ih =>
    rw [Lib.decDigits]
    by_cases h : u < 10
    · rw [dif_pos h]; simp only [Lib.decFrom, digit_dec u h]; congr 1; omega
    · rw [dif_neg h, decFrom_snoc _ _ _ _ _ (ih (u / 10) (by omega)) (digit_dec (u % 10) (by omega))]
      congr 1; omega
theorem decDigits_ne (u : Nat) : Lib.decDigits u ≠ [] := by
  intro h
  have := Lib.decDigits_length u
  rw [h] at this
  have := Lib.nDigits_pos u
  simp at *; omega
/-- What a text that is the numeral of u is to Atoi. -/
theorem atoiAll_decDigits (u : Nat) (h : u ≤ 1000000000) : Lib.atoiAll (Lib.decDigits u) = .ok (u : Int) := by
  have hl : (Lib.decDigits u).length ≤ 18 := by
    rw [Lib.decDigits_length]
    by_cases h10 : Lib.nDigits u ≤ 18
    · exact h10
    · exfalso
      have hd := decFrom_decDigits u
      have h19 : 10 ^ 18 ≤ u := by
        have := Lib.nDigits_pos u
        rcases Nat.lt_or_ge u (10 ^ 18) with hu | hu
        · exfalso
          have : ∀ (k u : Nat), u < 10 ^ (k + 1) → Lib.nDigits u ≤ k + 1 := by
            intro k
            induction k with
            | zero => intro u hu; rw [Lib.nDigits_small (by simpa using hu)]; omega
            | succ k ih =>
              intro u hu
              by_cases hs : u < 10
              · rw [Lib.nDigits_small hs]; omega
              · rw [Lib.nDigits_big hs]
                have := ih (u / 10) (by rw [Nat.pow_succ] at hu; omega)
                omega
          have := this 17 u hu
          omega
        · exact hu
      have : (10 : Nat) ^ 18 = 1000000000000000000 := by decide
      omega
  rw [Lib.atoiAll_short _ hl]
  have hd := decFrom_decDigits u
  cases hc : Lib.decDigits u with
  | nil => exact absurd hc (decDigits_ne u)
  | cons b r =>
    rw [hc] at hd
    obtain ⟨d, hb⟩ := Lib.digit_of_decFrom _ _ _ hd 0 b rfl
    have hb := Lib.digitVal_eq hb
    have n45 : ¬ (b == 45) = true := by intro e; have e1 := LawfulBEq.eq_of_beq e; have h48 := hb.1; rw [e1] at h48; exact absurd h48 (by decide)
    have n43 : ¬ (b == 43) = true := by intro e; have e1 := LawfulBEq.eq_of_beq e; have h48 := hb.1; rw [e1] at h48; exact absurd h48 (by decide)
    have : Lib.decNat (b :: r) = some u := by unfold Lib.decNat; rw [if_neg (by simp)]; exact hd
    simp only [Lib.atoi, if_neg n45, if_neg n43, this, Option.map_some, Lib.NumEnd.ofOption]
theorem nDigits_le (k : Nat) : ∀ u : Nat, u < 10 ^ (k + 1) → Lib.nDigits u ≤ k + 1 := by
  induction k with
  | zero => intro u hu; rw [Lib.nDigits_small (by simpa using hu)]; omega
  | succ k ih =>
    intro u hu
    by_cases hs : u < 10
    · rw [Lib.nDigits_small hs]; omega
    · rw [Lib.nDigits_big hs]
      have := ih (u / 10) (by rw [Nat.pow_succ] at hu; omega)
      omega
/-- The number that a text is the numeral of, or 0. -/
noncomputable def numb (l : List UInt8) : Int × Bool := open Classical in if h : ∃ u : Nat, u ≤ 1000000000 ∧ Lib.decDigits u = l then ((h.choose : Int), true) else (0, false)
theorem numb_at {l : List UInt8} {u : Nat} (h : u ≤ 1000000000) (e : Lib.decDigits u = l) : numb l = ((u : Int), true) := by
  have hx : ∃ u : Nat, u ≤ 1000000000 ∧ Lib.decDigits u = l := ⟨u, h, e⟩
  unfold numb
  rw [dif_pos hx]
  have h2 := hx.choose_spec.2
  have : some hx.choose = some u := by rw [← decFrom_decDigits, ← decFrom_decDigits u, h2, e]
  injection this with this
  rw [this]
theorem numb_not {l : List UInt8} (h : ∀ u : Nat, u ≤ 1000000000 → Lib.decDigits u ≠ l) : numb l = (0, false) := by
  unfold numb
  rw [dif_neg]
  rintro ⟨u, h1, h2⟩
  exact h u h1 h2

theorem fig_small (d : Nat) (h : d < 10) : spec_l01Figure.f (d : Int) = some ((48 + d : Nat) : Int) := by
  unfold spec_l01Figure.f
  rw [if_pos (by omega)]
  congr 1
  unfold wrap64
  omega
/-- The digits of a number above 0, none for 0. -/
def decD (u : Nat) : List UInt8 := if u = 0 then [] else Lib.decDigits u
theorem decD_step (u : Nat) (h : u ≠ 0) : decD u = decD (u / 10) ++ [UInt8.ofNat (48 + u % 10)] := by
  unfold decD
  rw [if_neg h, Lib.decDigits]
  by_cases h10 : u < 10
  · rw [dif_pos h10, if_pos (by omega), Nat.mod_eq_of_lt h10]; rfl
  · rw [dif_neg h10, if_neg (by omega)]
theorem strOf_one (n : Nat) (h : n < 256) : strOfNums [(n : Int)] = (⟨#[UInt8.ofNat n]⟩ : ByteArray) := by
  unfold strOfNums
  apply bytes_ext
  simp
theorem spec_Decimal_l0 (u : Nat) : ∀ (s : ByteArray), s.size + u ≤ 9223372036854775806 → Ev (fun k => spec_Decimal.l0 k (u : Int) false s) (⟨(decD u ++ s.data.toList).toArray⟩ : ByteArray) := by
  induction u using Nat.strongRecOn with
  | _ u ih =>
    intro s hs
    by_cases h : u = 0
    · subst h
      have e : (⟨(decD 0 ++ s.data.toList).toArray⟩ : ByteArray) = s := bytes_ext (by simp [decD])
      rw [e]
      exact Ev.step (fun k => by rw [spec_Decimal.l0, if_pos (by rfl), if_neg (by decide)]) (Ev.now _)
    · have hm : Int.tmod (u : Int) 10 = ((u % 10 : Nat) : Int) := by rw [Int.tmod_eq_emod_of_nonneg (by omega)]; omega
      have hd : wrap64 (Int.tdiv (u : Int) 10) = ((u / 10 : Nat) : Int) := by rw [Int.tdiv_eq_ediv_of_nonneg (by omega)]; unfold wrap64; omega
      have e1 := strOf_one (48 + u % 10) (by omega)
      have hsz : ((⟨#[UInt8.ofNat (48 + u % 10)]⟩ : ByteArray) ++ s).size = s.size + 1 := by rw [ByteArray.size_append, Nat.add_comm]; rfl
      have h2 := ih (u / 10) (by omega) ((⟨#[UInt8.ofNat (48 + u % 10)]⟩ : ByteArray) ++ s) (by rw [hsz]; omega)
      have e2 : (⟨(decD u ++ s.data.toList).toArray⟩ : ByteArray) = ⟨(decD (u / 10) ++ ((⟨#[UInt8.ofNat (48 + u % 10)]⟩ : ByteArray) ++ s).data.toList).toArray⟩ := by
        rw [decD_step u h, data_append]; simp
      rw [e2]
      refine Ev.step (fun k => ?_) h2
      rw [spec_Decimal.l0, if_neg (by omega), hm, if_neg (by omega), fig_small _ (by omega)]
      simp only [Option.bind_some]
      rw [e1, hd, if_pos (by show 1 + s.size ≤ _; omega)]
theorem spec_Decimal_ev (u : Nat) (hu : u ≤ 9223372036854775806) : Ev (fun k => spec_Decimal.f k (u : Int)) (⟨(Lib.decDigits u).toArray⟩ : ByteArray) := by
  unfold spec_Decimal.f
  by_cases h : u = 0
  · subst h
    refine Ev.congr (fun k => by rw [if_pos (by rfl)]) ?_
    have : (⟨#[48]⟩ : ByteArray) = ⟨(Lib.decDigits 0).toArray⟩ := by rw [Lib.decDigits, dif_pos (by decide)]; rfl
    rw [this]
    exact Ev.now _
  · have h0 : decide ((u : Int) < 0) = false := decide_eq_false (by omega)
    have h1 := spec_Decimal_l0 u (⟨#[]⟩ : ByteArray) (by show 0 + u ≤ _; omega)
    have e : (⟨(decD u ++ (⟨#[]⟩ : ByteArray).data.toList).toArray⟩ : ByteArray) = ⟨(Lib.decDigits u).toArray⟩ := by unfold decD; rw [if_neg h]; simp
    rw [e] at h1
    refine Ev.congr (fun k => ?_) h1
    rw [if_neg (by omega), Option.bind_some, h0]
/-- What the reference tells of a text, from a place on. -/
def finS (s : ByteArray) (n : Nat) (l : List UInt8) : Int × Bool := match Lib.decFrom n l with
  | none => (0, false)
  | some m => if m ≤ 1000000000 ∧ Lib.decDigits m = s.data.toList then ((m : Int), true) else (0, false)
theorem spec_ReadDecimal_l0 (s : ByteArray) (hs : s.size ≤ 10) : ∀ (l : List UInt8) (i n : Nat), s.data.toList.drop i = l → i ≤ s.size → n < 10 ^ i → Ev (fun k => spec_ReadDecimal.l0 k s (n : Int) (i : Int)) (finS s n l)
  | [], i, n, h, hi, hn => by
    have e : i = s.size := by have := drop_end h (by rw [size_data]; exact hi); rwa [size_data] at this
    have hp : 10 ^ i ≤ 10 ^ 10 := Nat.pow_le_pow_right (by decide) (by omega)
    have e10 : (10 : Nat) ^ 10 = 10000000000 := by decide
    unfold finS
    simp only [Lib.decFrom]
    by_cases hb : n ≤ 1000000000
    · have hd := spec_Decimal_ev n (by omega)
      refine Ev.step (f := fun k => (spec_Decimal.f k (n : Int)).bind fun t110 => (if t110.toList = s.toList then (some ((n : Int), true)) else (some (0, false)))) (fun k => by rw [spec_ReadDecimal.l0, if_neg (by omega), if_neg (by omega)]) ?_
      refine Ev.bind hd ?_
      rw [list_data, list_data]
      show Ev (fun k => if Lib.decDigits n = s.data.toList then _ else _) _
      by_cases he : Lib.decDigits n = s.data.toList
      · rw [if_pos he, if_pos ⟨hb, he⟩]; exact Ev.now _
      · rw [if_neg he, if_neg (fun hh => he hh.2)]; exact Ev.now _
    · rw [if_neg (fun hh => hb hh.1)]
      exact Ev.step (fun k => by rw [spec_ReadDecimal.l0, if_neg (by omega), if_pos (by omega)]) (Ev.now _)
  | c :: l, i, n, h, hi, hn => by
    have hlt : i < s.size := by have := drop_lt h; rwa [size_data] at this
    have hp : 10 ^ i ≤ 10 ^ 9 := Nat.pow_le_pow_right (by decide) (by omega)
    have e9 : (10 : Nat) ^ 9 = 1000000000 := by decide
    have eb := bt_cons h
    have hc : c.toNat < 256 := c.toNat_lt
    by_cases hd : 48 ≤ c.toNat ∧ c.toNat ≤ 57
    · have e : finS s n (c :: l) = finS s (n * 10 + (c.toNat - 48)) l := by unfold finS; simp only [Lib.decFrom, Lib.digitVal, if_pos hd]
      have ih := spec_ReadDecimal_l0 s hs l (i + 1) (n * 10 + (c.toNat - 48)) (drop_tail h) (by omega) (by rw [Nat.pow_succ]; omega)
      rw [e]
      refine Ev.step (fun k => ?_) ih
      have ew : wrap64 ((wrap64 ((wrap64 (10 * (n : Int))) + (wrap64 (c.toNat : Int)))) - 48) = ((n * 10 + (c.toNat - 48) : Nat) : Int) := by
        rw [wrap_id (x := (c.toNat : Int)) (by omega) (by omega), wrap_id (x := 10 * (n : Int)) (by omega) (by omega), wrap_id (x := 10 * (n : Int) + (c.toNat : Int)) (by omega) (by omega), wrap_id (by omega) (by omega)]
        omega
      rw [spec_ReadDecimal.l0, if_pos (by omega), if_pos (by omega), eb, if_neg (by omega), if_neg (by omega), ew, wrap_succ i (by omega)]
    · have e : finS s n (c :: l) = (0, false) := by unfold finS; simp only [Lib.decFrom, Lib.digitVal, if_neg hd]
      rw [e]
      by_cases h48 : c.toNat < 48
      · exact Ev.step (fun k => by rw [spec_ReadDecimal.l0, if_pos (by omega), if_pos (by omega), eb, if_pos (by omega)]) (Ev.now _)
      · exact Ev.step (fun k => by rw [spec_ReadDecimal.l0, if_pos (by omega), if_pos (by omega), eb, if_neg (by omega), if_pos (by omega)]) (Ev.now _)
theorem spec_ReadDecimal_ev (s : ByteArray) : Ev (fun k => spec_ReadDecimal.f k s) (numb s.data.toList) := by
  unfold spec_ReadDecimal.f
  by_cases h : (s.size : Int) > 10
  · rw [numb_not]
    · simp only [if_pos h]; exact Ev.now _
    · intro u hu e
      have h1 := nDigits_le 9 u (by have : (10 : Nat) ^ (9 + 1) = 10000000000 := by decide
                                    omega)
      rw [← Lib.decDigits_length, e, size_data] at h1
      omega
  · simp only [if_neg h]
    have h0 := spec_ReadDecimal_l0 s (by omega) s.data.toList 0 0 rfl (by omega) (by decide)
    have e : finS s 0 s.data.toList = numb s.data.toList := by
      unfold finS
      cases hd : Lib.decFrom 0 s.data.toList with
      | none =>
        rw [numb_not]
        intro u _ e
        rw [← e, decFrom_decDigits] at hd
        cases hd
      | some m =>
        by_cases hm : m ≤ 1000000000 ∧ Lib.decDigits m = s.data.toList
        · simp only [if_pos hm]
          rw [numb_at hm.1 hm.2]
        · simp only [if_neg hm]
          rw [numb_not]
          intro u hu e
          rw [← e, decFrom_decDigits] at hd
          injection hd with hd
          subst hd
          exact hm ⟨hu, e⟩
    rw [← e]
    exact h0

theorem impl_ReadDecimal_val (s : ByteArray) : impl_ReadDecimal.val s = numb s.data.toList := by
  unfold impl_ReadDecimal.val
  have hu : ∀ u : Nat, u ≤ 1000000000 → Lib.decDigits u = s.data.toList → Lib.atoiAll s.data.toList = .ok (u : Int) := fun u h e => by rw [← e]; exact atoiAll_decDigits u h
  split
  · rename_i v hv
    by_cases hc : 0 ≤ v ∧ v ≤ 1000000000 ∧ Lib.itoa v = s.toList
    · rw [if_pos hc]
      have e : Lib.itoa v = Lib.decDigits v.toNat := by unfold Lib.itoa; rw [if_neg (by omega)]
      rw [numb_at (u := v.toNat) (by omega) (by rw [← e, hc.2.2, list_data]), Int.toNat_of_nonneg hc.1]
    · rw [if_neg hc, numb_not]
      intro u h e
      have := hu u h e
      rw [hv] at this
      injection this with this
      refine hc ⟨by omega, by omega, ?_⟩
      have e2 : Lib.itoa v = Lib.decDigits v.toNat := by unfold Lib.itoa; rw [if_neg (by omega)]
      rw [e2, list_data, ← e, this, Int.toNat_natCast]
  · rename_i hv
    rw [numb_not]
    intro u h e
    exact hv _ (hu u h e)

theorem impl_NumberOf_eq (s : ByteArray) (h : s.size ≤ 1048576) : impl_NumberOf.f s = some (numb s.data.toList).1 := by
  unfold impl_NumberOf.f
  have e : impl_ReadDecimal.f s = some (impl_ReadDecimal.val s) := if_pos h
  rw [e, Option.bind_some, impl_ReadDecimal_val]
theorem spec_NumberOf_ev (s : ByteArray) : Ev (fun k => spec_NumberOf.f k s) (numb s.data.toList).1 := by
  unfold spec_NumberOf.f
  exact Ev.bind (spec_ReadDecimal_ev s) (Ev.now _)
theorem FnExactNumberOf : laws_FnExactNumberOf.Pure := by
  intro s _
  refine Ev.rounds (g := fun k => laws_FnExactNumberOf.f k s) ?_
  unfold laws_FnExactNumberOf.f
  by_cases h : (s.size : Int) > 1048576
  · simp only [if_pos h]; exact Ev.now _
  · simp only [if_neg h]
    have hs := spec_NumberOf_ev s
    have hi := impl_NumberOf_eq s (by omega)
    generalize (numb s.data.toList).1 = q at hs hi
    refine Ev.bind hs ?_
    exact ev_some fun k => by rw [hi, Option.bind_some, if_pos rfl]

end Go.Proofs.YtncpoffbeipooaaDoor.Pure
