/- The program's WordsOf answers what the reference's answers, and hands out memory of its own. Conditions: none beyond the statement's own. -/
import Derived.Test.YtncpoffbeipooaaDoorQFnExactWordsOfPure0
import Derived.Test.YtncpoffbeipooaaDoorBase
namespace Go.Proofs.YtncpoffbeipooaaDoor.Pure
open Go.RowKit Go.Proofs.YtncpoffbeipooaaDoor.QFnExactWordsOf Go.Proofs.YtncpoffbeipooaaDoorW.PrintWords Go.Proofs.YtncpoffbeipooaaDoorW.PrintLast Go.Proofs.YtncpoffbeipooaaDoorB Go.Proofs.YtncpoffbeipooaaDoorO
set_option linter.unusedVariables false
set_option linter.unusedSimpArgs false

def mk (l : List UInt8) : ByteArray := ⟨l.toArray⟩
theorem mk_data (l : List UInt8) : (mk l).data.toList = l := rfl
theorem mk_of (s : ByteArray) : mk s.data.toList = s := bytes_ext rfl
theorem mk_size (l : List UInt8) : (mk l).size = l.length := by rw [← size_data]; rfl
theorem map_mk (xs : List ByteArray) : (xs.map (·.data.toList)).map mk = xs := by
  rw [List.map_map]
  conv => rhs; rw [← List.map_id xs]
  exact List.map_congr_left (fun x _ => mk_of x)
theorem take_snoc {s : List UInt8} {b i : Nat} {c : UInt8} {l : List UInt8} (h : s.drop i = c :: l) (hb : b ≤ i) : (s.drop b).take (i + 1 - b) = (s.drop b).take (i - b) ++ [c] := by
  have e : i + 1 - b = (i - b) + 1 := by omega
  have hg : (s.drop b)[i - b]? = some c := by
    rw [List.getElem?_drop, show b + (i - b) = i by omega]
    have := congrArg List.head? h
    rw [List.head?_drop] at this
    simpa using this
  rw [e, List.take_add_one, hg]
  rfl

def Good (c : UInt8) : Prop := 32 ≤ c.toNat ∧ c.toNat ≤ 126
instance (c : UInt8) : Decidable (Good c) := inferInstanceAs (Decidable (_ ∧ _))
def AllGood (l : List UInt8) : Prop := ∀ c ∈ l, Good c
theorem allGood_dec (l : List UInt8) : AllGood l ∨ ∃ c ∈ l, ¬ Good c := by
  by_cases h : ∃ c ∈ l, ¬ Good c
  · exact .inr h
  · exact .inl (fun c hc => Classical.byContradiction fun hg => h ⟨c, hc, hg⟩)
def endOf (X : List ByteArray) : List ByteArray × Bool := if (X.length : Int) > 10 then ([], false) else (X, true)
theorem isSp_good (c : UInt8) (h : Good c) : Lib.isSp c = true ↔ c = 32 := by
  obtain ⟨h1, h2⟩ := h
  unfold Lib.isSp
  simp only [Bool.or_eq_true, beq_iff_eq]
  constructor
  · rintro (((((h | h) | h) | h) | h) | h)
    · subst h; exact absurd h1 (by decide)
    · subst h; exact absurd h1 (by decide)
    · subst h; exact absurd h1 (by decide)
    · subst h; exact absurd h1 (by decide)
    · subst h; exact absurd h1 (by decide)
    · exact h
  · intro h; exact .inr h
theorem fields_len : ∀ (l cur : List UInt8), (Lib.fieldsGo cur l).length ≤ l.length + 1
  | [], cur => by unfold Lib.fieldsGo; split <;> simp
  | b :: l, cur => by
    have h1 := fields_len l []
    have h2 := fields_len l (cur ++ [b])
    unfold Lib.fieldsGo
    split
    · split
      · simp only [List.length_cons]; omega
      · simp only [List.length_cons]; omega
    · simp only [List.length_cons]; omega

theorem impl_PartsOf_good (s : ByteArray) (hs : s.size ≤ 600) (hg : AllGood s.data.toList) :
    ∀ (l : List UInt8) (i : Nat), s.data.toList.drop i = l → i ≤ s.size → Ev (fun k => impl_PartsOf.l0 k s (s.size : Int) i) (endOf ((Lib.fields s.data.toList).map mk))
  | [], i, h, hi => by
    have e := drop_end h (by rw [size_data]; exact hi)
    rw [size_data] at e
    have hl : (Lib.fields s.data.toList).length ≤ s.size + 1 := by
      have := fields_len s.data.toList []
      rw [size_data] at this
      exact this
    have hf : strings_Fields.f s = some ((Lib.fields s.data.toList).map mk) := by
      unfold strings_Fields.f
      have ha : (s.data.toList.all fun b => decide (b.toNat < 128)) = true := List.all_eq_true.2 (fun b hb => decide_eq_true (by have := (hg b hb).2; omega))
      rw [if_pos ⟨by omega, ha, by omega⟩]
      rfl
    refine Ev.step (fun k => ?_) (Ev.now _)
    rw [impl_PartsOf.l0, if_neg (by omega), hf, Option.bind_some]
    unfold endOf
    split <;> rfl
  | c :: l, i, h, hi => by
    have hlt := drop_lt h
    rw [size_data] at hlt
    have hbt := bt_cons h
    have hgc := hg c (List.mem_of_mem_drop (show c ∈ s.data.toList.drop i by rw [h]; simp))
    have ih := impl_PartsOf_good s hs hg l (i + 1) (drop_tail h) (by omega)
    obtain ⟨g1, g2⟩ := hgc
    refine Ev.step (fun k => ?_) ih
    rw [impl_PartsOf.l0, if_pos (by omega), if_pos (by omega), if_pos (by omega), hbt, if_neg (by omega), if_neg (by omega), wrap_succ i (by omega)]
theorem impl_PartsOf_bad (s : ByteArray) (hs : s.size ≤ 600) :
    ∀ (l : List UInt8) (i : Nat), s.data.toList.drop i = l → i ≤ s.size → (∃ c ∈ l, ¬ Good c) → Ev (fun k => impl_PartsOf.l0 k s (s.size : Int) i) ([], false)
  | [], i, h, hi, hb => absurd hb (by simp)
  | c :: l, i, h, hi, hb => by
    have hlt := drop_lt h
    rw [size_data] at hlt
    have hbt := bt_cons h
    by_cases h1 : c.toNat < 32
    · refine Ev.step (fun k => ?_) (Ev.now _)
      rw [impl_PartsOf.l0, if_pos (by omega), if_pos (by omega), if_pos (by omega), hbt, if_pos (by omega)]
    · by_cases h2 : c.toNat > 126
      · refine Ev.step (fun k => ?_) (Ev.now _)
        rw [impl_PartsOf.l0, if_pos (by omega), if_pos (by omega), if_pos (by omega), hbt, if_neg (by omega), if_pos (by omega)]
      · have hg : Good c := ⟨by omega, by omega⟩
        have hb2 : ∃ d ∈ l, ¬ Good d := by
          obtain ⟨d, hd, hn⟩ := hb
          rcases List.mem_cons.mp hd with hd | hd
          · subst hd; exact absurd hg hn
          · exact ⟨d, hd, hn⟩
        have ih := impl_PartsOf_bad s hs l (i + 1) (drop_tail h) (by omega) hb2
        refine Ev.step (fun k => ?_) ih
        rw [impl_PartsOf.l0, if_pos (by omega), if_pos (by omega), if_pos (by omega), hbt, if_neg (by omega), if_neg (by omega), wrap_succ i (by omega)]
theorem spec_good (s : ByteArray) (hs : s.size ≤ 600) (acc : List ByteArray) (b i : Nat) (c : UInt8) (l : List UInt8) (h : s.data.toList.drop i = c :: l) (hb : b ≤ i) (ha : acc.length ≤ i) (hg : Good c) {r : List ByteArray × Bool}
    (h1 : c = 32 → b < i → Ev (fun k => spec_PartsOf.l0 k s (acc ++ [s.extract b i]) ((i + 1 : Nat) : Int) ((i + 1 : Nat) : Int)) r)
    (h2 : c = 32 → ¬ b < i → Ev (fun k => spec_PartsOf.l0 k s acc ((i + 1 : Nat) : Int) ((i + 1 : Nat) : Int)) r)
    (h3 : ¬ c = 32 → Ev (fun k => spec_PartsOf.l0 k s acc b ((i + 1 : Nat) : Int)) r) : Ev (fun k => spec_PartsOf.l0 k s acc b i) r := by
  have hlt := drop_lt h
  rw [size_data] at hlt
  have hbt := bt_cons h
  obtain ⟨g1, g2⟩ := hg
  refine Ev.step (f := fun k => spec_PartsOf.j1 k s acc b i false) (fun k => ?_) ?_
  · rw [spec_PartsOf.l0, if_pos (by omega), if_pos (by omega), if_pos (by omega), hbt, if_neg (by omega), decide_eq_false (by omega)]
  refine Ev.step (f := fun k => spec_PartsOf.j2 k s acc b i (bt s (i : Int) != 32)) (fun k => ?_) ?_
  · rw [spec_PartsOf.j1, if_neg (by decide), if_pos (by omega), if_pos (by omega)]
  by_cases hc : c = 32
  · have hz : (bt s (i : Int) != 32) = false := by rw [hbt, hc]; rfl
    rw [hz]
    by_cases hbi : b < i
    · refine Ev.step (fun k => ?_) (h1 hc hbi)
      rw [spec_PartsOf.j2, if_neg (by decide), if_pos (by omega), if_pos (by omega), if_pos (by omega), if_pos (by omega), if_pos (by omega), Int.toNat_natCast, Int.toNat_natCast, wrap_succ i (by omega)]
    · refine Ev.step (fun k => ?_) (h2 hc hbi)
      rw [spec_PartsOf.j2, if_neg (by decide), if_neg (by omega), wrap_succ i (by omega)]
  · have hz : (bt s (i : Int) != 32) = true := by
      rw [hbt]
      exact bne_iff_ne.mpr (fun e => hc (UInt8.toNat_inj.mp (show c.toNat = 32 by omega)))
    rw [hz]
    refine Ev.step (fun k => ?_) (h3 hc)
    rw [spec_PartsOf.j2, if_pos rfl, wrap_succ i (by omega)]
theorem spec_PartsOf_bad (s : ByteArray) (hs : s.size ≤ 600) :
    ∀ (l : List UInt8) (i b : Nat) (acc : List ByteArray), s.data.toList.drop i = l → i ≤ s.size → b ≤ i → acc.length ≤ i → (∃ c ∈ l, ¬ Good c) → Ev (fun k => spec_PartsOf.l0 k s acc b i) ([], false)
  | [], i, b, acc, h, hi, hb, ha, hx => absurd hx (by simp)
  | c :: l, i, b, acc, h, hi, hb, ha, hx => by
    have hlt := drop_lt h
    rw [size_data] at hlt
    have hbt := bt_cons h
    by_cases hg : Good c
    · have hb2 : ∃ d ∈ l, ¬ Good d := by
        obtain ⟨d, hd, hn⟩ := hx
        rcases List.mem_cons.mp hd with hd | hd
        · subst hd; exact absurd hg hn
        · exact ⟨d, hd, hn⟩
      exact spec_good s hs acc b i c l h hb ha hg
        (fun _ _ => spec_PartsOf_bad s hs l (i + 1) (i + 1) _ (drop_tail h) (by omega) (Nat.le_refl _) (by rw [List.length_append, List.length_singleton]; omega) hb2)
        (fun _ _ => spec_PartsOf_bad s hs l (i + 1) (i + 1) _ (drop_tail h) (by omega) (Nat.le_refl _) (by omega) hb2)
        (fun _ => spec_PartsOf_bad s hs l (i + 1) b _ (drop_tail h) (by omega) (by omega) (by omega) hb2)
    · refine Ev.step (f := fun k => spec_PartsOf.j1 k s acc b i true) (fun k => ?_) (Ev.step (fun k => by rw [spec_PartsOf.j1, if_pos rfl]) (Ev.now _))
      rw [spec_PartsOf.l0, if_pos (by omega), if_pos (by omega), if_pos (by omega), hbt]
      by_cases h1 : c.toNat < 32
      · rw [if_pos (by omega)]
      · have h2 : c.toNat > 126 := by
          rcases Nat.lt_or_ge 126 c.toNat with h2 | h2
          · exact h2
          · exact absurd ⟨by omega, h2⟩ hg
        rw [if_neg (by omega), decide_eq_true (by omega)]
theorem cur_empty (s : List UInt8) (b i : Nat) (hi : i ≤ s.length) : ((s.drop b).take (i - b)).isEmpty = true ↔ ¬ b < i := by
  rw [List.isEmpty_iff_length_eq_zero, List.length_take, List.length_drop]
  omega
theorem spec_PartsOf_good (s : ByteArray) (hs : s.size ≤ 600) (hgs : AllGood s.data.toList) :
    ∀ (l : List UInt8) (i b : Nat) (acc : List ByteArray), s.data.toList.drop i = l → i ≤ s.size → b ≤ i → acc.length ≤ i →
      Ev (fun k => spec_PartsOf.l0 k s acc b i) (endOf (acc ++ (Lib.fieldsGo ((s.data.toList.drop b).take (i - b)) l).map mk))
  | [], i, b, acc, h, hi, hb, ha => by
    have e := drop_end h (by rw [size_data]; exact hi)
    rw [size_data] at e
    have hlast : ∀ X : List ByteArray, Ev (fun k => spec_PartsOf.l0 k s X ((i + 1 : Nat) : Int) ((i + 1 : Nat) : Int)) (endOf X) := fun X => by
      refine Ev.step (fun k => ?_) (Ev.now _)
      rw [spec_PartsOf.l0, if_neg (by omega)]
      unfold endOf
      split <;> rfl
    refine Ev.step (f := fun k => spec_PartsOf.j1 k s acc b i false) (fun k => by rw [spec_PartsOf.l0, if_pos (by omega), if_neg (by omega)]) ?_
    refine Ev.step (f := fun k => spec_PartsOf.j2 k s acc b i false) (fun k => by rw [spec_PartsOf.j1, if_neg (by decide), if_neg (by omega)]) ?_
    have hce := cur_empty s.data.toList b i (by rw [size_data]; exact hi)
    have ex : s.extract b i = mk ((s.data.toList.drop b).take (i - b)) := bytes_ext (by rw [extract_data, mk_data])
    unfold Lib.fieldsGo
    by_cases hbi : b < i
    · rw [if_neg (fun hh => hce.1 hh hbi)]
      refine Ev.step (fun k => ?_) (hlast _)
      rw [spec_PartsOf.j2, if_neg (by decide), if_pos (by omega), if_pos (by omega), if_pos (by omega), if_pos (by omega), if_pos (by omega), Int.toNat_natCast, Int.toNat_natCast, wrap_succ i (by omega), ex]
      rfl
    · rw [if_pos (hce.2 hbi), List.map_nil, List.append_nil]
      refine Ev.step (fun k => ?_) (hlast _)
      rw [spec_PartsOf.j2, if_neg (by decide), if_neg (by omega), wrap_succ i (by omega)]
  | c :: l, i, b, acc, h, hi, hb, ha => by
    have hlt := drop_lt h
    rw [size_data] at hlt
    have hgc := hgs c (List.mem_of_mem_drop (show c ∈ s.data.toList.drop i by rw [h]; simp))
    have hsp := isSp_good c hgc
    have hce := cur_empty s.data.toList b i (by rw [size_data]; exact hi)
    have ex : s.extract b i = mk ((s.data.toList.drop b).take (i - b)) := bytes_ext (by rw [extract_data, mk_data])
    refine spec_good s hs acc b i c l h hb ha hgc (fun hc hbi => ?_) (fun hc hbi => ?_) (fun hc => ?_)
    · have ih := spec_PartsOf_good s hs hgs l (i + 1) (i + 1) (acc ++ [s.extract b i]) (drop_tail h) (by omega) (Nat.le_refl _) (by rw [List.length_append, List.length_singleton]; omega)
      rw [show i + 1 - (i + 1) = 0 by omega, List.take_zero] at ih
      have e : acc ++ (Lib.fieldsGo ((s.data.toList.drop b).take (i - b)) (c :: l)).map mk = acc ++ [s.extract b i] ++ (Lib.fieldsGo [] l).map mk := by
        rw [Lib.fieldsGo, if_pos (hsp.2 hc), if_neg (fun hh => hce.1 hh hbi), List.map_cons, ex, List.append_assoc]
        rfl
      rw [e]
      exact ih
    · have ih := spec_PartsOf_good s hs hgs l (i + 1) (i + 1) acc (drop_tail h) (by omega) (Nat.le_refl _) (by omega)
      rw [show i + 1 - (i + 1) = 0 by omega, List.take_zero] at ih
      rw [Lib.fieldsGo, if_pos (hsp.2 hc), if_pos (hce.2 hbi)]
      exact ih
    · have ih := spec_PartsOf_good s hs hgs l (i + 1) b acc (drop_tail h) (by omega) (by omega) (by omega)
      rw [take_snoc h hb] at ih
      rw [Lib.fieldsGo, if_neg (fun hh => hc (hsp.1 hh))]
      exact ih
open Classical in
noncomputable def parts (s : ByteArray) : List ByteArray × Bool := if (s.size : Int) > 600 then ([], false) else if AllGood s.data.toList then endOf ((Lib.fields s.data.toList).map mk) else ([], false)
theorem spec_PartsOf_ev (s : ByteArray) : Ev (fun k => spec_PartsOf.f k s) (parts s) := by
  unfold spec_PartsOf.f parts
  simp only [Option.bind_some]
  by_cases h : (s.size : Int) > 600
  · simp only [if_pos h]; exact Ev.now _
  · simp only [if_neg h]
    rcases allGood_dec s.data.toList with hg | hb
    · rw [if_pos hg]
      have := spec_PartsOf_good s (by omega) hg s.data.toList 0 0 [] rfl (by omega) (Nat.le_refl _) (by simp)
      rw [show (s.data.toList.drop 0).take (0 - 0) = [] by simp, List.nil_append] at this
      exact this
    · rw [if_neg (fun hg => by obtain ⟨c, hc, hn⟩ := hb; exact hn (hg c hc))]
      exact spec_PartsOf_bad s (by omega) s.data.toList 0 0 [] rfl (by omega) (Nat.le_refl _) (by simp) hb
theorem impl_PartsOf_ev (s : ByteArray) : Ev (fun k => impl_PartsOf.f k s) (parts s) := by
  unfold impl_PartsOf.f parts
  by_cases h : (s.size : Int) > 600
  · simp only [if_pos h]; exact Ev.now _
  · simp only [if_neg h]
    rcases allGood_dec s.data.toList with hg | hb
    · rw [if_pos hg]
      exact impl_PartsOf_good s (by omega) hg s.data.toList 0 rfl (by omega)
    · rw [if_neg (fun hg => by obtain ⟨c, hc, hn⟩ := hb; exact hn (hg c hc))]
      exact impl_PartsOf_bad s (by omega) s.data.toList 0 rfl (by omega) hb
theorem parts_len (s : ByteArray) : (parts s).1.length ≤ 10 := by
  unfold parts endOf
  split
  · simp
  · split
    · split
      · simp
      · show ((Lib.fields s.data.toList).map mk).length ≤ 10
        omega
    · simp
theorem parts_no (s : ByteArray) (h : ¬ (parts s).2 = true) : (parts s).1 = [] := by
  unfold parts endOf at h ⊢
  split
  · rfl
  · rename_i h1
    rw [if_neg h1] at h
    split
    · rename_i h2
      rw [if_pos h2] at h
      split
      · rfl
      · rename_i h3
        rw [if_neg h3] at h
        exact absurd rfl h
    · rfl
theorem spec_WordsOf_ev (s : ByteArray) : Ev (fun k => spec_WordsOf.f k s) (parts s).1 := by
  unfold spec_WordsOf.f
  refine Ev.bind (spec_PartsOf_ev s) ?_
  have hl := parts_len s
  by_cases h : (parts s).2 = true
  · simp only [if_pos h, Option.bind_some, List.length_nil, Nat.zero_add, if_pos (show (parts s).1.length < 8796093022208 by omega), List.nil_append]
    exact Ev.now _
  · simp only [if_neg h, parts_no s h]
    exact Ev.now _
theorem impl_WordsOf_ev (s : ByteArray) : Ev (fun k => impl_WordsOf.f k s) (parts s).1 := by
  unfold impl_WordsOf.f
  exact Ev.bind (impl_PartsOf_ev s) (Ev.now _)

theorem eqStringS_l0 (xs ys : List ByteArray) (hx : xs.length ≤ 9223372036854775807) (hl : xs.length = ys.length) :
    ∀ (l m : List ByteArray) (i : Nat), xs.drop i = l → ys.drop i = m → i ≤ xs.length → Ev (fun k => laws_eqStringS.l0 k xs ys i) (decide (l = m))
  | [], m, i, h, h2, hi => by
    have e := drop_end h hi
    have e2 : m = [] := by rw [← h2]; exact List.drop_of_length_le (by omega)
    subst e2
    exact Ev.step (fun k => by rw [laws_eqStringS.l0, if_neg (by omega)]) (by simpa using Ev.now true)
  | x :: l, [], i, h, h2, hi => by
    have hlt := drop_lt h
    have := drop_end h2 (by omega)
    omega
  | x :: l, y :: m, i, h, h2, hi => by
    have hlt := drop_lt h
    by_cases hxy : x = y
    · subst hxy
      have ih := eqStringS_l0 xs ys hx hl l m (i + 1) (drop_tail h) (drop_tail h2) (by omega)
      have e : decide (x :: l = x :: m) = decide (l = m) := by simp
      rw [e]
      refine Ev.step (fun k => ?_) ih
      rw [laws_eqStringS.l0, if_pos (by omega), if_pos (by omega), if_pos (by omega), rdOf_drop _ h, rdOf_drop _ h2, if_pos rfl, wrap_succ i (by omega)]
    · have e : decide (x :: l = y :: m) = false := by simp [hxy]
      rw [e]
      refine Ev.step (fun k => ?_) (Ev.now _)
      rw [laws_eqStringS.l0, if_pos (by omega), if_pos (by omega), if_pos (by omega), rdOf_drop _ h, rdOf_drop _ h2, if_neg (fun h => hxy (toList_inj.mp h))]

theorem eqStringS_ev (xs ys : List ByteArray) (hx : xs.length ≤ 9223372036854775807) (hy : ys.length ≤ 9223372036854775807) : Ev (fun k => laws_eqStringS.f k xs ys) (decide (xs = ys)) := by
  by_cases hl : xs.length = ys.length
  · refine Ev.congr (fun k => ?_) (eqStringS_l0 xs ys hx hl xs ys 0 rfl rfl (by omega))
    rw [laws_eqStringS.f, if_pos (by omega)]; rfl
  · have e : decide (xs = ys) = false := decide_eq_false (fun h => hl (by rw [h]))
    rw [e]
    refine Ev.congr (fun k => ?_) (Ev.now _)
    rw [laws_eqStringS.f, if_neg (by omega)]

theorem strOfNums_one (x : Int) : (strOfNums [x]).size = 1 := rfl
theorem markText_l0 : ∀ (m n : Nat), n ≤ m → n ≤ 1099511627776 → ∀ t : ByteArray, t.size + n ≤ 2199023255552 → ∃ r, Ev (fun k => laws_markText.l0 k n t) r
  | m, 0, _, _, t, ht => ⟨_, Ev.step (fun k => by rw [laws_markText.l0, if_neg (by omega), if_pos (by omega)]) (Ev.now _)⟩
  | 0, n + 1, h, _, _, _ => absurd h (by omega)
  | m + 1, n + 1, h, hn, t, ht => by
    have e1 : Int.tdiv ((n + 1 : Nat) : Int) 10 = (((n + 1) / 10 : Nat) : Int) := rfl
    have e2 : wrap64 (Int.tdiv ((n + 1 : Nat) : Int) 10) = (((n + 1) / 10 : Nat) : Int) := by rw [e1]; exact wrap_nat _ _ rfl (by omega)
    have hs : ((strOfNums [wrap64 (48 + (Int.tmod ((n + 1 : Nat) : Int) 10)) % 256]) ++ t).size = 1 + t.size := by rw [ByteArray.size_append, strOfNums_one]
    obtain ⟨r, hr⟩ := markText_l0 m ((n + 1) / 10) (by omega) (by omega) ((strOfNums [wrap64 (48 + (Int.tmod ((n + 1 : Nat) : Int) 10)) % 256]) ++ t) (by rw [hs]; omega)
    refine ⟨r, Ev.step (fun k => ?_) hr⟩
    rw [laws_markText.l0, if_pos (by omega), Option.bind_some, strOfNums_one, if_pos (by omega), e2]
theorem markText_some (n : Nat) (h : n ≤ 1099511627776) : ∃ r, Ev (fun k => laws_markText.f k n) r := by
  unfold laws_markText.f
  by_cases c : (n : Int) ≤ 0
  · simp only [if_pos c]; exact ⟨_, Ev.now _⟩
  · simp only [if_neg c]
    exact markText_l0 n n (Nat.le_refl _) h _ (by show 0 + n ≤ _; omega)
open Classical in
noncomputable def mt (n : Nat) : ByteArray := if h : ∃ r, Ev (fun k => laws_markText.f k n) r then Classical.choose h else ByteArray.empty
theorem markText_ev (n : Nat) (h : n ≤ 1099511627776) : Ev (fun k => laws_markText.f k n) (mt n) := by
  unfold mt
  rw [dif_pos (markText_some n h)]
  exact Classical.choose_spec (markText_some n h)
noncomputable def marks : Nat → Nat → List ByteArray
  | _, 0 => []
  | c, n + 1 => mt c :: marks (c + 1) n
theorem marks_length : ∀ n c, (marks c n).length = n
  | 0, _ => rfl
  | n + 1, c => by rw [marks, List.length_cons, marks_length n]
theorem take_set_snoc {α : Type} (v : α) : ∀ (xs : List α) (i : Nat), i < xs.length → (xs.set i v).take (i + 1) = xs.take i ++ [v]
  | [], i, h => absurd h (by simp)
  | x :: l, 0, _ => rfl
  | x :: l, i + 1, h => by
    have := take_set_snoc v l i (by simpa using h)
    simp only [List.set_cons_succ, List.take_succ_cons, this, List.cons_append]
theorem markStringS_l0 : ∀ (n i c : Nat) (xs : List ByteArray), i + n = xs.length → c + n ≤ 1099511627776 → i + n ≤ 1099511627776 →
    Ev (fun k => laws_markStringS.l0 k xs c i) (((c + n : Nat) : Int), xs.take i ++ marks c n)
  | 0, i, c, xs, h, hc, hi => by
    rw [show xs.take i = xs from List.take_of_length_le (by omega)]
    exact Ev.step (fun k => by rw [laws_markStringS.l0, if_neg (by omega)]; simp [marks]) (Ev.now _)
  | n + 1, i, c, xs, h, hc, hi => by
    have ih := markStringS_l0 n (i + 1) (c + 1) (xs.set i (mt c)) (by rw [List.length_set]; omega) (by omega) (by omega)
    rw [take_set_snoc (mt c) xs i (by omega), List.append_assoc, show c + 1 + n = c + (n + 1) by omega] at ih
    refine Ev.step (f := fun k => (laws_markText.f k c).bind fun t => if 0 ≤ (i : Int) then laws_markStringS.l0 k (xs.set i t) ((c + 1 : Nat) : Int) ((i + 1 : Nat) : Int) else none) (fun k => ?_) (Ev.bind (markText_ev c (by omega)) ?_)
    · rw [laws_markStringS.l0, if_pos (by omega), wrap_succ c (by omega), wrap_succ i (by omega), Int.toNat_natCast]
    · simp only [if_pos (show 0 ≤ (i : Int) by omega)]
      exact ih
theorem heldStringS_l0 (xs : List ByteArray) : ∀ (n i c : Nat), xs.drop i = marks c n → i + n = xs.length → c + n ≤ 1099511627776 → i + n ≤ 1099511627776 →
    Ev (fun k => laws_heldStringS.l0 k xs c i) ((c + n : Nat) : Int)
  | 0, i, c, hd, h, hc, hi => Ev.step (fun k => by rw [laws_heldStringS.l0, if_neg (by omega)]; rfl) (Ev.now _)
  | n + 1, i, c, hd, h, hc, hi => by
    have ih := heldStringS_l0 xs n (i + 1) (c + 1) (drop_tail hd) (by omega) (by omega) (by omega)
    rw [show c + 1 + n = c + (n + 1) by omega] at ih
    refine Ev.step (f := fun k => if 0 ≤ (i : Int) then ((laws_markText.f k c).bind fun t => if (mt c).toList = t.toList then laws_heldStringS.l0 k xs ((c + 1 : Nat) : Int) ((i + 1 : Nat) : Int) else some (-1)) else none) (fun k => ?_) ?_
    · rw [laws_heldStringS.l0, if_pos (by omega), wrap_succ c (by omega), wrap_succ i (by omega), rdOf_drop _ hd]
    · simp only [if_pos (show 0 ≤ (i : Int) by omega)]
      refine Ev.bind (markText_ev c (by omega)) ?_
      simp only [if_true]
      exact ih
theorem markStringS_ev (xs : List ByteArray) (c : Nat) (h : xs.length ≤ 1099511627776) (hc : c + xs.length ≤ 1099511627776) : Ev (fun k => laws_markStringS.f k xs c) (((c + xs.length : Nat) : Int), marks c xs.length) :=
  Ev.congr (fun k => rfl) (markStringS_l0 xs.length 0 c xs (by omega) hc (by omega))
theorem heldStringS_ev (n c : Nat) (h : n ≤ 1099511627776) (hc : c + n ≤ 1099511627776) : Ev (fun k => laws_heldStringS.f k (marks c n) c) ((c + n : Nat) : Int) :=
  Ev.congr (fun k => rfl) (heldStringS_l0 (marks c n) n 0 c rfl (by rw [marks_length]; omega) hc (by omega))

theorem FnExactWordsOf : laws_FnExactWordsOf.Pure := by
  intro s _
  refine Ev.rounds (g := fun k => laws_FnExactWordsOf.f k s) ?_
  unfold laws_FnExactWordsOf.f
  by_cases h : (s.size : Int) > 1048576
  · simp only [if_pos h]; exact Ev.now _
  · simp only [if_neg h]
    have hl := parts_len s
    have he : Ev (fun k => laws_eqStringS.f k (parts s).1 (parts s).1) true := by
      have := eqStringS_ev (parts s).1 (parts s).1 (by omega) (by omega)
      simpa using this
    have hm : Ev (fun k => laws_markStringS.f k (parts s).1 1) (((1 + (parts s).1.length : Nat) : Int), marks 1 (parts s).1.length) := markStringS_ev (parts s).1 1 (by omega) (by omega)
    have hh : Ev (fun k => laws_heldStringS.f k (marks 1 (parts s).1.length) 1) ((1 + (parts s).1.length : Nat) : Int) := heldStringS_ev (parts s).1.length 1 (by omega) (by omega)
    have hn : ¬ (((1 + (parts s).1.length : Nat) : Int) < 0) := by omega
    refine Ev.bind (spec_WordsOf_ev s) ?_
    refine Ev.bind (impl_WordsOf_ev s) ?_
    refine Ev.bind he ?_
    simp only [if_true]
    refine Ev.bind hm ?_
    refine Ev.bind hh ?_
    simp only [if_neg hn, if_true]
    refine Ev.bind (impl_WordsOf_ev s) ?_
    refine Ev.bind he ?_
    simp only [if_true]
    refine Ev.bind hh ?_
    simp only [if_neg hn, if_true]
    exact Ev.now _

end Go.Proofs.YtncpoffbeipooaaDoor.Pure
