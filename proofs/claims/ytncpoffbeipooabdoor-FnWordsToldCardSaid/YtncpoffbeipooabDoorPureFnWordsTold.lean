/- Of drawn lines, words, lower letters and numbers are what the reference tells. Conditions: none beyond the statement's own. -/
import Derived.Laws.BitsLemmas
import Derived.Test.YtncpoffbeipooabDoorQFnWordsToldPure0
import Derived.Test.YtncpoffbeipooabDoorBase
namespace Go.Proofs.YtncpoffbeipooabDoor.Pure
open Go.RowKit Go.Proofs.YtncpoffbeipooabDoor.QFnWordsTold Go.Proofs.YtncpoffbeipooabDoorW.PrintWords Go.Proofs.YtncpoffbeipooabDoorW.PrintLast Go.Proofs.YtncpoffbeipooabDoorB Go.Proofs.YtncpoffbeipooabDoorO
set_option linter.unusedVariables false
set_option linter.unusedSimpArgs false

theorem and_range (x : Int) : 0 ≤ Go.bits .and .i64 x 255 ∧ Go.bits .and .i64 x 255 ≤ 255 := by
  have hm : ((BitVec.ofInt 64 x) &&& (BitVec.ofInt 64 255)).toNat ≤ 255 := by
    rw [BitVec.toNat_and]
    exact Nat.and_le_right
  have e : Go.bits .and .i64 x 255 = IntKind.i64.wrap ((((BitVec.ofInt 64 x) &&& (BitVec.ofInt 64 255)).toNat : Nat) : Int) := rfl
  rw [e, IntKind.wrap_i64]
  omega
theorem l01New_ev (xs : List Int) (hx : xs.length ≤ 1048576) : ∃ h : Int, Ev (fun k => spec_l01New.f k xs) (xs, 0, h) := by
  suffices H : ∀ (l : List Int) (i : Nat) (y : Int), xs.drop i = l → i ≤ xs.length → ∃ h : Int, Ev (fun k => spec_l01New.l0 k xs y i) (xs, 0, h) by
    obtain ⟨h, hh⟩ := H xs 0 (wrap64 (76001 + (xs.length : Int))) rfl (by omega)
    exact ⟨h, Ev.congr (fun k => rfl) hh⟩
  intro l
  induction l with
  | nil =>
    intro i y hd hi
    have e := drop_end hd hi
    exact ⟨y, Ev.step (fun k => by rw [spec_l01New.l0, if_neg (by omega)]) (Ev.now _)⟩
  | cons x l ih =>
    intro i y hd hi
    have hlt := drop_lt hd
    by_cases h4 : (i : Int) < 4000
    · obtain ⟨h, hh⟩ := ih (i + 1) (Go.bits .and .i64 (wrap64 ((wrap64 ((wrap64 (y * 131)) + (wrap64 (rd xs i)))) + 7)) 1073741823) (drop_tail hd) (by omega)
      refine ⟨h, Ev.step (fun k => ?_) hh⟩
      rw [spec_l01New.l0, if_pos (by omega), if_pos h4, if_pos (by omega), wrap_succ i (by omega)]
    · exact ⟨y, Ev.step (fun k => by rw [spec_l01New.l0, if_pos (by omega), if_neg h4]) (Ev.now _)⟩
theorem l01Byte_eq (xs : List Int) (hx : xs.length ≤ 1048576) (i h : Int) (hi : 0 ≤ i) : ∃ x j g : Int, spec_l01Byte.f xs i h = some (x, j, g) ∧ 0 ≤ x ∧ x ≤ 255 ∧ 0 ≤ j := by
  unfold spec_l01Byte.f
  by_cases c : i < (xs.length : Int)
  · rw [if_pos c, if_pos hi]
    exact ⟨_, _, _, rfl, (and_range _).1, (and_range _).2, by rw [wrap_id (by omega) (by omega)]; omega⟩
  · rw [if_neg c]
    exact ⟨_, _, _, rfl, (and_range _).1, (and_range _).2, hi⟩
theorem l01Below_eq (xs : List Int) (hx : xs.length ≤ 1048576) (i h : Int) (hi : 0 ≤ i) (n : Int) (hn : 0 < n) : ∃ x j g : Int, spec_l01Below.f xs i h n = some (x, j, g) ∧ 0 ≤ x ∧ x < n ∧ 0 ≤ j := by
  unfold spec_l01Below.f
  rw [if_neg (by omega)]
  by_cases c : n ≤ 256
  · rw [if_pos c]
    obtain ⟨x, j, g, e, h1, h2, h3⟩ := l01Byte_eq xs hx i h hi
    rw [e, Option.bind_some, if_neg (by omega)]
    exact ⟨_, _, _, rfl, Int.tmod_nonneg _ h1, Int.tmod_lt_of_pos _ hn, h3⟩
  · rw [if_neg c]
    obtain ⟨x1, j1, g1, e1, a1, b1, c1⟩ := l01Byte_eq xs hx i h hi
    obtain ⟨x2, j2, g2, e2, a2, b2, c2⟩ := l01Byte_eq xs hx j1 g1 c1
    obtain ⟨x3, j3, g3, e3, a3, b3, c3⟩ := l01Byte_eq xs hx j2 g2 c2
    obtain ⟨x4, j4, g4, e4, a4, b4, c4⟩ := l01Byte_eq xs hx j3 g3 c3
    simp only [e1, e2, e3, e4, Option.bind_some]
    rw [if_neg (by omega)]
    have w1 : wrap64 (x1 * 16777216) = x1 * 16777216 := wrap_id (by omega) (by omega)
    have w2 : wrap64 (x2 * 65536) = x2 * 65536 := wrap_id (by omega) (by omega)
    have w3 : wrap64 (x3 * 256) = x3 * 256 := wrap_id (by omega) (by omega)
    rw [w1, w2, w3]
    have w4 : wrap64 (x1 * 16777216 + x2 * 65536) = x1 * 16777216 + x2 * 65536 := wrap_id (by omega) (by omega)
    rw [w4]
    have w5 : wrap64 (x1 * 16777216 + x2 * 65536 + x3 * 256) = x1 * 16777216 + x2 * 65536 + x3 * 256 := wrap_id (by omega) (by omega)
    rw [w5]
    have w6 : wrap64 (x1 * 16777216 + x2 * 65536 + x3 * 256 + x4) = x1 * 16777216 + x2 * 65536 + x3 * 256 + x4 := wrap_id (by omega) (by omega)
    rw [w6]
    exact ⟨_, _, _, rfl, Int.tmod_nonneg _ (by omega), Int.tmod_lt_of_pos _ hn, c4⟩

theorem pick_eq (xs : List Int) (hx : xs.length ≤ 1048576) (i h : Int) (hi : 0 ≤ i) (l : List ByteArray) (hl : 0 < l.length) : ∃ (x : ByteArray) (j g : Int), spec_l01Pick.f xs i h l = some (x, j, g) ∧ x ∈ l ∧ 0 ≤ j := by
  obtain ⟨n, j, g, e, h1, h2, h3⟩ := l01Below_eq xs hx i h hi (l.length : Int) (by omega)
  have hn : n.toNat < l.length := by omega
  refine ⟨l[n.toNat]'hn, j, g, ?_, List.getElem_mem hn, h3⟩
  unfold spec_l01Pick.f
  rw [e, Option.bind_some, if_pos h1, if_pos h2]
  have er : rdOf ByteArray.empty l n = l[n.toNat]'hn := by
    unfold rdOf
    rw [List.getD_eq_getElem?_getD, List.getElem?_eq_getElem hn]
    rfl
  rw [er]
theorem once_eq (xs : List Int) (hx : xs.length ≤ 1048576) (i h : Int) (hi : 0 ≤ i) (n : Int) (hn : 0 < n) : ∃ (b : Bool) (j g : Int), spec_l01Once.f xs i h n = some (b, j, g) ∧ 0 ≤ j := by
  obtain ⟨m, j, g, e, _, _, h3⟩ := l01Below_eq xs hx i h hi n hn
  exact ⟨_, _, _, by unfold spec_l01Once.f; rw [e, Option.bind_some], h3⟩

def mk (l : List UInt8) : ByteArray := ⟨l.toArray⟩
theorem mk_data (l : List UInt8) : (mk l).data.toList = l := rfl
theorem mk_of (s : ByteArray) : mk s.data.toList = s := bytes_ext rfl
theorem mk_size (l : List UInt8) : (mk l).size = l.length := by rw [← size_data]; rfl
theorem map_mk (xs : List ByteArray) : (xs.map (·.data.toList)).map mk = xs := by
  rw [List.map_map]
  conv => rhs; rw [← List.map_id xs]
  exact List.map_congr_left (fun x _ => mk_of x)
theorem take_snoc {s : List UInt8} {b i : Nat} {c : UInt8} {l : List UInt8} (h : s.drop i = c :: l) (hb : b ≤ i) : (s.drop b).take (i + 1 - b) = (s.drop b).take (i - b) ++ [c] := by
  have e : i + 1 - b = (i - b) + 1 := by omega
  have hg : (s.drop b)[i - b]? = some c := by
    rw [List.getElem?_drop, show b + (i - b) = i by omega]
    have := congrArg List.head? h
    rw [List.head?_drop] at this
    simpa using this
  rw [e, List.take_add_one, hg]
  rfl

def Good (c : UInt8) : Prop := 32 ≤ c.toNat ∧ c.toNat ≤ 126
instance (c : UInt8) : Decidable (Good c) := inferInstanceAs (Decidable (_ ∧ _))
def AllGood (l : List UInt8) : Prop := ∀ c ∈ l, Good c
theorem allGood_dec (l : List UInt8) : AllGood l ∨ ∃ c ∈ l, ¬ Good c := by
  by_cases h : ∃ c ∈ l, ¬ Good c
  · exact .inr h
  · exact .inl (fun c hc => Classical.byContradiction fun hg => h ⟨c, hc, hg⟩)
def endOf (X : List ByteArray) : List ByteArray × Bool := if (X.length : Int) > 10 then ([], false) else (X, true)
theorem isSp_good (c : UInt8) (h : Good c) : Lib.isSp c = true ↔ c = 32 := by
  obtain ⟨h1, h2⟩ := h
  unfold Lib.isSp
  simp only [Bool.or_eq_true, beq_iff_eq]
  constructor
  · rintro (((((h | h) | h) | h) | h) | h)
    · subst h; exact absurd h1 (by decide)
    · subst h; exact absurd h1 (by decide)
    · subst h; exact absurd h1 (by decide)
    · subst h; exact absurd h1 (by decide)
    · subst h; exact absurd h1 (by decide)
    · exact h
  · intro h; exact .inr h
theorem fields_len : ∀ (l cur : List UInt8), (Lib.fieldsGo cur l).length ≤ l.length + 1
  | [], cur => by unfold Lib.fieldsGo; split <;> simp
  | b :: l, cur => by
    have h1 := fields_len l []
    have h2 := fields_len l (cur ++ [b])
    unfold Lib.fieldsGo
    split
    · split
      · simp only [List.length_cons]; omega
      · simp only [List.length_cons]; omega
    · simp only [List.length_cons]; omega

theorem impl_PartsOf_good (s : ByteArray) (hs : s.size ≤ 600) (hg : AllGood s.data.toList) :
    ∀ (l : List UInt8) (i : Nat), s.data.toList.drop i = l → i ≤ s.size → Ev (fun k => impl_PartsOf.l0 k s (s.size : Int) i) (endOf ((Lib.fields s.data.toList).map mk))
  | [], i, h, hi => by
    have e := drop_end h (by rw [size_data]; exact hi)
    rw [size_data] at e
    have hl : (Lib.fields s.data.toList).length ≤ s.size + 1 := by
      have := fields_len s.data.toList []
      rw [size_data] at this
      exact this
    have hf : strings_Fields.f s = some ((Lib.fields s.data.toList).map mk) := by
      unfold strings_Fields.f
      have ha : (s.data.toList.all fun b => decide (b.toNat < 128)) = true := List.all_eq_true.2 (fun b hb => decide_eq_true (by have := (hg b hb).2; omega))
      rw [if_pos ⟨by omega, ha, by omega⟩]
      rfl
    refine Ev.step (fun k => ?_) (Ev.now _)
    rw [impl_PartsOf.l0, if_neg (by omega), hf, Option.bind_some]
    unfold endOf
    split <;> rfl
  | c :: l, i, h, hi => by
    have hlt := drop_lt h
    rw [size_data] at hlt
    have hbt := bt_cons h
    have hgc := hg c (List.mem_of_mem_drop (show c ∈ s.data.toList.drop i by rw [h]; simp))
    have ih := impl_PartsOf_good s hs hg l (i + 1) (drop_tail h) (by omega)
    obtain ⟨g1, g2⟩ := hgc
    refine Ev.step (fun k => ?_) ih
    rw [impl_PartsOf.l0, if_pos (by omega), if_pos (by omega), if_pos (by omega), hbt, if_neg (by omega), if_neg (by omega), wrap_succ i (by omega)]
theorem impl_PartsOf_bad (s : ByteArray) (hs : s.size ≤ 600) :
    ∀ (l : List UInt8) (i : Nat), s.data.toList.drop i = l → i ≤ s.size → (∃ c ∈ l, ¬ Good c) → Ev (fun k => impl_PartsOf.l0 k s (s.size : Int) i) ([], false)
  | [], i, h, hi, hb => absurd hb (by simp)
  | c :: l, i, h, hi, hb => by
    have hlt := drop_lt h
    rw [size_data] at hlt
    have hbt := bt_cons h
    by_cases h1 : c.toNat < 32
    · refine Ev.step (fun k => ?_) (Ev.now _)
      rw [impl_PartsOf.l0, if_pos (by omega), if_pos (by omega), if_pos (by omega), hbt, if_pos (by omega)]
    · by_cases h2 : c.toNat > 126
      · refine Ev.step (fun k => ?_) (Ev.now _)
        rw [impl_PartsOf.l0, if_pos (by omega), if_pos (by omega), if_pos (by omega), hbt, if_neg (by omega), if_pos (by omega)]
      · have hg : Good c := ⟨by omega, by omega⟩
        have hb2 : ∃ d ∈ l, ¬ Good d := by
          obtain ⟨d, hd, hn⟩ := hb
          rcases List.mem_cons.mp hd with hd | hd
          · subst hd; exact absurd hg hn
          · exact ⟨d, hd, hn⟩
        have ih := impl_PartsOf_bad s hs l (i + 1) (drop_tail h) (by omega) hb2
        refine Ev.step (fun k => ?_) ih
        rw [impl_PartsOf.l0, if_pos (by omega), if_pos (by omega), if_pos (by omega), hbt, if_neg (by omega), if_neg (by omega), wrap_succ i (by omega)]
theorem spec_good (s : ByteArray) (hs : s.size ≤ 600) (acc : List ByteArray) (b i : Nat) (c : UInt8) (l : List UInt8) (h : s.data.toList.drop i = c :: l) (hb : b ≤ i) (ha : acc.length ≤ i) (hg : Good c) {r : List ByteArray × Bool}
    (h1 : c = 32 → b < i → Ev (fun k => spec_PartsOf.l0 k s (acc ++ [s.extract b i]) ((i + 1 : Nat) : Int) ((i + 1 : Nat) : Int)) r)
    (h2 : c = 32 → ¬ b < i → Ev (fun k => spec_PartsOf.l0 k s acc ((i + 1 : Nat) : Int) ((i + 1 : Nat) : Int)) r)
    (h3 : ¬ c = 32 → Ev (fun k => spec_PartsOf.l0 k s acc b ((i + 1 : Nat) : Int)) r) : Ev (fun k => spec_PartsOf.l0 k s acc b i) r := by
  have hlt := drop_lt h
  rw [size_data] at hlt
  have hbt := bt_cons h
  obtain ⟨g1, g2⟩ := hg
  refine Ev.step (f := fun k => spec_PartsOf.j1 k s acc b i false) (fun k => ?_) ?_
  · rw [spec_PartsOf.l0, if_pos (by omega), if_pos (by omega), if_pos (by omega), hbt, if_neg (by omega), decide_eq_false (by omega)]
  refine Ev.step (f := fun k => spec_PartsOf.j2 k s acc b i (bt s (i : Int) != 32)) (fun k => ?_) ?_
  · rw [spec_PartsOf.j1, if_neg (by decide), if_pos (by omega), if_pos (by omega)]
  by_cases hc : c = 32
  · have hz : (bt s (i : Int) != 32) = false := by rw [hbt, hc]; rfl
    rw [hz]
    by_cases hbi : b < i
    · refine Ev.step (fun k => ?_) (h1 hc hbi)
      rw [spec_PartsOf.j2, if_neg (by decide), if_pos (by omega), if_pos (by omega), if_pos (by omega), if_pos (by omega), if_pos (by omega), Int.toNat_natCast, Int.toNat_natCast, wrap_succ i (by omega)]
    · refine Ev.step (fun k => ?_) (h2 hc hbi)
      rw [spec_PartsOf.j2, if_neg (by decide), if_neg (by omega), wrap_succ i (by omega)]
  · have hz : (bt s (i : Int) != 32) = true := by
      rw [hbt]
      exact bne_iff_ne.mpr (fun e => hc (UInt8.toNat_inj.mp (show c.toNat = 32 by omega)))
    rw [hz]
    refine Ev.step (fun k => ?_) (h3 hc)
    rw [spec_PartsOf.j2, if_pos rfl, wrap_succ i (by omega)]
theorem spec_PartsOf_bad (s : ByteArray) (hs : s.size ≤ 600) :
    ∀ (l : List UInt8) (i b : Nat) (acc : List ByteArray), s.data.toList.drop i = l → i ≤ s.size → b ≤ i → acc.length ≤ i → (∃ c ∈ l, ¬ Good c) → Ev (fun k => spec_PartsOf.l0 k s acc b i) ([], false)
  | [], i, b, acc, h, hi, hb, ha, hx => absurd hx (by simp)
  | c :: l, i, b, acc, h, hi, hb, ha, hx => by
    have hlt := drop_lt h
    rw [size_data] at hlt
    have hbt := bt_cons h
    by_cases hg : Good c
    · have hb2 : ∃ d ∈ l, ¬ Good d := by
        obtain ⟨d, hd, hn⟩ := hx
        rcases List.mem_cons.mp hd with hd | hd
        · subst hd; exact absurd hg hn
        · exact ⟨d, hd, hn⟩
      exact spec_good s hs acc b i c l h hb ha hg
        (fun _ _ => spec_PartsOf_bad s hs l (i + 1) (i + 1) _ (drop_tail h) (by omega) (Nat.le_refl _) (by rw [List.length_append, List.length_singleton]; omega) hb2)
        (fun _ _ => spec_PartsOf_bad s hs l (i + 1) (i + 1) _ (drop_tail h) (by omega) (Nat.le_refl _) (by omega) hb2)
        (fun _ => spec_PartsOf_bad s hs l (i + 1) b _ (drop_tail h) (by omega) (by omega) (by omega) hb2)
    · refine Ev.step (f := fun k => spec_PartsOf.j1 k s acc b i true) (fun k => ?_) (Ev.step (fun k => by rw [spec_PartsOf.j1, if_pos rfl]) (Ev.now _))
      rw [spec_PartsOf.l0, if_pos (by omega), if_pos (by omega), if_pos (by omega), hbt]
      by_cases h1 : c.toNat < 32
      · rw [if_pos (by omega)]
      · have h2 : c.toNat > 126 := by
          rcases Nat.lt_or_ge 126 c.toNat with h2 | h2
          · exact h2
          · exact absurd ⟨by omega, h2⟩ hg
        rw [if_neg (by omega), decide_eq_true (by omega)]
theorem cur_empty (s : List UInt8) (b i : Nat) (hi : i ≤ s.length) : ((s.drop b).take (i - b)).isEmpty = true ↔ ¬ b < i := by
  rw [List.isEmpty_iff_length_eq_zero, List.length_take, List.length_drop]
  omega
theorem spec_PartsOf_good (s : ByteArray) (hs : s.size ≤ 600) (hgs : AllGood s.data.toList) :
    ∀ (l : List UInt8) (i b : Nat) (acc : List ByteArray), s.data.toList.drop i = l → i ≤ s.size → b ≤ i → acc.length ≤ i →
      Ev (fun k => spec_PartsOf.l0 k s acc b i) (endOf (acc ++ (Lib.fieldsGo ((s.data.toList.drop b).take (i - b)) l).map mk))
  | [], i, b, acc, h, hi, hb, ha => by
    have e := drop_end h (by rw [size_data]; exact hi)
    rw [size_data] at e
    have hlast : ∀ X : List ByteArray, Ev (fun k => spec_PartsOf.l0 k s X ((i + 1 : Nat) : Int) ((i + 1 : Nat) : Int)) (endOf X) := fun X => by
      refine Ev.step (fun k => ?_) (Ev.now _)
      rw [spec_PartsOf.l0, if_neg (by omega)]
      unfold endOf
      split <;> rfl
    refine Ev.step (f := fun k => spec_PartsOf.j1 k s acc b i false) (fun k => by rw [spec_PartsOf.l0, if_pos (by omega), if_neg (by omega)]) ?_
    refine Ev.step (f := fun k => spec_PartsOf.j2 k s acc b i false) (fun k => by rw [spec_PartsOf.j1, if_neg (by decide), if_neg (by omega)]) ?_
    have hce := cur_empty s.data.toList b i (by rw [size_data]; exact hi)
    have ex : s.extract b i = mk ((s.data.toList.drop b).take (i - b)) := bytes_ext (by rw [extract_data, mk_data])
    unfold Lib.fieldsGo
    by_cases hbi : b < i
    · rw [if_neg (fun hh => hce.1 hh hbi)]
      refine Ev.step (fun k => ?_) (hlast _)
      rw [spec_PartsOf.j2, if_neg (by decide), if_pos (by omega), if_pos (by omega), if_pos (by omega), if_pos (by omega), if_pos (by omega), Int.toNat_natCast, Int.toNat_natCast, wrap_succ i (by omega), ex]
      rfl
    · rw [if_pos (hce.2 hbi), List.map_nil, List.append_nil]
      refine Ev.step (fun k => ?_) (hlast _)
      rw [spec_PartsOf.j2, if_neg (by decide), if_neg (by omega), wrap_succ i (by omega)]
  | c :: l, i, b, acc, h, hi, hb, ha => by
    have hlt := drop_lt h
    rw [size_data] at hlt
    have hgc := hgs c (List.mem_of_mem_drop (show c ∈ s.data.toList.drop i by rw [h]; simp))
    have hsp := isSp_good c hgc
    have hce := cur_empty s.data.toList b i (by rw [size_data]; exact hi)
    have ex : s.extract b i = mk ((s.data.toList.drop b).take (i - b)) := bytes_ext (by rw [extract_data, mk_data])
    refine spec_good s hs acc b i c l h hb ha hgc (fun hc hbi => ?_) (fun hc hbi => ?_) (fun hc => ?_)
    · have ih := spec_PartsOf_good s hs hgs l (i + 1) (i + 1) (acc ++ [s.extract b i]) (drop_tail h) (by omega) (Nat.le_refl _) (by rw [List.length_append, List.length_singleton]; omega)
      rw [show i + 1 - (i + 1) = 0 by omega, List.take_zero] at ih
      have e : acc ++ (Lib.fieldsGo ((s.data.toList.drop b).take (i - b)) (c :: l)).map mk = acc ++ [s.extract b i] ++ (Lib.fieldsGo [] l).map mk := by
        rw [Lib.fieldsGo, if_pos (hsp.2 hc), if_neg (fun hh => hce.1 hh hbi), List.map_cons, ex, List.append_assoc]
        rfl
      rw [e]
      exact ih
    · have ih := spec_PartsOf_good s hs hgs l (i + 1) (i + 1) acc (drop_tail h) (by omega) (Nat.le_refl _) (by omega)
      rw [show i + 1 - (i + 1) = 0 by omega, List.take_zero] at ih
      rw [Lib.fieldsGo, if_pos (hsp.2 hc), if_pos (hce.2 hbi)]
      exact ih
    · have ih := spec_PartsOf_good s hs hgs l (i + 1) b acc (drop_tail h) (by omega) (by omega) (by omega)
      rw [take_snoc h hb] at ih
      rw [Lib.fieldsGo, if_neg (fun hh => hc (hsp.1 hh))]
      exact ih
open Classical in
noncomputable def parts (s : ByteArray) : List ByteArray × Bool := if (s.size : Int) > 600 then ([], false) else if AllGood s.data.toList then endOf ((Lib.fields s.data.toList).map mk) else ([], false)
theorem spec_PartsOf_ev (s : ByteArray) : Ev (fun k => spec_PartsOf.f k s) (parts s) := by
  unfold spec_PartsOf.f parts
  simp only [Option.bind_some]
  by_cases h : (s.size : Int) > 600
  · simp only [if_pos h]; exact Ev.now _
  · simp only [if_neg h]
    rcases allGood_dec s.data.toList with hg | hb
    · rw [if_pos hg]
      have := spec_PartsOf_good s (by omega) hg s.data.toList 0 0 [] rfl (by omega) (Nat.le_refl _) (by simp)
      rw [show (s.data.toList.drop 0).take (0 - 0) = [] by simp, List.nil_append] at this
      exact this
    · rw [if_neg (fun hg => by obtain ⟨c, hc, hn⟩ := hb; exact hn (hg c hc))]
      exact spec_PartsOf_bad s (by omega) s.data.toList 0 0 [] rfl (by omega) (Nat.le_refl _) (by simp) hb
theorem impl_PartsOf_ev (s : ByteArray) : Ev (fun k => impl_PartsOf.f k s) (parts s) := by
  unfold impl_PartsOf.f parts
  by_cases h : (s.size : Int) > 600
  · simp only [if_pos h]; exact Ev.now _
  · simp only [if_neg h]
    rcases allGood_dec s.data.toList with hg | hb
    · rw [if_pos hg]
      exact impl_PartsOf_good s (by omega) hg s.data.toList 0 rfl (by omega)
    · rw [if_neg (fun hg => by obtain ⟨c, hc, hn⟩ := hb; exact hn (hg c hc))]
      exact impl_PartsOf_bad s (by omega) s.data.toList 0 rfl (by omega) hb
theorem parts_len (s : ByteArray) : (parts s).1.length ≤ 10 := by
  unfold parts endOf
  split
  · simp
  · split
    · split
      · simp
      · show ((Lib.fields s.data.toList).map mk).length ≤ 10
        omega
    · simp
theorem parts_no (s : ByteArray) (h : ¬ (parts s).2 = true) : (parts s).1 = [] := by
  unfold parts endOf at h ⊢
  split
  · rfl
  · rename_i h1
    rw [if_neg h1] at h
    split
    · rename_i h2
      rw [if_pos h2] at h
      split
      · rfl
      · rename_i h3
        rw [if_neg h3] at h
        exact absurd rfl h
    · rfl
theorem spec_WordsOf_ev (s : ByteArray) : Ev (fun k => spec_WordsOf.f k s) (parts s).1 := by
  unfold spec_WordsOf.f
  refine Ev.bind (spec_PartsOf_ev s) ?_
  have hl := parts_len s
  by_cases h : (parts s).2 = true
  · simp only [if_pos h, Option.bind_some, List.length_nil, Nat.zero_add, if_pos (show (parts s).1.length < 8796093022208 by omega), List.nil_append]
    exact Ev.now _
  · simp only [if_neg h, parts_no s h]
    exact Ev.now _
theorem impl_WordsOf_ev (s : ByteArray) : Ev (fun k => impl_WordsOf.f k s) (parts s).1 := by
  unfold impl_WordsOf.f
  exact Ev.bind (impl_PartsOf_ev s) (Ev.now _)

theorem digit_dec (u : Nat) (h : u < 10) : Lib.digitVal (UInt8.ofNat (48 + u)) = some u := by
  have : (UInt8.ofNat (48 + u)).toNat = 48 + u := by simp [UInt8.toNat_ofNat']; omega
  unfold Lib.digitVal
  rw [this, if_pos (by omega)]
  congr 1; omega
theorem decFrom_snoc (b : UInt8) : ∀ (l : List UInt8) (acc n d : Nat), Lib.decFrom acc l = some n → Lib.digitVal b = some d → Lib.decFrom acc (l ++ [b]) = some (n * 10 + d)
  | [], acc, n, d, h, hd => by
    simp only [Lib.decFrom, Option.some.injEq] at h
    subst h
    simp [Lib.decFrom, hd]
  | a :: l, acc, n, d, h, hd => by
    simp only [Lib.decFrom, List.cons_append] at h ⊢
    cases ha : Lib.digitVal a with
    | none => simp [ha] at h
    | some e =>
      simp only [ha] at h ⊢
      exact decFrom_snoc b l _ n d h hd
theorem decFrom_decDigits (u : Nat) : Lib.decFrom 0 (Lib.decDigits u) = some u := by
  induction u using Nat.strongRecOn with
  | _ u ih =>
    rw [Lib.decDigits]
    by_cases h : u < 10
    · rw [dif_pos h]; simp only [Lib.decFrom, digit_dec u h]; congr 1; omega
    · rw [dif_neg h, decFrom_snoc _ _ _ _ _ (ih (u / 10) (by omega)) (digit_dec (u % 10) (by omega))]
      congr 1; omega
theorem decDigits_ne (u : Nat) : Lib.decDigits u ≠ [] := by
  intro h
  have := Lib.decDigits_length u
  rw [h] at this
  have := Lib.nDigits_pos u
  simp at *; omega
/-- What a text that is the numeral of u is to Atoi. -/
theorem atoiAll_decDigits (u : Nat) (h : u ≤ 1000000000) : Lib.atoiAll (Lib.decDigits u) = .ok (u : Int) := by
  have hl : (Lib.decDigits u).length ≤ 18 := by
    rw [Lib.decDigits_length]
    by_cases h10 : Lib.nDigits u ≤ 18
    · exact h10
    · exfalso
      have hd := decFrom_decDigits u
      have h19 : 10 ^ 18 ≤ u := by
        have := Lib.nDigits_pos u
        rcases Nat.lt_or_ge u (10 ^ 18) with hu | hu
        · exfalso
          have : ∀ (k u : Nat), u < 10 ^ (k + 1) → Lib.nDigits u ≤ k + 1 := by
            intro k
            induction k with
            | zero => intro u hu; rw [Lib.nDigits_small (by simpa using hu)]; omega
            | succ k ih =>
              intro u hu
              by_cases hs : u < 10
              · rw [Lib.nDigits_small hs]; omega
              · rw [Lib.nDigits_big hs]
                have := ih (u / 10) (by rw [Nat.pow_succ] at hu; omega)
                omega
          have := this 17 u hu
          omega
        · exact hu
      have : (10 : Nat) ^ 18 = 1000000000000000000 := by decide
      omega
  rw [Lib.atoiAll_short _ hl]
  have hd := decFrom_decDigits u
  cases hc : Lib.decDigits u with
  | nil => exact absurd hc (decDigits_ne u)
  | cons b r =>
    rw [hc] at hd
    obtain ⟨d, hb⟩ := Lib.digit_of_decFrom _ _ _ hd 0 b rfl
    have hb := Lib.digitVal_eq hb
    have n45 : ¬ (b == 45) = true := by intro e; have e1 := LawfulBEq.eq_of_beq e; have h48 := hb.1; rw [e1] at h48; exact absurd h48 (by decide)
    have n43 : ¬ (b == 43) = true := by intro e; have e1 := LawfulBEq.eq_of_beq e; have h48 := hb.1; rw [e1] at h48; exact absurd h48 (by decide)
    have : Lib.decNat (b :: r) = some u := by unfold Lib.decNat; rw [if_neg (by simp)]; exact hd
    simp only [Lib.atoi, if_neg n45, if_neg n43, this, Option.map_some, Lib.NumEnd.ofOption]
theorem nDigits_le (k : Nat) : ∀ u : Nat, u < 10 ^ (k + 1) → Lib.nDigits u ≤ k + 1 := by
  induction k with
  | zero => intro u hu; rw [Lib.nDigits_small (by simpa using hu)]; omega
  | succ k ih =>
    intro u hu
    by_cases hs : u < 10
    · rw [Lib.nDigits_small hs]; omega
    · rw [Lib.nDigits_big hs]
      have := ih (u / 10) (by rw [Nat.pow_succ] at hu; omega)
      omega
/-- The number that a text is the numeral of, or 0. -/
noncomputable def numb (l : List UInt8) : Int × Bool := open Classical in if h : ∃ u : Nat, u ≤ 1000000000 ∧ Lib.decDigits u = l then ((h.choose : Int), true) else (0, false)
theorem numb_at {l : List UInt8} {u : Nat} (h : u ≤ 1000000000) (e : Lib.decDigits u = l) : numb l = ((u : Int), true) := by
  have hx : ∃ u : Nat, u ≤ 1000000000 ∧ Lib.decDigits u = l := ⟨u, h, e⟩
  unfold numb
  rw [dif_pos hx]
  have h2 := hx.choose_spec.2
  have : some hx.choose = some u := by rw [← decFrom_decDigits, ← decFrom_decDigits u, h2, e]
  injection this with this
  rw [this]
theorem numb_not {l : List UInt8} (h : ∀ u : Nat, u ≤ 1000000000 → Lib.decDigits u ≠ l) : numb l = (0, false) := by
  unfold numb
  rw [dif_neg]
  rintro ⟨u, h1, h2⟩
  exact h u h1 h2

theorem fig_small (d : Nat) (h : d < 10) : spec_l01Figure.f (d : Int) = some ((48 + d : Nat) : Int) := by
  unfold spec_l01Figure.f
  rw [if_pos (by omega)]
  congr 1
  unfold wrap64
  omega
/-- The digits of a number above 0, none for 0. -/
def decD (u : Nat) : List UInt8 := if u = 0 then [] else Lib.decDigits u
theorem decD_step (u : Nat) (h : u ≠ 0) : decD u = decD (u / 10) ++ [UInt8.ofNat (48 + u % 10)] := by
  unfold decD
  rw [if_neg h, Lib.decDigits]
  by_cases h10 : u < 10
  · rw [dif_pos h10, if_pos (by omega), Nat.mod_eq_of_lt h10]; rfl
  · rw [dif_neg h10, if_neg (by omega)]
theorem strOf_one (n : Nat) (h : n < 256) : strOfNums [(n : Int)] = (⟨#[UInt8.ofNat n]⟩ : ByteArray) := by
  unfold strOfNums
  apply bytes_ext
  simp
theorem spec_Decimal_l0 (u : Nat) : ∀ (s : ByteArray), s.size + u ≤ 9223372036854775806 → Ev (fun k => spec_Decimal.l0 k (u : Int) false s) (⟨(decD u ++ s.data.toList).toArray⟩ : ByteArray) := by
  induction u using Nat.strongRecOn with
  | _ u ih =>
    intro s hs
    by_cases h : u = 0
    · subst h
      have e : (⟨(decD 0 ++ s.data.toList).toArray⟩ : ByteArray) = s := bytes_ext (by simp [decD])
      rw [e]
      exact Ev.step (fun k => by rw [spec_Decimal.l0, if_pos (by rfl), if_neg (by decide)]) (Ev.now _)
    · have hm : Int.tmod (u : Int) 10 = ((u % 10 : Nat) : Int) := by rw [Int.tmod_eq_emod_of_nonneg (by omega)]; omega
      have hd : wrap64 (Int.tdiv (u : Int) 10) = ((u / 10 : Nat) : Int) := by rw [Int.tdiv_eq_ediv_of_nonneg (by omega)]; unfold wrap64; omega
      have e1 := strOf_one (48 + u % 10) (by omega)
      have hsz : ((⟨#[UInt8.ofNat (48 + u % 10)]⟩ : ByteArray) ++ s).size = s.size + 1 := by rw [ByteArray.size_append, Nat.add_comm]; rfl
      have h2 := ih (u / 10) (by omega) ((⟨#[UInt8.ofNat (48 + u % 10)]⟩ : ByteArray) ++ s) (by rw [hsz]; omega)
      have e2 : (⟨(decD u ++ s.data.toList).toArray⟩ : ByteArray) = ⟨(decD (u / 10) ++ ((⟨#[UInt8.ofNat (48 + u % 10)]⟩ : ByteArray) ++ s).data.toList).toArray⟩ := by
        rw [decD_step u h, data_append]; simp
      rw [e2]
      refine Ev.step (fun k => ?_) h2
      rw [spec_Decimal.l0, if_neg (by omega), hm, if_neg (by omega), fig_small _ (by omega)]
      simp only [Option.bind_some]
      rw [e1, hd, if_pos (by show 1 + s.size ≤ _; omega)]
theorem spec_Decimal_ev (u : Nat) (hu : u ≤ 9223372036854775806) : Ev (fun k => spec_Decimal.f k (u : Int)) (⟨(Lib.decDigits u).toArray⟩ : ByteArray) := by
  unfold spec_Decimal.f
  by_cases h : u = 0
  · subst h
    refine Ev.congr (fun k => by rw [if_pos (by rfl)]) ?_
    have : (⟨#[48]⟩ : ByteArray) = ⟨(Lib.decDigits 0).toArray⟩ := by rw [Lib.decDigits, dif_pos (by decide)]; rfl
    rw [this]
    exact Ev.now _
  · have h0 : decide ((u : Int) < 0) = false := decide_eq_false (by omega)
    have h1 := spec_Decimal_l0 u (⟨#[]⟩ : ByteArray) (by show 0 + u ≤ _; omega)
    have e : (⟨(decD u ++ (⟨#[]⟩ : ByteArray).data.toList).toArray⟩ : ByteArray) = ⟨(Lib.decDigits u).toArray⟩ := by unfold decD; rw [if_neg h]; simp
    rw [e] at h1
    refine Ev.congr (fun k => ?_) h1
    rw [if_neg (by omega), Option.bind_some, h0]
/-- What the reference tells of a text, from a place on. -/
def finS (s : ByteArray) (n : Nat) (l : List UInt8) : Int × Bool := match Lib.decFrom n l with
  | none => (0, false)
  | some m => if m ≤ 1000000000 ∧ Lib.decDigits m = s.data.toList then ((m : Int), true) else (0, false)
theorem spec_ReadDecimal_l0 (s : ByteArray) (hs : s.size ≤ 10) : ∀ (l : List UInt8) (i n : Nat), s.data.toList.drop i = l → i ≤ s.size → n < 10 ^ i → Ev (fun k => spec_ReadDecimal.l0 k s (n : Int) (i : Int)) (finS s n l)
  | [], i, n, h, hi, hn => by
    have e : i = s.size := by have := drop_end h (by rw [size_data]; exact hi); rwa [size_data] at this
    have hp : 10 ^ i ≤ 10 ^ 10 := Nat.pow_le_pow_right (by decide) (by omega)
    have e10 : (10 : Nat) ^ 10 = 10000000000 := by decide
    unfold finS
    simp only [Lib.decFrom]
    by_cases hb : n ≤ 1000000000
    · have hd := spec_Decimal_ev n (by omega)
      refine Ev.step (f := fun k => (spec_Decimal.f k (n : Int)).bind fun t110 => (if t110.toList = s.toList then (some ((n : Int), true)) else (some (0, false)))) (fun k => by rw [spec_ReadDecimal.l0, if_neg (by omega), if_neg (by omega)]) ?_
      refine Ev.bind hd ?_
      rw [list_data, list_data]
      show Ev (fun k => if Lib.decDigits n = s.data.toList then _ else _) _
      by_cases he : Lib.decDigits n = s.data.toList
      · rw [if_pos he, if_pos ⟨hb, he⟩]; exact Ev.now _
      · rw [if_neg he, if_neg (fun hh => he hh.2)]; exact Ev.now _
    · rw [if_neg (fun hh => hb hh.1)]
      exact Ev.step (fun k => by rw [spec_ReadDecimal.l0, if_neg (by omega), if_pos (by omega)]) (Ev.now _)
  | c :: l, i, n, h, hi, hn => by
    have hlt : i < s.size := by have := drop_lt h; rwa [size_data] at this
    have hp : 10 ^ i ≤ 10 ^ 9 := Nat.pow_le_pow_right (by decide) (by omega)
    have e9 : (10 : Nat) ^ 9 = 1000000000 := by decide
    have eb := bt_cons h
    have hc : c.toNat < 256 := c.toNat_lt
    by_cases hd : 48 ≤ c.toNat ∧ c.toNat ≤ 57
    · have e : finS s n (c :: l) = finS s (n * 10 + (c.toNat - 48)) l := by unfold finS; simp only [Lib.decFrom, Lib.digitVal, if_pos hd]
      have ih := spec_ReadDecimal_l0 s hs l (i + 1) (n * 10 + (c.toNat - 48)) (drop_tail h) (by omega) (by rw [Nat.pow_succ]; omega)
      rw [e]
      refine Ev.step (fun k => ?_) ih
      have ew : wrap64 ((wrap64 ((wrap64 (10 * (n : Int))) + (wrap64 (c.toNat : Int)))) - 48) = ((n * 10 + (c.toNat - 48) : Nat) : Int) := by
        rw [wrap_id (x := (c.toNat : Int)) (by omega) (by omega), wrap_id (x := 10 * (n : Int)) (by omega) (by omega), wrap_id (x := 10 * (n : Int) + (c.toNat : Int)) (by omega) (by omega), wrap_id (by omega) (by omega)]
        omega
      rw [spec_ReadDecimal.l0, if_pos (by omega), if_pos (by omega), eb, if_neg (by omega), if_neg (by omega), ew, wrap_succ i (by omega)]
    · have e : finS s n (c :: l) = (0, false) := by unfold finS; simp only [Lib.decFrom, Lib.digitVal, if_neg hd]
      rw [e]
      by_cases h48 : c.toNat < 48
      · exact Ev.step (fun k => by rw [spec_ReadDecimal.l0, if_pos (by omega), if_pos (by omega), eb, if_pos (by omega)]) (Ev.now _)
      · exact Ev.step (fun k => by rw [spec_ReadDecimal.l0, if_pos (by omega), if_pos (by omega), eb, if_neg (by omega), if_pos (by omega)]) (Ev.now _)
theorem spec_ReadDecimal_ev (s : ByteArray) : Ev (fun k => spec_ReadDecimal.f k s) (numb s.data.toList) := by
  unfold spec_ReadDecimal.f
  by_cases h : (s.size : Int) > 10
  · rw [numb_not]
    · simp only [if_pos h]; exact Ev.now _
    · intro u hu e
      have h1 := nDigits_le 9 u (by have : (10 : Nat) ^ (9 + 1) = 10000000000 := by decide
                                    omega)
      rw [← Lib.decDigits_length, e, size_data] at h1
      omega
  · simp only [if_neg h]
    have h0 := spec_ReadDecimal_l0 s (by omega) s.data.toList 0 0 rfl (by omega) (by decide)
    have e : finS s 0 s.data.toList = numb s.data.toList := by
      unfold finS
      cases hd : Lib.decFrom 0 s.data.toList with
      | none =>
        rw [numb_not]
        intro u _ e
        rw [← e, decFrom_decDigits] at hd
        cases hd
      | some m =>
        by_cases hm : m ≤ 1000000000 ∧ Lib.decDigits m = s.data.toList
        · simp only [if_pos hm]
          rw [numb_at hm.1 hm.2]
        · simp only [if_neg hm]
          rw [numb_not]
          intro u hu e
          rw [← e, decFrom_decDigits] at hd
          injection hd with hd
          subst hd
          exact hm ⟨hu, e⟩
    rw [← e]
    exact h0

theorem impl_ReadDecimal_val (s : ByteArray) : impl_ReadDecimal.val s = numb s.data.toList := by
  unfold impl_ReadDecimal.val
  have hu : ∀ u : Nat, u ≤ 1000000000 → Lib.decDigits u = s.data.toList → Lib.atoiAll s.data.toList = .ok (u : Int) := fun u h e => by rw [← e]; exact atoiAll_decDigits u h
  split
  · rename_i v hv
    by_cases hc : 0 ≤ v ∧ v ≤ 1000000000 ∧ Lib.itoa v = s.toList
    · rw [if_pos hc]
      have e : Lib.itoa v = Lib.decDigits v.toNat := by unfold Lib.itoa; rw [if_neg (by omega)]
      rw [numb_at (u := v.toNat) (by omega) (by rw [← e, hc.2.2, list_data]), Int.toNat_of_nonneg hc.1]
    · rw [if_neg hc, numb_not]
      intro u h e
      have := hu u h e
      rw [hv] at this
      injection this with this
      refine hc ⟨by omega, by omega, ?_⟩
      have e2 : Lib.itoa v = Lib.decDigits v.toNat := by unfold Lib.itoa; rw [if_neg (by omega)]
      rw [e2, list_data, ← e, this, Int.toNat_natCast]
  · rename_i hv
    rw [numb_not]
    intro u h e
    exact hv _ (hu u h e)

theorem impl_NumberOf_eq (s : ByteArray) (h : s.size ≤ 1048576) : impl_NumberOf.f s = some (numb s.data.toList).1 := by
  unfold impl_NumberOf.f
  have e : impl_ReadDecimal.f s = some (impl_ReadDecimal.val s) := if_pos h
  rw [e, Option.bind_some, impl_ReadDecimal_val]
theorem spec_NumberOf_ev (s : ByteArray) : Ev (fun k => spec_NumberOf.f k s) (numb s.data.toList).1 := by
  unfold spec_NumberOf.f
  exact Ev.bind (spec_ReadDecimal_ev s) (Ev.now _)

open Go.Proofs.YtncpoffbeipooabDoorL
theorem DrawWordsOf_ev (xs : List Int) (hx : xs.length ≤ 1048576) : ∃ x : ByteArray, Ev (fun k => spec_DrawWordsOf.f k xs) x := by
  obtain ⟨h, hh⟩ := l01New_ev xs hx
  obtain ⟨b, i, g, e, hi⟩ := once_eq xs hx 0 h (by omega) 6 (by omega)
  cases b with
  | true =>
    obtain ⟨x, j, q, e2, _, _⟩ := pick_eq xs hx i g hi ([(⟨#[32, 32, 97, 32, 32, 98, 32]⟩ : ByteArray), (⟨#[7]⟩ : ByteArray), (⟨#[97, 9, 98]⟩ : ByteArray)] : List ByteArray) (by decide)
    refine ⟨x, Ev.congr (fun k => rfl) (Ev.bind hh (ev_bind1 e (ev_some fun k => ?_)))⟩
    simp only [if_true, e2, Option.bind_some]
  | false =>
    have hp := pick_eq xs hx i g hi ([(⟨#[104, 101, 108, 111, 32, 97, 110, 110]⟩ : ByteArray), (⟨#[109, 97, 105, 108, 32, 98, 111, 98]⟩ : ByteArray), (⟨#[114, 99, 112, 116, 32, 97, 110, 110]⟩ : ByteArray), (⟨#[100, 97, 116, 97]⟩ : ByteArray), (⟨#[113, 117, 105, 116]⟩ : ByteArray), (⟨#[117, 115, 101, 114, 32, 97, 110, 110]⟩ : ByteArray), (⟨#[112, 97, 115, 115, 32, 97, 110, 110, 120]⟩ : ByteArray), (⟨#[115, 116, 97, 116]⟩ : ByteArray), (⟨#[97, 32, 108, 111, 103, 105, 110, 32, 97, 110, 110, 32, 97, 110, 110, 120]⟩ : ByteArray), (⟨#[97, 32, 115, 101, 108, 101, 99, 116, 32, 105, 110, 98, 111, 120]⟩ : ByteArray), (⟨#[]⟩ : ByteArray), (⟨#[78, 111, 111, 112]⟩ : ByteArray), (⟨#[46]⟩ : ByteArray), (⟨#[46, 46, 120]⟩ : ByteArray)] : List ByteArray) (by decide)
    obtain ⟨x, j, q, e2, _, _⟩ := hp
    have e3 : spec_l16Line.f xs i g = some (x, j, q) := by unfold spec_l16Line.f; rw [e2, Option.bind_some]
    refine ⟨x, Ev.congr (fun k => rfl) (Ev.bind hh (ev_bind1 e (ev_some fun k => ?_)))⟩
    show (if (false : Bool) = true then _ else (spec_l16Line.f xs i g).bind _) = _
    rw [if_neg (by decide)]
    show (spec_l16Line.f xs i g).bind _ = _
    rw [e3, Option.bind_some]
theorem DrawLowWord_ev (xs : List Int) (hx : xs.length ≤ 1048576) : ∃ x : ByteArray, x.size ≤ 1048576 ∧ Ev (fun k => spec_DrawLowWord.f k xs) x := by
  obtain ⟨h, hh⟩ := l01New_ev xs hx
  obtain ⟨x, j, q, e, hm, _⟩ := pick_eq xs hx 0 h (by omega) ([(⟨#[]⟩ : ByteArray), (⟨#[81, 85, 73, 84]⟩ : ByteArray), (⟨#[78, 111, 111, 112]⟩ : ByteArray), (⟨#[97, 49, 90]⟩ : ByteArray), (⟨#[192]⟩ : ByteArray)] : List ByteArray) (by decide)
  refine ⟨x, ?_, Ev.congr (fun k => rfl) (Ev.bind hh (ev_bind1 e (Ev.now _)))⟩
  simp only [List.mem_cons, List.mem_nil_iff, or_false] at hm
  rcases hm with rfl | rfl | rfl | rfl | rfl <;> decide
theorem DrawNumberOf_ev (xs : List Int) (hx : xs.length ≤ 1048576) : ∃ x : ByteArray, x.size ≤ 1048576 ∧ Ev (fun k => spec_DrawNumberOf.f k xs) x := by
  obtain ⟨h, hh⟩ := l01New_ev xs hx
  obtain ⟨x, j, q, e, hm, _⟩ := pick_eq xs hx 0 h (by omega) ([(⟨#[]⟩ : ByteArray), (⟨#[48]⟩ : ByteArray), (⟨#[55]⟩ : ByteArray), (⟨#[48, 55]⟩ : ByteArray), (⟨#[120]⟩ : ByteArray), (⟨#[49, 56, 53, 48, 48, 48, 48, 48, 48, 48, 48, 48, 48, 48, 48, 48, 48, 48, 48, 48]⟩ : ByteArray), (⟨#[49, 48, 48, 48, 48, 48, 48, 48, 48, 48]⟩ : ByteArray)] : List ByteArray) (by decide)
  refine ⟨x, ?_, Ev.congr (fun k => rfl) (Ev.bind hh (ev_bind1 e (Ev.now _)))⟩
  simp only [List.mem_cons, List.mem_nil_iff, or_false] at hm
  rcases hm with rfl | rfl | rfl | rfl | rfl | rfl | rfl <;> decide
theorem sameTexts_l0 (xs : List ByteArray) (hx : xs.length ≤ 1048576) :
    ∀ (l : List ByteArray) (i : Nat), xs.drop i = l → i ≤ xs.length → Ev (fun k => laws_sameTexts.l0 k xs xs (i : Int)) true
  | [], i, h, hi => by
    have e := drop_end h hi
    exact Ev.step (fun k => by rw [laws_sameTexts.l0, if_neg (by omega)]) (Ev.now _)
  | x :: l, i, h, hi => by
    have hlt := drop_lt h
    refine Ev.step (fun k => ?_) (sameTexts_l0 xs hx l (i + 1) (drop_tail h) (by omega))
    rw [laws_sameTexts.l0, if_pos (by omega), if_pos (by omega), if_pos (by omega), if_pos rfl, wrap_succ i (by omega)]
theorem sameTexts_ev (xs : List ByteArray) (hx : xs.length ≤ 1048576) : Ev (fun k => laws_sameTexts.f k xs xs) true := by
  unfold laws_sameTexts.f
  simp only [if_true]
  exact sameTexts_l0 xs hx xs 0 rfl (by omega)
theorem lowB_again (c : UInt8) : lowB (lowB c) = lowB c := by
  by_cases h : 65 ≤ c.toNat ∧ c.toNat ≤ 90
  · have e := low_n h
    have : ¬ (65 ≤ (lowB c).toNat ∧ (lowB c).toNat ≤ 90) := by omega
    generalize lowB c = d at this
    unfold lowB
    rw [if_neg this]
  · have : lowB c = c := by unfold lowB; rw [if_neg h]
    rw [this, this]
theorem lowered_again (s : ByteArray) : lowered (lowered s) = lowered s := by
  apply bytes_ext
  unfold lowered
  simp only [List.map_map]
  exact List.map_congr_left fun c _ => lowB_again c
theorem lowered_size (s : ByteArray) : (lowered s).size = s.size := by
  rw [← size_data, ← size_data]; unfold lowered; simp
theorem numb42 : (numb (⟨#[52, 50]⟩ : ByteArray).data.toList).1 = 42 := by
  have h := numb_at (l := (⟨#[52, 50]⟩ : ByteArray).data.toList) (u := 42) (by decide) (by rw [Lib.decDigits_two (by decide) (by decide)]; decide)
  rw [h]; rfl
theorem lowQuit : (lowered (⟨#[81, 117, 105, 84]⟩ : ByteArray)).toList = ([113, 117, 105, 116] : List UInt8) := by
  rw [list_data]
  decide

theorem FnWordsTold : laws_FnWordsTold.Pure := by
  intro xs ⟨h0, _⟩
  refine Ev.rounds (g := fun k => laws_FnWordsTold.f k xs) ?_
  unfold laws_FnWordsTold.f laws_big.f
  simp only [Option.bind_some]
  by_cases hb : (xs.length : Int) > 1048576
  · simp only [hb, decide_true, if_true]; exact Ev.now _
  · have hx : xs.length ≤ 1048576 := by omega
    simp only [hb, decide_false]
    obtain ⟨s, hs⟩ := DrawWordsOf_ev xs hx
    obtain ⟨t, ht, hT⟩ := DrawLowWord_ev xs hx
    obtain ⟨n, hn, hN⟩ := DrawNumberOf_ev xs hx
    have hl := parts_len s
    have l1 : ∀ u : ByteArray, u.size ≤ 1048576 → impl_LowWord.f u = some (lowered u) := fun u h => if_pos h
    have l2 : spec_LowWord.f t = some (lowered t) := if_pos ht
    refine Ev.bind hs (Ev.bind hT (Ev.bind hN (Ev.bind (impl_WordsOf_ev s) (Ev.bind (spec_WordsOf_ev s) (Ev.bind (sameTexts_ev _ (by omega)) ?_)))))
    simp only [if_true]
    refine ev_bind1 (l1 t ht) (ev_bind1 l2 ?_)
    simp only [if_true]
    refine ev_bind1 (l1 t ht) (ev_bind1 (l1 (lowered t) (by rw [lowered_size]; exact ht)) (ev_bind1 (l1 t ht) ?_))
    simp only [lowered_again, if_true]
    refine ev_bind1 (impl_NumberOf_eq n hn) (Ev.bind (spec_NumberOf_ev n) ?_)
    refine ev_ite (fun _ => ?_) (fun q => absurd rfl q)
    refine ev_bind1 (impl_NumberOf_eq _ (by decide)) (ev_ite (fun _ => ?_) (fun q => absurd numb42 q))
    refine ev_bind1 (l1 _ (by decide)) (ev_some fun k => ?_)
    rw [lowQuit]
    rfl

end Go.Proofs.YtncpoffbeipooabDoor.Pure
