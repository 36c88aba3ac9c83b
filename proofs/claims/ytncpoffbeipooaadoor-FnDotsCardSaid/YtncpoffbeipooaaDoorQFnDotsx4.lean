-- Written by a program of this session (myprint) out of Lean's own print of the translation. Lean checks it.
import Derived.Test.YtncpoffbeipooaaDoorQFnDotsx0
import Derived.Test.YtncpoffbeipooaaDoorQFnDotsx1
import Derived.Test.YtncpoffbeipooaaDoorQFnDotsx2
import Derived.Test.YtncpoffbeipooaaDoorQFnDotsx3
namespace Go.Proofs.YtncpoffbeipooaaDoor.QFnDots
open Go.RowKit Go.Proofs.YtncpoffbeipooaaDoorW.PrintWords Go.Proofs.YtncpoffbeipooaaDoorW.PrintLast Go.Proofs.YtncpoffbeipooaaDoorW.PrintMore
attribute [local go_sem] max2_int min2_int max_two min_two max_three min_three max_four min_four   -- for this text's walks alone
set_option linter.unusedVariables false
set_option linter.unusedSimpArgs false

/-! ### laws_sameTexts: function 29 -/
def laws_sameTexts.l0 : Nat → List ByteArray → List ByteArray → Int → Option (Bool)
  | 0, _, _, _ => none
  | k + 1, x0, x1, x5 => if x5 < (x0.length : Int) then (if 0 ≤ x5 then (if x5 < (x1.length : Int) then (if (rdOf ByteArray.empty x0 x5).toList = (rdOf ByteArray.empty x1 x5).toList then (laws_sameTexts.l0 k x0 x1 (wrap64 (x5 + 1))) else (some false)) else (none)) else (none)) else (some true)
def laws_sameTexts.f (k : Nat) (l0 : List ByteArray) (l1 : List ByteArray) : Option (Bool) := if (l0.length : Int) = (l1.length : Int) then (laws_sameTexts.l0 k l0 l1 0) else (some false)
theorem laws_sameTexts.mono_l : ∀ k, (∀ y0 y1 y2, LeO (laws_sameTexts.l0 k y0 y1 y2) (laws_sameTexts.l0 (k + 1) y0 y1 y2))
  | 0 => fun _ _ _ r h => by simp [laws_sameTexts.l0] at h
  | k + 1 => by
    have ih0 := laws_sameTexts.mono_l k
    · intro y0 y1 y2
      unfold laws_sameTexts.l0
      repeat' first
      | (with_reducible exact ih0 _ _ _)
      | (with_reducible exact LeO.refl _)
      | (with_reducible exact LeO.none _)
      | (with_reducible refine LeO.ite ?_ ?_)
      | (with_reducible refine LeO.bind ?_ (fun _ => ?_))
      | exact ih0 _ _ _
      | exact LeO.none _
      | refine LeO.ite ?_ ?_
      | refine LeO.bind ?_ (fun _ => ?_)
theorem laws_sameTexts.mono : ∀ a0 a1 k, LeO (laws_sameTexts.f k a0 a1) (laws_sameTexts.f (k + 1) a0 a1) := by
  intro a0 a1 k
  have ih0 := laws_sameTexts.mono_l k
  unfold laws_sameTexts.f
  repeat' first
      | (with_reducible exact ih0 _ _ _)
      | (with_reducible exact LeO.refl _)
      | (with_reducible exact LeO.none _)
      | (with_reducible refine LeO.ite ?_ ?_)
      | (with_reducible refine LeO.bind ?_ (fun _ => ?_))
      | exact ih0 _ _ _
      | exact LeO.none _
      | refine LeO.ite ?_ ?_
      | refine LeO.bind ?_ (fun _ => ?_)
set_option maxHeartbeats 8000000 in
set_option maxRecDepth 100000 in
theorem laws_sameTexts.calls (k : Nat) (A0 : Option Addr) (c0 : Nat) (l0 : List ByteArray) (A1 : Option Addr) (c1 : Nat) (l1 : List ByteArray) (r : Bool) (w : World) (hr0 : Kd.C Kd.string w A0 l0.length l0) (hc0 : l0.length ≤ c0) (hr1 : Kd.C Kd.string w A1 l1.length l1) (hc1 : l1.length ≤ c1) (h : laws_sameTexts.f k l0 l1 = some r) :
    Calls Tryd.prog 29 #[.slice A0 l0.length c0, .slice A1 l1.length c1] w fun e w' => e = .returned (.bool r) ∧ Drawn0 w w' := by
  have HR0 := Aside0.mk hr0
  have HC0 := Aside0.mk hc0
  clear hr0 hc0
  have HR1 := Aside0.mk hr1
  have HC1 := Aside0.mk hc1
  clear hr1 hc1
  have H : (if (l0.length : Int) = (l1.length : Int) then (laws_sameTexts.l0 k l0 l1 0) else (some false)) = some r := h
  clear h
  by_cases c3 : (l0.length : Int) = (l1.length : Int)
  · rw [if_pos c3] at H
    have c3b0 : ((l0.length : Int) == (l1.length : Int)) = true := beq_iff_eq.mpr c3
    have c3b1 : ((l0.length : Int) != (l1.length : Int)) = false := bne_eq_false_iff_eq.mpr c3
    have c3b2 : (l0.length == l1.length) = true := by first | simpa using c3 | (simp at c3 ⊢; omega)
    clear c3
    have H' := Aside0.mk H
    clear H
    go_enter Tryd.func29, Tryd.ntmps29
    go_wp2
    repeat (go_quiet (fail); try go_wp2)
    go_loopg [5] k (fun kq v5 w' => ∃ (x5_1 : Int), v5 = .int .i64 x5_1 ∧ Aside0 (laws_sameTexts.l0 kq l0 l1 x5_1 = some r) ∧ Aside0 (kq ≤ k) ∧ Drawn0 w w')
    case atStart => exact ⟨(0), (by first | rfl | (simp; done) | (simp [*]; done) | (simp; exact (by intro l; cases l <;> rfl : ∀ l : List UInt8, l.isEmpty = !(l != [])) _)), H', ⟨Nat.le_refl _⟩, by repeat (first | exact Drawn0.refl _ | apply Drawn0.step)⟩
    case round =>
      clear H'
      try clear c1
      try clear c2
      try clear p2
      try clear c3
      try clear c3b0
      try clear c3b1
      try clear c3b2
      obtain ⟨x5_1, rfl, HA, HK1, ⟨m1, rfl⟩⟩ := hrel
      cases gk with
      | zero => exact absurd HA.out (by simp [laws_sameTexts.l0])
      | succ k1 =>
        have H := HA.out
        clear HA
        simp only [laws_sameTexts.l0] at H
        by_cases c4 : x5_1 < (l0.length : Int)
        · rw [if_pos c4] at H
          have c4b0 : decide (x5_1 < (l0.length : Int)) = true := decide_eq_true c4
          clear c4
          by_cases c5 : 0 ≤ x5_1
          · rw [if_pos c5] at H
            have c5b0 : decide (0 ≤ x5_1) = true := decide_eq_true c5
            clear c5
            by_cases c6 : x5_1 < (l1.length : Int)
            · rw [if_pos c6] at H
              have c6b0 : decide (x5_1 < (l1.length : Int)) = true := decide_eq_true c6
              clear c6
              by_cases c7 : (rdOf ByteArray.empty l0 x5_1).toList = (rdOf ByteArray.empty l1 x5_1).toList
              · rw [if_pos c7] at H
                have c7b0 : ((rdOf ByteArray.empty l0 x5_1).toList == (rdOf ByteArray.empty l1 x5_1).toList) = true := beq_iff_eq.mpr c7
                have c7b1 : ((rdOf ByteArray.empty l0 x5_1).toList != (rdOf ByteArray.empty l1 x5_1).toList) = false := bne_eq_false_iff_eq.mpr c7
                clear c7
                have H' := Aside0.mk H
                clear H
                have p211 : 0 ≤ (x5_1 : Int) := of_decide_eq_true (by first | (with_reducible assumption) | assumption)
                have q211 : x5_1 < (l0.length : Int) := of_decide_eq_true (by first | (with_reducible assumption) | assumption)
                obtain ⟨ad211, e211, hx211_0⟩ := Kd.at_string HR0.out x5_1 p211 q211
                cases e211
                replace p211 := eq_true p211
                replace q211 := eq_true q211
                have p212 : 0 ≤ (x5_1 : Int) := of_decide_eq_true (by first | (with_reducible assumption) | assumption)
                have q212 : x5_1 < (l1.length : Int) := of_decide_eq_true (by first | (with_reducible assumption) | assumption)
                obtain ⟨ad212, e212, hx212_0⟩ := Kd.at_string HR1.out x5_1 p212 q212
                cases e212
                replace p212 := eq_true p212
                replace q212 := eq_true q212
                go_wp2
                repeat (go_quiet (fail); try go_wp2)
                go_roundg k1
                case measure => have := HK1.out; omega
                case rel => exact ⟨(wrap64 (x5_1 + 1)), (by first | rfl | (simp; done) | (simp [*]; done) | (simp; exact (by intro l; cases l <;> rfl : ∀ l : List UInt8, l.isEmpty = !(l != [])) _)), H', ⟨by have := HK1.out; omega⟩, by repeat (first | exact Drawn0.refl _ | apply Drawn0.step)⟩
              · rw [if_neg c7] at H
                have c7b0 : ((rdOf ByteArray.empty l0 x5_1).toList == (rdOf ByteArray.empty l1 x5_1).toList) = false := beq_eq_false_iff_ne.mpr c7
                have c7b1 : ((rdOf ByteArray.empty l0 x5_1).toList != (rdOf ByteArray.empty l1 x5_1).toList) = true := bne_iff_ne.mpr c7
                obtain rfl := Option.some.inj H
                have p211 : 0 ≤ (x5_1 : Int) := of_decide_eq_true (by first | (with_reducible assumption) | assumption)
                have q211 : x5_1 < (l0.length : Int) := of_decide_eq_true (by first | (with_reducible assumption) | assumption)
                obtain ⟨ad211, e211, hx211_0⟩ := Kd.at_string HR0.out x5_1 p211 q211
                cases e211
                replace p211 := eq_true p211
                replace q211 := eq_true q211
                have p212 : 0 ≤ (x5_1 : Int) := of_decide_eq_true (by first | (with_reducible assumption) | assumption)
                have q212 : x5_1 < (l1.length : Int) := of_decide_eq_true (by first | (with_reducible assumption) | assumption)
                obtain ⟨ad212, e212, hx212_0⟩ := Kd.at_string HR1.out x5_1 p212 q212
                cases e212
                replace p212 := eq_true p212
                replace q212 := eq_true q212
                go_wp2
                repeat (go_quiet (fail); try go_wp2)
                go_ret
                exact ⟨by first | rfl | (simp; done) | (simp [*]; done) | (simp; exact (by intro l; cases l <;> rfl : ∀ l : List UInt8, l.isEmpty = !(l != [])) _), by repeat (first | exact Drawn0.refl _ | apply Drawn0.step)⟩
            · rw [if_neg c6] at H
              exact absurd H (by simp)
          · rw [if_neg c5] at H
            exact absurd H (by simp)
        · rw [if_neg c4] at H
          have c4b0 : decide (x5_1 < (l0.length : Int)) = false := decide_eq_false c4
          clear c4
          obtain rfl := Option.some.inj H
          go_wp2
          repeat (go_quiet (fail); try go_wp2)
          go_ret
          exact ⟨by first | rfl | (simp; done) | (simp [*]; done) | (simp; exact (by intro l; cases l <;> rfl : ∀ l : List UInt8, l.isEmpty = !(l != [])) _), by repeat (first | exact Drawn0.refl _ | apply Drawn0.step)⟩
  · rw [if_neg c3] at H
    have c3b0 : ((l0.length : Int) == (l1.length : Int)) = false := beq_eq_false_iff_ne.mpr c3
    have c3b1 : ((l0.length : Int) != (l1.length : Int)) = true := bne_iff_ne.mpr c3
    have c3b2 : (l0.length == l1.length) = false := by first | simpa using c3 | (simp at c3 ⊢; omega)
    obtain rfl := Option.some.inj H
    go_enter Tryd.func29, Tryd.ntmps29
    go_wp2
    repeat (go_quiet (fail); try go_wp2)
    go_ret
    exact ⟨by first | rfl | (simp; done) | (simp [*]; done) | (simp; exact (by intro l; cases l <;> rfl : ∀ l : List UInt8, l.isEmpty = !(l != [])) _), by repeat (first | exact Drawn0.refl _ | apply Drawn0.step)⟩

/-! ### spec_SafeText: function 30 -/
def spec_SafeText.l0 : Nat → ByteArray → Int → Option (Bool)
  | 0, _, _ => none
  | k + 1, x0, x3 => if x3 < (x0.size : Int) then (if 0 ≤ x3 then (if (bt x0 x3) = 13 then (some false) else (spec_SafeText.l0 k x0 (wrap64 (x3 + 1)))) else (none)) else (if x0.toList = ([] : List UInt8) then (some true) else (if 0 ≤ (wrap64 ((x0.size : Int) - 1)) then (if (wrap64 ((x0.size : Int) - 1)) < (x0.size : Int) then (some ((bt x0 (wrap64 ((x0.size : Int) - 1))) == 10)) else (none)) else (none)))
def spec_SafeText.f (k : Nat) (a0 : ByteArray) : Option (Bool) := spec_SafeText.l0 k a0 0
theorem spec_SafeText.mono_l : ∀ k, (∀ y0 y1, LeO (spec_SafeText.l0 k y0 y1) (spec_SafeText.l0 (k + 1) y0 y1))
  | 0 => fun _ _ r h => by simp [spec_SafeText.l0] at h
  | k + 1 => by
    have ih0 := spec_SafeText.mono_l k
    · intro y0 y1
      unfold spec_SafeText.l0
      repeat' first
      | (with_reducible exact ih0 _ _)
      | (with_reducible exact LeO.refl _)
      | (with_reducible exact LeO.none _)
      | (with_reducible refine LeO.ite ?_ ?_)
      | (with_reducible refine LeO.bind ?_ (fun _ => ?_))
      | exact ih0 _ _
      | exact LeO.none _
      | refine LeO.ite ?_ ?_
      | refine LeO.bind ?_ (fun _ => ?_)
theorem spec_SafeText.mono : ∀ a0 k, LeO (spec_SafeText.f k a0) (spec_SafeText.f (k + 1) a0) := by
  intro a0 k
  have ih0 := spec_SafeText.mono_l k
  unfold spec_SafeText.f
  repeat' first
      | (with_reducible exact ih0 _ _)
      | (with_reducible exact LeO.refl _)
      | (with_reducible exact LeO.none _)
      | (with_reducible refine LeO.ite ?_ ?_)
      | (with_reducible refine LeO.bind ?_ (fun _ => ?_))
      | exact ih0 _ _
      | exact LeO.none _
      | refine LeO.ite ?_ ?_
      | refine LeO.bind ?_ (fun _ => ?_)
set_option maxHeartbeats 8000000 in
set_option maxRecDepth 100000 in
theorem spec_SafeText.calls (k : Nat) (a0 : ByteArray) (r : Bool) (w : World) (h : spec_SafeText.f k a0 = some r) :
    Calls Tryd.prog 30 #[.string a0] w fun e w' => e = .returned (.bool r) ∧ Drawn0 w w' := by
  have H : (spec_SafeText.l0 k a0 0) = some r := h
  clear h
  have H' := Aside0.mk H
  clear H
  go_enter Tryd.func30, Tryd.ntmps30
  go_wp2
  go_loopg [3] k (fun kq v3 w' => ∃ (x3_1 : Int), v3 = .int .i64 x3_1 ∧ Aside0 (spec_SafeText.l0 kq a0 x3_1 = some r) ∧ Aside0 (kq ≤ k) ∧ Drawn0 w w')
  case atStart => exact ⟨(0), (by first | rfl | (simp; done) | (simp [*]; done) | (simp; exact (by intro l; cases l <;> rfl : ∀ l : List UInt8, l.isEmpty = !(l != [])) _)), H', ⟨Nat.le_refl _⟩, by repeat (first | exact Drawn0.refl _ | apply Drawn0.step)⟩
  case round =>
    clear H'
    obtain ⟨x3_1, rfl, HA, HK1, ⟨m1, rfl⟩⟩ := hrel
    cases gk with
    | zero => exact absurd HA.out (by simp [spec_SafeText.l0])
    | succ k1 =>
      have H := HA.out
      clear HA
      simp only [spec_SafeText.l0] at H
      by_cases c2 : x3_1 < (a0.size : Int)
      · rw [if_pos c2] at H
        have c2b0 : decide (x3_1 < (a0.size : Int)) = true := decide_eq_true c2
        clear c2
        by_cases c3 : 0 ≤ x3_1
        · rw [if_pos c3] at H
          have c3b0 : decide (0 ≤ x3_1) = true := decide_eq_true c3
          clear c3
          by_cases c5 : (bt a0 x3_1) = 13
          · rw [if_pos c5] at H
            have c5b0 : ((bt a0 x3_1) == 13) = true := beq_iff_eq.mpr c5
            have c5b1 : ((bt a0 x3_1) != 13) = false := bne_eq_false_iff_eq.mpr c5
            clear c5
            obtain rfl := Option.some.inj H
            have p4 : 0 ≤ (x3_1 : Int) := of_decide_eq_true (by first | (with_reducible assumption) | assumption)
            have q4 : x3_1 < (a0.size : Int) := of_decide_eq_true (by first | (with_reducible assumption) | assumption)
            have hx4 := bt_at a0 x3_1
            replace p4 := eq_true p4
            replace q4 := eq_true q4
            go_wp2
            go_ret
            exact ⟨by first | rfl | (simp; done) | (simp [*]; done) | (simp; exact (by intro l; cases l <;> rfl : ∀ l : List UInt8, l.isEmpty = !(l != [])) _), by repeat (first | exact Drawn0.refl _ | apply Drawn0.step)⟩
          · rw [if_neg c5] at H
            have c5b0 : ((bt a0 x3_1) == 13) = false := beq_eq_false_iff_ne.mpr c5
            have c5b1 : ((bt a0 x3_1) != 13) = true := bne_iff_ne.mpr c5
            have H' := Aside0.mk H
            clear H
            have p4 : 0 ≤ (x3_1 : Int) := of_decide_eq_true (by first | (with_reducible assumption) | assumption)
            have q4 : x3_1 < (a0.size : Int) := of_decide_eq_true (by first | (with_reducible assumption) | assumption)
            have hx4 := bt_at a0 x3_1
            replace p4 := eq_true p4
            replace q4 := eq_true q4
            go_wp2
            go_roundg k1
            case measure => have := HK1.out; omega
            case rel => exact ⟨(wrap64 (x3_1 + 1)), (by first | rfl | (simp; done) | (simp [*]; done) | (simp; exact (by intro l; cases l <;> rfl : ∀ l : List UInt8, l.isEmpty = !(l != [])) _)), H', ⟨by have := HK1.out; omega⟩, by repeat (first | exact Drawn0.refl _ | apply Drawn0.step)⟩
        · rw [if_neg c3] at H
          exact absurd H (by simp)
      · rw [if_neg c2] at H
        have c2b0 : decide (x3_1 < (a0.size : Int)) = false := decide_eq_false c2
        clear c2
        by_cases c6 : a0.toList = ([] : List UInt8)
        · rw [if_pos c6] at H
          have c6b0 : (a0.toList == ([] : List UInt8)) = true := beq_iff_eq.mpr c6
          have c6b1 : (a0.toList != ([] : List UInt8)) = false := bne_eq_false_iff_eq.mpr c6
          clear c6
          obtain rfl := Option.some.inj H
          go_wp2
          go_ret
          exact ⟨by first | rfl | (simp; done) | (simp [*]; done) | (simp; exact (by intro l; cases l <;> rfl : ∀ l : List UInt8, l.isEmpty = !(l != [])) _), by repeat (first | exact Drawn0.refl _ | apply Drawn0.step)⟩
        · rw [if_neg c6] at H
          have c6b0 : (a0.toList == ([] : List UInt8)) = false := beq_eq_false_iff_ne.mpr c6
          have c6b1 : (a0.toList != ([] : List UInt8)) = true := bne_iff_ne.mpr c6
          obtain ⟨ji7, hji7⟩ : ∃ j_ : Int, (wrap64 ((a0.size : Int) - 1)) = j_ := ⟨_, rfl⟩
          replace H : (if 0 ≤ (ji7) then (if (ji7) < (a0.size : Int) then (some ((bt a0 (ji7)) == 10)) else (none)) else (none)) = some r := by first | (rw [hji7] at H; exact H) | (simp only [hji7] at H ⊢; exact H)
          have hji7w : (IntKind.i64.wrap ((a0.size : Int) - 1)) = ji7 := (i64_w _).trans hji7
          by_cases c8 : 0 ≤ (ji7)
          · rw [if_pos c8] at H
            have c8b0 : decide (0 ≤ (ji7)) = true := decide_eq_true c8
            clear c8
            by_cases c9 : (ji7) < (a0.size : Int)
            · rw [if_pos c9] at H
              have c9b0 : decide ((ji7) < (a0.size : Int)) = true := decide_eq_true c9
              clear c9
              obtain rfl := Option.some.inj H
              have p10 : 0 ≤ ((ji7) : Int) := of_decide_eq_true (by first | (with_reducible assumption) | assumption)
              have q10 : (ji7) < (a0.size : Int) := of_decide_eq_true (by first | (with_reducible assumption) | assumption)
              have hx10 := bt_at a0 (ji7)
              replace p10 := eq_true p10
              replace q10 := eq_true q10
              go_wp2
              go_ret
              exact ⟨by first | rfl | (simp; done) | (simp only [← hji7] <;> (first | rfl | simp)) | (simp [*]; done) | (simp; exact (by intro l; cases l <;> rfl : ∀ l : List UInt8, l.isEmpty = !(l != [])) _), by repeat (first | exact Drawn0.refl _ | apply Drawn0.step)⟩
            · rw [if_neg c9] at H
              exact absurd H (by simp)
          · rw [if_neg c8] at H
            exact absurd H (by simp)

/-! ### laws_FnDots: function 7 -/
def laws_FnDots.l0 : Nat → List Int → ByteArray → ByteArray → List ByteArray → Option (Bool)
  | 0, _, _, _, _ => none
  | k + 1, x0, x3, x4, x5 => (spec_TakeLine.f k x4).bind fun bt219 => (if bt219.2.2 = 0 then ((impl_UndotLine.f bt219.1).bind fun bt222 => (if bt222.2 = true then (if x5.length < 8796093022208 then (laws_FnDots.l0 k x0 x3 bt219.2.1 (x5 ++ [bt222.1])) else (none)) else ((spec_DrawDotText.f k x0).bind fun t227 => ((spec_DrawUndotLine.f k x0).bind fun t228 => ((impl_UndotLine.f t228).bind fun bt229 => ((spec_UndotLine.f t228).bind fun bt231 => (if bt219.2.1.toList = ([] : List UInt8) then ((impl_TextOf.f k x5).bind fun t233 => (if t233.toList = x3.toList then ((impl_SafeText.f x3).bind fun t234 => (if t234 = true then ((impl_LinesOf.f x3).bind fun t235 => ((laws_sameTexts.f k t235 x5).bind fun t238 => (if t238 = true then ((impl_DotText.f k t227).bind fun t239 => ((spec_DotText.f k t227).bind fun t240 => (if t239.toList = t240.toList then (if (bt229.2 == bt231.2) = true then (if bt229.1.toList = bt231.1.toList then ((impl_SafeText.f t227).bind fun t241 => ((spec_SafeText.f k t227).bind fun t242 => (if (t241 == t242) = true then ((impl_LinesOf.f t227).bind fun t243 => ((spec_LinesOf.f k t227).bind fun t246 => ((laws_sameTexts.f k t243 t246).bind fun t249 => (some t249)))) else (some false)))) else (some false)) else (some false)) else (some false)))) else (some false)))) else (some false))) else (some false))) else (some false)))))))) else (some false))
def laws_FnDots.f (k : Nat) (l0 : List Int) : Option (Bool) := (laws_big.f l0).bind fun t213 => (if t213 = true then (some true) else ((spec_DrawMailText.f k l0).bind fun t214 => ((impl_DotText.f k t214).bind fun t215 => (laws_FnDots.l0 k l0 t214 t215 (([] : List ByteArray))))))
theorem laws_FnDots.mono_l : ∀ k, (∀ y0 y1 y2 y3, LeO (laws_FnDots.l0 k y0 y1 y2 y3) (laws_FnDots.l0 (k + 1) y0 y1 y2 y3))
  | 0 => fun _ _ _ _ r h => by simp [laws_FnDots.l0] at h
  | k + 1 => by
    have ih0 := laws_FnDots.mono_l k
    · intro y0 y1 y2 y3
      unfold laws_FnDots.l0
      repeat' first
      | (with_reducible exact ih0 _ _ _ _)
      | (with_reducible exact impl_DotText.mono _ _)
      | (with_reducible exact impl_TextOf.mono _ _)
      | (with_reducible exact laws_sameTexts.mono _ _ _)
      | (with_reducible exact spec_DotText.mono _ _)
      | (with_reducible exact spec_DrawDotText.mono _ _)
      | (with_reducible exact spec_DrawMailText.mono _ _)
      | (with_reducible exact spec_DrawUndotLine.mono _ _)
      | (with_reducible exact spec_LinesOf.mono _ _)
      | (with_reducible exact spec_SafeText.mono _ _)
      | (with_reducible exact spec_TakeLine.mono _ _)
      | (with_reducible exact LeO.refl _)
      | (with_reducible exact LeO.none _)
      | (with_reducible refine LeO.ite ?_ ?_)
      | (with_reducible refine LeO.bind ?_ (fun _ => ?_))
      | exact ih0 _ _ _ _
      | exact impl_DotText.mono _ _
      | exact impl_TextOf.mono _ _
      | exact laws_sameTexts.mono _ _ _
      | exact spec_DotText.mono _ _
      | exact spec_DrawDotText.mono _ _
      | exact spec_DrawMailText.mono _ _
      | exact spec_DrawUndotLine.mono _ _
      | exact spec_LinesOf.mono _ _
      | exact spec_SafeText.mono _ _
      | exact spec_TakeLine.mono _ _
      | exact LeO.none _
      | refine LeO.ite ?_ ?_
      | refine LeO.bind ?_ (fun _ => ?_)
theorem laws_FnDots.mono : ∀ a0 k, LeO (laws_FnDots.f k a0) (laws_FnDots.f (k + 1) a0) := by
  intro a0 k
  have ih0 := laws_FnDots.mono_l k
  unfold laws_FnDots.f
  repeat' first
      | (with_reducible exact ih0 _ _ _ _)
      | (with_reducible exact impl_DotText.mono _ _)
      | (with_reducible exact impl_TextOf.mono _ _)
      | (with_reducible exact laws_sameTexts.mono _ _ _)
      | (with_reducible exact spec_DotText.mono _ _)
      | (with_reducible exact spec_DrawDotText.mono _ _)
      | (with_reducible exact spec_DrawMailText.mono _ _)
      | (with_reducible exact spec_DrawUndotLine.mono _ _)
      | (with_reducible exact spec_LinesOf.mono _ _)
      | (with_reducible exact spec_SafeText.mono _ _)
      | (with_reducible exact spec_TakeLine.mono _ _)
      | (with_reducible exact LeO.refl _)
      | (with_reducible exact LeO.none _)
      | (with_reducible refine LeO.ite ?_ ?_)
      | (with_reducible refine LeO.bind ?_ (fun _ => ?_))
      | exact ih0 _ _ _ _
      | exact impl_DotText.mono _ _
      | exact impl_TextOf.mono _ _
      | exact laws_sameTexts.mono _ _ _
      | exact spec_DotText.mono _ _
      | exact spec_DrawDotText.mono _ _
      | exact spec_DrawMailText.mono _ _
      | exact spec_DrawUndotLine.mono _ _
      | exact spec_LinesOf.mono _ _
      | exact spec_SafeText.mono _ _
      | exact spec_TakeLine.mono _ _
      | exact LeO.none _
      | refine LeO.ite ?_ ?_
      | refine LeO.bind ?_ (fun _ => ?_)
set_option maxHeartbeats 8000000 in
set_option maxRecDepth 100000 in
theorem laws_FnDots.calls (k : Nat) (A0 : Option Addr) (c0 : Nat) (l0 : List Int) (w : World) (hr0 : Kd.C (Kd.int .u8) w A0 l0.length l0) (hc0 : l0.length ≤ c0) (hG : GInt w) (h : laws_FnDots.f k l0 = some true) :
    Calls Tryd.prog 7 #[.slice A0 l0.length c0] w fun e w' => e = .returned (.bool true) ∧ Below w.heap.size w w' := by
  have HG := Aside0.mk hG
  clear hG
  have HR0 := Aside0.mk hr0
  have HC0 := Aside0.mk hc0
  clear hr0 hc0
  have HB := Aside0.mk (Below.refl w.heap.size w)
  have H : ((laws_big.f l0).bind fun t213 => (if t213 = true then (some true) else ((spec_DrawMailText.f k l0).bind fun t214 => ((impl_DotText.f k t214).bind fun t215 => (laws_FnDots.l0 k l0 t214 t215 (([] : List ByteArray))))))) = some true := h
  clear h
  replace H := Option.bind_eq_some_iff.mp H
  obtain ⟨t213, A20, H⟩ := H
  replace H : (if t213 = true then (some true) else ((spec_DrawMailText.f k l0).bind fun t214 => ((impl_DotText.f k t214).bind fun t215 => (laws_FnDots.l0 k l0 t214 t215 (([] : List ByteArray)))))) = some true := H
  have A2 := Aside0.mk A20
  clear A20
  by_cases c3 : t213 = true
  · subst c3
    have H1 : (some true) = some true := by first | (rw [if_pos rfl] at H; exact H) | rfl
    clear H
    have H := H1
    clear H1
    clear H
    go_enter Tryd.func7, Tryd.ntmps7
    go_wp2_with (first | ((with_reducible refine gate_callee (f := 20) rfl ?_); refine goesL_ (some 18) rfl rfl Tryd.func20 (by kernel_rfl) rfl #[.slice A0 l0.length c0] rfl (by (try simp only [List.map_toArray, List.map_cons, List.map_nil]); first | done | rfl | (simp only [List.length_drop, List.length_take]; rfl)) ?_; (with_reducible refine (laws_big.calls _ _ l0 true _ ?side1 ?side2 A2.out).mono ?_); (case side1 => repeat (first | exact HR0.out | (with_reducible refine Kd.C_alloc ?_ _) | (with_reducible refine Kd.C_drewN ?_ _) | (with_reducible refine Kd.C_drew ?_))); (case side2 => exact HC0.out); rintro e w' ⟨rfl, ⟨nd, rfl⟩⟩; refine ⟨_, rfl, ?_⟩))
    go_ret
    exact ⟨by first | rfl | (simp [errW_none, errW_some] <;> rfl) | (simp [*, errW_none, errW_some] <;> rfl), by repeat (first | (with_reducible first | exact HB.out | apply below_alloc | apply pw_below_drewN | apply below_drew1) | exact HB.out)⟩
  · replace c3 := Bool.eq_false_iff.mpr c3
    subst c3
    have H1 : ((spec_DrawMailText.f k l0).bind fun t214 => ((impl_DotText.f k t214).bind fun t215 => (laws_FnDots.l0 k l0 t214 t215 (([] : List ByteArray))))) = some true := by first | (rw [if_neg (show ¬ (false = true) by decide)] at H; exact H) | rfl
    clear H
    have H := H1
    clear H1
    replace H := Option.bind_eq_some_iff.mp H
    obtain ⟨t214, A40, H⟩ := H
    replace H : ((impl_DotText.f k t214).bind fun t215 => (laws_FnDots.l0 k l0 t214 t215 (([] : List ByteArray)))) = some true := H
    have A4 := Aside0.mk A40
    clear A40
    replace H := Option.bind_eq_some_iff.mp H
    obtain ⟨t215, A50, H⟩ := H
    replace H : (laws_FnDots.l0 k l0 t214 t215 (([] : List ByteArray))) = some true := H
    have A5 := Aside0.mk A50
    clear A50
    obtain ⟨y216, hy216⟩ : ∃ y_ : List ByteArray, y_ = (([] : List ByteArray)) := ⟨_, rfl⟩
    replace H : (laws_FnDots.l0 k l0 t214 t215 y216) = some true := by first | (rw [hy216]; with_reducible exact H) | (have H2_ := (Option.bind_some _ _).symm.trans H; rw [hy216]; with_reducible exact H2_) | (have H2_ := (Option.bind_some _ _).symm.trans H; with_reducible exact H2_) | with_reducible exact H | (rw [hy216]; exact H) | exact H
    have Ny216 := Aside0.mk hy216
    clear hy216
    have H' := Aside0.mk H
    clear H
    go_enter Tryd.func7, Tryd.ntmps7
    go_wp2_with (first | ((with_reducible refine gate_callee (f := 20) rfl ?_); refine goesL_ (some 18) rfl rfl Tryd.func20 (by kernel_rfl) rfl #[.slice A0 l0.length c0] rfl (by (try simp only [List.map_toArray, List.map_cons, List.map_nil]); first | done | rfl | (simp only [List.length_drop, List.length_take]; rfl)) ?_; (with_reducible refine (laws_big.calls _ _ l0 false _ ?side1 ?side2 A2.out).mono ?_); (case side1 => repeat (first | exact HR0.out | (with_reducible refine Kd.C_alloc ?_ _) | (with_reducible refine Kd.C_drewN ?_ _) | (with_reducible refine Kd.C_drew ?_))); (case side2 => exact HC0.out); rintro e w' ⟨rfl, ⟨nd, rfl⟩⟩; refine ⟨_, rfl, ?_⟩) | ((with_reducible refine gate_callee (f := 21) rfl ?_); refine goesL_ (some 20) rfl rfl Tryd.func21 (by kernel_rfl) rfl #[.slice A0 l0.length c0] rfl (by (try simp only [List.map_toArray, List.map_cons, List.map_nil]); first | done | rfl | (simp only [List.length_drop, List.length_take]; rfl)) ?_; (with_reducible refine (spec_DrawMailText.calls k _ _ l0 t214 _ ?side1 ?side2 A4.out).mono ?_); (case side1 => repeat (first | exact HR0.out | (with_reducible refine Kd.C_alloc ?_ _) | (with_reducible refine Kd.C_drewN ?_ _) | (with_reducible refine Kd.C_drew ?_))); (case side2 => exact HC0.out); rintro e w6 ⟨rfl, hb⟩; refine ⟨_, rfl, ?_⟩; have n0_ := Aside0.mk (below_step (by repeat (first | (with_reducible first | exact HB.out | apply below_alloc | apply pw_below_drewN | apply below_drew1) | exact HB.out)) hb); clear HB; have HB := n0_; clear n0_; (try clear hb); (try clear hb2); (try clear hk); (try clear hi)) | ((with_reducible refine gate_callee (f := 15) rfl ?_); refine goesL_ (some 22) rfl rfl Tryd.func15 (by kernel_rfl) rfl #[.string t214] rfl (by (try simp only [List.map_toArray, List.map_cons, List.map_nil]); first | done | rfl | (simp only [List.length_drop, List.length_take]; rfl)) ?_; (with_reducible refine (impl_DotText.calls k t214 t215 _ ?side1 A5.out).mono ?_); (case side1 => exact gint_below (by repeat (first | (with_reducible first | exact HB.out | apply below_alloc | apply pw_below_drewN | apply below_drew1) | exact HB.out)) HG.out); rintro e w7 ⟨rfl, hb⟩; refine ⟨_, rfl, ?_⟩; have n0_ := Aside0.mk (below_step (by repeat (first | (with_reducible first | exact HB.out | apply below_alloc | apply pw_below_drewN | apply below_drew1) | exact HB.out)) hb); clear HB; have HB := n0_; clear n0_; (try clear hb); (try clear hb2); (try clear hk); (try clear hi)) | ((with_reducible refine gate_dst (N := 23) rfl ?_); refine Kd.R_lit Kd.string _ 9 ?hg (N := 23) ?hd (xs := ([] : List ByteArray)) (inner := []) (ok := fun _ => True) (okp := fun _ => True) ?hr ?hp (fun _ hk => hk) trivial (Below.refl _ _) (Nat.le_refl _) (by simp) ?_; (case hd => rfl); (case hg => rfl); (case hr => first | (go_simp; done) | (go_simp; rfl)); (case hp => exact (Reps.none _ _)); intro v217 w8 ho9 hb hg_ hnew_; clear hg_ hnew_; (first | rw [← Ny216.out] at ho9 | (simp only [Int.reduceToNat] at ho9; rw [← Ny216.out] at ho9)); have n0_ := Aside0.mk (Kd.R_lower ho9 (below_size (by repeat (first | (with_reducible first | exact HB.out | apply below_alloc | apply pw_below_drewN | apply below_drew1) | exact HB.out)))); have n1_ := Aside0.mk (below_step (by repeat (first | (with_reducible first | exact HB.out | apply below_alloc | apply pw_below_drewN | apply below_drew1) | exact HB.out)) hb); clear HB; have HO218 := n0_; have HB := n1_; clear n0_ n1_; clear hb ho9))
    go_loopg [4, 5] k (fun kq v4 v5 w' => ∃ (x4_1 : ByteArray) (x5_1 : List ByteArray), v4 = .string x4_1 ∧ Aside0 (laws_FnDots.l0 kq l0 t214 x4_1 x5_1 = some true) ∧ Aside0 (kq ≤ k) ∧ Aside0 (Kd.R Kd.string 9 w' w.heap.size (fun _ => True) v5 x5_1) ∧ Aside0 (Below w.heap.size w w'))
    case atStart => exact ⟨(t215), (y216), (by first | rfl | (simp; done) | (simp [*]; done) | (simp; exact (by intro l; cases l <;> rfl : ∀ l : List UInt8, l.isEmpty = !(l != [])) _)), H', ⟨Nat.le_refl _⟩, ⟨by (with_reducible repeat (first | apply Kd.R_alloc | apply Kd.R_drewN | apply Kd.R_drew)); exact HO218.out⟩, ⟨by repeat (first | (with_reducible first | exact HB.out | apply below_alloc | apply pw_below_drewN | apply below_drew1) | exact HB.out)⟩⟩
    case round =>
      clear H'
      try clear c1
      try clear c2
      try clear p2
      try clear c3
      try clear c7
      obtain ⟨x4_1, x5_1, rfl, HA, HK1, HO_5, HB⟩ := hrel
      cases gk with
      | zero => exact absurd HA.out (by simp [laws_FnDots.l0])
      | succ k1 =>
        have H := HA.out
        clear HA
        simp only [laws_FnDots.l0] at H
        replace H := Option.bind_eq_some_iff.mp H
        obtain ⟨⟨t219, t220, t221⟩, A100, H⟩ := H
        replace H : (if t221 = 0 then ((impl_UndotLine.f t219).bind fun bt222 => (if bt222.2 = true then (if x5_1.length < 8796093022208 then (laws_FnDots.l0 k1 l0 t214 t220 (x5_1 ++ [bt222.1])) else (none)) else ((spec_DrawDotText.f k1 l0).bind fun t227 => ((spec_DrawUndotLine.f k1 l0).bind fun t228 => ((impl_UndotLine.f t228).bind fun bt229 => ((spec_UndotLine.f t228).bind fun bt231 => (if t220.toList = ([] : List UInt8) then ((impl_TextOf.f k1 x5_1).bind fun t233 => (if t233.toList = t214.toList then ((impl_SafeText.f t214).bind fun t234 => (if t234 = true then ((impl_LinesOf.f t214).bind fun t235 => ((laws_sameTexts.f k1 t235 x5_1).bind fun t238 => (if t238 = true then ((impl_DotText.f k1 t227).bind fun t239 => ((spec_DotText.f k1 t227).bind fun t240 => (if t239.toList = t240.toList then (if (bt229.2 == bt231.2) = true then (if bt229.1.toList = bt231.1.toList then ((impl_SafeText.f t227).bind fun t241 => ((spec_SafeText.f k1 t227).bind fun t242 => (if (t241 == t242) = true then ((impl_LinesOf.f t227).bind fun t243 => ((spec_LinesOf.f k1 t227).bind fun t246 => ((laws_sameTexts.f k1 t243 t246).bind fun t249 => (some t249)))) else (some false)))) else (some false)) else (some false)) else (some false)))) else (some false)))) else (some false))) else (some false))) else (some false)))))))) else (some false)) = some true := H
        have A10 := Aside0.mk A100
        clear A100
        by_cases c11 : t221 = 0
        · rw [if_pos c11] at H
          have c11b0 : (t221 == 0) = true := beq_iff_eq.mpr c11
          have c11b1 : (t221 != 0) = false := bne_eq_false_iff_eq.mpr c11
          clear c11
          replace H := Option.bind_eq_some_iff.mp H
          obtain ⟨⟨t222, t223⟩, A120, H⟩ := H
          replace H : (if t223 = true then (if x5_1.length < 8796093022208 then (laws_FnDots.l0 k1 l0 t214 t220 (x5_1 ++ [t222])) else (none)) else ((spec_DrawDotText.f k1 l0).bind fun t227 => ((spec_DrawUndotLine.f k1 l0).bind fun t228 => ((impl_UndotLine.f t228).bind fun bt229 => ((spec_UndotLine.f t228).bind fun bt231 => (if t220.toList = ([] : List UInt8) then ((impl_TextOf.f k1 x5_1).bind fun t233 => (if t233.toList = t214.toList then ((impl_SafeText.f t214).bind fun t234 => (if t234 = true then ((impl_LinesOf.f t214).bind fun t235 => ((laws_sameTexts.f k1 t235 x5_1).bind fun t238 => (if t238 = true then ((impl_DotText.f k1 t227).bind fun t239 => ((spec_DotText.f k1 t227).bind fun t240 => (if t239.toList = t240.toList then (if (bt229.2 == bt231.2) = true then (if bt229.1.toList = bt231.1.toList then ((impl_SafeText.f t227).bind fun t241 => ((spec_SafeText.f k1 t227).bind fun t242 => (if (t241 == t242) = true then ((impl_LinesOf.f t227).bind fun t243 => ((spec_LinesOf.f k1 t227).bind fun t246 => ((laws_sameTexts.f k1 t243 t246).bind fun t249 => (some t249)))) else (some false)))) else (some false)) else (some false)) else (some false)))) else (some false)))) else (some false))) else (some false))) else (some false))))))) = some true := H
          have A12 := Aside0.mk A120
          clear A120
          by_cases c13 : t223 = true
          · subst c13
            have H1 : (if x5_1.length < 8796093022208 then (laws_FnDots.l0 k1 l0 t214 t220 (x5_1 ++ [t222])) else (none)) = some true := by first | (rw [if_pos rfl] at H; exact H) | rfl
            clear H
            have H := H1
            clear H1
            by_cases c14 : x5_1.length < 8796093022208
            · rw [if_pos c14] at H
              have LMc14 := Aside0.mk c14
              clear c14
              obtain ⟨y224, hy224⟩ : ∃ y_ : List ByteArray, y_ = (x5_1 ++ [t222]) := ⟨_, rfl⟩
              replace H : (laws_FnDots.l0 k1 l0 t214 t220 y224) = some true := by first | (rw [hy224]; with_reducible exact H) | (have H2_ := (Option.bind_some _ _).symm.trans H; rw [hy224]; with_reducible exact H2_) | (have H2_ := (Option.bind_some _ _).symm.trans H; with_reducible exact H2_) | with_reducible exact H | (rw [hy224]; exact H) | exact H
              have Ny224 := Aside0.mk hy224
              clear hy224
              have H' := Aside0.mk H
              clear H
              go_wp2_with (first | ((with_reducible refine gate_callee (f := 22) rfl ?_); refine goesL_ (some 26) rfl rfl Tryd.func22 (by kernel_rfl) rfl #[.string x4_1] rfl (by (try simp only [List.map_toArray, List.map_cons, List.map_nil]); first | done | rfl | (simp only [List.length_drop, List.length_take]; rfl)) ?_; (with_reducible refine (spec_TakeLine.calls k1 x4_1 t219 t220 t221 _ A10.out).mono ?_); rintro e w' ⟨rfl, ⟨nd, rfl⟩⟩; refine ⟨_, rfl, ?_⟩) | ((with_reducible refine gate_callee (f := 23) rfl ?_); refine goesL_ (some 35) rfl rfl Tryd.func23 (by kernel_rfl) rfl #[.string t219] rfl (by (try simp only [List.map_toArray, List.map_cons, List.map_nil]); first | done | rfl | (simp only [List.length_drop, List.length_take]; rfl)) ?_; (with_reducible refine (impl_UndotLine.calls t219 t222 true _ A12.out).mono ?_); rintro e w' ⟨rfl, ⟨nd, rfl⟩⟩; refine ⟨_, rfl, ?_⟩) | ((with_reducible refine gate_builtin (b := .append) (xs := #[.tmp 40, .tmp 42]) rfl ?_); at_builtin; refine Kd.R_append Kd.string (w0 := w) w.heap.size rfl (.tmp 40) (.tmp 42) 22 9 (.string ⟨#[]⟩) 16 rfl Tryd.underlying22 info9 rfl (by decide) (by omega) u5 x5_1 t222 [.string t222] (fun _ => True) (fun _ => False) rfl rfl ?aP (fun _ hk => hk.elim) ?aF ?aO ?aB ?aS ?aL ?_; (case aP => exact rfl); (case aB => exact (by repeat (first | (with_reducible first | exact HB.out | apply below_alloc | apply pw_below_drewN | apply below_drew1) | exact HB.out))); (case aF => exact (fun _ _ => trivial)); (case aO => exact (by (with_reducible repeat (first | apply Kd.R_alloc | apply Kd.R_drewN | apply Kd.R_drew)); exact HO_5.out)); (case aS => exact (below_size (by repeat (first | (with_reducible first | exact HB.out | apply below_alloc | apply pw_below_drewN | apply below_drew1) | exact HB.out)))); (case aL => have := LMc14.out; omega); intro v225 w15 ho hb hg hat; rw [← Ny224.out] at ho; have n0_ := Aside0.mk (hb); have n1_ := Aside0.mk (ho); clear HB; clear HO_5; have HB := n0_; have HO226 := n1_; clear n0_ n1_; clear ho hb hg hat))
              go_roundg k1
              case measure => have := HK1.out; omega
              case rel => exact ⟨(t220), (y224), (by first | rfl | (simp; done) | (simp [*]; done) | (simp; exact (by intro l; cases l <;> rfl : ∀ l : List UInt8, l.isEmpty = !(l != [])) _)), H', ⟨by have := HK1.out; omega⟩, ⟨by (with_reducible repeat (first | apply Kd.R_alloc | apply Kd.R_drewN | apply Kd.R_drew)); exact HO226.out⟩, ⟨by repeat (first | (with_reducible first | exact HB.out | apply below_alloc | apply pw_below_drewN | apply below_drew1) | exact HB.out)⟩⟩
            · rw [if_neg c14] at H
              exact absurd H (by simp)
          · replace c13 := Bool.eq_false_iff.mpr c13
            subst c13
            have H1 : ((spec_DrawDotText.f k1 l0).bind fun t227 => ((spec_DrawUndotLine.f k1 l0).bind fun t228 => ((impl_UndotLine.f t228).bind fun bt229 => ((spec_UndotLine.f t228).bind fun bt231 => (if t220.toList = ([] : List UInt8) then ((impl_TextOf.f k1 x5_1).bind fun t233 => (if t233.toList = t214.toList then ((impl_SafeText.f t214).bind fun t234 => (if t234 = true then ((impl_LinesOf.f t214).bind fun t235 => ((laws_sameTexts.f k1 t235 x5_1).bind fun t238 => (if t238 = true then ((impl_DotText.f k1 t227).bind fun t239 => ((spec_DotText.f k1 t227).bind fun t240 => (if t239.toList = t240.toList then (if (bt229.2 == bt231.2) = true then (if bt229.1.toList = bt231.1.toList then ((impl_SafeText.f t227).bind fun t241 => ((spec_SafeText.f k1 t227).bind fun t242 => (if (t241 == t242) = true then ((impl_LinesOf.f t227).bind fun t243 => ((spec_LinesOf.f k1 t227).bind fun t246 => ((laws_sameTexts.f k1 t243 t246).bind fun t249 => (some t249)))) else (some false)))) else (some false)) else (some false)) else (some false)))) else (some false)))) else (some false))) else (some false))) else (some false)))))) = some true := by first | (rw [if_neg (show ¬ (false = true) by decide)] at H; exact H) | rfl
            clear H
            have H := H1
            clear H1
            replace H := Option.bind_eq_some_iff.mp H
            obtain ⟨t227, A160, H⟩ := H
            replace H : ((spec_DrawUndotLine.f k1 l0).bind fun t228 => ((impl_UndotLine.f t228).bind fun bt229 => ((spec_UndotLine.f t228).bind fun bt231 => (if t220.toList = ([] : List UInt8) then ((impl_TextOf.f k1 x5_1).bind fun t233 => (if t233.toList = t214.toList then ((impl_SafeText.f t214).bind fun t234 => (if t234 = true then ((impl_LinesOf.f t214).bind fun t235 => ((laws_sameTexts.f k1 t235 x5_1).bind fun t238 => (if t238 = true then ((impl_DotText.f k1 t227).bind fun t239 => ((spec_DotText.f k1 t227).bind fun t240 => (if t239.toList = t240.toList then (if (bt229.2 == bt231.2) = true then (if bt229.1.toList = bt231.1.toList then ((impl_SafeText.f t227).bind fun t241 => ((spec_SafeText.f k1 t227).bind fun t242 => (if (t241 == t242) = true then ((impl_LinesOf.f t227).bind fun t243 => ((spec_LinesOf.f k1 t227).bind fun t246 => ((laws_sameTexts.f k1 t243 t246).bind fun t249 => (some t249)))) else (some false)))) else (some false)) else (some false)) else (some false)))) else (some false)))) else (some false))) else (some false))) else (some false))))) = some true := H
            have A16 := Aside0.mk A160
            clear A160
            replace H := Option.bind_eq_some_iff.mp H
            obtain ⟨t228, A170, H⟩ := H
            replace H : ((impl_UndotLine.f t228).bind fun bt229 => ((spec_UndotLine.f t228).bind fun bt231 => (if t220.toList = ([] : List UInt8) then ((impl_TextOf.f k1 x5_1).bind fun t233 => (if t233.toList = t214.toList then ((impl_SafeText.f t214).bind fun t234 => (if t234 = true then ((impl_LinesOf.f t214).bind fun t235 => ((laws_sameTexts.f k1 t235 x5_1).bind fun t238 => (if t238 = true then ((impl_DotText.f k1 t227).bind fun t239 => ((spec_DotText.f k1 t227).bind fun t240 => (if t239.toList = t240.toList then (if (bt229.2 == bt231.2) = true then (if bt229.1.toList = bt231.1.toList then ((impl_SafeText.f t227).bind fun t241 => ((spec_SafeText.f k1 t227).bind fun t242 => (if (t241 == t242) = true then ((impl_LinesOf.f t227).bind fun t243 => ((spec_LinesOf.f k1 t227).bind fun t246 => ((laws_sameTexts.f k1 t243 t246).bind fun t249 => (some t249)))) else (some false)))) else (some false)) else (some false)) else (some false)))) else (some false)))) else (some false))) else (some false))) else (some false)))) = some true := H
            have A17 := Aside0.mk A170
            clear A170
            replace H := Option.bind_eq_some_iff.mp H
            obtain ⟨⟨t229, t230⟩, A180, H⟩ := H
            replace H : ((spec_UndotLine.f t228).bind fun bt231 => (if t220.toList = ([] : List UInt8) then ((impl_TextOf.f k1 x5_1).bind fun t233 => (if t233.toList = t214.toList then ((impl_SafeText.f t214).bind fun t234 => (if t234 = true then ((impl_LinesOf.f t214).bind fun t235 => ((laws_sameTexts.f k1 t235 x5_1).bind fun t238 => (if t238 = true then ((impl_DotText.f k1 t227).bind fun t239 => ((spec_DotText.f k1 t227).bind fun t240 => (if t239.toList = t240.toList then (if (t230 == bt231.2) = true then (if t229.toList = bt231.1.toList then ((impl_SafeText.f t227).bind fun t241 => ((spec_SafeText.f k1 t227).bind fun t242 => (if (t241 == t242) = true then ((impl_LinesOf.f t227).bind fun t243 => ((spec_LinesOf.f k1 t227).bind fun t246 => ((laws_sameTexts.f k1 t243 t246).bind fun t249 => (some t249)))) else (some false)))) else (some false)) else (some false)) else (some false)))) else (some false)))) else (some false))) else (some false))) else (some false))) = some true := H
            have A18 := Aside0.mk A180
            clear A180
            replace H := Option.bind_eq_some_iff.mp H
            obtain ⟨⟨t231, t232⟩, A190, H⟩ := H
            replace H : (if t220.toList = ([] : List UInt8) then ((impl_TextOf.f k1 x5_1).bind fun t233 => (if t233.toList = t214.toList then ((impl_SafeText.f t214).bind fun t234 => (if t234 = true then ((impl_LinesOf.f t214).bind fun t235 => ((laws_sameTexts.f k1 t235 x5_1).bind fun t238 => (if t238 = true then ((impl_DotText.f k1 t227).bind fun t239 => ((spec_DotText.f k1 t227).bind fun t240 => (if t239.toList = t240.toList then (if (t230 == t232) = true then (if t229.toList = t231.toList then ((impl_SafeText.f t227).bind fun t241 => ((spec_SafeText.f k1 t227).bind fun t242 => (if (t241 == t242) = true then ((impl_LinesOf.f t227).bind fun t243 => ((spec_LinesOf.f k1 t227).bind fun t246 => ((laws_sameTexts.f k1 t243 t246).bind fun t249 => (some t249)))) else (some false)))) else (some false)) else (some false)) else (some false)))) else (some false)))) else (some false))) else (some false))) else (some false)) = some true := H
            have A19 := Aside0.mk A190
            clear A190
            by_cases c20 : t220.toList = ([] : List UInt8)
            · rw [if_pos c20] at H
              have c20b0 : (t220.toList == ([] : List UInt8)) = true := beq_iff_eq.mpr c20
              have c20b1 : (t220.toList != ([] : List UInt8)) = false := bne_eq_false_iff_eq.mpr c20
              clear c20
              replace H := Option.bind_eq_some_iff.mp H
              obtain ⟨t233, A210, H⟩ := H
              replace H : (if t233.toList = t214.toList then ((impl_SafeText.f t214).bind fun t234 => (if t234 = true then ((impl_LinesOf.f t214).bind fun t235 => ((laws_sameTexts.f k1 t235 x5_1).bind fun t238 => (if t238 = true then ((impl_DotText.f k1 t227).bind fun t239 => ((spec_DotText.f k1 t227).bind fun t240 => (if t239.toList = t240.toList then (if (t230 == t232) = true then (if t229.toList = t231.toList then ((impl_SafeText.f t227).bind fun t241 => ((spec_SafeText.f k1 t227).bind fun t242 => (if (t241 == t242) = true then ((impl_LinesOf.f t227).bind fun t243 => ((spec_LinesOf.f k1 t227).bind fun t246 => ((laws_sameTexts.f k1 t243 t246).bind fun t249 => (some t249)))) else (some false)))) else (some false)) else (some false)) else (some false)))) else (some false)))) else (some false))) else (some false)) = some true := H
              have A21 := Aside0.mk A210
              clear A210
              by_cases c22 : t233.toList = t214.toList
              · rw [if_pos c22] at H
                have c22b0 : (t233.toList == t214.toList) = true := beq_iff_eq.mpr c22
                have c22b1 : (t233.toList != t214.toList) = false := bne_eq_false_iff_eq.mpr c22
                clear c22
                replace H := Option.bind_eq_some_iff.mp H
                obtain ⟨t234, A230, H⟩ := H
                replace H : (if t234 = true then ((impl_LinesOf.f t214).bind fun t235 => ((laws_sameTexts.f k1 t235 x5_1).bind fun t238 => (if t238 = true then ((impl_DotText.f k1 t227).bind fun t239 => ((spec_DotText.f k1 t227).bind fun t240 => (if t239.toList = t240.toList then (if (t230 == t232) = true then (if t229.toList = t231.toList then ((impl_SafeText.f t227).bind fun t241 => ((spec_SafeText.f k1 t227).bind fun t242 => (if (t241 == t242) = true then ((impl_LinesOf.f t227).bind fun t243 => ((spec_LinesOf.f k1 t227).bind fun t246 => ((laws_sameTexts.f k1 t243 t246).bind fun t249 => (some t249)))) else (some false)))) else (some false)) else (some false)) else (some false)))) else (some false)))) else (some false)) = some true := H
                have A23 := Aside0.mk A230
                clear A230
                by_cases c24 : t234 = true
                · subst c24
                  have H1 : ((impl_LinesOf.f t214).bind fun t235 => ((laws_sameTexts.f k1 t235 x5_1).bind fun t238 => (if t238 = true then ((impl_DotText.f k1 t227).bind fun t239 => ((spec_DotText.f k1 t227).bind fun t240 => (if t239.toList = t240.toList then (if (t230 == t232) = true then (if t229.toList = t231.toList then ((impl_SafeText.f t227).bind fun t241 => ((spec_SafeText.f k1 t227).bind fun t242 => (if (t241 == t242) = true then ((impl_LinesOf.f t227).bind fun t243 => ((spec_LinesOf.f k1 t227).bind fun t246 => ((laws_sameTexts.f k1 t243 t246).bind fun t249 => (some t249)))) else (some false)))) else (some false)) else (some false)) else (some false)))) else (some false)))) = some true := by first | (rw [if_pos rfl] at H; exact H) | rfl
                  clear H
                  have H := H1
                  clear H1
                  replace H := Option.bind_eq_some_iff.mp H
                  obtain ⟨t235, A250, H⟩ := H
                  replace H : ((laws_sameTexts.f k1 t235 x5_1).bind fun t238 => (if t238 = true then ((impl_DotText.f k1 t227).bind fun t239 => ((spec_DotText.f k1 t227).bind fun t240 => (if t239.toList = t240.toList then (if (t230 == t232) = true then (if t229.toList = t231.toList then ((impl_SafeText.f t227).bind fun t241 => ((spec_SafeText.f k1 t227).bind fun t242 => (if (t241 == t242) = true then ((impl_LinesOf.f t227).bind fun t243 => ((spec_LinesOf.f k1 t227).bind fun t246 => ((laws_sameTexts.f k1 t243 t246).bind fun t249 => (some t249)))) else (some false)))) else (some false)) else (some false)) else (some false)))) else (some false))) = some true := H
                  have A25 := Aside0.mk A250
                  clear A250
                  replace H := Option.bind_eq_some_iff.mp H
                  obtain ⟨t238, A260, H⟩ := H
                  replace H : (if t238 = true then ((impl_DotText.f k1 t227).bind fun t239 => ((spec_DotText.f k1 t227).bind fun t240 => (if t239.toList = t240.toList then (if (t230 == t232) = true then (if t229.toList = t231.toList then ((impl_SafeText.f t227).bind fun t241 => ((spec_SafeText.f k1 t227).bind fun t242 => (if (t241 == t242) = true then ((impl_LinesOf.f t227).bind fun t243 => ((spec_LinesOf.f k1 t227).bind fun t246 => ((laws_sameTexts.f k1 t243 t246).bind fun t249 => (some t249)))) else (some false)))) else (some false)) else (some false)) else (some false)))) else (some false)) = some true := H
                  have A26 := Aside0.mk A260
                  clear A260
                  by_cases c27 : t238 = true
                  · subst c27
                    have H1 : ((impl_DotText.f k1 t227).bind fun t239 => ((spec_DotText.f k1 t227).bind fun t240 => (if t239.toList = t240.toList then (if (t230 == t232) = true then (if t229.toList = t231.toList then ((impl_SafeText.f t227).bind fun t241 => ((spec_SafeText.f k1 t227).bind fun t242 => (if (t241 == t242) = true then ((impl_LinesOf.f t227).bind fun t243 => ((spec_LinesOf.f k1 t227).bind fun t246 => ((laws_sameTexts.f k1 t243 t246).bind fun t249 => (some t249)))) else (some false)))) else (some false)) else (some false)) else (some false)))) = some true := by first | (rw [if_pos rfl] at H; exact H) | rfl
                    clear H
                    have H := H1
                    clear H1
                    replace H := Option.bind_eq_some_iff.mp H
                    obtain ⟨t239, A280, H⟩ := H
                    replace H : ((spec_DotText.f k1 t227).bind fun t240 => (if t239.toList = t240.toList then (if (t230 == t232) = true then (if t229.toList = t231.toList then ((impl_SafeText.f t227).bind fun t241 => ((spec_SafeText.f k1 t227).bind fun t242 => (if (t241 == t242) = true then ((impl_LinesOf.f t227).bind fun t243 => ((spec_LinesOf.f k1 t227).bind fun t246 => ((laws_sameTexts.f k1 t243 t246).bind fun t249 => (some t249)))) else (some false)))) else (some false)) else (some false)) else (some false))) = some true := H
                    have A28 := Aside0.mk A280
                    clear A280
                    replace H := Option.bind_eq_some_iff.mp H
                    obtain ⟨t240, A290, H⟩ := H
                    replace H : (if t239.toList = t240.toList then (if (t230 == t232) = true then (if t229.toList = t231.toList then ((impl_SafeText.f t227).bind fun t241 => ((spec_SafeText.f k1 t227).bind fun t242 => (if (t241 == t242) = true then ((impl_LinesOf.f t227).bind fun t243 => ((spec_LinesOf.f k1 t227).bind fun t246 => ((laws_sameTexts.f k1 t243 t246).bind fun t249 => (some t249)))) else (some false)))) else (some false)) else (some false)) else (some false)) = some true := H
                    have A29 := Aside0.mk A290
                    clear A290
                    by_cases c30 : t239.toList = t240.toList
                    · rw [if_pos c30] at H
                      have c30b0 : (t239.toList == t240.toList) = true := beq_iff_eq.mpr c30
                      have c30b1 : (t239.toList != t240.toList) = false := bne_eq_false_iff_eq.mpr c30
                      clear c30
                      by_cases c31 : (t230 == t232) = true
                      · rw [if_pos c31] at H
                        have c31b0 : (t230 == t232) = true := c31
                        (try (have c31b1 : decide (t230 = t232) = true := by simpa using c31))
                        (try (have c31b2 : (t230 == t232) = true := by simpa using c31))
                        clear c31
                        by_cases c32 : t229.toList = t231.toList
                        · rw [if_pos c32] at H
                          have c32b0 : (t229.toList == t231.toList) = true := beq_iff_eq.mpr c32
                          have c32b1 : (t229.toList != t231.toList) = false := bne_eq_false_iff_eq.mpr c32
                          clear c32
                          replace H := Option.bind_eq_some_iff.mp H
                          obtain ⟨t241, A330, H⟩ := H
                          replace H : ((spec_SafeText.f k1 t227).bind fun t242 => (if (t241 == t242) = true then ((impl_LinesOf.f t227).bind fun t243 => ((spec_LinesOf.f k1 t227).bind fun t246 => ((laws_sameTexts.f k1 t243 t246).bind fun t249 => (some t249)))) else (some false))) = some true := H
                          have A33 := Aside0.mk A330
                          clear A330
                          replace H := Option.bind_eq_some_iff.mp H
                          obtain ⟨t242, A340, H⟩ := H
                          replace H : (if (t241 == t242) = true then ((impl_LinesOf.f t227).bind fun t243 => ((spec_LinesOf.f k1 t227).bind fun t246 => ((laws_sameTexts.f k1 t243 t246).bind fun t249 => (some t249)))) else (some false)) = some true := H
                          have A34 := Aside0.mk A340
                          clear A340
                          by_cases c35 : (t241 == t242) = true
                          · rw [if_pos c35] at H
                            have c35b0 : (t241 == t242) = true := c35
                            (try (have c35b1 : decide (t241 = t242) = true := by simpa using c35))
                            (try (have c35b2 : (t241 == t242) = true := by simpa using c35))
                            clear c35
                            replace H := Option.bind_eq_some_iff.mp H
                            obtain ⟨t243, A360, H⟩ := H
                            replace H : ((spec_LinesOf.f k1 t227).bind fun t246 => ((laws_sameTexts.f k1 t243 t246).bind fun t249 => (some t249))) = some true := H
                            have A36 := Aside0.mk A360
                            clear A360
                            replace H := Option.bind_eq_some_iff.mp H
                            obtain ⟨t246, A370, H⟩ := H
                            replace H : ((laws_sameTexts.f k1 t243 t246).bind fun t249 => (some t249)) = some true := H
                            have A37 := Aside0.mk A370
                            clear A370
                            replace H := Option.bind_eq_some_iff.mp H
                            obtain ⟨t249, A380, H⟩ := H
                            replace H : (some t249) = some true := H
                            have A38 := Aside0.mk A380
                            clear A380
                            have hres := Option.some.inj H
                            go_wp2_with (first | ((with_reducible refine gate_callee (f := 22) rfl ?_); refine goesL_ (some 26) rfl rfl Tryd.func22 (by kernel_rfl) rfl #[.string x4_1] rfl (by (try simp only [List.map_toArray, List.map_cons, List.map_nil]); first | done | rfl | (simp only [List.length_drop, List.length_take]; rfl)) ?_; (with_reducible refine (spec_TakeLine.calls k1 x4_1 t219 t220 t221 _ A10.out).mono ?_); rintro e w' ⟨rfl, ⟨nd, rfl⟩⟩; refine ⟨_, rfl, ?_⟩) | ((with_reducible refine gate_callee (f := 23) rfl ?_); refine goesL_ (some 35) rfl rfl Tryd.func23 (by kernel_rfl) rfl #[.string t219] rfl (by (try simp only [List.map_toArray, List.map_cons, List.map_nil]); first | done | rfl | (simp only [List.length_drop, List.length_take]; rfl)) ?_; (with_reducible refine (impl_UndotLine.calls t219 t222 false _ A12.out).mono ?_); rintro e w' ⟨rfl, ⟨nd, rfl⟩⟩; refine ⟨_, rfl, ?_⟩) | ((with_reducible refine gate_callee (f := 24) rfl ?_); refine goesL_ (some 45) rfl rfl Tryd.func24 (by kernel_rfl) rfl #[.slice A0 l0.length c0] rfl (by (try simp only [List.map_toArray, List.map_cons, List.map_nil]); first | done | rfl | (simp only [List.length_drop, List.length_take]; rfl)) ?_; (with_reducible refine (spec_DrawDotText.calls k1 _ _ l0 t227 _ ?side1 ?side2 A16.out).mono ?_); (case side1 => repeat (first | exact (Kd.C_below HR0.out (by repeat (first | (with_reducible first | exact HB.out | apply below_alloc | apply pw_below_drewN | apply below_drew1) | exact HB.out))) | (with_reducible refine Kd.C_alloc ?_ _) | (with_reducible refine Kd.C_drewN ?_ _) | (with_reducible refine Kd.C_drew ?_))); (case side2 => exact HC0.out); rintro e w39 ⟨rfl, hb⟩; refine ⟨_, rfl, ?_⟩; have n0_ := Aside0.mk (Kd.R_below (by (with_reducible repeat (first | apply Kd.R_alloc | apply Kd.R_drewN | apply Kd.R_drew)); exact HO_5.out) hb); have n1_ := Aside0.mk (below_step (by repeat (first | (with_reducible first | exact HB.out | apply below_alloc | apply pw_below_drewN | apply below_drew1) | exact HB.out)) hb); clear HO_5; clear HB; have HO_5 := n0_; have HB := n1_; clear n0_ n1_; (try clear hb); (try clear hb2); (try clear hk); (try clear hi)) | ((with_reducible refine gate_callee (f := 25) rfl ?_); refine goesL_ (some 47) rfl rfl Tryd.func25 (by kernel_rfl) rfl #[.slice A0 l0.length c0] rfl (by (try simp only [List.map_toArray, List.map_cons, List.map_nil]); first | done | rfl | (simp only [List.length_drop, List.length_take]; rfl)) ?_; (with_reducible refine (spec_DrawUndotLine.calls k1 _ _ l0 t228 _ ?side1 ?side2 A17.out).mono ?_); (case side1 => repeat (first | exact (Kd.C_below HR0.out HB.out) | (with_reducible refine Kd.C_alloc ?_ _) | (with_reducible refine Kd.C_drewN ?_ _) | (with_reducible refine Kd.C_drew ?_))); (case side2 => exact HC0.out); rintro e w40 ⟨rfl, hb⟩; refine ⟨_, rfl, ?_⟩; have n0_ := Aside0.mk (Kd.R_below (by (with_reducible repeat (first | apply Kd.R_alloc | apply Kd.R_drewN | apply Kd.R_drew)); exact HO_5.out) hb); have n1_ := Aside0.mk (below_step (by repeat (first | (with_reducible first | exact HB.out | apply below_alloc | apply pw_below_drewN | apply below_drew1) | exact HB.out)) hb); clear HO_5; clear HB; have HO_5 := n0_; have HB := n1_; clear n0_ n1_; (try clear hb); (try clear hb2); (try clear hk); (try clear hi)) | ((with_reducible refine gate_callee (f := 23) rfl ?_); refine goesL_ (some 50) rfl rfl Tryd.func23 (by kernel_rfl) rfl #[.string t228] rfl (by (try simp only [List.map_toArray, List.map_cons, List.map_nil]); first | done | rfl | (simp only [List.length_drop, List.length_take]; rfl)) ?_; (with_reducible refine (impl_UndotLine.calls t228 t229 t230 _ A18.out).mono ?_); rintro e w' ⟨rfl, ⟨nd, rfl⟩⟩; refine ⟨_, rfl, ?_⟩) | ((with_reducible refine gate_callee (f := 26) rfl ?_); refine goesL_ (some 55) rfl rfl Tryd.func26 (by kernel_rfl) rfl #[.string t228] rfl (by (try simp only [List.map_toArray, List.map_cons, List.map_nil]); first | done | rfl | (simp only [List.length_drop, List.length_take]; rfl)) ?_; (with_reducible refine (spec_UndotLine.calls t228 t231 t232 _ A19.out).mono ?_); rintro e w' ⟨rfl, ⟨nd, rfl⟩⟩; refine ⟨_, rfl, ?_⟩; obtain ⟨Ao41, co41, eo41⟩ := Kd.R_slice HO_5.out; subst eo41) | (go_at_call 27; (with_reducible refine (impl_TextOf.calls k1 _ _ x5_1 t233 _ ?side1 ?side2 A21.out).mono ?_); (case side1 => repeat (first | exact (Kd.R_reads' HO_5.out).2.2 | (with_reducible refine Kd.C_alloc ?_ _) | (with_reducible refine Kd.C_drewN ?_ _) | (with_reducible refine Kd.C_drew ?_))); (case side2 => exact (Kd.R_reads' HO_5.out).2.1); rintro e w' ⟨rfl, ⟨nd, rfl⟩⟩) | (go_at_call 28; (with_reducible refine (impl_SafeText.calls t214 true _ A23.out).mono ?_); rintro e w' ⟨rfl, ⟨nd, rfl⟩⟩) | (go_at_call 19; (with_reducible refine (impl_LinesOf.calls t214 t235 _ ?side1 A25.out).mono ?_); (case side1 => exact gint_below (by repeat (first | (with_reducible first | exact HB.out | apply below_alloc | apply pw_below_drewN | apply below_drew1) | exact HB.out)) HG.out); rintro e w42 ⟨v236, rfl, ho0, hb⟩; have n0_ := Aside0.mk (Kd.R_elder' (by (with_reducible repeat (first | apply Kd.R_alloc | apply Kd.R_drewN | apply Kd.R_drew)); exact HO_5.out) (Kd.R_base ho0) hb); have n1_ := Aside0.mk (Kd.R_lower (Kd.R_new' ho0 (Kd.R_lt (by (with_reducible repeat (first | apply Kd.R_alloc | apply Kd.R_drewN | apply Kd.R_drew)); exact HO_5.out))) (below_size (by repeat (first | (with_reducible first | exact HB.out | apply below_alloc | apply pw_below_drewN | apply below_drew1) | exact HB.out)))); have n2_ := Aside0.mk (below_step (by repeat (first | (with_reducible first | exact HB.out | apply below_alloc | apply pw_below_drewN | apply below_drew1) | exact HB.out)) hb); clear HO_5; clear HB; have HO_5 := n0_; have HO237 := n1_; have HB := n2_; clear n0_ n1_ n2_; (try clear hb); (try clear hb2); (try clear hk); (try clear hi); (try clear ho0); obtain ⟨Ao43, co43, eo43⟩ := Kd.R_slice HO237.out; subst eo43) | (go_at_call 29; (with_reducible refine (laws_sameTexts.calls k1 _ _ t235 _ _ x5_1 true _ ?side1 ?side2 ?side3 ?side4 A26.out).mono ?_); (case side1 => repeat (first | exact (Kd.R_reads' HO237.out).2.2 | (with_reducible refine Kd.C_alloc ?_ _) | (with_reducible refine Kd.C_drewN ?_ _) | (with_reducible refine Kd.C_drew ?_))); (case side2 => exact (Kd.R_reads' HO237.out).2.1); (case side3 => repeat (first | exact (Kd.R_reads' HO_5.out).2.2 | (with_reducible refine Kd.C_alloc ?_ _) | (with_reducible refine Kd.C_drewN ?_ _) | (with_reducible refine Kd.C_drew ?_))); (case side4 => exact (Kd.R_reads' HO_5.out).2.1); rintro e w' ⟨rfl, ⟨nd, rfl⟩⟩) | (go_at_call 15; (with_reducible refine (impl_DotText.calls k1 t227 t239 _ ?side1 A28.out).mono ?_); (case side1 => exact gint_below (by repeat (first | (with_reducible first | exact HB.out | apply below_alloc | apply pw_below_drewN | apply below_drew1) | exact HB.out)) HG.out); rintro e w44 ⟨rfl, hb⟩; have n0_ := Aside0.mk (Kd.R_below (by (with_reducible repeat (first | apply Kd.R_alloc | apply Kd.R_drewN | apply Kd.R_drew)); exact HO_5.out) hb); have n1_ := Aside0.mk (Kd.R_below (by (with_reducible repeat (first | apply Kd.R_alloc | apply Kd.R_drewN | apply Kd.R_drew)); exact HO237.out) hb); have n2_ := Aside0.mk (below_step (by repeat (first | (with_reducible first | exact HB.out | apply below_alloc | apply pw_below_drewN | apply below_drew1) | exact HB.out)) hb); clear HO_5; clear HO237; clear HB; have HO_5 := n0_; have HO237 := n1_; have HB := n2_; clear n0_ n1_ n2_; (try clear hb); (try clear hb2); (try clear hk); (try clear hi)) | (go_at_call 14; (with_reducible refine (spec_DotText.calls k1 t227 t240 _ A29.out).mono ?_); rintro e w45 ⟨rfl, hb⟩; have n0_ := Aside0.mk (Kd.R_below (by (with_reducible repeat (first | apply Kd.R_alloc | apply Kd.R_drewN | apply Kd.R_drew)); exact HO_5.out) hb); have n1_ := Aside0.mk (Kd.R_below (by (with_reducible repeat (first | apply Kd.R_alloc | apply Kd.R_drewN | apply Kd.R_drew)); exact HO237.out) hb); have n2_ := Aside0.mk (below_step (by repeat (first | (with_reducible first | exact HB.out | apply below_alloc | apply pw_below_drewN | apply below_drew1) | exact HB.out)) hb); clear HO_5; clear HO237; clear HB; have HO_5 := n0_; have HO237 := n1_; have HB := n2_; clear n0_ n1_ n2_; (try clear hb); (try clear hb2); (try clear hk); (try clear hi)) | (go_at_call 28; (with_reducible refine (impl_SafeText.calls t227 t241 _ A33.out).mono ?_); rintro e w' ⟨rfl, ⟨nd, rfl⟩⟩) | (go_at_call 30; (with_reducible refine (spec_SafeText.calls k1 t227 t242 _ A34.out).mono ?_); rintro e w' ⟨rfl, ⟨nd, rfl⟩⟩) | (go_at_call 19; (with_reducible refine (impl_LinesOf.calls t227 t243 _ ?side1 A36.out).mono ?_); (case side1 => exact gint_below (by repeat (first | (with_reducible first | exact HB.out | apply below_alloc | apply pw_below_drewN | apply below_drew1) | exact HB.out)) HG.out); rintro e w46 ⟨v244, rfl, ho0, hb⟩; have n0_ := Aside0.mk (Kd.R_elder' (by (with_reducible repeat (first | apply Kd.R_alloc | apply Kd.R_drewN | apply Kd.R_drew)); exact HO_5.out) (Kd.R_base ho0) hb); have n1_ := Aside0.mk (Kd.R_elder' (by (with_reducible repeat (first | apply Kd.R_alloc | apply Kd.R_drewN | apply Kd.R_drew)); exact HO237.out) (Kd.R_base ho0) hb); have n2_ := Aside0.mk (Kd.R_lower (Kd.R_new' (Kd.R_new' ho0 (Kd.R_lt (by (with_reducible repeat (first | apply Kd.R_alloc | apply Kd.R_drewN | apply Kd.R_drew)); exact HO_5.out))) (Kd.R_lt (by (with_reducible repeat (first | apply Kd.R_alloc | apply Kd.R_drewN | apply Kd.R_drew)); exact HO237.out))) (below_size (by repeat (first | (with_reducible first | exact HB.out | apply below_alloc | apply pw_below_drewN | apply below_drew1) | exact HB.out)))); have n3_ := Aside0.mk (below_step (by repeat (first | (with_reducible first | exact HB.out | apply below_alloc | apply pw_below_drewN | apply below_drew1) | exact HB.out)) hb); clear HO_5; clear HO237; clear HB; have HO_5 := n0_; have HO237 := n1_; have HO245 := n2_; have HB := n3_; clear n0_ n1_ n2_ n3_; (try clear hb); (try clear hb2); (try clear hk); (try clear hi); (try clear ho0)) | (go_at_call 18; (with_reducible refine (spec_LinesOf.calls k1 t227 t246 _ A37.out).mono ?_); rintro e w47 ⟨v247, rfl, ho0, hb⟩; have n0_ := Aside0.mk (Kd.R_elder' (by (with_reducible repeat (first | apply Kd.R_alloc | apply Kd.R_drewN | apply Kd.R_drew)); exact HO_5.out) (Kd.R_base ho0) hb); have n1_ := Aside0.mk (Kd.R_elder' (by (with_reducible repeat (first | apply Kd.R_alloc | apply Kd.R_drewN | apply Kd.R_drew)); exact HO237.out) (Kd.R_base ho0) hb); have n2_ := Aside0.mk (Kd.R_elder' (by (with_reducible repeat (first | apply Kd.R_alloc | apply Kd.R_drewN | apply Kd.R_drew)); exact HO245.out) (Kd.R_base ho0) hb); have n3_ := Aside0.mk (Kd.R_lower (Kd.R_new' (Kd.R_new' (Kd.R_new' ho0 (Kd.R_lt (by (with_reducible repeat (first | apply Kd.R_alloc | apply Kd.R_drewN | apply Kd.R_drew)); exact HO_5.out))) (Kd.R_lt (by (with_reducible repeat (first | apply Kd.R_alloc | apply Kd.R_drewN | apply Kd.R_drew)); exact HO237.out))) (Kd.R_lt (by (with_reducible repeat (first | apply Kd.R_alloc | apply Kd.R_drewN | apply Kd.R_drew)); exact HO245.out))) (below_size (by repeat (first | (with_reducible first | exact HB.out | apply below_alloc | apply pw_below_drewN | apply below_drew1) | exact HB.out)))); have n4_ := Aside0.mk (below_step (by repeat (first | (with_reducible first | exact HB.out | apply below_alloc | apply pw_below_drewN | apply below_drew1) | exact HB.out)) hb); clear HO_5; clear HO237; clear HO245; clear HB; have HO_5 := n0_; have HO237 := n1_; have HO245 := n2_; have HO248 := n3_; have HB := n4_; clear n0_ n1_ n2_ n3_ n4_; (try clear hb); (try clear hb2); (try clear hk); (try clear hi); (try clear ho0); obtain ⟨Ao48, co48, eo48⟩ := Kd.R_slice HO245.out; subst eo48; obtain ⟨Ao49, co49, eo49⟩ := Kd.R_slice HO248.out; subst eo49) | (go_at_call 29; (with_reducible refine (laws_sameTexts.calls k1 _ _ t243 _ _ t246 t249 _ ?side1 ?side2 ?side3 ?side4 A38.out).mono ?_); (case side1 => repeat (first | exact (Kd.R_reads' HO245.out).2.2 | (with_reducible refine Kd.C_alloc ?_ _) | (with_reducible refine Kd.C_drewN ?_ _) | (with_reducible refine Kd.C_drew ?_))); (case side2 => exact (Kd.R_reads' HO245.out).2.1); (case side3 => repeat (first | exact (Kd.R_reads' HO248.out).2.2 | (with_reducible refine Kd.C_alloc ?_ _) | (with_reducible refine Kd.C_drewN ?_ _) | (with_reducible refine Kd.C_drew ?_))); (case side4 => exact (Kd.R_reads' HO248.out).2.1); rintro e w' ⟨rfl, ⟨nd, rfl⟩⟩))
                            go_ret
                            exact ⟨by first | rfl | (simp [errW_none, errW_some] <;> rfl) | (simp [*, errW_none, errW_some] <;> rfl), by repeat (first | (with_reducible first | exact HB.out | apply below_alloc | apply pw_below_drewN | apply below_drew1) | exact HB.out)⟩
                          · rw [if_neg c35] at H
                            have c35b0 : (t241 == t242) = false := by simpa using c35
                            (try (have c35b1 : decide (t241 = t242) = false := by simpa using c35))
                            (try (have c35b2 : (t241 == t242) = false := by simpa using c35))
                            (try (have c35b3 : ¬ (t241 = t242) := by simpa using c35))
                            clear c35
                            exact absurd H (by simp)
                        · rw [if_neg c32] at H
                          have c32b0 : (t229.toList == t231.toList) = false := beq_eq_false_iff_ne.mpr c32
                          have c32b1 : (t229.toList != t231.toList) = true := bne_iff_ne.mpr c32
                          exact absurd H (by simp)
                      · rw [if_neg c31] at H
                        have c31b0 : (t230 == t232) = false := by simpa using c31
                        (try (have c31b1 : decide (t230 = t232) = false := by simpa using c31))
                        (try (have c31b2 : (t230 == t232) = false := by simpa using c31))
                        (try (have c31b3 : ¬ (t230 = t232) := by simpa using c31))
                        clear c31
                        exact absurd H (by simp)
                    · rw [if_neg c30] at H
                      have c30b0 : (t239.toList == t240.toList) = false := beq_eq_false_iff_ne.mpr c30
                      have c30b1 : (t239.toList != t240.toList) = true := bne_iff_ne.mpr c30
                      exact absurd H (by simp)
                  · replace c27 := Bool.eq_false_iff.mpr c27
                    subst c27
                    have H1 : (some false) = some true := by first | (rw [if_neg (show ¬ (false = true) by decide)] at H; exact H) | rfl
                    clear H
                    have H := H1
                    clear H1
                    exact absurd H (by simp)
                · replace c24 := Bool.eq_false_iff.mpr c24
                  subst c24
                  have H1 : (some false) = some true := by first | (rw [if_neg (show ¬ (false = true) by decide)] at H; exact H) | rfl
                  clear H
                  have H := H1
                  clear H1
                  exact absurd H (by simp)
              · rw [if_neg c22] at H
                have c22b0 : (t233.toList == t214.toList) = false := beq_eq_false_iff_ne.mpr c22
                have c22b1 : (t233.toList != t214.toList) = true := bne_iff_ne.mpr c22
                exact absurd H (by simp)
            · rw [if_neg c20] at H
              have c20b0 : (t220.toList == ([] : List UInt8)) = false := beq_eq_false_iff_ne.mpr c20
              have c20b1 : (t220.toList != ([] : List UInt8)) = true := bne_iff_ne.mpr c20
              exact absurd H (by simp)
        · rw [if_neg c11] at H
          have c11b0 : (t221 == 0) = false := beq_eq_false_iff_ne.mpr c11
          have c11b1 : (t221 != 0) = true := bne_iff_ne.mpr c11
          exact absurd H (by simp)

end Go.Proofs.YtncpoffbeipooaaDoor.QFnDots
