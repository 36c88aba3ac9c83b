-- Written by a program of this session (myprint) out of Lean's own print of the translation. Lean checks it.
import Derived.Test.YtdclbjfpkhljeaaQFnExactTracedx0
namespace Go.Proofs.Ytdclbjfpkhljeaa.QFnExactTraced
open Go.RowKit Go.Proofs.YtdclbjfpkhljeaaW.PrintWords Go.Proofs.YtdclbjfpkhljeaaW.PrintLast Go.Proofs.YtdclbjfpkhljeaaW.PrintMore
attribute [local go_sem] max2_int min2_int max_two min_two max_three min_three max_four min_four   -- for this text's walks alone
set_option linter.unusedVariables false
set_option linter.unusedSimpArgs false

/-! ### spec_Traced: function 11 -/
def spec_Traced.f (a0 : ByteArray) (a1 : ByteArray) (a2 : ByteArray) : Option (ByteArray) := if 6 + a1.size ≤ 9223372036854775807 then (if ((⟨#[102, 114, 111, 109, 58, 32]⟩ : ByteArray) ++ a1).size + 5 ≤ 9223372036854775807 then (if (((⟨#[102, 114, 111, 109, 58, 32]⟩ : ByteArray) ++ a1) ++ (⟨#[10, 116, 111, 58, 32]⟩ : ByteArray)).size + a2.size ≤ 9223372036854775807 then (if ((((⟨#[102, 114, 111, 109, 58, 32]⟩ : ByteArray) ++ a1) ++ (⟨#[10, 116, 111, 58, 32]⟩ : ByteArray)) ++ a2).size + 1 ≤ 9223372036854775807 then (if (((((⟨#[102, 114, 111, 109, 58, 32]⟩ : ByteArray) ++ a1) ++ (⟨#[10, 116, 111, 58, 32]⟩ : ByteArray)) ++ a2) ++ (⟨#[10]⟩ : ByteArray)).size + a0.size ≤ 9223372036854775807 then (some ((((((⟨#[102, 114, 111, 109, 58, 32]⟩ : ByteArray) ++ a1) ++ (⟨#[10, 116, 111, 58, 32]⟩ : ByteArray)) ++ a2) ++ (⟨#[10]⟩ : ByteArray)) ++ a0)) else (none)) else (none)) else (none)) else (none)) else (none)
set_option maxHeartbeats 8000000 in
set_option maxRecDepth 100000 in
theorem spec_Traced.calls (a0 : ByteArray) (a1 : ByteArray) (a2 : ByteArray) (r : ByteArray) (w : World) (h : spec_Traced.f a0 a1 a2 = some r) :
    Calls Try.prog 11 #[.string a0, .string a1, .string a2] w fun e w' => e = .returned (.string r) ∧ Drawn0 w w' := by
  have H : (if 6 + a1.size ≤ 9223372036854775807 then (if ((⟨#[102, 114, 111, 109, 58, 32]⟩ : ByteArray) ++ a1).size + 5 ≤ 9223372036854775807 then (if (((⟨#[102, 114, 111, 109, 58, 32]⟩ : ByteArray) ++ a1) ++ (⟨#[10, 116, 111, 58, 32]⟩ : ByteArray)).size + a2.size ≤ 9223372036854775807 then (if ((((⟨#[102, 114, 111, 109, 58, 32]⟩ : ByteArray) ++ a1) ++ (⟨#[10, 116, 111, 58, 32]⟩ : ByteArray)) ++ a2).size + 1 ≤ 9223372036854775807 then (if (((((⟨#[102, 114, 111, 109, 58, 32]⟩ : ByteArray) ++ a1) ++ (⟨#[10, 116, 111, 58, 32]⟩ : ByteArray)) ++ a2) ++ (⟨#[10]⟩ : ByteArray)).size + a0.size ≤ 9223372036854775807 then (some ((((((⟨#[102, 114, 111, 109, 58, 32]⟩ : ByteArray) ++ a1) ++ (⟨#[10, 116, 111, 58, 32]⟩ : ByteArray)) ++ a2) ++ (⟨#[10]⟩ : ByteArray)) ++ a0)) else (none)) else (none)) else (none)) else (none)) else (none)) = some r := h
  clear h
  by_cases c4 : 6 + a1.size ≤ 9223372036854775807
  · rw [if_pos c4] at H
    have c4b0 := eq_true c4
    have c4b1 : decide (6 + a1.size ≤ 9223372036854775807) = true := decide_eq_true c4
    try have c4b2 : (9223372036854775807 < 6 + a1.size) = False := eq_false (Nat.not_lt.2 c4)
    by_cases c5 : ((⟨#[102, 114, 111, 109, 58, 32]⟩ : ByteArray) ++ a1).size + 5 ≤ 9223372036854775807
    · rw [if_pos c5] at H
      have c5b0 := eq_true c5
      have c5b1 : decide (((⟨#[102, 114, 111, 109, 58, 32]⟩ : ByteArray) ++ a1).size + 5 ≤ 9223372036854775807) = true := decide_eq_true c5
      try have c5b2 : (9223372036854775807 < ((⟨#[102, 114, 111, 109, 58, 32]⟩ : ByteArray) ++ a1).size + 5) = False := eq_false (Nat.not_lt.2 c5)
      have c5n := c5
      (try simp only [ByteArray.size_append, show (⟨#[102, 114, 111, 109, 58, 32]⟩ : ByteArray).size = 6 from rfl] at c5n)
      have c5nb0 := eq_true c5n
      have c5nb1 := decide_eq_true c5n
      have c5nb2 := eq_false (Nat.not_lt.2 c5n)
      by_cases c6 : (((⟨#[102, 114, 111, 109, 58, 32]⟩ : ByteArray) ++ a1) ++ (⟨#[10, 116, 111, 58, 32]⟩ : ByteArray)).size + a2.size ≤ 9223372036854775807
      · rw [if_pos c6] at H
        have c6b0 := eq_true c6
        have c6b1 : decide ((((⟨#[102, 114, 111, 109, 58, 32]⟩ : ByteArray) ++ a1) ++ (⟨#[10, 116, 111, 58, 32]⟩ : ByteArray)).size + a2.size ≤ 9223372036854775807) = true := decide_eq_true c6
        try have c6b2 : (9223372036854775807 < (((⟨#[102, 114, 111, 109, 58, 32]⟩ : ByteArray) ++ a1) ++ (⟨#[10, 116, 111, 58, 32]⟩ : ByteArray)).size + a2.size) = False := eq_false (Nat.not_lt.2 c6)
        have c6n := c6
        (try simp only [ByteArray.size_append, show (⟨#[10, 116, 111, 58, 32]⟩ : ByteArray).size = 5 from rfl, show (⟨#[102, 114, 111, 109, 58, 32]⟩ : ByteArray).size = 6 from rfl] at c6n)
        have c6nb0 := eq_true c6n
        have c6nb1 := decide_eq_true c6n
        have c6nb2 := eq_false (Nat.not_lt.2 c6n)
        by_cases c7 : ((((⟨#[102, 114, 111, 109, 58, 32]⟩ : ByteArray) ++ a1) ++ (⟨#[10, 116, 111, 58, 32]⟩ : ByteArray)) ++ a2).size + 1 ≤ 9223372036854775807
        · rw [if_pos c7] at H
          have c7b0 := eq_true c7
          have c7b1 : decide (((((⟨#[102, 114, 111, 109, 58, 32]⟩ : ByteArray) ++ a1) ++ (⟨#[10, 116, 111, 58, 32]⟩ : ByteArray)) ++ a2).size + 1 ≤ 9223372036854775807) = true := decide_eq_true c7
          try have c7b2 : (9223372036854775807 < ((((⟨#[102, 114, 111, 109, 58, 32]⟩ : ByteArray) ++ a1) ++ (⟨#[10, 116, 111, 58, 32]⟩ : ByteArray)) ++ a2).size + 1) = False := eq_false (Nat.not_lt.2 c7)
          have c7n := c7
          (try simp only [ByteArray.size_append, show (⟨#[10, 116, 111, 58, 32]⟩ : ByteArray).size = 5 from rfl, show (⟨#[102, 114, 111, 109, 58, 32]⟩ : ByteArray).size = 6 from rfl] at c7n)
          have c7nb0 := eq_true c7n
          have c7nb1 := decide_eq_true c7n
          have c7nb2 := eq_false (Nat.not_lt.2 c7n)
          by_cases c8 : (((((⟨#[102, 114, 111, 109, 58, 32]⟩ : ByteArray) ++ a1) ++ (⟨#[10, 116, 111, 58, 32]⟩ : ByteArray)) ++ a2) ++ (⟨#[10]⟩ : ByteArray)).size + a0.size ≤ 9223372036854775807
          · rw [if_pos c8] at H
            have c8b0 := eq_true c8
            have c8b1 : decide ((((((⟨#[102, 114, 111, 109, 58, 32]⟩ : ByteArray) ++ a1) ++ (⟨#[10, 116, 111, 58, 32]⟩ : ByteArray)) ++ a2) ++ (⟨#[10]⟩ : ByteArray)).size + a0.size ≤ 9223372036854775807) = true := decide_eq_true c8
            try have c8b2 : (9223372036854775807 < (((((⟨#[102, 114, 111, 109, 58, 32]⟩ : ByteArray) ++ a1) ++ (⟨#[10, 116, 111, 58, 32]⟩ : ByteArray)) ++ a2) ++ (⟨#[10]⟩ : ByteArray)).size + a0.size) = False := eq_false (Nat.not_lt.2 c8)
            have c8n := c8
            (try simp only [ByteArray.size_append, show (⟨#[10]⟩ : ByteArray).size = 1 from rfl, show (⟨#[10, 116, 111, 58, 32]⟩ : ByteArray).size = 5 from rfl, show (⟨#[102, 114, 111, 109, 58, 32]⟩ : ByteArray).size = 6 from rfl] at c8n)
            have c8nb0 := eq_true c8n
            have c8nb1 := decide_eq_true c8n
            have c8nb2 := eq_false (Nat.not_lt.2 c8n)
            obtain rfl := Option.some.inj H
            go_enter Try.func11, Try.ntmps11
            go_wp2
            go_ret
            exact ⟨by first | rfl | (simp; done) | (simp [*]; done), by repeat (first | exact Drawn0.refl _ | apply Drawn0.step)⟩
          · rw [if_neg c8] at H
            exact absurd H (by simp)
        · rw [if_neg c7] at H
          exact absurd H (by simp)
      · rw [if_neg c6] at H
        exact absurd H (by simp)
    · rw [if_neg c5] at H
      exact absurd H (by simp)
  · rw [if_neg c4] at H
    exact absurd H (by simp)

/-! ### impl_Traced: function 12 -/
def impl_Traced.f (a0 : ByteArray) (a1 : ByteArray) (a2 : ByteArray) : Option (ByteArray) := if 6 + a1.size ≤ 9223372036854775807 then (if ((⟨#[102, 114, 111, 109, 58, 32]⟩ : ByteArray) ++ a1).size + 5 ≤ 9223372036854775807 then (if (((⟨#[102, 114, 111, 109, 58, 32]⟩ : ByteArray) ++ a1) ++ (⟨#[10, 116, 111, 58, 32]⟩ : ByteArray)).size + a2.size ≤ 9223372036854775807 then (if ((((⟨#[102, 114, 111, 109, 58, 32]⟩ : ByteArray) ++ a1) ++ (⟨#[10, 116, 111, 58, 32]⟩ : ByteArray)) ++ a2).size + 1 ≤ 9223372036854775807 then (if (((((⟨#[102, 114, 111, 109, 58, 32]⟩ : ByteArray) ++ a1) ++ (⟨#[10, 116, 111, 58, 32]⟩ : ByteArray)) ++ a2) ++ (⟨#[10]⟩ : ByteArray)).size + a0.size ≤ 9223372036854775807 then (some ((((((⟨#[102, 114, 111, 109, 58, 32]⟩ : ByteArray) ++ a1) ++ (⟨#[10, 116, 111, 58, 32]⟩ : ByteArray)) ++ a2) ++ (⟨#[10]⟩ : ByteArray)) ++ a0)) else (none)) else (none)) else (none)) else (none)) else (none)
set_option maxHeartbeats 8000000 in
set_option maxRecDepth 100000 in
theorem impl_Traced.calls (a0 : ByteArray) (a1 : ByteArray) (a2 : ByteArray) (r : ByteArray) (w : World) (h : impl_Traced.f a0 a1 a2 = some r) :
    Calls Try.prog 12 #[.string a0, .string a1, .string a2] w fun e w' => e = .returned (.string r) ∧ Drawn0 w w' := by
  have H : (if 6 + a1.size ≤ 9223372036854775807 then (if ((⟨#[102, 114, 111, 109, 58, 32]⟩ : ByteArray) ++ a1).size + 5 ≤ 9223372036854775807 then (if (((⟨#[102, 114, 111, 109, 58, 32]⟩ : ByteArray) ++ a1) ++ (⟨#[10, 116, 111, 58, 32]⟩ : ByteArray)).size + a2.size ≤ 9223372036854775807 then (if ((((⟨#[102, 114, 111, 109, 58, 32]⟩ : ByteArray) ++ a1) ++ (⟨#[10, 116, 111, 58, 32]⟩ : ByteArray)) ++ a2).size + 1 ≤ 9223372036854775807 then (if (((((⟨#[102, 114, 111, 109, 58, 32]⟩ : ByteArray) ++ a1) ++ (⟨#[10, 116, 111, 58, 32]⟩ : ByteArray)) ++ a2) ++ (⟨#[10]⟩ : ByteArray)).size + a0.size ≤ 9223372036854775807 then (some ((((((⟨#[102, 114, 111, 109, 58, 32]⟩ : ByteArray) ++ a1) ++ (⟨#[10, 116, 111, 58, 32]⟩ : ByteArray)) ++ a2) ++ (⟨#[10]⟩ : ByteArray)) ++ a0)) else (none)) else (none)) else (none)) else (none)) else (none)) = some r := h
  clear h
  by_cases c4 : 6 + a1.size ≤ 9223372036854775807
  · rw [if_pos c4] at H
    have c4b0 := eq_true c4
    have c4b1 : decide (6 + a1.size ≤ 9223372036854775807) = true := decide_eq_true c4
    try have c4b2 : (9223372036854775807 < 6 + a1.size) = False := eq_false (Nat.not_lt.2 c4)
    by_cases c5 : ((⟨#[102, 114, 111, 109, 58, 32]⟩ : ByteArray) ++ a1).size + 5 ≤ 9223372036854775807
    · rw [if_pos c5] at H
      have c5b0 := eq_true c5
      have c5b1 : decide (((⟨#[102, 114, 111, 109, 58, 32]⟩ : ByteArray) ++ a1).size + 5 ≤ 9223372036854775807) = true := decide_eq_true c5
      try have c5b2 : (9223372036854775807 < ((⟨#[102, 114, 111, 109, 58, 32]⟩ : ByteArray) ++ a1).size + 5) = False := eq_false (Nat.not_lt.2 c5)
      have c5n := c5
      (try simp only [ByteArray.size_append, show (⟨#[102, 114, 111, 109, 58, 32]⟩ : ByteArray).size = 6 from rfl] at c5n)
      have c5nb0 := eq_true c5n
      have c5nb1 := decide_eq_true c5n
      have c5nb2 := eq_false (Nat.not_lt.2 c5n)
      by_cases c6 : (((⟨#[102, 114, 111, 109, 58, 32]⟩ : ByteArray) ++ a1) ++ (⟨#[10, 116, 111, 58, 32]⟩ : ByteArray)).size + a2.size ≤ 9223372036854775807
      · rw [if_pos c6] at H
        have c6b0 := eq_true c6
        have c6b1 : decide ((((⟨#[102, 114, 111, 109, 58, 32]⟩ : ByteArray) ++ a1) ++ (⟨#[10, 116, 111, 58, 32]⟩ : ByteArray)).size + a2.size ≤ 9223372036854775807) = true := decide_eq_true c6
        try have c6b2 : (9223372036854775807 < (((⟨#[102, 114, 111, 109, 58, 32]⟩ : ByteArray) ++ a1) ++ (⟨#[10, 116, 111, 58, 32]⟩ : ByteArray)).size + a2.size) = False := eq_false (Nat.not_lt.2 c6)
        have c6n := c6
        (try simp only [ByteArray.size_append, show (⟨#[10, 116, 111, 58, 32]⟩ : ByteArray).size = 5 from rfl, show (⟨#[102, 114, 111, 109, 58, 32]⟩ : ByteArray).size = 6 from rfl] at c6n)
        have c6nb0 := eq_true c6n
        have c6nb1 := decide_eq_true c6n
        have c6nb2 := eq_false (Nat.not_lt.2 c6n)
        by_cases c7 : ((((⟨#[102, 114, 111, 109, 58, 32]⟩ : ByteArray) ++ a1) ++ (⟨#[10, 116, 111, 58, 32]⟩ : ByteArray)) ++ a2).size + 1 ≤ 9223372036854775807
        · rw [if_pos c7] at H
          have c7b0 := eq_true c7
          have c7b1 : decide (((((⟨#[102, 114, 111, 109, 58, 32]⟩ : ByteArray) ++ a1) ++ (⟨#[10, 116, 111, 58, 32]⟩ : ByteArray)) ++ a2).size + 1 ≤ 9223372036854775807) = true := decide_eq_true c7
          try have c7b2 : (9223372036854775807 < ((((⟨#[102, 114, 111, 109, 58, 32]⟩ : ByteArray) ++ a1) ++ (⟨#[10, 116, 111, 58, 32]⟩ : ByteArray)) ++ a2).size + 1) = False := eq_false (Nat.not_lt.2 c7)
          have c7n := c7
          (try simp only [ByteArray.size_append, show (⟨#[10, 116, 111, 58, 32]⟩ : ByteArray).size = 5 from rfl, show (⟨#[102, 114, 111, 109, 58, 32]⟩ : ByteArray).size = 6 from rfl] at c7n)
          have c7nb0 := eq_true c7n
          have c7nb1 := decide_eq_true c7n
          have c7nb2 := eq_false (Nat.not_lt.2 c7n)
          by_cases c8 : (((((⟨#[102, 114, 111, 109, 58, 32]⟩ : ByteArray) ++ a1) ++ (⟨#[10, 116, 111, 58, 32]⟩ : ByteArray)) ++ a2) ++ (⟨#[10]⟩ : ByteArray)).size + a0.size ≤ 9223372036854775807
          · rw [if_pos c8] at H
            have c8b0 := eq_true c8
            have c8b1 : decide ((((((⟨#[102, 114, 111, 109, 58, 32]⟩ : ByteArray) ++ a1) ++ (⟨#[10, 116, 111, 58, 32]⟩ : ByteArray)) ++ a2) ++ (⟨#[10]⟩ : ByteArray)).size + a0.size ≤ 9223372036854775807) = true := decide_eq_true c8
            try have c8b2 : (9223372036854775807 < (((((⟨#[102, 114, 111, 109, 58, 32]⟩ : ByteArray) ++ a1) ++ (⟨#[10, 116, 111, 58, 32]⟩ : ByteArray)) ++ a2) ++ (⟨#[10]⟩ : ByteArray)).size + a0.size) = False := eq_false (Nat.not_lt.2 c8)
            have c8n := c8
            (try simp only [ByteArray.size_append, show (⟨#[10]⟩ : ByteArray).size = 1 from rfl, show (⟨#[10, 116, 111, 58, 32]⟩ : ByteArray).size = 5 from rfl, show (⟨#[102, 114, 111, 109, 58, 32]⟩ : ByteArray).size = 6 from rfl] at c8n)
            have c8nb0 := eq_true c8n
            have c8nb1 := decide_eq_true c8n
            have c8nb2 := eq_false (Nat.not_lt.2 c8n)
            obtain rfl := Option.some.inj H
            go_enter Try.func12, Try.ntmps12
            go_wp2
            go_ret
            exact ⟨by first | rfl | (simp; done) | (simp [*]; done), by repeat (first | exact Drawn0.refl _ | apply Drawn0.step)⟩
          · rw [if_neg c8] at H
            exact absurd H (by simp)
        · rw [if_neg c7] at H
          exact absurd H (by simp)
      · rw [if_neg c6] at H
        exact absurd H (by simp)
    · rw [if_neg c5] at H
      exact absurd H (by simp)
  · rw [if_neg c4] at H
    exact absurd H (by simp)

/-! ### laws_FnExactTraced: function 4 -/
def laws_FnExactTraced.f (a0 : ByteArray) (a1 : ByteArray) (a2 : ByteArray) : Option (Bool) := if (a0.size : Int) > 1048576 then (some true) else (if (a1.size : Int) > 1048576 then (some true) else (if (a2.size : Int) > 1048576 then (some true) else ((spec_Traced.f a0 a1 a2).bind fun t101 => ((impl_Traced.f a0 a1 a2).bind fun t102 => (if t102.toList = t101.toList then (some true) else (some false))))))
set_option maxHeartbeats 8000000 in
set_option maxRecDepth 100000 in
theorem laws_FnExactTraced.calls (a0 : ByteArray) (a1 : ByteArray) (a2 : ByteArray) (r : Bool) (w : World) (h : laws_FnExactTraced.f a0 a1 a2 = some r) :
    Calls Try.prog 4 #[.string a0, .string a1, .string a2] w fun e w' => e = .returned (.bool r) ∧ Drawn0 w w' := by
  have H : (if (a0.size : Int) > 1048576 then (some true) else (if (a1.size : Int) > 1048576 then (some true) else (if (a2.size : Int) > 1048576 then (some true) else ((spec_Traced.f a0 a1 a2).bind fun t101 => ((impl_Traced.f a0 a1 a2).bind fun t102 => (if t102.toList = t101.toList then (some true) else (some false))))))) = some r := h
  clear h
  by_cases c4 : (a0.size : Int) > 1048576
  · rw [if_pos c4] at H
    have c4b0 : decide (1048576 < (a0.size : Int)) = true := decide_eq_true c4
    have c4b1 : decide (1048576 < a0.size) = true := decide_eq_true (by omega)
    clear c4
    obtain rfl := Option.some.inj H
    go_enter Try.func4, Try.ntmps4
    go_wp2
    go_ret
    exact ⟨by first | rfl | (simp; done) | (simp [*]; done), by repeat (first | exact Drawn0.refl _ | apply Drawn0.step)⟩
  · rw [if_neg c4] at H
    have c4b0 : decide (1048576 < (a0.size : Int)) = false := decide_eq_false c4
    have c4b1 : decide (1048576 < a0.size) = false := decide_eq_false (by omega)
    clear c4
    by_cases c5 : (a1.size : Int) > 1048576
    · rw [if_pos c5] at H
      have c5b0 : decide (1048576 < (a1.size : Int)) = true := decide_eq_true c5
      have c5b1 : decide (1048576 < a1.size) = true := decide_eq_true (by omega)
      clear c5
      obtain rfl := Option.some.inj H
      go_enter Try.func4, Try.ntmps4
      go_wp2
      go_ret
      exact ⟨by first | rfl | (simp; done) | (simp [*]; done), by repeat (first | exact Drawn0.refl _ | apply Drawn0.step)⟩
    · rw [if_neg c5] at H
      have c5b0 : decide (1048576 < (a1.size : Int)) = false := decide_eq_false c5
      have c5b1 : decide (1048576 < a1.size) = false := decide_eq_false (by omega)
      clear c5
      by_cases c6 : (a2.size : Int) > 1048576
      · rw [if_pos c6] at H
        have c6b0 : decide (1048576 < (a2.size : Int)) = true := decide_eq_true c6
        have c6b1 : decide (1048576 < a2.size) = true := decide_eq_true (by omega)
        clear c6
        obtain rfl := Option.some.inj H
        go_enter Try.func4, Try.ntmps4
        go_wp2
        go_ret
        exact ⟨by first | rfl | (simp; done) | (simp [*]; done), by repeat (first | exact Drawn0.refl _ | apply Drawn0.step)⟩
      · rw [if_neg c6] at H
        have c6b0 : decide (1048576 < (a2.size : Int)) = false := decide_eq_false c6
        have c6b1 : decide (1048576 < a2.size) = false := decide_eq_false (by omega)
        clear c6
        replace H := Option.bind_eq_some_iff.mp H
        obtain ⟨t101, A70, H⟩ := H
        replace H : ((impl_Traced.f a0 a1 a2).bind fun t102 => (if t102.toList = t101.toList then (some true) else (some false))) = some r := H
        have A7 := Aside0.mk A70
        clear A70
        replace H := Option.bind_eq_some_iff.mp H
        obtain ⟨t102, A80, H⟩ := H
        replace H : (if t102.toList = t101.toList then (some true) else (some false)) = some r := H
        have A8 := Aside0.mk A80
        clear A80
        by_cases c9 : t102.toList = t101.toList
        · rw [if_pos c9] at H
          have c9b0 : (t102.toList == t101.toList) = true := beq_iff_eq.mpr c9
          have c9b1 : (t102.toList != t101.toList) = false := bne_eq_false_iff_eq.mpr c9
          clear c9
          obtain rfl := Option.some.inj H
          go_enter Try.func4, Try.ntmps4
          go_wp2_with (first | ((with_reducible refine gate_callee (f := 11) rfl ?_); refine goesL_ (some 21) rfl rfl Try.func11 (by kernel_rfl) rfl #[.string a0, .string a1, .string a2] rfl (by (try simp only [List.map_toArray, List.map_cons, List.map_nil]); first | done | rfl | (simp only [List.length_drop, List.length_take]; rfl)) ?_; (with_reducible refine (spec_Traced.calls a0 a1 a2 t101 _ A7.out).mono ?_); rintro e w' ⟨rfl, ⟨nd, rfl⟩⟩; refine ⟨_, rfl, ?_⟩) | ((with_reducible refine gate_callee (f := 12) rfl ?_); refine goesL_ (some 25) rfl rfl Try.func12 (by kernel_rfl) rfl #[.string a0, .string a1, .string a2] rfl (by (try simp only [List.map_toArray, List.map_cons, List.map_nil]); first | done | rfl | (simp only [List.length_drop, List.length_take]; rfl)) ?_; (with_reducible refine (impl_Traced.calls a0 a1 a2 t102 _ A8.out).mono ?_); rintro e w' ⟨rfl, ⟨nd, rfl⟩⟩; refine ⟨_, rfl, ?_⟩))
          go_ret
          exact ⟨by first | rfl | (simp; done) | (simp [*]; done), by repeat (first | exact Drawn0.refl _ | apply Drawn0.step)⟩
        · rw [if_neg c9] at H
          have c9b0 : (t102.toList == t101.toList) = false := beq_eq_false_iff_ne.mpr c9
          have c9b1 : (t102.toList != t101.toList) = true := bne_iff_ne.mpr c9
          obtain rfl := Option.some.inj H
          go_enter Try.func4, Try.ntmps4
          go_wp2_with (first | ((with_reducible refine gate_callee (f := 11) rfl ?_); refine goesL_ (some 21) rfl rfl Try.func11 (by kernel_rfl) rfl #[.string a0, .string a1, .string a2] rfl (by (try simp only [List.map_toArray, List.map_cons, List.map_nil]); first | done | rfl | (simp only [List.length_drop, List.length_take]; rfl)) ?_; (with_reducible refine (spec_Traced.calls a0 a1 a2 t101 _ A7.out).mono ?_); rintro e w' ⟨rfl, ⟨nd, rfl⟩⟩; refine ⟨_, rfl, ?_⟩) | ((with_reducible refine gate_callee (f := 12) rfl ?_); refine goesL_ (some 25) rfl rfl Try.func12 (by kernel_rfl) rfl #[.string a0, .string a1, .string a2] rfl (by (try simp only [List.map_toArray, List.map_cons, List.map_nil]); first | done | rfl | (simp only [List.length_drop, List.length_take]; rfl)) ?_; (with_reducible refine (impl_Traced.calls a0 a1 a2 t102 _ A8.out).mono ?_); rintro e w' ⟨rfl, ⟨nd, rfl⟩⟩; refine ⟨_, rfl, ?_⟩))
          go_ret
          exact ⟨by first | rfl | (simp; done) | (simp [*]; done), by repeat (first | exact Drawn0.refl _ | apply Drawn0.step)⟩

end Go.Proofs.Ytdclbjfpkhljeaa.QFnExactTraced
