-- Written by a program of this session (myprint) out of Lean's own print of the translation. Lean checks it.
import Derived.Test.YtdokcckgnamnfaaDoorShorter
import Derived.Test.YtdokcckgnamnfaaDoorHold
import Derived.Test.YtdokcckgnamnfaaDoorQFnExactStepBringx0
import Derived.Test.YtdokcckgnamnfaaDoorQFnExactStepBringx2
namespace Go.Proofs.YtdokcckgnamnfaaDoor.QFnExactStepBring
open Go.Proofs.YtdokcckgnamnfaaDoorF
open Go.RowKit Go.Proofs.YtdokcckgnamnfaaDoorW.PrintWords Go.Proofs.YtdokcckgnamnfaaDoorW.PrintLast Go.Proofs.YtdokcckgnamnfaaDoorW.PrintMore
attribute [local go_sem] max2_int min2_int max_two min_two max_three min_three max_four min_four   -- for this text's walks alone
set_option maxHeartbeats 8000000
set_option maxRecDepth 100000
set_option linter.unusedVariables false
set_option linter.unusedSimpArgs false

/-! ### spec_LowWord: function 23 -/
def spec_LowWord.f (a0 : ByteArray) : Option ByteArray := if a0.size ≤ 1048576 then some (Go.Proofs.YtdokcckgnamnfaaDoorL.lowered a0) else none
set_option maxRecDepth 100000 in
theorem spec_LowWord.calls (a0 : ByteArray) (r : ByteArray) (w : World) (h : spec_LowWord.f a0 = some r) :
  Calls Tryd.prog 23 #[.string a0] w fun e w' => e = .returned (.string r) ∧ Below w.heap.size w w' := by
 unfold spec_LowWord.f at h
 split at h
 case isFalse => exact absurd h (by simp)
 rename_i hs
 obtain rfl := Option.some.inj h
 clear h
 obtain ⟨cap, W0, hconv, hI0⟩ := Go.Proofs.YtdokcckgnamnfaaDoorL.low_start (P := Tryd.prog) w 9 80 5 a0 Tryd.underlying9 Tryd.underlying80 Tryd.underlying5
 have HI0 := Aside0.mk hI0
 clear hI0
 go_enter Tryd.func23, Tryd.ntmps23
 go_wp2
 clear hconv
 go_loopg [4] a0.size (fun gg i wr => ∃ k : Nat, k ≤ a0.size ∧ a0.size - k ≤ gg ∧ i = .int .i64 k ∧ Aside0 (Go.Proofs.YtdokcckgnamnfaaDoorL.LowInv a0 w wr k))
 case atStart => exact ⟨0, Nat.zero_le _, by omega, rfl, HI0⟩
 case round =>
  obtain ⟨k, hk, hg, rfl, HI⟩ := hrel
  by_cases hlt : k < a0.size
  ·have hd : k < a0.data.size := hlt
   have hx := HI.out.2.1 k hd
   rw [if_neg (by omega)] at hx
   have hz := HI.out.2.2 k hd
   have hltz : (k : Int) < (a0.size : Int) := by omega
   have hc : a0.data[k].toNat < 256 := a0.data[k].toNat_lt
   have P1 := Aside0.mk (HI.out.put hd)
   have P2 := Aside0.mk (HI.out.keep hd)
   have L1 := Aside0.mk (@Go.Proofs.YtdokcckgnamnfaaDoorL.low_n a0.data[k])
   have L2 := Aside0.mk (show ¬ (65 ≤ a0.data[k].toNat ∧ a0.data[k].toNat ≤ 90) → Go.Proofs.YtdokcckgnamnfaaDoorL.lowB a0.data[k] = a0.data[k] from fun q => by unfold Go.Proofs.YtdokcckgnamnfaaDoorL.lowB; rw [if_neg q])
   generalize hcc : a0.data[k] = c at hx hc P1 P2 L1 L2
   clear hcc
   have h0 : (0 : Int) ≤ (c.toNat : Int) := by omega
   by_cases q1 : 65 ≤ c.toNat
   ·have q1z : (65 : Int) ≤ (c.toNat : Int) := by omega
    by_cases q2 : c.toNat ≤ 90
    ·have q2z : (c.toNat : Int) ≤ 90 := by omega
     go_wp2
     go_roundg (a0.size - (k + 1))
     case measure => omega
     case rel => exact ⟨k + 1, by omega, by omega, by go_num, ⟨P1.out _ (by have e_ := L1.out ⟨q1, q2⟩; exact congrArg (Value.int IntKind.u8) (by omega))⟩⟩
    ·have q2z : ¬ (c.toNat : Int) ≤ 90 := by omega
     go_wp2
     go_roundg (a0.size - (k + 1))
     case measure => omega
     case rel => exact ⟨k + 1, by omega, by omega, by go_num, ⟨P2.out (L2.out (fun q => q2 q.2))⟩⟩
   ·have q1z : ¬ (65 : Int) ≤ (c.toNat : Int) := by omega
    go_wp2
    go_roundg (a0.size - (k + 1))
    case measure => omega
    case rel => exact ⟨k + 1, by omega, by omega, by go_num, ⟨P2.out (L2.out (fun q => q1 q.1))⟩⟩
  ·have : k = a0.size := by omega
   subst this
   have hb := HI.out.back (P := Tryd.prog) 80 9 5 cap Tryd.underlying80 Tryd.underlying5 Tryd.underlying9
   go_wp2
   go_ret
   exact ⟨rfl, HI.out.1⟩


/-! ### spec_l19Size: function 24 -/
def spec_l19Size.j0 : Nat → ByteArray → Bool → Option (Int)
 | 0, _, _ => none
 | k + 1, x3, x4 => if x4 = true then (some 2) else (if x3.toList = ([100, 97, 116, 97] : List UInt8) then (some 1) else (if x3.toList = ([114, 115, 101, 116] : List UInt8) then (some 1) else (if x3.toList = ([110, 111, 111, 112] : List UInt8) then (some 1) else (if x3.toList = ([113, 117, 105, 116] : List UInt8) then (some 1) else (some 0)))))
def spec_l19Size.f (k : Nat) (a0 : ByteArray) : Option (Int) := if a0.toList = ([104, 101, 108, 111] : List UInt8) then (spec_l19Size.j0 k a0 (a0.toList == ([104, 101, 108, 111] : List UInt8))) else (if a0.toList = ([109, 97, 105, 108] : List UInt8) then (spec_l19Size.j0 k a0 (a0.toList == ([109, 97, 105, 108] : List UInt8))) else (spec_l19Size.j0 k a0 (a0.toList == ([114, 99, 112, 116] : List UInt8))))
theorem spec_l19Size.mono_l : ∀ k, (∀ y0 y1, LeO (spec_l19Size.j0 k y0 y1) (spec_l19Size.j0 (k + 1) y0 y1))
 | 0 => fun _ _ r h => by simp [spec_l19Size.j0] at h
 | k + 1 => by
  have ih0 := spec_l19Size.mono_l k
  ·intro y0 y1
   unfold spec_l19Size.j0
   repeat' first
   | (with_reducible exact ih0 _ _)
   | (with_reducible first | exact LeO.refl _ | exact LeO.none _ | refine LeO.ite ?_ ?_ | refine LeO.bind ?_ (fun _ => ?_))
   | refine LeO.ite ?_ ?_
   | refine LeO.bind ?_ (fun _ => ?_)
theorem spec_l19Size.mono : ∀ a0 k, LeO (spec_l19Size.f k a0) (spec_l19Size.f (k + 1) a0) := by
 intro a0 k
 have ih0 := spec_l19Size.mono_l k
 unfold spec_l19Size.f
 repeat' first
   | (with_reducible exact ih0 _ _)
   | (with_reducible first | exact LeO.refl _ | exact LeO.none _ | refine LeO.ite ?_ ?_ | refine LeO.bind ?_ (fun _ => ?_))
   | refine LeO.ite ?_ ?_
   | refine LeO.bind ?_ (fun _ => ?_)
theorem spec_l19Size.calls (k : Nat) (a0 : ByteArray) (r : Int) (w : World) (h : spec_l19Size.f k a0 = some r) :
  Calls Tryd.prog 24 #[.string a0] w fun e w' => e = .returned (.int .i64 r) ∧ Drawn0 w w' := by
 have H := h; unfold spec_l19Size.f at H
 clear h
 have HC2 := Aside0.mk H
 clear H
 go_enter Tryd.func24, Tryd.ntmps24
 go_upto_if 4 with (fail)
 go_cut [4] (fun v4 wc => ∃ (kq : Nat) (x4_1 : Bool), v4 = .bool x4_1 ∧ Aside0 (spec_l19Size.j0 kq a0 x4_1 = some r) ∧ Aside0 (kq ≤ k) ∧ Drawn0 w wc)
 case first =>
  have H := HC2.out
  clear HC2
  by_cases c3 : a0.toList = ([104, 101, 108, 111] : List UInt8)
  ·rw [if_pos c3] at H
   have c3b0 := beq_iff_eq.mpr c3
   have c3b1 := bne_eq_false_iff_eq.mpr c3
   clear c3
   (first | rw [c3b0] | (simp only [i64_w, i32_w]; rw [c3b0]) | skip)
   have H' := Aside0.mk H
   clear H
   go_wp2
   go_meet
   case rel => exact ⟨_, ((a0.toList == ([104, 101, 108, 111] : List UInt8))), rf_, H', ⟨by first | omega | exact Nat.le_refl _⟩, dn_⟩
  ·rw [if_neg c3] at H
   have c3b0 := beq_eq_false_iff_ne.mpr c3
   have c3b1 := bne_iff_ne.mpr c3
   (first | rw [c3b0] | (simp only [i64_w, i32_w]; rw [c3b0]) | skip)
   by_cases c4 : a0.toList = ([109, 97, 105, 108] : List UInt8)
   ·rw [if_pos c4] at H
    have c4b0 := beq_iff_eq.mpr c4
    have c4b1 := bne_eq_false_iff_eq.mpr c4
    clear c4
    have H' := Aside0.mk H
    clear H
    go_wp2
    go_meet
    case rel => exact ⟨_, ((a0.toList == ([109, 97, 105, 108] : List UInt8))), rf_, H', ⟨by first | omega | exact Nat.le_refl _⟩, dn_⟩
   ·rw [if_neg c4] at H
    have c4b0 := beq_eq_false_iff_ne.mpr c4
    have c4b1 := bne_iff_ne.mpr c4
    have H' := Aside0.mk H
    clear H
    go_wp2
    go_meet
    case rel => exact ⟨_, ((a0.toList == ([114, 99, 112, 116] : List UInt8))), rf_, H', ⟨by first | omega | exact Nat.le_refl _⟩, dn_⟩
 case rest =>
  clear HC2
  try clear c2
  try clear p2
  try clear c3
  try clear c3b0
  try clear c3b1
  try clear c4
  try clear c4b0
  try clear c4b1
  obtain ⟨kq, x4_1, rfl, HA, HJ1, ⟨mc1, rfl⟩⟩ := hcut
  cases kq with
  | zero => exact absurd HA.out (by simp [spec_l19Size.j0])
  | succ kj1 =>
   have H := HA.out
   clear HA
   simp only [spec_l19Size.j0] at H
   by_cases c5 : x4_1 = true
   ·subst c5
    (try rw [if_pos rfl] at H)
    obtain rfl := Option.some.inj H
    go_wp2
    go_ret
    exact ⟨rf_, dn_⟩
   ·replace c5 := Bool.eq_false_iff.mpr c5
    subst c5
    (try rw [if_neg (show ¬ (false = true) by decide)] at H)
    by_cases c6 : a0.toList = ([100, 97, 116, 97] : List UInt8)
    ·rw [if_pos c6] at H
     have c6b0 := beq_iff_eq.mpr c6
     have c6b1 := bne_eq_false_iff_eq.mpr c6
     clear c6
     obtain rfl := Option.some.inj H
     go_wp2
     go_ret
     exact ⟨rf_, dn_⟩
    ·rw [if_neg c6] at H
     have c6b0 := beq_eq_false_iff_ne.mpr c6
     have c6b1 := bne_iff_ne.mpr c6
     by_cases c7 : a0.toList = ([114, 115, 101, 116] : List UInt8)
     ·rw [if_pos c7] at H
      have c7b0 := beq_iff_eq.mpr c7
      have c7b1 := bne_eq_false_iff_eq.mpr c7
      clear c7
      obtain rfl := Option.some.inj H
      go_wp2
      go_ret
      exact ⟨rf_, dn_⟩
     ·rw [if_neg c7] at H
      have c7b0 := beq_eq_false_iff_ne.mpr c7
      have c7b1 := bne_iff_ne.mpr c7
      by_cases c8 : a0.toList = ([110, 111, 111, 112] : List UInt8)
      ·rw [if_pos c8] at H
       have c8b0 := beq_iff_eq.mpr c8
       have c8b1 := bne_eq_false_iff_eq.mpr c8
       clear c8
       obtain rfl := Option.some.inj H
       go_wp2
       go_ret
       exact ⟨rf_, dn_⟩
      ·rw [if_neg c8] at H
       have c8b0 := beq_eq_false_iff_ne.mpr c8
       have c8b1 := bne_iff_ne.mpr c8
       by_cases c9 : a0.toList = ([113, 117, 105, 116] : List UInt8)
       ·rw [if_pos c9] at H
        have c9b0 := beq_iff_eq.mpr c9
        have c9b1 := bne_eq_false_iff_eq.mpr c9
        clear c9
        obtain rfl := Option.some.inj H
        go_wp2
        go_ret
        exact ⟨rf_, dn_⟩
       ·rw [if_neg c9] at H
        have c9b0 := beq_eq_false_iff_ne.mpr c9
        have c9b1 := bne_iff_ne.mpr c9
        obtain rfl := Option.some.inj H
        go_wp2
        go_ret
        exact ⟨rf_, dn_⟩

/-! ### spec_l01In: function 51 -/
def spec_l01In.f (a0 : Int) (a1 : Int) (a2 : Int) : Option (Bool) := if a0 ≥ a1 then (some (decide (a0 ≤ a2))) else (some false)
theorem spec_l01In.calls (a0 : Int) (a1 : Int) (a2 : Int) (r : Bool) (w : World) (h : spec_l01In.f a0 a1 a2 = some r) :
  Calls Tryd.prog 51 #[.int .i64 a0, .int .i64 a1, .int .i64 a2] w fun e w' => e = .returned (.bool r) ∧ Drawn0 w w' := by
 have H := h; unfold spec_l01In.f at H
 clear h
 by_cases c4 : a0 ≥ a1
 ·rw [if_pos c4] at H
  have c4b0 : decide (a1 ≤ a0) = true := decide_eq_true c4
  clear c4
  obtain rfl := Option.some.inj H
  go_enter Tryd.func51, Tryd.ntmps51
  go_wp2
  go_ret
  exact ⟨rf_, dn_⟩
 ·rw [if_neg c4] at H
  have c4b0 : decide (a1 ≤ a0) = false := decide_eq_false c4
  clear c4
  obtain rfl := Option.some.inj H
  go_enter Tryd.func51, Tryd.ntmps51
  go_wp2
  go_ret
  exact ⟨rf_, dn_⟩

/-! ### spec_WordOk: function 25 -/
def spec_WordOk.l0 : Nat → ByteArray → Int → Option (Bool)
 | 0, _, _ => none
 | k + 1, x0, x3 => if x3 < (x0.size : Int) then (if 0 ≤ x3 then (if (bt x0 x3) < 97 then (some false) else (if (bt x0 x3) > 122 then (some false) else (spec_WordOk.l0 k x0 (wrap64 (x3 + 1))))) else (none)) else ((spec_l01In.f (x0.size : Int) 1 8).bind fun t183 => (some t183))
def spec_WordOk.f (k : Nat) (a0 : ByteArray) : Option (Bool) := spec_WordOk.l0 k a0 0
theorem spec_WordOk.mono_l : ∀ k, (∀ y0 y1, LeO (spec_WordOk.l0 k y0 y1) (spec_WordOk.l0 (k + 1) y0 y1))
 | 0 => fun _ _ r h => by simp [spec_WordOk.l0] at h
 | k + 1 => by
  have ih0 := spec_WordOk.mono_l k
  ·intro y0 y1
   unfold spec_WordOk.l0
   repeat' first
   | (with_reducible exact ih0 _ _)
   | (with_reducible first | exact LeO.refl _ | exact LeO.none _ | refine LeO.ite ?_ ?_ | refine LeO.bind ?_ (fun _ => ?_))
   | refine LeO.ite ?_ ?_
   | refine LeO.bind ?_ (fun _ => ?_)
theorem spec_WordOk.mono : ∀ a0 k, LeO (spec_WordOk.f k a0) (spec_WordOk.f (k + 1) a0) := by
 intro a0 k
 have ih0 := spec_WordOk.mono_l k
 unfold spec_WordOk.f
 repeat' first
   | (with_reducible exact ih0 _ _)
   | (with_reducible first | exact LeO.refl _ | exact LeO.none _ | refine LeO.ite ?_ ?_ | refine LeO.bind ?_ (fun _ => ?_))
   | refine LeO.ite ?_ ?_
   | refine LeO.bind ?_ (fun _ => ?_)
theorem spec_WordOk.calls (k : Nat) (a0 : ByteArray) (r : Bool) (w : World) (h : spec_WordOk.f k a0 = some r) :
  Calls Tryd.prog 25 #[.string a0] w fun e w' => e = .returned (.bool r) ∧ Drawn0 w w' := by
 have H := h; unfold spec_WordOk.f at H
 clear h
 have H' := Aside0.mk H
 clear H
 go_enter Tryd.func25, Tryd.ntmps25
 go_wp2
 go_loopg [3] k (fun kq v3 w' => ∃ (x3_1 : Int), v3 = .int .i64 x3_1 ∧ Aside0 (spec_WordOk.l0 kq a0 x3_1 = some r) ∧ Aside0 (kq ≤ k) ∧ Drawn0 w w')
 case atStart => exact ⟨(0), rf_, H', ⟨Nat.le_refl _⟩, dn_⟩
 case round =>
  clear H'
  obtain ⟨x3_1, rfl, HA, HK1, ⟨m1, rfl⟩⟩ := hrel
  cases gk with
  | zero => exact absurd HA.out (by simp [spec_WordOk.l0])
  | succ k1 =>
   have H := HA.out
   clear HA
   simp only [spec_WordOk.l0] at H
   by_cases c2 : x3_1 < (a0.size : Int)
   ·rw [if_pos c2] at H
    have c2b0 := decide_eq_true c2
    clear c2
    by_cases c3 : 0 ≤ x3_1
    ·rw [if_pos c3] at H
     have c3b0 := decide_eq_true c3
     clear c3
     have p4 : 0 ≤ (x3_1 : Int) := od_
     have q4 : x3_1 < (a0.size : Int) := od_
     have hx4 := bt_at a0 x3_1
     replace p4 := eq_true p4
     replace q4 := eq_true q4
     by_cases c5 : (bt a0 x3_1) < 97
     ·rw [if_pos c5] at H
      have c5b0 := decide_eq_true c5
      clear c5
      obtain rfl := Option.some.inj H
      try simp only [c5b0, Bool.not_true, Bool.not_false]
      go_wp2
      go_ret
      exact ⟨rf_, dn_⟩
     ·rw [if_neg c5] at H
      have c5b0 := decide_eq_false c5
      clear c5
      try simp only [c5b0, Bool.not_true, Bool.not_false]
      have p6 : 0 ≤ (x3_1 : Int) := od_
      have q6 : x3_1 < (a0.size : Int) := od_
      have hx6 := bt_at a0 x3_1
      replace p6 := eq_true p6
      replace q6 := eq_true q6
      by_cases c7 : (bt a0 x3_1) > 122
      ·rw [if_pos c7] at H
       have c7b0 : decide (122 < (bt a0 x3_1)) = true := decide_eq_true c7
       clear c7
       obtain rfl := Option.some.inj H
       try simp only [c7b0, Bool.not_true, Bool.not_false]
       go_wp2
       go_ret
       exact ⟨rf_, dn_⟩
      ·rw [if_neg c7] at H
       have c7b0 : decide (122 < (bt a0 x3_1)) = false := decide_eq_false c7
       clear c7
       have H' := Aside0.mk H
       clear H
       try simp only [c7b0, Bool.not_true, Bool.not_false]
       go_wp2
       go_roundg k1
       case measure => have := HK1.out; omega
       case rel => exact ⟨(wrap64 (x3_1 + 1)), rf_, H', ⟨by have := HK1.out; omega⟩, dn_⟩
    ·rw [if_neg c3] at H
     exact absurd H (by simp)
   ·rw [if_neg c2] at H
    have c2b0 := decide_eq_false c2
    clear c2
    obtain ⟨t183, A8, H⟩ := bs_ H
    obtain rfl := Option.some.inj H
    go_wp2_with (first | ((with_reducible refine gc_ 51 ?_); refine gl_ (some 22) Tryd.func51 #[.int .i64 (a0.size : Int), .int .i64 1, .int .i64 8] ?_; (with_reducible refine (spec_l01In.calls (a0.size : Int) 1 8 t183 _ A8.out).mono ?_); rintro e w' ⟨rfl, ⟨nd, rfl⟩⟩; refine ⟨_, rfl, ?_⟩))
    go_ret
    exact ⟨rf_, dn_⟩

/-! ### spec_l07Box: function 66 -/
def spec_l07Box.f (a0_0 : Int) (a0_1 : ByteArray) (a0_2 : ByteArray) (a0_3 : Int) (l0_4 : List (S101)) : Option (Int × ByteArray × ByteArray × Int × (List (S101))) := (some (([] : List (S101)) : List (S101))).bind fun y186 => (if y186.length + l0_4.length < 4398046511104 then (some (a0_0, a0_1, a0_2, a0_3, (y186 ++ l0_4))) else (none))
theorem spec_l07Box.calls (a0_0 : Int) (a0_1 : ByteArray) (a0_2 : ByteArray) (a0_3 : Int) (A0_4 : Option Addr) (c0_4 : Nat) (l0_4 : List (S101)) (r1 : Int) (r2 : ByteArray) (r3 : ByteArray) (r4 : Int) (r5 : List (S101)) (w : World) (hr0_4 : Kd.C k101 w A0_4 l0_4.length l0_4) (hc0_4 : l0_4.length ≤ c0_4) (h : spec_l07Box.f a0_0 a0_1 a0_2 a0_3 l0_4 = some (r1, r2, r3, r4, r5)) :
  Calls Tryd.prog 66 #[.agg #[.int .i64 a0_0, .string a0_1, .string a0_2, .int .i64 a0_3, .slice A0_4 l0_4.length c0_4]] w fun e w' => ∃ v4_ : Value, e = .returned (.agg #[.int .i64 r1, .string r2, .string r3, .int .i64 r4, v4_]) ∧ Kd.R k101 101 w' w.heap.size (fun _ => True) v4_ r5 ∧ Below w.heap.size w w' := by
 have hu84 := Tryd.underlying84
 have HR0_4 := Aside0.mk hr0_4
 have HC0_4 := Aside0.mk hc0_4
 clear hr0_4 hc0_4
 have HB := Aside0.mk (Below.refl w.heap.size w)
 have H := h; unfold spec_l07Box.f at H
 clear h
 obtain ⟨y186, hy186⟩ : ∃ y_ : List (S101), y_ = (([] : List (S101))) := ⟨_, rfl⟩
 replace H : (if y186.length + l0_4.length < 4398046511104 then (some (a0_0, a0_1, a0_2, a0_3, (y186 ++ l0_4))) else (none)) = some (r1, r2, r3, r4, r5) := by subst hy186; first | with_reducible exact H | with_reducible exact (Option.bind_some _ _).symm.trans H | exact H
 have Ny186 := Aside0.mk hy186
 clear hy186
 by_cases c2 : y186.length + l0_4.length < 4398046511104
 ·rw [if_pos c2] at H
  have LMc2 := Aside0.mk c2
  clear c2
  obtain ⟨y189, hy189⟩ : ∃ y_ : List (S101), y_ = (y186 ++ l0_4) := ⟨_, rfl⟩
  replace H : (some (a0_0, a0_1, a0_2, a0_3, y189)) = some (r1, r2, r3, r4, r5) := by subst hy189; first | with_reducible exact H | with_reducible exact (Option.bind_some _ _).symm.trans H | exact H
  have Ny189 := Aside0.mk hy189
  clear hy189
  simp only [Option.some.injEq, Prod.mk.injEq] at H
  obtain ⟨rfl, rfl, rfl, rfl, rfl⟩ := H
  go_enter Tryd.func66, Tryd.ntmps66
  go_wp2_with (first | (refine lr_ 84 1 BK184 hu84 ?_) | ((with_reducible refine gd_ 1 ?_); refine bx_ 1 84 #[.int .i64 a0_0, .string a0_1, .string a0_2, .int .i64 a0_3, .slice A0_4 l0_4.length c0_4] ?_; intro gb184 hg w3 hbox hb; have BK184 := Aside0.mk (hbox); have GE184 := ge_ hg HB; replace HB := hb_ HB hb; clear hb hbox hg) | ((with_reducible refine gd_ 2 ?_); refine bx_ 2 84 #[.int .i64 0, .string (⟨#[]⟩ : ByteArray), .string (⟨#[]⟩ : ByteArray), .int .i64 0, .slice none 0 0] ?_; intro gb185 hg w4 hbox hb; have BK185 := Aside0.mk (hbox); have GE185 := ge_ hg HB; replace HB := hb_ HB hb; have NB184_185 := nl_ hg BK184; have NB185_184 := ng_ hg BK184; replace BK184 := bb_ BK184 hb; clear hb hbox hg) | ((with_reducible refine gd_ 3 ?_); refine Kd.R_lit k101 _ 101 ?hg (N := 3) ?hd (xs := ([] : List (S101))) (inner := []) (ok := fun _ => True) (okp := fun _ => True) ?hr ?hp (fun _ hk => hk) trivial (Below.refl _ _) (Nat.le_refl _) (by simp) ?_; (case hd => rfl); (case hg => rfl); (case hr => first | (go_simp; done) | (go_simp; rfl)); (case hp => exact (Reps.none _ _)); intro v187 w5 ho6 hb hg_ hnew_; clear hg_ hnew_; (first | rw [← Ny186.out] at ho6 | (simp only [Int.reduceToNat] at ho6; rw [← Ny186.out] at ho6)); have HO188 := Aside0.mk (Kd.R_lower ho6 (below_size HB.out)); replace BK184 := bb_ BK184 hb; replace BK185 := bb_ BK185 hb; replace HB := hb_ HB hb; clear hb ho6; have hnb7 := NB184_185.out; have hnc7 := NB185_184.out; have hcz8 := blk_cell BK184.out; have hfz8 := blk_frozen BK184.out) | ((with_reducible refine gate_builtin (b := .append) (xs := #[.tmp 3, .tmp 5]) rfl ?_); at_builtin; refine Kd.R_append_rows k101 (w0 := w) w.heap.size rfl (.tmp 3) (.tmp 5) 82 101 (.agg #[(.int .i64 0), (.int .i64 0), (.string ⟨#[]⟩)]) 32 rfl Tryd.underlying82 info101 rfl (by decide) (by omega) v187 y186 l0_4 _ _ _ (fun _ => True) (fun _ => False) rfl rfl ?aO ?aR (fun _ _ h => h) (fun _ h => h.elim) ?aF ?aB ?aS ?aL ?_; (case aR => exact (Kd.C_below HR0_4.out HB.out)); (case aB => exact HB.out); (case aF => exact (fun _ _ => trivial)); (case aO => exact HO188.out); (case aS => exact (below_size HB.out)); (case aL => have := LMc2.out; omega); intro v190 w9 ho hb hg hat; rw [← Ny189.out] at ho; replace BK184 := bg_ BK184 hg HO188; replace BK185 := bg_ BK185 hg HO188; replace HB := Aside0.mk (hb); have HO191 := Aside0.mk (ho); clear HO188; clear ho hb hg hat; obtain ⟨Ao10, co10, rfl⟩ := Kd.R_slice HO191.out) | ((with_reducible refine gs_ 82 7 ?_); refine sp_ 82 7 gb184 4 (.slice Ao10 y189.length co10) #[.int .i64 a0_0, .string a0_1, .string a0_2, .int .i64 a0_3, .slice Ao10 y189.length co10] BK184 ?_; intro w11 hbox hbut; replace HO191 := rs_ hbut HO191 BK184; replace BK184 := Aside0.mk (hbox); replace BK185 := bo_ hbut NB185_184 BK185; replace HB := hs_ HB hbut GE184; clear hbox hbut; have hcz12 := blk_cell BK184.out; have hfz12 := blk_frozen BK184.out) | ((with_reducible refine gs_ 84 2 ?_); refine sp_ 84 2 gb185 0 (.agg #[.int .i64 a0_0, .string a0_1, .string a0_2, .int .i64 a0_3, .slice Ao10 y189.length co10]) #[.int .i64 a0_0, .string a0_1, .string a0_2, .int .i64 a0_3, .slice Ao10 y189.length co10] BK185 ?_; intro w13 hbox hbut; replace HO191 := rs_ hbut HO191 BK185; replace BK184 := bo_ hbut NB184_185 BK184; replace BK185 := Aside0.mk (hbox); replace HB := hs_ HB hbut GE185; clear hbox hbut))
  refine bodyPost_ret (results_cell_row rfl _ _ gb185 84 #[.int .i64 a0_0, .string a0_1, .string a0_2, .int .i64 a0_3, .slice Ao10 y189.length co10] (0, 0) _ rfl (kl_ BK185) Tryd.underlying84 rfl (by kernel_rfl)) rfl ?_
  exact ⟨_, re_, rl_ HO191, bl_⟩
 ·rw [if_neg c2] at H
  exact absurd H (by simp)

/-! ### spec_BoxOf: function 52 -/
def spec_BoxOf.l0 : Nat → ByteArray → ByteArray → Int → List (S84) → Option (Int × ByteArray × ByteArray × Int × (List (S101)) × Bool)
 | 0, _, _, _, _ => none
 | k + 1, x1, x2, x8, x193000 => if x8 < (x193000.length : Int) then (if 0 ≤ x8 then (if ((rd_T84 x193000 x8).f1).toList = x1.toList then (if ((rd_T84 x193000 x8).f2).toList = x2.toList then ((spec_l07Box.f ((rd_T84 x193000 x8).f0) ((rd_T84 x193000 x8).f1) ((rd_T84 x193000 x8).f2) ((rd_T84 x193000 x8).f3) ((rd_T84 x193000 x8).f4)).bind fun bt197 => (some (bt197.1, bt197.2.1, bt197.2.2.1, bt197.2.2.2.1, bt197.2.2.2.2, true))) else (spec_BoxOf.l0 k x1 x2 (wrap64 (x8 + 1)) x193000)) else (spec_BoxOf.l0 k x1 x2 (wrap64 (x8 + 1)) x193000)) else (none)) else (some (0, (⟨#[]⟩ : ByteArray), (⟨#[]⟩ : ByteArray), 0, ([] : List (S101)), false))
def spec_BoxOf.f (k : Nat) (l0_0 : List (S84)) (a1 : ByteArray) (a2 : ByteArray) : Option (Int × ByteArray × ByteArray × Int × (List (S101)) × Bool) := spec_BoxOf.l0 k a1 a2 0 l0_0
theorem spec_BoxOf.mono_l : ∀ k, (∀ y0 y1 y2 y3, LeO (spec_BoxOf.l0 k y0 y1 y2 y3) (spec_BoxOf.l0 (k + 1) y0 y1 y2 y3))
 | 0 => fun _ _ _ _ r h => by simp [spec_BoxOf.l0] at h
 | k + 1 => by
  have ih0 := spec_BoxOf.mono_l k
  ·intro y0 y1 y2 y3
   unfold spec_BoxOf.l0
   repeat' first
   | (with_reducible exact ih0 _ _ _ _)
   | (with_reducible first | exact LeO.refl _ | exact LeO.none _ | refine LeO.ite ?_ ?_ | refine LeO.bind ?_ (fun _ => ?_))
   | refine LeO.ite ?_ ?_
   | refine LeO.bind ?_ (fun _ => ?_)
theorem spec_BoxOf.mono : ∀ a0 a1 a2 k, LeO (spec_BoxOf.f k a0 a1 a2) (spec_BoxOf.f (k + 1) a0 a1 a2) := by
 intro a0 a1 a2 k
 have ih0 := spec_BoxOf.mono_l k
 unfold spec_BoxOf.f
 repeat' first
   | (with_reducible exact ih0 _ _ _ _)
   | (with_reducible first | exact LeO.refl _ | exact LeO.none _ | refine LeO.ite ?_ ?_ | refine LeO.bind ?_ (fun _ => ?_))
   | refine LeO.ite ?_ ?_
   | refine LeO.bind ?_ (fun _ => ?_)
theorem spec_BoxOf.calls (k : Nat) (A0_0 : Option Addr) (c0_0 : Nat) (l0_0 : List (S84)) (a1 : ByteArray) (a2 : ByteArray) (r1 : Int) (r2 : ByteArray) (r3 : ByteArray) (r4 : Int) (r5 : List (S101)) (r6 : Bool) (w : World) (hr0_0 : Kd.C k84 w A0_0 l0_0.length l0_0) (hc0_0 : l0_0.length ≤ c0_0) (h : spec_BoxOf.f k l0_0 a1 a2 = some (r1, r2, r3, r4, r5, r6)) :
  Calls Tryd.prog 52 #[.agg #[.slice A0_0 l0_0.length c0_0], .string a1, .string a2] w fun e w' => ∃ v4_ : Value, e = .returned (.tuple #[.agg #[.int .i64 r1, .string r2, .string r3, .int .i64 r4, v4_], .bool r6]) ∧ Kd.R k101 101 w' w.heap.size (fun _ => True) v4_ r5 ∧ Below w.heap.size w w' := by
 have hu37 := Tryd.underlying37
 have hu84 := Tryd.underlying84
 have HR0_0 := Aside0.mk hr0_0
 have HC0_0 := Aside0.mk hc0_0
 clear hr0_0 hc0_0
 have HB := Aside0.mk (Below.refl w.heap.size w)
 have H := h; unfold spec_BoxOf.f at H
 clear h
 have H' := Aside0.mk H
 clear H
 go_enter Tryd.func52, Tryd.ntmps52
 go_wp2_with (first | ((with_reducible refine gd_ 3 ?_); refine bx_ 3 37 #[.slice A0_0 l0_0.length c0_0] ?_; intro gb192 hg w4 hbox hb; have BK192 := Aside0.mk (hbox); have GE192 := ge_ hg HB; replace HB := hb_ HB hb; clear hb hbox hg) | ((with_reducible refine gd_ 6 ?_); refine bx_ 6 84 #[.int .i64 0, .string (⟨#[]⟩ : ByteArray), .string (⟨#[]⟩ : ByteArray), .int .i64 0, .slice none 0 0] ?_; intro gb193 hg w5 hbox hb; have BK193 := Aside0.mk (hbox); have GE193 := ge_ hg HB; replace HB := hb_ HB hb; have NB192_193 := nl_ hg BK192; have NB193_192 := ng_ hg BK192; replace BK192 := bb_ BK192 hb; clear hb hbox hg))
 go_loopg [8] k (fun kq v8 w' => ∃ (x8_1 : Int) (x194000_1 : Int) (x194001_1 : ByteArray) (x194002_1 : ByteArray) (x194003_1 : Int), v8 = .int .i64 x8_1 ∧ Aside0 (spec_BoxOf.l0 kq a1 a2 x8_1 l0_0 = some (r1, r2, r3, r4, r5, r6)) ∧ Aside0 (kq ≤ k) ∧ Aside0 (w'.heap[gb192]? = some (.cells #[(.slice A0_0 l0_0.length c0_0)] 37 (0, 0))) ∧ Aside0 (w'.heap[gb193]? = some (.cells #[.int .i64 x194000_1, .string x194001_1, .string x194002_1, .int .i64 x194003_1, (.slice none 0 0)] 84 (0, 0))) ∧ Aside0 (Below w.heap.size w w'))
 case atStart => exact ⟨(0), (0), ((⟨#[]⟩ : ByteArray)), ((⟨#[]⟩ : ByteArray)), (0), rf_, H', ⟨Nat.le_refl _⟩, ⟨kl_ BK192⟩, ⟨kl_ BK193⟩, ⟨bl_⟩⟩
 case round =>
  clear H'
  try clear p2
  try clear c5
  obtain ⟨x8_1, x194000_1, x194001_1, x194002_1, x194003_1, rfl, HA, HK1, BK192, BK193, HB⟩ := hrel
  cases gk with
  | zero => exact absurd HA.out (by simp [spec_BoxOf.l0])
  | succ k1 =>
   have H := HA.out
   clear HA
   simp only [spec_BoxOf.l0] at H
   have hnb11 := NB192_193.out
   have hnc11 := NB193_192.out
   have hcz12 := blk_cell BK192.out
   have hfz12 := blk_frozen BK192.out
   by_cases c6 : x8_1 < (l0_0.length : Int)
   ·rw [if_pos c6] at H
    have c6b0 := decide_eq_true c6
    clear c6
    by_cases c7 : 0 ≤ x8_1
    ·rw [if_pos c7] at H
     have c7b0 := decide_eq_true c7
     clear c7
     try simp only [c6b0, c7b0, Bool.not_true, Bool.not_false]
     have p194 : 0 ≤ (x8_1 : Int) := od_
     have q194 : x8_1 < (l0_0.length : Int) := od_
     obtain ⟨ad194, A194_4, c194_4, e194, hx194_0, hx194_1, hx194_2, hx194_3, hx194_4, hl194_4, hi194_4⟩ := at_T84 HR0_0.out x8_1 p194 q194
     cases e194
     replace hx194_0 := cu_ HB hx194_0
     replace hx194_1 := cu_ HB hx194_1
     replace hx194_2 := cu_ HB hx194_2
     replace hx194_3 := cu_ HB hx194_3
     replace hx194_4 := cu_ HB hx194_4
     have HR194_4 := Aside0.mk hi194_4
     have HC194_4 := Aside0.mk hl194_4
     clear hi194_4 hl194_4
     replace p194 := eq_true p194
     replace q194 := eq_true q194
     by_cases c8 : ((rd_T84 l0_0 x8_1).f1).toList = a1.toList
     ·rw [if_pos c8] at H
      have c8b0 := beq_iff_eq.mpr c8
      have c8b1 := bne_eq_false_iff_eq.mpr c8
      clear c8
      try simp only [c8b0, c8b1, Bool.not_true, Bool.not_false]
      have p195 : 0 ≤ (x8_1 : Int) := od_
      have q195 : x8_1 < (l0_0.length : Int) := od_
      obtain ⟨ad195, A195_4, c195_4, e195, hx195_0, hx195_1, hx195_2, hx195_3, hx195_4, hl195_4, hi195_4⟩ := at_T84 HR0_0.out x8_1 p195 q195
      obtain rfl : ad194 = ad195 := (by injection e195)
      replace hx195_0 := cu_ HB hx195_0
      replace hx195_1 := cu_ HB hx195_1
      replace hx195_2 := cu_ HB hx195_2
      replace hx195_3 := cu_ HB hx195_3
      replace hx195_4 := cu_ HB hx195_4
      have HR195_4 := Aside0.mk hi195_4
      have HC195_4 := Aside0.mk hl195_4
      clear hi195_4 hl195_4
      replace p195 := eq_true p195
      replace q195 := eq_true q195
      have ea_ := Option.some.inj (hx194_4.symm.trans hx195_4)
      injection ea_ with ea_ en_ ec_
      subst ea_
      subst ec_
      clear en_
      by_cases c9 : ((rd_T84 l0_0 x8_1).f2).toList = a2.toList
      ·rw [if_pos c9] at H
       have c9b0 := beq_iff_eq.mpr c9
       have c9b1 := bne_eq_false_iff_eq.mpr c9
       clear c9
       obtain ⟨⟨t197, t198, t199, t200, t201⟩, A10, H⟩ := bs_ H
       (try set_option simprocs false in dsimp only at H)
       simp only [Option.some.injEq, Prod.mk.injEq] at H
       obtain ⟨rfl, rfl, rfl, rfl, rfl, rfl⟩ := H
       try simp only [c9b0, c9b1, Bool.not_true, Bool.not_false]
       have p196 : 0 ≤ (x8_1 : Int) := od_
       have q196 : x8_1 < (l0_0.length : Int) := od_
       obtain ⟨ad196, A196_4, c196_4, e196, hx196_0, hx196_1, hx196_2, hx196_3, hx196_4, hl196_4, hi196_4⟩ := at_T84 HR0_0.out x8_1 p196 q196
       obtain rfl : ad194 = ad196 := (by injection e196)
       replace hx196_0 := cu_ HB hx196_0
       replace hx196_1 := cu_ HB hx196_1
       replace hx196_2 := cu_ HB hx196_2
       replace hx196_3 := cu_ HB hx196_3
       replace hx196_4 := cu_ HB hx196_4
       have HR196_4 := Aside0.mk hi196_4
       have HC196_4 := Aside0.mk hl196_4
       clear hi196_4 hl196_4
       replace p196 := eq_true p196
       replace q196 := eq_true q196
       have ea_ := Option.some.inj (hx194_4.symm.trans hx196_4)
       injection ea_ with ea_ en_ ec_
       subst ea_
       subst ec_
       clear en_
       go_wp2_with (first | ((with_reducible refine gc_ 66 ?_); refine gl_ (some 39) Tryd.func66 #[.agg #[.int .i64 ((rd_T84 l0_0 x8_1).f0), .string ((rd_T84 l0_0 x8_1).f1), .string ((rd_T84 l0_0 x8_1).f2), .int .i64 ((rd_T84 l0_0 x8_1).f3), .slice A194_4 ((rd_T84 l0_0 x8_1).f4).length c194_4]] ?_; (with_reducible refine (spec_l07Box.calls ((rd_T84 l0_0 x8_1).f0) ((rd_T84 l0_0 x8_1).f1) ((rd_T84 l0_0 x8_1).f2) ((rd_T84 l0_0 x8_1).f3) _ _ ((rd_T84 l0_0 x8_1).f4) t197 t198 t199 t200 t201 _ ?side1 ?side2 A10.out).mono ?_); (case side1 => exact (Kd.C_below HR196_4.out HB.out)); (case side2 => exact HC196_4.out); rintro e w13 ⟨v202, rfl, ho0, hb⟩; refine ⟨_, rfl, ?_⟩; have HO203 := Aside0.mk (Kd.R_lower ho0 (below_size HB.out)); replace BK193 := bb_ BK193 hb; replace HB := hb_ HB hb; try clear hb; try clear ho0; obtain ⟨Ao14, co14, rfl⟩ := Kd.R_slice HO203.out) | ((with_reducible refine gs_ 84 6 ?_); refine sp_ 84 6 gb193 0 (.agg #[.int .i64 t197, .string t198, .string t199, .int .i64 t200, .slice Ao14 t201.length co14]) #[.int .i64 t197, .string t198, .string t199, .int .i64 t200, .slice Ao14 t201.length co14] BK193 ?_; intro w15 hbox hbut; replace HO203 := rs_ hbut HO203 BK193; replace BK193 := Aside0.mk (hbox); replace HB := hs_ HB hbut GE193; clear hbox hbut))
       refine bodyPost_ret (results_ct rfl _ _ gb193 84 #[.int .i64 t197, .string t198, .string t199, .int .i64 t200, .slice Ao14 t201.length co14] (0, 0) _ rfl (kl_ BK193) Tryd.underlying84 rfl (by kernel_rfl)) rfl ?_
       exact ⟨_, re_, rl_ HO203, bl_⟩
      ·rw [if_neg c9] at H
       have c9b0 := beq_eq_false_iff_ne.mpr c9
       have c9b1 := bne_iff_ne.mpr c9
       have H' := Aside0.mk H
       clear H
       try simp only [c9b0, c9b1, Bool.not_true, Bool.not_false]
       go_wp2
       go_roundg k1
       case measure => have := HK1.out; omega
       case rel => exact ⟨(wrap64 (x8_1 + 1)), (x194000_1), (x194001_1), (x194002_1), (x194003_1), rf_, H', ⟨by have := HK1.out; omega⟩, ⟨kl_ BK192⟩, ⟨kl_ BK193⟩, ⟨bl_⟩⟩
     ·rw [if_neg c8] at H
      have c8b0 := beq_eq_false_iff_ne.mpr c8
      have c8b1 := bne_iff_ne.mpr c8
      have H' := Aside0.mk H
      clear H
      try simp only [c8b0, c8b1, Bool.not_true, Bool.not_false]
      go_wp2
      go_roundg k1
      case measure => have := HK1.out; omega
      case rel => exact ⟨(wrap64 (x8_1 + 1)), (x194000_1), (x194001_1), (x194002_1), (x194003_1), rf_, H', ⟨by have := HK1.out; omega⟩, ⟨kl_ BK192⟩, ⟨kl_ BK193⟩, ⟨bl_⟩⟩
    ·rw [if_neg c7] at H
     exact absurd H (by simp)
   ·rw [if_neg c6] at H
    have c6b0 := decide_eq_false c6
    clear c6
    simp only [Option.some.injEq, Prod.mk.injEq] at H
    obtain ⟨rfl, rfl, rfl, rfl, rfl, rfl⟩ := H
    try simp only [c6b0, Bool.not_true, Bool.not_false]
    go_wp2_with (first | ((with_reducible refine gs_ 84 6 ?_); refine sp_ 84 6 gb193 0 (.agg #[.int .i64 0, .string (⟨#[]⟩ : ByteArray), .string (⟨#[]⟩ : ByteArray), .int .i64 0, .slice none 0 0]) #[.int .i64 0, .string (⟨#[]⟩ : ByteArray), .string (⟨#[]⟩ : ByteArray), .int .i64 0, .slice none 0 0] BK193 ?_; intro w22 hbox hbut; replace BK193 := Aside0.mk (hbox); replace HB := hs_ HB hbut GE193; clear hbox hbut))
    refine bodyPost_ret (results_ct rfl _ _ gb193 84 #[.int .i64 0, .string (⟨#[]⟩ : ByteArray), .string (⟨#[]⟩ : ByteArray), .int .i64 0, .slice none 0 0] (0, 0) _ rfl (kl_ BK193) Tryd.underlying84 rfl (by kernel_rfl)) rfl ?_
    exact ⟨_, re_, ni_, bl_⟩

/-! ### spec_l19In: function 53 -/
def spec_l19In.l0 : Nat → List ByteArray → ByteArray → Int → Option (Bool)
 | 0, _, _, _ => none
 | k + 1, x0, x1, x5 => if x5 < (x0.length : Int) then (if 0 ≤ x5 then (if (rdOf ByteArray.empty x0 x5).toList = x1.toList then (some true) else (spec_l19In.l0 k x0 x1 (wrap64 (x5 + 1)))) else (none)) else (some false)
def spec_l19In.f (k : Nat) (l0 : List ByteArray) (a1 : ByteArray) : Option (Bool) := spec_l19In.l0 k l0 a1 0
theorem spec_l19In.mono_l : ∀ k, (∀ y0 y1 y2, LeO (spec_l19In.l0 k y0 y1 y2) (spec_l19In.l0 (k + 1) y0 y1 y2))
 | 0 => fun _ _ _ r h => by simp [spec_l19In.l0] at h
 | k + 1 => by
  have ih0 := spec_l19In.mono_l k
  ·intro y0 y1 y2
   unfold spec_l19In.l0
   repeat' first
   | (with_reducible exact ih0 _ _ _)
   | (with_reducible first | exact LeO.refl _ | exact LeO.none _ | refine LeO.ite ?_ ?_ | refine LeO.bind ?_ (fun _ => ?_))
   | refine LeO.ite ?_ ?_
   | refine LeO.bind ?_ (fun _ => ?_)
theorem spec_l19In.mono : ∀ a0 a1 k, LeO (spec_l19In.f k a0 a1) (spec_l19In.f (k + 1) a0 a1) := by
 intro a0 a1 k
 have ih0 := spec_l19In.mono_l k
 unfold spec_l19In.f
 repeat' first
   | (with_reducible exact ih0 _ _ _)
   | (with_reducible first | exact LeO.refl _ | exact LeO.none _ | refine LeO.ite ?_ ?_ | refine LeO.bind ?_ (fun _ => ?_))
   | refine LeO.ite ?_ ?_
   | refine LeO.bind ?_ (fun _ => ?_)
theorem spec_l19In.calls (k : Nat) (A0 : Option Addr) (c0 : Nat) (l0 : List ByteArray) (a1 : ByteArray) (r : Bool) (w : World) (hr0 : Kd.C Kd.string w A0 l0.length l0) (hc0 : l0.length ≤ c0) (h : spec_l19In.f k l0 a1 = some r) :
  Calls Tryd.prog 53 #[.slice A0 l0.length c0, .string a1] w fun e w' => e = .returned (.bool r) ∧ Drawn0 w w' := by
 have HR0 := Aside0.mk hr0
 have HC0 := Aside0.mk hc0
 clear hr0 hc0
 have H := h; unfold spec_l19In.f at H
 clear h
 have H' := Aside0.mk H
 clear H
 go_enter Tryd.func53, Tryd.ntmps53
 go_wp2
 go_loopg [5] k (fun kq v5 w' => ∃ (x5_1 : Int), v5 = .int .i64 x5_1 ∧ Aside0 (spec_l19In.l0 kq l0 a1 x5_1 = some r) ∧ Aside0 (kq ≤ k) ∧ Drawn0 w w')
 case atStart => exact ⟨(0), rf_, H', ⟨Nat.le_refl _⟩, dn_⟩
 case round =>
  clear H'
  try clear p2
  obtain ⟨x5_1, rfl, HA, HK1, ⟨m1, rfl⟩⟩ := hrel
  cases gk with
  | zero => exact absurd HA.out (by simp [spec_l19In.l0])
  | succ k1 =>
   have H := HA.out
   clear HA
   simp only [spec_l19In.l0] at H
   by_cases c3 : x5_1 < (l0.length : Int)
   ·rw [if_pos c3] at H
    have c3b0 := decide_eq_true c3
    clear c3
    by_cases c4 : 0 ≤ x5_1
    ·rw [if_pos c4] at H
     have c4b0 := decide_eq_true c4
     clear c4
     have p204 : 0 ≤ (x5_1 : Int) := od_
     have q204 : x5_1 < (l0.length : Int) := od_
     obtain ⟨ad204, e204, hx204_0⟩ := Kd.at_string HR0.out x5_1 p204 q204
     cases e204
     replace p204 := eq_true p204
     replace q204 := eq_true q204
     by_cases c5 : (rdOf ByteArray.empty l0 x5_1).toList = a1.toList
     ·rw [if_pos c5] at H
      have c5b0 := beq_iff_eq.mpr c5
      have c5b1 := bne_eq_false_iff_eq.mpr c5
      clear c5
      obtain rfl := Option.some.inj H
      try simp only [c5b0, c5b1, Bool.not_true, Bool.not_false]
      go_wp2
      go_ret
      exact ⟨rf_, dn_⟩
     ·rw [if_neg c5] at H
      have c5b0 := beq_eq_false_iff_ne.mpr c5
      have c5b1 := bne_iff_ne.mpr c5
      have H' := Aside0.mk H
      clear H
      try simp only [c5b0, c5b1, Bool.not_true, Bool.not_false]
      go_wp2
      go_roundg k1
      case measure => have := HK1.out; omega
      case rel => exact ⟨(wrap64 (x5_1 + 1)), rf_, H', ⟨by have := HK1.out; omega⟩, dn_⟩
    ·rw [if_neg c4] at H
     exact absurd H (by simp)
   ·rw [if_neg c3] at H
    have c3b0 := decide_eq_false c3
    clear c3
    obtain rfl := Option.some.inj H
    go_wp2
    go_ret
    exact ⟨rf_, dn_⟩

/-! ### spec_l19Rcpt: function 26 -/
def spec_l19Rcpt.f (k : Nat) (a0_0 : Int) (a0_1 : ByteArray) (l0_2 : List ByteArray) (l0_3 : List ByteArray) (l1_0 : List (S84)) (a2 : ByteArray) : Option (Int × ByteArray × List ByteArray × List ByteArray × ByteArray) := (spec_l19Copy.f a0_0 a0_1 l0_2 l0_3).bind fun bt208 => ((spec_BoxOf.f k l1_0 a2 (⟨#[105, 110, 98, 111, 120]⟩ : ByteArray)).bind fun bt217 => (if bt217.2.2.2.2.2 = true then ((spec_l19In.f k l0_2 a2).bind fun t226 => (if t226 = true then (some (3, bt208.2.1, bt208.2.2.1, bt208.2.2.2, (⟨#[50, 53, 48, 32, 111, 107]⟩ : ByteArray))) else (if (l0_2.length : Int) ≥ 3 then (some (bt208.1, bt208.2.1, bt208.2.2.1, bt208.2.2.2, (⟨#[53, 53, 50, 32, 109, 97, 110, 121]⟩ : ByteArray))) else (if bt208.2.2.1.length < 8796093022208 then (some (3, bt208.2.1, (bt208.2.2.1 ++ [a2]), bt208.2.2.2, (⟨#[50, 53, 48, 32, 111, 107]⟩ : ByteArray))) else (none))))) else (some (bt208.1, bt208.2.1, bt208.2.2.1, bt208.2.2.2, (⟨#[53, 53, 48, 32, 110, 111, 98, 111, 100, 121]⟩ : ByteArray)))))
theorem spec_l19Rcpt.mono : ∀ a0 a1 a2 a3 a4 a5 k, LeO (spec_l19Rcpt.f k a0 a1 a2 a3 a4 a5) (spec_l19Rcpt.f (k + 1) a0 a1 a2 a3 a4 a5) := by
 intro a0 a1 a2 a3 a4 a5 k
 unfold spec_l19Rcpt.f
 repeat' first
   | (with_reducible exact spec_BoxOf.mono _ _ _ _)
   | (with_reducible exact spec_l19In.mono _ _ _)
   | (with_reducible first | exact LeO.refl _ | exact LeO.none _ | refine LeO.ite ?_ ?_ | refine LeO.bind ?_ (fun _ => ?_))
   | refine LeO.ite ?_ ?_
   | refine LeO.bind ?_ (fun _ => ?_)
theorem spec_l19Rcpt.calls (k : Nat) (a0_0 : Int) (a0_1 : ByteArray) (A0_2 : Option Addr) (c0_2 : Nat) (l0_2 : List ByteArray) (A0_3 : Option Addr) (c0_3 : Nat) (l0_3 : List ByteArray) (A1_0 : Option Addr) (c1_0 : Nat) (l1_0 : List (S84)) (a2 : ByteArray) (r1 : Int) (r2 : ByteArray) (r3 : List ByteArray) (r4 : List ByteArray) (r5 : ByteArray) (w : World) (hr0_2 : Kd.C Kd.string w A0_2 l0_2.length l0_2) (hc0_2 : l0_2.length ≤ c0_2) (hr0_3 : Kd.C Kd.string w A0_3 l0_3.length l0_3) (hc0_3 : l0_3.length ≤ c0_3) (hr1_0 : Kd.C k84 w A1_0 l1_0.length l1_0) (hc1_0 : l1_0.length ≤ c1_0) (h : spec_l19Rcpt.f k a0_0 a0_1 l0_2 l0_3 l1_0 a2 = some (r1, r2, r3, r4, r5)) :
  Calls Tryd.prog 26 #[.agg #[.int .i64 a0_0, .string a0_1, .slice A0_2 l0_2.length c0_2, .slice A0_3 l0_3.length c0_3], .agg #[.slice A1_0 l1_0.length c1_0], .string a2] w fun e w' => ∃ v2_ v3_ : Value, e = .returned (.tuple #[.agg #[.int .i64 r1, .string r2, v2_, v3_], .string r5]) ∧ Kd.R Kd.string 9 w' w.heap.size (fun k_ => some k_ ≠ (v3_ : Value).ownBlock) v2_ r3 ∧ Kd.R Kd.string 9 w' w.heap.size (fun k_ => some k_ ≠ (v2_ : Value).ownBlock) v3_ r4 ∧ Below w.heap.size w w' := by
 have hu30 := Tryd.underlying30
 have hu37 := Tryd.underlying37
 have hu84 := Tryd.underlying84
 have HR0_2 := Aside0.mk hr0_2
 have HC0_2 := Aside0.mk hc0_2
 clear hr0_2 hc0_2
 have HR0_3 := Aside0.mk hr0_3
 have HC0_3 := Aside0.mk hc0_3
 clear hr0_3 hc0_3
 have HR1_0 := Aside0.mk hr1_0
 have HC1_0 := Aside0.mk hc1_0
 clear hr1_0 hc1_0
 have HB := Aside0.mk (Below.refl w.heap.size w)
 have H := h; unfold spec_l19Rcpt.f at H
 clear h
 obtain ⟨⟨t208, t209, t210, t213⟩, A4, H⟩ := bs_ H
 (try set_option simprocs false in dsimp only at H)
 obtain ⟨⟨t217, t218, t219, t220, t221, t224⟩, A5, H⟩ := bs_ H
 (try set_option simprocs false in dsimp only at H)
 go_enter Tryd.func26, Tryd.ntmps26
 go_wp2_with (first | (refine lr_ 30 3 BK205 hu30 ?_) | (refine lr_ 37 4 BK206 hu37 ?_) | (refine lr_ 30 8 BK216 hu30 ?_) | ((with_reducible refine gd_ 3 ?_); refine bx_ 3 30 #[.int .i64 a0_0, .string a0_1, .slice A0_2 l0_2.length c0_2, .slice A0_3 l0_3.length c0_3] ?_; intro gb205 hg w9 hbox hb; have BK205 := Aside0.mk (hbox); have GE205 := ge_ hg HB; replace HB := hb_ HB hb; clear hb hbox hg) | ((with_reducible refine gd_ 4 ?_); refine bx_ 4 37 #[.slice A1_0 l1_0.length c1_0] ?_; intro gb206 hg w10 hbox hb; have BK206 := Aside0.mk (hbox); have GE206 := ge_ hg HB; replace HB := hb_ HB hb; have NB205_206 := nl_ hg BK205; have NB206_205 := ng_ hg BK205; replace BK205 := bb_ BK205 hb; clear hb hbox hg) | ((with_reducible refine gd_ 6 ?_); refine bx_ 6 30 #[.int .i64 0, .string (⟨#[]⟩ : ByteArray), .slice none 0 0, .slice none 0 0] ?_; intro gb207 hg w11 hbox hb; have BK207 := Aside0.mk (hbox); have GE207 := ge_ hg HB; replace HB := hb_ HB hb; have NB205_207 := nl_ hg BK205; have NB207_205 := ng_ hg BK205; replace BK205 := bb_ BK205 hb; have NB206_207 := nl_ hg BK206; have NB207_206 := ng_ hg BK206; replace BK206 := bb_ BK206 hb; clear hb hbox hg; have hnb12 := NB205_206.out; have hnc12 := NB206_205.out; have hnb13 := NB205_207.out; have hnc13 := NB207_205.out; have hcz14 := blk_cell BK205.out; have hfz14 := blk_frozen BK205.out) | ((with_reducible refine gc_ 21 ?_); refine gl_ (some 12) Tryd.func21 #[.agg #[.int .i64 a0_0, .string a0_1, .slice A0_2 l0_2.length c0_2, .slice A0_3 l0_3.length c0_3]] ?_; (with_reducible refine (spec_l19Copy.calls a0_0 a0_1 _ _ l0_2 _ _ l0_3 t208 t209 t210 t213 _ ?side1 ?side2 ?side3 ?side4 A4.out).mono ?_); (case side1 => exact (Kd.C_below HR0_2.out HB.out)); (case side2 => exact HC0_2.out); (case side3 => exact (Kd.C_below HR0_3.out HB.out)); (case side4 => exact HC0_3.out); rintro e w15 ⟨v211, v214, rfl, ho0, ho1, hb⟩; refine ⟨_, rfl, ?_⟩; have HO212 := Aside0.mk (Kd.R_lower ho0 (below_size HB.out)); have HO215 := Aside0.mk (Kd.R_lower ho1 (below_size HB.out)); replace BK205 := bb_ BK205 hb; replace BK206 := bb_ BK206 hb; replace BK207 := bb_ BK207 hb; replace HB := hb_ HB hb; try clear hb; try clear ho0; try clear ho1; obtain ⟨Ao16, co16, rfl⟩ := Kd.R_slice HO212.out; obtain ⟨Ao17, co17, rfl⟩ := Kd.R_slice HO215.out) | ((with_reducible refine gd_ 8 ?_); refine bf_ 8 30 #[.int .i64 0, .string (⟨#[]⟩ : ByteArray), .slice none 0 0, .slice none 0 0] #[.int .i64 t208, .string t209, .slice Ao16 t210.length co16, .slice Ao17 t213.length co17] ?_; intro gb216 hg w18 hbox hb; replace HO212 := rb_ HO212 hb; replace HO215 := rb_ HO215 hb; have BK216 := Aside0.mk (hbox); have GE216 := ge_ hg HB; replace HB := hb_ HB hb; have NB205_216 := nl_ hg BK205; have NB216_205 := ng_ hg BK205; replace BK205 := bb_ BK205 hb; have NB206_216 := nl_ hg BK206; have NB216_206 := ng_ hg BK206; replace BK206 := bb_ BK206 hb; have NB207_216 := nl_ hg BK207; have NB216_207 := ng_ hg BK207; replace BK207 := bb_ BK207 hb; clear hb hbox hg; have hnb19 := NB206_207.out; have hnc19 := NB207_206.out; have hnb20 := NB206_216.out; have hnc20 := NB216_206.out) | ((with_reducible refine gc_ 52 ?_); refine gl_ (some 16) Tryd.func52 #[.agg #[.slice A1_0 l1_0.length c1_0], .string a2, .string (⟨#[105, 110, 98, 111, 120]⟩ : ByteArray)] ?_; (with_reducible refine (spec_BoxOf.calls k _ _ l1_0 a2 (⟨#[105, 110, 98, 111, 120]⟩ : ByteArray) t217 t218 t219 t220 t221 t224 _ ?side1 ?side2 A5.out).mono ?_); (case side1 => exact (Kd.C_below HR1_0.out HB.out)); (case side2 => exact HC1_0.out); rintro e w22 ⟨v222, rfl, ho0, hb⟩; refine ⟨_, rfl, ?_⟩; replace HO212 := rb_ HO212 hb; replace HO215 := rb_ HO215 hb; have HO223 := Aside0.mk (Kd.R_lower ho0 (below_size HB.out)); replace BK205 := bb_ BK205 hb; replace BK206 := bb_ BK206 hb; replace BK207 := bb_ BK207 hb; replace BK216 := bb_ BK216 hb; replace HB := hb_ HB hb; try clear hb; try clear ho0; obtain ⟨Ao23, co23, rfl⟩ := Kd.R_slice HO223.out) | ((with_reducible refine gd_ 9 ?_); refine bf_ 9 84 #[.int .i64 0, .string (⟨#[]⟩ : ByteArray), .string (⟨#[]⟩ : ByteArray), .int .i64 0, .slice none 0 0] #[.int .i64 t217, .string t218, .string t219, .int .i64 t220, .slice Ao23 t221.length co23] ?_; intro gb225 hg w24 hbox hb; replace HO212 := rb_ HO212 hb; replace HO215 := rb_ HO215 hb; have GE225 := ge_ hg HB; replace HB := hb_ HB hb; have NB205_225 := nl_ hg BK205; have NB225_205 := ng_ hg BK205; replace BK205 := bb_ BK205 hb; replace BK206 := bb_ BK206 hb; replace BK207 := bb_ BK207 hb; have NB216_225 := nl_ hg BK216; have NB225_216 := ng_ hg BK216; replace BK216 := bb_ BK216 hb; clear hb hbox hg; refine stop_ ?_; intro G_ HG_))
 by_cases c6 : t224 = true
 ·subst c6
  (try rw [if_pos rfl] at H)
  obtain ⟨t226, A7, H⟩ := bs_ H
  refine HG_.out ?_; clear HG_
  have hnb25 := NB205_216.out
  have hnc25 := NB216_205.out
  have hnb26 := NB205_225.out
  have hnc26 := NB225_205.out
  have hcz27 := blk_cell BK205.out
  have hfz27 := blk_frozen BK205.out
  go_wp2_with (first | (refine lr_ 30 8 BK216 hu30 ?_) | ((with_reducible refine gc_ 53 ?_); refine gl_ (some 25) Tryd.func53 #[.slice A0_2 l0_2.length c0_2, .string a2] ?_; (with_reducible refine (spec_l19In.calls k _ _ l0_2 a2 t226 _ ?side1 ?side2 A7.out).mono ?_); (case side1 => exact (Kd.C_below HR0_2.out HB.out)); (case side2 => exact HC0_2.out); rintro e w' ⟨rfl, ⟨nd, rfl⟩⟩; refine ⟨_, rfl, ?_⟩; (try (rw [drewN_self w24]; generalize hq_ : World.drewN w24 _ = w24; replace HO212 := ra_ hq_ HO212; replace HO215 := ra_ hq_ HO215; replace BK205 := ba_ hq_ BK205; replace BK206 := ba_ hq_ BK206; replace BK207 := ba_ hq_ BK207; replace BK216 := ba_ hq_ BK216; replace HB := ha_ hq_ HB; clear hq_)); have hcz205q := blk_cell BK205.out; have hfz205q := blk_frozen BK205.out; have hcz206q := blk_cell BK206.out; have hfz206q := blk_frozen BK206.out; refine stop_ ?_; intro G_ HG_))
  by_cases c8 : t226 = true
  ·subst c8
   (try rw [if_pos rfl] at H)
   simp only [Option.some.injEq, Prod.mk.injEq] at H
   obtain ⟨rfl, rfl, rfl, rfl, rfl⟩ := H
   refine HG_.out ?_; clear HG_
   go_wp2_with (first | (refine lr_ 30 8 BK216 hu30 ?_) | ((with_reducible refine gs_ 3 38 ?_); refine sp_ 3 38 gb216 0 (.int .i64 3) #[.int .i64 3, .string t209, .slice Ao16 t210.length co16, .slice Ao17 t213.length co17] BK216 ?_; intro w28 hbox hbut; replace HO212 := rs_ hbut HO212 BK216; replace HO215 := rs_ hbut HO215 BK216; replace BK207 := bo_ hbut NB207_216 BK207; replace BK216 := Aside0.mk (hbox); replace HB := hs_ HB hbut GE216; clear hbox hbut; have hnb29 := NB216_207.out; have hnc29 := NB207_216.out; have hnb30 := NB216_225.out; have hnc30 := NB225_216.out; have hcz31 := blk_cell BK216.out; have hfz31 := blk_frozen BK216.out) | ((with_reducible refine gs_ 30 6 ?_); refine sp_ 30 6 gb207 0 (.agg #[.int .i64 3, .string t209, .slice Ao16 t210.length co16, .slice Ao17 t213.length co17]) #[.int .i64 3, .string t209, .slice Ao16 t210.length co16, .slice Ao17 t213.length co17] BK207 ?_; intro w32 hbox hbut; replace HO212 := rs_ hbut HO212 BK207; replace HO215 := rs_ hbut HO215 BK207; replace BK207 := Aside0.mk (hbox); replace BK216 := bo_ hbut NB216_207 BK216; replace HB := hs_ HB hbut GE207; clear hbox hbut))
   refine bodyPost_ret (results_ct rfl _ _ gb207 30 #[.int .i64 3, .string t209, .slice Ao16 t210.length co16, .slice Ao17 t213.length co17] (0, 0) _ rfl (kl_ BK207) Tryd.underlying30 rfl (by kernel_rfl)) rfl ?_
   exact ⟨_, _, re_, rl_ HO212, rl_ HO215, bl_⟩
  ·replace c8 := Bool.eq_false_iff.mpr c8
   subst c8
   (try rw [if_neg (show ¬ (false = true) by decide)] at H)
   refine HG_.out ?_; clear HG_
   have hcz216q := blk_cell BK216.out
   have hfz216q := blk_frozen BK216.out
   have hnb53 := NB216_207.out
   have hnc53 := NB207_216.out
   have hnb54 := NB216_225.out
   have hnc54 := NB225_216.out
   have hcz55 := blk_cell BK216.out
   have hfz55 := blk_frozen BK216.out
   by_cases c33 : (l0_2.length : Int) ≥ 3
   ·rw [if_pos c33] at H
    have c33b0 : decide (3 ≤ (l0_2.length : Int)) = true := decide_eq_true c33
    have c33b1 : decide (3 ≤ l0_2.length) = true := decide_eq_true (by omega)
    clear c33
    simp only [Option.some.injEq, Prod.mk.injEq] at H
    obtain ⟨rfl, rfl, rfl, rfl, rfl⟩ := H
    try simp only [c33b0, c33b1, Bool.not_true, Bool.not_false]
    go_wp2_with (first | (refine lr_ 30 8 BK216 hu30 ?_) | ((with_reducible refine gs_ 30 6 ?_); refine sp_ 30 6 gb207 0 (.agg #[.int .i64 t208, .string t209, .slice Ao16 t210.length co16, .slice Ao17 t213.length co17]) #[.int .i64 t208, .string t209, .slice Ao16 t210.length co16, .slice Ao17 t213.length co17] BK207 ?_; intro w56 hbox hbut; replace HO212 := rs_ hbut HO212 BK207; replace HO215 := rs_ hbut HO215 BK207; replace BK207 := Aside0.mk (hbox); replace BK216 := bo_ hbut NB216_207 BK216; replace HB := hs_ HB hbut GE207; clear hbox hbut))
    refine bodyPost_ret (results_ct rfl _ _ gb207 30 #[.int .i64 t208, .string t209, .slice Ao16 t210.length co16, .slice Ao17 t213.length co17] (0, 0) _ rfl (kl_ BK207) Tryd.underlying30 rfl (by kernel_rfl)) rfl ?_
    exact ⟨_, _, re_, rl_ HO212, rl_ HO215, bl_⟩
   ·rw [if_neg c33] at H
    have c33b0 : decide (3 ≤ (l0_2.length : Int)) = false := decide_eq_false c33
    have c33b1 : decide (3 ≤ l0_2.length) = false := decide_eq_false (by omega)
    clear c33
    by_cases c57 : t210.length < 8796093022208
    ·rw [if_pos c57] at H
     have LMc57 := Aside0.mk c57
     clear c57
     obtain ⟨y227, hy227⟩ : ∃ y_ : List ByteArray, y_ = (t210 ++ [a2]) := ⟨_, rfl⟩
     replace H : (some (3, t209, y227, t213, (⟨#[50, 53, 48, 32, 111, 107]⟩ : ByteArray))) = some (r1, r2, r3, r4, r5) := by subst hy227; first | with_reducible exact H | with_reducible exact (Option.bind_some _ _).symm.trans H | exact H
     have Ny227 := Aside0.mk hy227
     clear hy227
     simp only [Option.some.injEq, Prod.mk.injEq] at H
     obtain ⟨rfl, rfl, rfl, rfl, rfl⟩ := H
     try simp only [c33b0, c33b1, Bool.not_true, Bool.not_false]
     go_wp2_with (first | (refine lr_ 30 8 BK216 hu30 ?_) | ((with_reducible refine gate_builtin (b := .append) (xs := #[.tmp 33, .tmp 35]) rfl ?_); at_builtin; refine Kd.R_append Kd.string (w0 := w) w.heap.size rfl (.tmp 33) (.tmp 35) 22 9 (.string ⟨#[]⟩) 16 rfl Tryd.underlying22 info9 rfl (by decide) (by omega) (.slice Ao16 t210.length co16) t210 a2 [.string a2] (fun k_ => some k_ ≠ (.slice Ao17 t213.length co17 : Value).ownBlock) (fun _ => False) rfl rfl ?aP (fun _ hk => hk.elim) ?aF ?aO ?aB ?aS ?aL ?_; (case aP => exact rfl); (case aB => exact HB.out); (case aF => exact (fun k_ hk => Kd.fresh' (Kd.R_lt HO215.out) k_ hk)); (case aO => exact HO212.out); (case aS => exact (below_size HB.out)); (case aL => have := LMc57.out; omega); intro v228 w80 ho hb hg hat; rw [← Ny227.out] at ho; replace BK207 := bg_ BK207 hg HO212; replace HO215 := Aside0.mk (Kd.R_after (ok := (fun _ => True)) (by (with_reducible repeat (first | apply Kd.R_alloc | apply Kd.R_drewN | apply Kd.R_drew)); exact Kd.R_mono HO215.out (fun _ hk => ⟨trivial, hk⟩)) hg hat); replace BK216 := bg_ BK216 hg HO212; replace HB := Aside0.mk (hb); have HO229 := Aside0.mk (ho); clear HO212; clear ho hb hg hat; obtain ⟨Ao81, co81, rfl⟩ := Kd.R_slice HO229.out) | ((with_reducible refine gs_ 22 37 ?_); refine sp_ 22 37 gb216 2 (.slice Ao81 y227.length co81) #[.int .i64 t208, .string t209, .slice Ao81 y227.length co81, .slice Ao17 t213.length co17] BK216 ?_; intro w82 hbox hbut; replace HO215 := rs_ hbut HO215 BK216; replace HO229 := rs_ hbut HO229 BK216; replace BK207 := bo_ hbut NB207_216 BK207; replace BK216 := Aside0.mk (hbox); replace HB := hs_ HB hbut GE216; clear hbox hbut) | ((with_reducible refine gs_ 3 38 ?_); refine sp_ 3 38 gb216 0 (.int .i64 3) #[.int .i64 3, .string t209, .slice Ao81 y227.length co81, .slice Ao17 t213.length co17] BK216 ?_; intro w83 hbox hbut; replace HO215 := rs_ hbut HO215 BK216; replace HO229 := rs_ hbut HO229 BK216; replace BK207 := bo_ hbut NB207_216 BK207; replace BK216 := Aside0.mk (hbox); replace HB := hs_ HB hbut GE216; clear hbox hbut; have hcz84 := blk_cell BK216.out; have hfz84 := blk_frozen BK216.out) | ((with_reducible refine gs_ 30 6 ?_); refine sp_ 30 6 gb207 0 (.agg #[.int .i64 3, .string t209, .slice Ao81 y227.length co81, .slice Ao17 t213.length co17]) #[.int .i64 3, .string t209, .slice Ao81 y227.length co81, .slice Ao17 t213.length co17] BK207 ?_; intro w85 hbox hbut; replace HO215 := rs_ hbut HO215 BK207; replace HO229 := rs_ hbut HO229 BK207; replace BK207 := Aside0.mk (hbox); replace BK216 := bo_ hbut NB216_207 BK216; replace HB := hs_ HB hbut GE207; clear hbox hbut))
     refine bodyPost_ret (results_ct rfl _ _ gb207 30 #[.int .i64 3, .string t209, .slice Ao81 y227.length co81, .slice Ao17 t213.length co17] (0, 0) _ rfl (kl_ BK207) Tryd.underlying30 rfl (by kernel_rfl)) rfl ?_
     exact ⟨_, _, re_, rl_ HO229, rm_ HO215, bl_⟩
    ·rw [if_neg c57] at H
     exact absurd H (by simp)
 ·replace c6 := Bool.eq_false_iff.mpr c6
  subst c6
  (try rw [if_neg (show ¬ (false = true) by decide)] at H)
  simp only [Option.some.injEq, Prod.mk.injEq] at H
  obtain ⟨rfl, rfl, rfl, rfl, rfl⟩ := H
  refine HG_.out ?_; clear HG_
  have hnb102 := NB216_205.out
  have hnc102 := NB205_216.out
  have hnb103 := NB216_207.out
  have hnc103 := NB207_216.out
  have hnb104 := NB216_225.out
  have hnc104 := NB225_216.out
  have hcz105 := blk_cell BK216.out
  have hfz105 := blk_frozen BK216.out
  go_wp2_with (first | (refine lr_ 30 8 BK216 hu30 ?_) | ((with_reducible refine gs_ 30 6 ?_); refine sp_ 30 6 gb207 0 (.agg #[.int .i64 t208, .string t209, .slice Ao16 t210.length co16, .slice Ao17 t213.length co17]) #[.int .i64 t208, .string t209, .slice Ao16 t210.length co16, .slice Ao17 t213.length co17] BK207 ?_; intro w106 hbox hbut; replace HO212 := rs_ hbut HO212 BK207; replace HO215 := rs_ hbut HO215 BK207; replace BK207 := Aside0.mk (hbox); replace BK216 := bo_ hbut NB216_207 BK216; replace HB := hs_ HB hbut GE207; clear hbox hbut))
  refine bodyPost_ret (results_ct rfl _ _ gb207 30 #[.int .i64 t208, .string t209, .slice Ao16 t210.length co16, .slice Ao17 t213.length co17] (0, 0) _ rfl (kl_ BK207) Tryd.underlying30 rfl (by kernel_rfl)) rfl ?_
  exact ⟨_, _, re_, rl_ HO212, rl_ HO215, bl_⟩

end Go.Proofs.YtdokcckgnamnfaaDoor.QFnExactStepBring
