-- Written by a program of this session (myprint) out of Lean's own print of the translation. Lean checks it.
import Derived.Test.YtdokcckgnamnfaaDoorShorter
import Derived.Test.YtdokcckgnamnfaaDoorSteps
import Derived.Test.YtdokcckgnamnfaaDoorQFnExactStepBringx0
namespace Go.Proofs.YtdokcckgnamnfaaDoor.QFnExactStepBring
open Go.Proofs.YtdokcckgnamnfaaDoorF
open Go.RowKit Go.Proofs.YtdokcckgnamnfaaDoorW.PrintWords Go.Proofs.YtdokcckgnamnfaaDoorW.PrintLast Go.Proofs.YtdokcckgnamnfaaDoorW.PrintMore
attribute [local go_sem] max2_int min2_int max_two min_two max_three min_three max_four min_four   -- for this text's walks alone
set_option maxHeartbeats 8000000
set_option maxRecDepth 100000
set_option linter.unusedVariables false
set_option linter.unusedSimpArgs false

/-! ### laws_eqStringS: function 37 -/
def laws_eqStringS.l0 : Nat → List ByteArray → List ByteArray → Int → Option (Bool)
 | 0, _, _, _ => none
 | k + 1, x0, x1, x5 => if x5 < (x0.length : Int) then (if 0 ≤ x5 then (if x5 < (x1.length : Int) then (if (rdOf ByteArray.empty x0 x5).toList = (rdOf ByteArray.empty x1 x5).toList then (laws_eqStringS.l0 k x0 x1 (wrap64 (x5 + 1))) else (some false)) else (none)) else (none)) else (some true)
def laws_eqStringS.f (k : Nat) (l0 : List ByteArray) (l1 : List ByteArray) : Option (Bool) := if (l0.length : Int) = (l1.length : Int) then (laws_eqStringS.l0 k l0 l1 0) else (some false)
theorem laws_eqStringS.mono_l : ∀ k, (∀ y0 y1 y2, LeO (laws_eqStringS.l0 k y0 y1 y2) (laws_eqStringS.l0 (k + 1) y0 y1 y2))
 | 0 => fun _ _ _ r h => by simp [laws_eqStringS.l0] at h
 | k + 1 => by
  have ih0 := laws_eqStringS.mono_l k
  ·intro y0 y1 y2
   unfold laws_eqStringS.l0
   repeat' first
   | (with_reducible exact ih0 _ _ _)
   | (with_reducible first | exact LeO.refl _ | exact LeO.none _ | refine LeO.ite ?_ ?_ | refine LeO.bind ?_ (fun _ => ?_))
   | refine LeO.ite ?_ ?_
   | refine LeO.bind ?_ (fun _ => ?_)
theorem laws_eqStringS.mono : ∀ a0 a1 k, LeO (laws_eqStringS.f k a0 a1) (laws_eqStringS.f (k + 1) a0 a1) := by
 intro a0 a1 k
 have ih0 := laws_eqStringS.mono_l k
 unfold laws_eqStringS.f
 repeat' first
   | (with_reducible exact ih0 _ _ _)
   | (with_reducible first | exact LeO.refl _ | exact LeO.none _ | refine LeO.ite ?_ ?_ | refine LeO.bind ?_ (fun _ => ?_))
   | refine LeO.ite ?_ ?_
   | refine LeO.bind ?_ (fun _ => ?_)
theorem laws_eqStringS.calls (k : Nat) (A0 : Option Addr) (c0 : Nat) (l0 : List ByteArray) (A1 : Option Addr) (c1 : Nat) (l1 : List ByteArray) (w : World) (hr0 : Kd.C Kd.string w A0 l0.length l0) (hc0 : l0.length ≤ c0) (hr1 : Kd.C Kd.string w A1 l1.length l1) (hc1 : l1.length ≤ c1) (h : laws_eqStringS.f k l0 l1 = some true) :
  Calls Tryd.prog 37 #[.slice A0 l0.length c0, .slice A1 l1.length c1] w fun e w' => e = .returned (.bool true) ∧ Drawn0 w w' := by
 have HR0 := Aside0.mk hr0
 have HC0 := Aside0.mk hc0
 clear hr0 hc0
 have HR1 := Aside0.mk hr1
 have HC1 := Aside0.mk hc1
 clear hr1 hc1
 have H := h; unfold laws_eqStringS.f at H
 clear h
 by_cases c3 : (l0.length : Int) = (l1.length : Int)
 ·rw [if_pos c3] at H
  have c3b0 := beq_iff_eq.mpr c3
  have c3b1 := bne_eq_false_iff_eq.mpr c3
  have c3b2 : (l0.length == l1.length) = true := by first | simpa using c3 | (simp at c3 ⊢; omega)
  clear c3
  have H' := Aside0.mk H
  clear H
  go_enter Tryd.func37, Tryd.ntmps37
  go_wp2
  repeat (go_quiet (fail); try go_wp2)
  go_loopg [5] k (fun kq v5 w' => ∃ (x5_1 : Int), v5 = .int .i64 x5_1 ∧ Aside0 (laws_eqStringS.l0 kq l0 l1 x5_1 = some true) ∧ Aside0 (kq ≤ k) ∧ Drawn0 w w')
  case atStart => exact ⟨(0), rf_, H', ⟨Nat.le_refl _⟩, dn_⟩
  case round =>
   clear H'
   try clear c1
   try clear p2
   try clear c3
   try clear c3b0
   try clear c3b1
   try clear c3b2
   obtain ⟨x5_1, rfl, HA, HK1, ⟨m1, rfl⟩⟩ := hrel
   cases gk with
   | zero => exact absurd HA.out (by simp [laws_eqStringS.l0])
   | succ k1 =>
    have H := HA.out
    clear HA
    simp only [laws_eqStringS.l0] at H
    by_cases c4 : x5_1 < (l0.length : Int)
    ·rw [if_pos c4] at H
     have c4b0 := decide_eq_true c4
     clear c4
     by_cases c5 : 0 ≤ x5_1
     ·rw [if_pos c5] at H
      have c5b0 := decide_eq_true c5
      clear c5
      by_cases c6 : x5_1 < (l1.length : Int)
      ·rw [if_pos c6] at H
       have c6b0 := decide_eq_true c6
       clear c6
       by_cases c7 : (rdOf ByteArray.empty l0 x5_1).toList = (rdOf ByteArray.empty l1 x5_1).toList
       ·rw [if_pos c7] at H
        have c7b0 := beq_iff_eq.mpr c7
        have c7b1 := bne_eq_false_iff_eq.mpr c7
        clear c7
        have H' := Aside0.mk H
        clear H
        have p484 : 0 ≤ (x5_1 : Int) := od_
        have q484 : x5_1 < (l0.length : Int) := od_
        obtain ⟨ad484, e484, hx484_0⟩ := Kd.at_string HR0.out x5_1 p484 q484
        cases e484
        replace p484 := eq_true p484
        replace q484 := eq_true q484
        have p485 : 0 ≤ (x5_1 : Int) := od_
        have q485 : x5_1 < (l1.length : Int) := od_
        obtain ⟨ad485, e485, hx485_0⟩ := Kd.at_string HR1.out x5_1 p485 q485
        cases e485
        replace p485 := eq_true p485
        replace q485 := eq_true q485
        go_wp2
        repeat (go_quiet (fail); try go_wp2)
        go_roundg k1
        case measure => have := HK1.out; omega
        case rel => exact ⟨(wrap64 (x5_1 + 1)), rf_, H', ⟨by have := HK1.out; omega⟩, dn_⟩
       ·rw [if_neg c7] at H
        have c7b0 := beq_eq_false_iff_ne.mpr c7
        have c7b1 := bne_iff_ne.mpr c7
        exact absurd H (by simp)
      ·rw [if_neg c6] at H
       exact absurd H (by simp)
     ·rw [if_neg c5] at H
      exact absurd H (by simp)
    ·rw [if_neg c4] at H
     have c4b0 := decide_eq_false c4
     clear c4
     clear H
     go_wp2
     repeat (go_quiet (fail); try go_wp2)
     go_ret
     exact ⟨rf_, dn_⟩
 ·rw [if_neg c3] at H
  have c3b0 := beq_eq_false_iff_ne.mpr c3
  have c3b1 := bne_iff_ne.mpr c3
  have c3b2 : (l0.length == l1.length) = false := by first | simpa using c3 | (simp at c3 ⊢; omega)
  exact absurd H (by simp)

/-! ### laws_eqBring: function 10 -/
def laws_eqBring.f (k : Nat) (a0_0 : Int) (a0_1 : ByteArray) (l0_2 : List ByteArray) (l0_3 : List ByteArray) (a1_0 : Int) (a1_1 : ByteArray) (l1_2 : List ByteArray) (l1_3 : List ByteArray) : Option (Bool) := if a0_0 = a1_0 then (if a0_1.toList = a1_1.toList then ((laws_eqStringS.f k l0_2 l1_2).bind fun t488 => (if t488 = true then ((laws_eqStringS.f k l0_3 l1_3).bind fun t489 => (if t489 = true then (some true) else (some false))) else (some false))) else (some false)) else (some false)
theorem laws_eqBring.mono : ∀ a0 a1 a2 a3 a4 a5 a6 a7 k, LeO (laws_eqBring.f k a0 a1 a2 a3 a4 a5 a6 a7) (laws_eqBring.f (k + 1) a0 a1 a2 a3 a4 a5 a6 a7) := by
 intro a0 a1 a2 a3 a4 a5 a6 a7 k
 unfold laws_eqBring.f
 repeat' first
   | (with_reducible exact laws_eqStringS.mono _ _ _)
   | (with_reducible first | exact LeO.refl _ | exact LeO.none _ | refine LeO.ite ?_ ?_ | refine LeO.bind ?_ (fun _ => ?_))
   | refine LeO.ite ?_ ?_
   | refine LeO.bind ?_ (fun _ => ?_)
theorem laws_eqBring.calls (k : Nat) (a0_0 : Int) (a0_1 : ByteArray) (A0_2 : Option Addr) (c0_2 : Nat) (l0_2 : List ByteArray) (A0_3 : Option Addr) (c0_3 : Nat) (l0_3 : List ByteArray) (a1_0 : Int) (a1_1 : ByteArray) (A1_2 : Option Addr) (c1_2 : Nat) (l1_2 : List ByteArray) (A1_3 : Option Addr) (c1_3 : Nat) (l1_3 : List ByteArray) (w : World) (hr0_2 : Kd.C Kd.string w A0_2 l0_2.length l0_2) (hc0_2 : l0_2.length ≤ c0_2) (hr0_3 : Kd.C Kd.string w A0_3 l0_3.length l0_3) (hc0_3 : l0_3.length ≤ c0_3) (hr1_2 : Kd.C Kd.string w A1_2 l1_2.length l1_2) (hc1_2 : l1_2.length ≤ c1_2) (hr1_3 : Kd.C Kd.string w A1_3 l1_3.length l1_3) (hc1_3 : l1_3.length ≤ c1_3) (h : laws_eqBring.f k a0_0 a0_1 l0_2 l0_3 a1_0 a1_1 l1_2 l1_3 = some true) :
  Calls Tryd.prog 10 #[.agg #[.int .i64 a0_0, .string a0_1, .slice A0_2 l0_2.length c0_2, .slice A0_3 l0_3.length c0_3], .agg #[.int .i64 a1_0, .string a1_1, .slice A1_2 l1_2.length c1_2, .slice A1_3 l1_3.length c1_3]] w fun e w' => e = .returned (.bool true) ∧ Below w.heap.size w w' := by
 have hu30 := Tryd.underlying30
 have HR0_2 := Aside0.mk hr0_2
 have HC0_2 := Aside0.mk hc0_2
 clear hr0_2 hc0_2
 have HR0_3 := Aside0.mk hr0_3
 have HC0_3 := Aside0.mk hc0_3
 clear hr0_3 hc0_3
 have HR1_2 := Aside0.mk hr1_2
 have HC1_2 := Aside0.mk hc1_2
 clear hr1_2 hc1_2
 have HR1_3 := Aside0.mk hr1_3
 have HC1_3 := Aside0.mk hc1_3
 clear hr1_3 hc1_3
 have HB := Aside0.mk (Below.refl w.heap.size w)
 have H := h; unfold laws_eqBring.f at H
 clear h
 by_cases c3 : a0_0 = a1_0
 ·rw [if_pos c3] at H
  have c3b0 := beq_iff_eq.mpr c3
  have c3b1 := bne_eq_false_iff_eq.mpr c3
  clear c3
  by_cases c4 : a0_1.toList = a1_1.toList
  ·rw [if_pos c4] at H
   have c4b0 := beq_iff_eq.mpr c4
   have c4b1 := bne_eq_false_iff_eq.mpr c4
   clear c4
   obtain ⟨t488, A5, H⟩ := bs_ H
   by_cases c6 : t488 = true
   ·subst c6
    (try rw [if_pos rfl] at H)
    obtain ⟨t489, A7, H⟩ := bs_ H
    by_cases c8 : t489 = true
    ·subst c8
     (try rw [if_pos rfl] at H)
     clear H
     go_enter Tryd.func10, Tryd.ntmps10
     go_wp2_with (first | ((with_reducible refine gd_ 2 ?_); refine bx_ 2 30 #[.int .i64 a0_0, .string a0_1, .slice A0_2 l0_2.length c0_2, .slice A0_3 l0_3.length c0_3] ?_; intro gb486 hg w9 hbox hb; have BK486 := Aside0.mk (hbox); have GE486 := gel_ hg; replace HB := hbl_ hb; clear hb hbox hg) | ((with_reducible refine gd_ 3 ?_); refine bx_ 3 30 #[.int .i64 a1_0, .string a1_1, .slice A1_2 l1_2.length c1_2, .slice A1_3 l1_3.length c1_3] ?_; intro gb487 hg w10 hbox hb; have BK487 := Aside0.mk (hbox); have GE487 := gel_ hg; replace HB := hbl_ hb; have NB486_487 := nl_ hg BK486; have NB487_486 := ng_ hg BK486; replace BK486 := bbl_ BK486 hb; clear hb hbox hg; have hnb11 := NB486_487.out; have hnc11 := NB487_486.out; have hcz12 := blk_cell BK486.out; have hfz12 := blk_frozen BK486.out; have hcz13 := blk_cell BK487.out; have hfz13 := blk_frozen BK487.out) | ((with_reducible refine gc_ 37 ?_); refine gl_ (some 19) Tryd.func37 #[.slice A0_2 l0_2.length c0_2, .slice A1_2 l1_2.length c1_2] ?_; (with_reducible refine (laws_eqStringS.calls k _ _ l0_2 _ _ l1_2  _ ?side1 ?side2 ?side3 ?side4 A5.out).mono ?_); (case side1 => exact cb_ HR0_2); (case side2 => exact HC0_2.out); (case side3 => exact cb_ HR1_2); (case side4 => exact HC1_2.out); rintro e w' ⟨rfl, ⟨nd, rfl⟩⟩; refine ⟨_, rfl, ?_⟩) | ((with_reducible refine gc_ 37 ?_); refine gl_ (some 25) Tryd.func37 #[.slice A0_3 l0_3.length c0_3, .slice A1_3 l1_3.length c1_3] ?_; (with_reducible refine (laws_eqStringS.calls k _ _ l0_3 _ _ l1_3  _ ?side1 ?side2 ?side3 ?side4 A7.out).mono ?_); (case side1 => repeat (first | exact (Kd.C_below HR0_3.out bl_) | (with_reducible refine Kd.C_alloc ?_ _) | (with_reducible refine Kd.C_drewN ?_ _) | (with_reducible refine Kd.C_drew ?_))); (case side2 => exact HC0_3.out); (case side3 => repeat (first | exact (Kd.C_below HR1_3.out bl_) | (with_reducible refine Kd.C_alloc ?_ _) | (with_reducible refine Kd.C_drewN ?_ _) | (with_reducible refine Kd.C_drew ?_))); (case side4 => exact HC1_3.out); rintro e w' ⟨rfl, ⟨nd, rfl⟩⟩; refine ⟨_, rfl, ?_⟩))
     go_ret
     exact ⟨re_, bl_⟩
    ·replace c8 := Bool.eq_false_iff.mpr c8
     subst c8
     (try rw [if_neg (show ¬ (false = true) by decide)] at H)
     exact absurd H (by simp)
   ·replace c6 := Bool.eq_false_iff.mpr c6
    subst c6
    (try rw [if_neg (show ¬ (false = true) by decide)] at H)
    exact absurd H (by simp)
  ·rw [if_neg c4] at H
   have c4b0 := beq_eq_false_iff_ne.mpr c4
   have c4b1 := bne_iff_ne.mpr c4
   exact absurd H (by simp)
 ·rw [if_neg c3] at H
  have c3b0 := beq_eq_false_iff_ne.mpr c3
  have c3b1 := bne_iff_ne.mpr c3
  exact absurd H (by simp)

/-! ### laws_eqIntS: function 62 -/
def laws_eqIntS.l0 : Nat → List Int → List Int → Int → Option (Bool)
 | 0, _, _, _ => none
 | k + 1, x0, x1, x5 => if x5 < (x0.length : Int) then (if 0 ≤ x5 then (if x5 < (x1.length : Int) then (if (rd x0 x5) = (rd x1 x5) then (laws_eqIntS.l0 k x0 x1 (wrap64 (x5 + 1))) else (some false)) else (none)) else (none)) else (some true)
def laws_eqIntS.f (k : Nat) (l0 : List Int) (l1 : List Int) : Option (Bool) := if (l0.length : Int) = (l1.length : Int) then (laws_eqIntS.l0 k l0 l1 0) else (some false)
theorem laws_eqIntS.mono_l : ∀ k, (∀ y0 y1 y2, LeO (laws_eqIntS.l0 k y0 y1 y2) (laws_eqIntS.l0 (k + 1) y0 y1 y2))
 | 0 => fun _ _ _ r h => by simp [laws_eqIntS.l0] at h
 | k + 1 => by
  have ih0 := laws_eqIntS.mono_l k
  ·intro y0 y1 y2
   unfold laws_eqIntS.l0
   repeat' first
   | (with_reducible exact ih0 _ _ _)
   | (with_reducible first | exact LeO.refl _ | exact LeO.none _ | refine LeO.ite ?_ ?_ | refine LeO.bind ?_ (fun _ => ?_))
   | refine LeO.ite ?_ ?_
   | refine LeO.bind ?_ (fun _ => ?_)
theorem laws_eqIntS.mono : ∀ a0 a1 k, LeO (laws_eqIntS.f k a0 a1) (laws_eqIntS.f (k + 1) a0 a1) := by
 intro a0 a1 k
 have ih0 := laws_eqIntS.mono_l k
 unfold laws_eqIntS.f
 repeat' first
   | (with_reducible exact ih0 _ _ _)
   | (with_reducible first | exact LeO.refl _ | exact LeO.none _ | refine LeO.ite ?_ ?_ | refine LeO.bind ?_ (fun _ => ?_))
   | refine LeO.ite ?_ ?_
   | refine LeO.bind ?_ (fun _ => ?_)
theorem laws_eqIntS.calls (k : Nat) (A0 : Option Addr) (c0 : Nat) (l0 : List Int) (A1 : Option Addr) (c1 : Nat) (l1 : List Int) (w : World) (hr0 : Kd.C (Kd.int .i64) w A0 l0.length l0) (hc0 : l0.length ≤ c0) (hr1 : Kd.C (Kd.int .i64) w A1 l1.length l1) (hc1 : l1.length ≤ c1) (h : laws_eqIntS.f k l0 l1 = some true) :
  Calls Tryd.prog 62 #[.slice A0 l0.length c0, .slice A1 l1.length c1] w fun e w' => e = .returned (.bool true) ∧ Drawn0 w w' := by
 have HR0 := Aside0.mk hr0
 have HC0 := Aside0.mk hc0
 clear hr0 hc0
 have HR1 := Aside0.mk hr1
 have HC1 := Aside0.mk hc1
 clear hr1 hc1
 have H := h; unfold laws_eqIntS.f at H
 clear h
 by_cases c3 : (l0.length : Int) = (l1.length : Int)
 ·rw [if_pos c3] at H
  have c3b0 := beq_iff_eq.mpr c3
  have c3b1 := bne_eq_false_iff_eq.mpr c3
  have c3b2 : (l0.length == l1.length) = true := by first | simpa using c3 | (simp at c3 ⊢; omega)
  clear c3
  have H' := Aside0.mk H
  clear H
  go_enter Tryd.func62, Tryd.ntmps62
  go_wp2
  repeat (go_quiet (fail); try go_wp2)
  go_loopg [5] k (fun kq v5 w' => ∃ (x5_1 : Int), v5 = .int .i64 x5_1 ∧ Aside0 (laws_eqIntS.l0 kq l0 l1 x5_1 = some true) ∧ Aside0 (kq ≤ k) ∧ Drawn0 w w')
  case atStart => exact ⟨(0), rf_, H', ⟨Nat.le_refl _⟩, dn_⟩
  case round =>
   clear H'
   try clear c1
   try clear p2
   try clear c3
   try clear c3b0
   try clear c3b1
   try clear c3b2
   obtain ⟨x5_1, rfl, HA, HK1, ⟨m1, rfl⟩⟩ := hrel
   cases gk with
   | zero => exact absurd HA.out (by simp [laws_eqIntS.l0])
   | succ k1 =>
    have H := HA.out
    clear HA
    simp only [laws_eqIntS.l0] at H
    by_cases c4 : x5_1 < (l0.length : Int)
    ·rw [if_pos c4] at H
     have c4b0 := decide_eq_true c4
     clear c4
     by_cases c5 : 0 ≤ x5_1
     ·rw [if_pos c5] at H
      have c5b0 := decide_eq_true c5
      clear c5
      by_cases c6 : x5_1 < (l1.length : Int)
      ·rw [if_pos c6] at H
       have c6b0 := decide_eq_true c6
       clear c6
       by_cases c7 : (rd l0 x5_1) = (rd l1 x5_1)
       ·rw [if_pos c7] at H
        have c7b0 := beq_iff_eq.mpr c7
        have c7b1 := bne_eq_false_iff_eq.mpr c7
        clear c7
        have H' := Aside0.mk H
        clear H
        have p490 : 0 ≤ (x5_1 : Int) := od_
        have q490 : x5_1 < (l0.length : Int) := od_
        obtain ⟨ad490, e490, hx490_0⟩ := Kd.at_int HR0.out x5_1 p490 q490
        cases e490
        replace p490 := eq_true p490
        replace q490 := eq_true q490
        have p491 : 0 ≤ (x5_1 : Int) := od_
        have q491 : x5_1 < (l1.length : Int) := od_
        obtain ⟨ad491, e491, hx491_0⟩ := Kd.at_int HR1.out x5_1 p491 q491
        cases e491
        replace p491 := eq_true p491
        replace q491 := eq_true q491
        go_wp2
        repeat (go_quiet (fail); try go_wp2)
        go_roundg k1
        case measure => have := HK1.out; omega
        case rel => exact ⟨(wrap64 (x5_1 + 1)), rf_, H', ⟨by have := HK1.out; omega⟩, dn_⟩
       ·rw [if_neg c7] at H
        have c7b0 := beq_eq_false_iff_ne.mpr c7
        have c7b1 := bne_iff_ne.mpr c7
        exact absurd H (by simp)
      ·rw [if_neg c6] at H
       exact absurd H (by simp)
     ·rw [if_neg c5] at H
      exact absurd H (by simp)
    ·rw [if_neg c4] at H
     have c4b0 := decide_eq_false c4
     clear c4
     clear H
     go_wp2
     repeat (go_quiet (fail); try go_wp2)
     go_ret
     exact ⟨rf_, dn_⟩
 ·rw [if_neg c3] at H
  have c3b0 := beq_eq_false_iff_ne.mpr c3
  have c3b1 := bne_iff_ne.mpr c3
  have c3b2 : (l0.length == l1.length) = false := by first | simpa using c3 | (simp at c3 ⊢; omega)
  exact absurd H (by simp)

/-! ### laws_eqCall: function 38 -/
def laws_eqCall.f (k : Nat) (a0_0 : Int) (a0_1 : ByteArray) (a0_2 : ByteArray) (a0_3 : ByteArray) (a0_4 : Int) (l0_5 : List Int) (a0_6 : Int) (a0_7 : ByteArray) (a1_0 : Int) (a1_1 : ByteArray) (a1_2 : ByteArray) (a1_3 : ByteArray) (a1_4 : Int) (l1_5 : List Int) (a1_6 : Int) (a1_7 : ByteArray) : Option (Bool) := if a0_0 = a1_0 then (if a0_1.toList = a1_1.toList then (if a0_2.toList = a1_2.toList then (if a0_3.toList = a1_3.toList then (if a0_4 = a1_4 then ((laws_eqIntS.f k l0_5 l1_5).bind fun t494 => (if t494 = true then (if a0_6 = a1_6 then (if a0_7.toList = a1_7.toList then (some true) else (some false)) else (some false)) else (some false))) else (some false)) else (some false)) else (some false)) else (some false)) else (some false)
theorem laws_eqCall.mono : ∀ a0 a1 a2 a3 a4 a5 a6 a7 a8 a9 a10 a11 a12 a13 a14 a15 k, LeO (laws_eqCall.f k a0 a1 a2 a3 a4 a5 a6 a7 a8 a9 a10 a11 a12 a13 a14 a15) (laws_eqCall.f (k + 1) a0 a1 a2 a3 a4 a5 a6 a7 a8 a9 a10 a11 a12 a13 a14 a15) := by
 intro a0 a1 a2 a3 a4 a5 a6 a7 a8 a9 a10 a11 a12 a13 a14 a15 k
 unfold laws_eqCall.f
 repeat' first
   | (with_reducible exact laws_eqIntS.mono _ _ _)
   | (with_reducible first | exact LeO.refl _ | exact LeO.none _ | refine LeO.ite ?_ ?_ | refine LeO.bind ?_ (fun _ => ?_))
   | refine LeO.ite ?_ ?_
   | refine LeO.bind ?_ (fun _ => ?_)
theorem laws_eqCall.calls (k : Nat) (a0_0 : Int) (a0_1 : ByteArray) (a0_2 : ByteArray) (a0_3 : ByteArray) (a0_4 : Int) (A0_5 : Option Addr) (c0_5 : Nat) (l0_5 : List Int) (a0_6 : Int) (a0_7 : ByteArray) (a1_0 : Int) (a1_1 : ByteArray) (a1_2 : ByteArray) (a1_3 : ByteArray) (a1_4 : Int) (A1_5 : Option Addr) (c1_5 : Nat) (l1_5 : List Int) (a1_6 : Int) (a1_7 : ByteArray) (w : World) (hr0_5 : Kd.C (Kd.int .i64) w A0_5 l0_5.length l0_5) (hc0_5 : l0_5.length ≤ c0_5) (hr1_5 : Kd.C (Kd.int .i64) w A1_5 l1_5.length l1_5) (hc1_5 : l1_5.length ≤ c1_5) (h : laws_eqCall.f k a0_0 a0_1 a0_2 a0_3 a0_4 l0_5 a0_6 a0_7 a1_0 a1_1 a1_2 a1_3 a1_4 l1_5 a1_6 a1_7 = some true) :
  Calls Tryd.prog 38 #[.agg #[.int .i64 a0_0, .string a0_1, .string a0_2, .string a0_3, .int .i64 a0_4, .slice A0_5 l0_5.length c0_5, .int .i64 a0_6, .string a0_7], .agg #[.int .i64 a1_0, .string a1_1, .string a1_2, .string a1_3, .int .i64 a1_4, .slice A1_5 l1_5.length c1_5, .int .i64 a1_6, .string a1_7]] w fun e w' => e = .returned (.bool true) ∧ Below w.heap.size w w' := by
 have hu65 := Tryd.underlying65
 have HR0_5 := Aside0.mk hr0_5
 have HC0_5 := Aside0.mk hc0_5
 clear hr0_5 hc0_5
 have HR1_5 := Aside0.mk hr1_5
 have HC1_5 := Aside0.mk hc1_5
 clear hr1_5 hc1_5
 have HB := Aside0.mk (Below.refl w.heap.size w)
 have H := h; unfold laws_eqCall.f at H
 clear h
 by_cases c3 : a0_0 = a1_0
 ·rw [if_pos c3] at H
  have c3b0 := beq_iff_eq.mpr c3
  have c3b1 := bne_eq_false_iff_eq.mpr c3
  clear c3
  by_cases c4 : a0_1.toList = a1_1.toList
  ·rw [if_pos c4] at H
   have c4b0 := beq_iff_eq.mpr c4
   have c4b1 := bne_eq_false_iff_eq.mpr c4
   clear c4
   by_cases c5 : a0_2.toList = a1_2.toList
   ·rw [if_pos c5] at H
    have c5b0 := beq_iff_eq.mpr c5
    have c5b1 := bne_eq_false_iff_eq.mpr c5
    clear c5
    by_cases c6 : a0_3.toList = a1_3.toList
    ·rw [if_pos c6] at H
     have c6b0 := beq_iff_eq.mpr c6
     have c6b1 := bne_eq_false_iff_eq.mpr c6
     clear c6
     by_cases c7 : a0_4 = a1_4
     ·rw [if_pos c7] at H
      have c7b0 := beq_iff_eq.mpr c7
      have c7b1 := bne_eq_false_iff_eq.mpr c7
      clear c7
      obtain ⟨t494, A8, H⟩ := bs_ H
      by_cases c9 : t494 = true
      ·subst c9
       (try rw [if_pos rfl] at H)
       by_cases c10 : a0_6 = a1_6
       ·rw [if_pos c10] at H
        have c10b0 := beq_iff_eq.mpr c10
        have c10b1 := bne_eq_false_iff_eq.mpr c10
        clear c10
        by_cases c11 : a0_7.toList = a1_7.toList
        ·rw [if_pos c11] at H
         have c11b0 := beq_iff_eq.mpr c11
         have c11b1 := bne_eq_false_iff_eq.mpr c11
         clear c11
         clear H
         go_enter Tryd.func38, Tryd.ntmps38
         go_wp2_with (first | ((with_reducible refine gd_ 2 ?_); refine bx_ 2 65 #[.int .i64 a0_0, .string a0_1, .string a0_2, .string a0_3, .int .i64 a0_4, .slice A0_5 l0_5.length c0_5, .int .i64 a0_6, .string a0_7] ?_; intro gb492 hg w12 hbox hb; have BK492 := Aside0.mk (hbox); have GE492 := ge_ hg HB; replace HB := hb_ HB hb; clear hb hbox hg) | ((with_reducible refine gd_ 3 ?_); refine bx_ 3 65 #[.int .i64 a1_0, .string a1_1, .string a1_2, .string a1_3, .int .i64 a1_4, .slice A1_5 l1_5.length c1_5, .int .i64 a1_6, .string a1_7] ?_; intro gb493 hg w13 hbox hb; have BK493 := Aside0.mk (hbox); have GE493 := ge_ hg HB; replace HB := hb_ HB hb; have NB492_493 := nl_ hg BK492; have NB493_492 := ng_ hg BK492; replace BK492 := bb_ BK492 hb; clear hb hbox hg; have hnb14 := NB492_493.out; have hnc14 := NB493_492.out; have hcz15 := blk_cell BK492.out; have hfz15 := blk_frozen BK492.out; have hcz16 := blk_cell BK493.out; have hfz16 := blk_frozen BK493.out) | ((with_reducible refine gc_ 62 ?_); refine gl_ (some 34) Tryd.func62 #[.slice A0_5 l0_5.length c0_5, .slice A1_5 l1_5.length c1_5] ?_; (with_reducible refine (laws_eqIntS.calls k _ _ l0_5 _ _ l1_5  _ ?side1 ?side2 ?side3 ?side4 A8.out).mono ?_); (case side1 => exact (Kd.C_below HR0_5.out HB.out)); (case side2 => exact HC0_5.out); (case side3 => exact (Kd.C_below HR1_5.out HB.out)); (case side4 => exact HC1_5.out); rintro e w' ⟨rfl, ⟨nd, rfl⟩⟩; refine ⟨_, rfl, ?_⟩))
         go_ret
         exact ⟨re_, bl_⟩
        ·rw [if_neg c11] at H
         have c11b0 := beq_eq_false_iff_ne.mpr c11
         have c11b1 := bne_iff_ne.mpr c11
         exact absurd H (by simp)
       ·rw [if_neg c10] at H
        have c10b0 := beq_eq_false_iff_ne.mpr c10
        have c10b1 := bne_iff_ne.mpr c10
        exact absurd H (by simp)
      ·replace c9 := Bool.eq_false_iff.mpr c9
       subst c9
       (try rw [if_neg (show ¬ (false = true) by decide)] at H)
       exact absurd H (by simp)
     ·rw [if_neg c7] at H
      have c7b0 := beq_eq_false_iff_ne.mpr c7
      have c7b1 := bne_iff_ne.mpr c7
      exact absurd H (by simp)
    ·rw [if_neg c6] at H
     have c6b0 := beq_eq_false_iff_ne.mpr c6
     have c6b1 := bne_iff_ne.mpr c6
     exact absurd H (by simp)
   ·rw [if_neg c5] at H
    have c5b0 := beq_eq_false_iff_ne.mpr c5
    have c5b1 := bne_iff_ne.mpr c5
    exact absurd H (by simp)
  ·rw [if_neg c4] at H
   have c4b0 := beq_eq_false_iff_ne.mpr c4
   have c4b1 := bne_iff_ne.mpr c4
   exact absurd H (by simp)
 ·rw [if_neg c3] at H
  have c3b0 := beq_eq_false_iff_ne.mpr c3
  have c3b1 := bne_iff_ne.mpr c3
  exact absurd H (by simp)

/-! ### laws_eqCallS: function 11 -/
def laws_eqCallS.l0 : Nat → List (S65) → List (S65) → Int → Option (Bool)
 | 0, _, _, _ => none
 | k + 1, x0, x1, x5 => if x5 < (x0.length : Int) then (if 0 ≤ x5 then (if x5 < (x1.length : Int) then ((laws_eqCall.f k ((rd_T65 x0 x5).f0) ((rd_T65 x0 x5).f1) ((rd_T65 x0 x5).f2) ((rd_T65 x0 x5).f3) ((rd_T65 x0 x5).f4) ((rd_T65 x0 x5).f5) ((rd_T65 x0 x5).f6) ((rd_T65 x0 x5).f7) ((rd_T65 x1 x5).f0) ((rd_T65 x1 x5).f1) ((rd_T65 x1 x5).f2) ((rd_T65 x1 x5).f3) ((rd_T65 x1 x5).f4) ((rd_T65 x1 x5).f5) ((rd_T65 x1 x5).f6) ((rd_T65 x1 x5).f7)).bind fun t497 => (if t497 = true then (laws_eqCallS.l0 k x0 x1 (wrap64 (x5 + 1))) else (some false))) else (none)) else (none)) else (some true)
def laws_eqCallS.f (k : Nat) (l0 : List (S65)) (l1 : List (S65)) : Option (Bool) := if (l0.length : Int) = (l1.length : Int) then (laws_eqCallS.l0 k l0 l1 0) else (some false)
theorem laws_eqCallS.mono_l : ∀ k, (∀ y0 y1 y2, LeO (laws_eqCallS.l0 k y0 y1 y2) (laws_eqCallS.l0 (k + 1) y0 y1 y2))
 | 0 => fun _ _ _ r h => by simp [laws_eqCallS.l0] at h
 | k + 1 => by
  have ih0 := laws_eqCallS.mono_l k
  ·intro y0 y1 y2
   unfold laws_eqCallS.l0
   repeat' first
   | (with_reducible exact ih0 _ _ _)
   | (with_reducible exact laws_eqCall.mono _ _ _ _ _ _ _ _ _ _ _ _ _ _ _ _ _)
   | (with_reducible first | exact LeO.refl _ | exact LeO.none _ | refine LeO.ite ?_ ?_ | refine LeO.bind ?_ (fun _ => ?_))
   | refine LeO.ite ?_ ?_
   | refine LeO.bind ?_ (fun _ => ?_)
theorem laws_eqCallS.mono : ∀ a0 a1 k, LeO (laws_eqCallS.f k a0 a1) (laws_eqCallS.f (k + 1) a0 a1) := by
 intro a0 a1 k
 have ih0 := laws_eqCallS.mono_l k
 unfold laws_eqCallS.f
 repeat' first
   | (with_reducible exact ih0 _ _ _)
   | (with_reducible exact laws_eqCall.mono _ _ _ _ _ _ _ _ _ _ _ _ _ _ _ _ _)
   | (with_reducible first | exact LeO.refl _ | exact LeO.none _ | refine LeO.ite ?_ ?_ | refine LeO.bind ?_ (fun _ => ?_))
   | refine LeO.ite ?_ ?_
   | refine LeO.bind ?_ (fun _ => ?_)
def laws_eqCallS.T6 : Bool × List (List Nat × List Nat) := (true, [([], []), ([], []), ([0, 1], [0, 1]), ([2], [2]), ([], []), ([], []), ([4, 5], [4, 5]), ([6], [6]), ([3, 7], [3, 7]), ([8], [8])])
def laws_eqCallS.B6 : List Nat := [0, 0, 3, 7, 0, 0, 48, 112, 255, 511]
theorem laws_eqCallS.tab6 : rtab .any (opsOf Tryd.f11 6) = laws_eqCallS.T6 := by kernel_rfl
theorem laws_eqCallS.bits6 : waitsOk laws_eqCallS.T6.2 laws_eqCallS.B6 = true := by kernel_rfl
theorem laws_eqCallS.calls (k : Nat) (A0 : Option Addr) (c0 : Nat) (l0 : List (S65)) (A1 : Option Addr) (c1 : Nat) (l1 : List (S65)) (w : World) (hr0 : Kd.C k65 w A0 l0.length l0) (hc0 : l0.length ≤ c0) (hr1 : Kd.C k65 w A1 l1.length l1) (hc1 : l1.length ≤ c1) (h : laws_eqCallS.f k l0 l1 = some true) :
  Calls Tryd.prog 11 #[.slice A0 l0.length c0, .slice A1 l1.length c1] w fun e w' => e = .returned (.bool true) ∧ Below w.heap.size w w' := by
 have hu65 := Tryd.underlying65
 have HR0 := Aside0.mk hr0
 have HC0 := Aside0.mk hc0
 clear hr0 hc0
 have HR1 := Aside0.mk hr1
 have HC1 := Aside0.mk hc1
 clear hr1 hc1
 have HB := Aside0.mk (Below.refl w.heap.size w)
 have H := h; unfold laws_eqCallS.f at H
 clear h
 by_cases c3 : (l0.length : Int) = (l1.length : Int)
 ·rw [if_pos c3] at H
  have c3b0 := beq_iff_eq.mpr c3
  have c3b1 := bne_eq_false_iff_eq.mpr c3
  have c3b2 : (l0.length == l1.length) = true := by first | simpa using c3 | (simp at c3 ⊢; omega)
  clear c3
  have H' := Aside0.mk H
  clear H
  go_enter Tryd.func11, Tryd.ntmps11
  go_wp2
  go_loopg [5] k (fun kq v5 w' => ∃ (x5_1 : Int), v5 = .int .i64 x5_1 ∧ Aside0 (laws_eqCallS.l0 kq l0 l1 x5_1 = some true) ∧ Aside0 (kq ≤ k) ∧ Aside0 (Below w.heap.size w w'))
  case atStart => exact ⟨(0), rf_, H', ⟨Nat.le_refl _⟩, ⟨bl_⟩⟩
  case round =>
   clear H'
   try clear c1
   try clear p2
   try clear c3
   try clear c3b0
   try clear c3b1
   try clear c3b2
   obtain ⟨x5_1, rfl, HA, HK1, HB⟩ := hrel
   cases gk with
   | zero => exact absurd HA.out (by simp [laws_eqCallS.l0])
   | succ k1 =>
    have H := HA.out
    clear HA
    simp only [laws_eqCallS.l0] at H
    by_cases c4 : x5_1 < (l0.length : Int)
    ·rw [if_pos c4] at H
     have c4b0 := decide_eq_true c4
     clear c4
     by_cases c5 : 0 ≤ x5_1
     ·rw [if_pos c5] at H
      have c5b0 := decide_eq_true c5
      clear c5
      by_cases c6 : x5_1 < (l1.length : Int)
      ·rw [if_pos c6] at H
       have c6b0 := decide_eq_true c6
       clear c6
       obtain ⟨t497, A7, H⟩ := bs_ H
       by_cases c8 : t497 = true
       ·subst c8
        (try rw [if_pos rfl] at H)
        have H' := Aside0.mk H
        clear H
        try go_wp2
        replace HB := hd_ HB
        have p495 : 0 ≤ (x5_1 : Int) := od_
        have q495 : x5_1 < (l0.length : Int) := od_
        obtain ⟨ad495, A495_5, c495_5, e495, hx495_0, hx495_1, hx495_2, hx495_3, hx495_4, hx495_5, hx495_6, hx495_7, hl495_5, hi495_5⟩ := at_T65 HR0.out x5_1 p495 q495
        have hw495_7 := hx495_7
        have hw495_6 := hx495_6
        have hw495_5 := hx495_5
        have hw495_4 := hx495_4
        have hw495_3 := hx495_3
        have hw495_2 := hx495_2
        have hw495_1 := hx495_1
        have hw495_0 := hx495_0
        cases e495
        replace hx495_0 := cu_ HB hx495_0
        replace hx495_1 := cu_ HB hx495_1
        replace hx495_2 := cu_ HB hx495_2
        replace hx495_3 := cu_ HB hx495_3
        replace hx495_4 := cu_ HB hx495_4
        replace hx495_5 := cu_ HB hx495_5
        replace hx495_6 := cu_ HB hx495_6
        replace hx495_7 := cu_ HB hx495_7
        have HR495_5 := Aside0.mk hi495_5
        have HC495_5 := Aside0.mk hl495_5
        clear hi495_5 hl495_5
        replace p495 := eq_true p495
        replace q495 := eq_true q495
        have p496 : 0 ≤ (x5_1 : Int) := od_
        have q496 : x5_1 < (l1.length : Int) := od_
        obtain ⟨ad496, A496_5, c496_5, e496, hx496_0, hx496_1, hx496_2, hx496_3, hx496_4, hx496_5, hx496_6, hx496_7, hl496_5, hi496_5⟩ := at_T65 HR1.out x5_1 p496 q496
        have hw496_7 := hx496_7
        have hw496_6 := hx496_6
        have hw496_5 := hx496_5
        have hw496_4 := hx496_4
        have hw496_3 := hx496_3
        have hw496_2 := hx496_2
        have hw496_1 := hx496_1
        have hw496_0 := hx496_0
        cases e496
        replace hx496_0 := cu_ HB hx496_0
        replace hx496_1 := cu_ HB hx496_1
        replace hx496_2 := cu_ HB hx496_2
        replace hx496_3 := cu_ HB hx496_3
        replace hx496_4 := cu_ HB hx496_4
        replace hx496_5 := cu_ HB hx496_5
        replace hx496_6 := cu_ HB hx496_6
        replace hx496_7 := cu_ HB hx496_7
        have HR496_5 := Aside0.mk hi496_5
        have HC496_5 := Aside0.mk hl496_5
        clear hi496_5 hl496_5
        replace p496 := eq_true p496
        replace q496 := eq_true q496
        refine start_ (n := 10) (S := fun w' => w'.cell? (ad495.add ((x5_1).toNat * 8)) = some (.int .i64 ((rd_T65 l0 x5_1).f0)) ∧ w'.cell? ⟨(ad495.add ((x5_1).toNat * 8)).block, (ad495.add ((x5_1).toNat * 8)).off + 1, none⟩ = some (.string ((rd_T65 l0 x5_1).f1)) ∧ w'.cell? ⟨(ad495.add ((x5_1).toNat * 8)).block, (ad495.add ((x5_1).toNat * 8)).off + 2, none⟩ = some (.string ((rd_T65 l0 x5_1).f2)) ∧ w'.cell? ⟨(ad495.add ((x5_1).toNat * 8)).block, (ad495.add ((x5_1).toNat * 8)).off + 3, none⟩ = some (.string ((rd_T65 l0 x5_1).f3)) ∧ w'.cell? ⟨(ad495.add ((x5_1).toNat * 8)).block, (ad495.add ((x5_1).toNat * 8)).off + 4, none⟩ = some (.int .i64 ((rd_T65 l0 x5_1).f4)) ∧ w'.cell? ⟨(ad495.add ((x5_1).toNat * 8)).block, (ad495.add ((x5_1).toNat * 8)).off + 5, none⟩ = some (.slice A495_5 ((rd_T65 l0 x5_1).f5).length c495_5) ∧ w'.cell? ⟨(ad495.add ((x5_1).toNat * 8)).block, (ad495.add ((x5_1).toNat * 8)).off + 6, none⟩ = some (.int .i64 ((rd_T65 l0 x5_1).f6)) ∧ w'.cell? ⟨(ad495.add ((x5_1).toNat * 8)).block, (ad495.add ((x5_1).toNat * 8)).off + 7, none⟩ = some (.string ((rd_T65 l0 x5_1).f7)) ∧ w'.cell? (ad496.add ((x5_1).toNat * 8)) = some (.int .i64 ((rd_T65 l1 x5_1).f0)) ∧ w'.cell? ⟨(ad496.add ((x5_1).toNat * 8)).block, (ad496.add ((x5_1).toNat * 8)).off + 1, none⟩ = some (.string ((rd_T65 l1 x5_1).f1)) ∧ w'.cell? ⟨(ad496.add ((x5_1).toNat * 8)).block, (ad496.add ((x5_1).toNat * 8)).off + 2, none⟩ = some (.string ((rd_T65 l1 x5_1).f2)) ∧ w'.cell? ⟨(ad496.add ((x5_1).toNat * 8)).block, (ad496.add ((x5_1).toNat * 8)).off + 3, none⟩ = some (.string ((rd_T65 l1 x5_1).f3)) ∧ w'.cell? ⟨(ad496.add ((x5_1).toNat * 8)).block, (ad496.add ((x5_1).toNat * 8)).off + 4, none⟩ = some (.int .i64 ((rd_T65 l1 x5_1).f4)) ∧ w'.cell? ⟨(ad496.add ((x5_1).toNat * 8)).block, (ad496.add ((x5_1).toNat * 8)).off + 5, none⟩ = some (.slice A496_5 ((rd_T65 l1 x5_1).f5).length c496_5) ∧ w'.cell? ⟨(ad496.add ((x5_1).toNat * 8)).block, (ad496.add ((x5_1).toNat * 8)).off + 6, none⟩ = some (.int .i64 ((rd_T65 l1 x5_1).f6)) ∧ w'.cell? ⟨(ad496.add ((x5_1).toNat * 8)).block, (ad496.add ((x5_1).toNat * 8)).off + 7, none⟩ = some (.string ((rd_T65 l1 x5_1).f7))) (ds := []) (fl 10 0) (by kernel_rfl) rfl rfl ⟨(cu_ HB hw495_0), (cu_ HB hw495_1), (cu_ HB hw495_2), (cu_ HB hw495_3), (cu_ HB hw495_4), (cu_ HB hw495_5), (cu_ HB hw495_6), (cu_ HB hw495_7), (cu_ HB hw496_0), (cu_ HB hw496_1), (cu_ HB hw496_2), (cu_ HB hw496_3), (cu_ HB hw496_4), (cu_ HB hw496_5), (cu_ HB hw496_6), (cu_ HB hw496_7)⟩ (fun hHeld => ?_); refine with_tabW laws_eqCallS.tab6 laws_eqCallS.bits6 (fun HT_ HW_ => ?_)
        generalize wr.drew = w9 at HB HR495_5 HR496_5 hx495_0 hx495_1 hx495_2 hx495_3 hx495_4 hx495_5 hx495_6 hx495_7 hx496_0 hx496_1 hx496_2 hx496_3 hx496_4 hx496_5 hx496_6 hx496_7 hHeld ⊢
        refine pq_ 0 17 (fl 10 1) HT_.out ?_
        refine pq_ 1 18 (fl 10 3) HT_.out ?_
        refine pq_ 2 19 (fl 10 7) HT_.out ?_
        refine pq_ 4 21 (fl 10 23) HT_.out ?_
        refine pq_ 5 22 (fl 10 55) HT_.out ?_
        refine pq_ 6 23 (fl 10 119) HT_.out ?_
        refine tq_ 3 20 (fl 10 127) HT_.out HW_.out hHeld ?_
        refine tq_ 7 24 (fl 10 255) HT_.out HW_.out hHeld ?_
        refine one_ (i := 8) (N := some 25) (fl 10 511) rfl rfl (one_of HT_.out (by kernel_rfl)) (by decide) (fun K hK => ?_)
        refine go_ Tryd.func38 #[.agg #[.int .i64 ((rd_T65 l0 x5_1).f0), .string ((rd_T65 l0 x5_1).f1), .string ((rd_T65 l0 x5_1).f2), .string ((rd_T65 l0 x5_1).f3), .int .i64 ((rd_T65 l0 x5_1).f4), .slice A495_5 ((rd_T65 l0 x5_1).f5).length c495_5, .int .i64 ((rd_T65 l0 x5_1).f6), .string ((rd_T65 l0 x5_1).f7)], .agg #[.int .i64 ((rd_T65 l1 x5_1).f0), .string ((rd_T65 l1 x5_1).f1), .string ((rd_T65 l1 x5_1).f2), .string ((rd_T65 l1 x5_1).f3), .int .i64 ((rd_T65 l1 x5_1).f4), .slice A496_5 ((rd_T65 l1 x5_1).f5).length c496_5, .int .i64 ((rd_T65 l1 x5_1).f6), .string ((rd_T65 l1 x5_1).f7)]] ?_
        with_reducible refine (laws_eqCall.calls k1 ((rd_T65 l0 x5_1).f0) ((rd_T65 l0 x5_1).f1) ((rd_T65 l0 x5_1).f2) ((rd_T65 l0 x5_1).f3) ((rd_T65 l0 x5_1).f4) _ _ ((rd_T65 l0 x5_1).f5) ((rd_T65 l0 x5_1).f6) ((rd_T65 l0 x5_1).f7) ((rd_T65 l1 x5_1).f0) ((rd_T65 l1 x5_1).f1) ((rd_T65 l1 x5_1).f2) ((rd_T65 l1 x5_1).f3) ((rd_T65 l1 x5_1).f4) _ _ ((rd_T65 l1 x5_1).f5) ((rd_T65 l1 x5_1).f6) ((rd_T65 l1 x5_1).f7)  _ ?side1 ?side2 ?side3 ?side4 A7.out).mono ?_
        (case side1 => exact (Kd.C_below HR495_5.out HB.out))
        (case side2 => exact HC495_5.out)
        (case side3 => exact (Kd.C_below HR496_5.out HB.out))
        (case side4 => exact HC496_5.out)
        rintro e w10 ⟨rfl, hb⟩
        refine ⟨_, rfl, ?_⟩
        replace HB := hb_ HB hb
        try clear hb
        refine hK.out _ _ ⟨(cu_ HB hw495_0), (cu_ HB hw495_1), (cu_ HB hw495_2), (cu_ HB hw495_3), (cu_ HB hw495_4), (cu_ HB hw495_5), (cu_ HB hw495_6), (cu_ HB hw495_7), (cu_ HB hw496_0), (cu_ HB hw496_1), (cu_ HB hw496_2), (cu_ HB hw496_3), (cu_ HB hw496_4), (cu_ HB hw496_5), (cu_ HB hw496_6), (cu_ HB hw496_7)⟩ (fun hHeld => ?_)
        clear hK K
        refine nq_ ?_
        refine pq_ 9 26 (fl 10 1023) HT_.out ?_
        refine done_ (done_of HT_.out (by kernel_rfl)) ?_
        try go_wp2
        go_roundg k1
        case measure => have := HK1.out; omega
        case rel => exact ⟨(wrap64 (x5_1 + 1)), rf_, H', ⟨by have := HK1.out; omega⟩, ⟨bl_⟩⟩
       ·replace c8 := Bool.eq_false_iff.mpr c8
        subst c8
        (try rw [if_neg (show ¬ (false = true) by decide)] at H)
        exact absurd H (by simp)
      ·rw [if_neg c6] at H
       exact absurd H (by simp)
     ·rw [if_neg c5] at H
      exact absurd H (by simp)
    ·rw [if_neg c4] at H
     have c4b0 := decide_eq_false c4
     clear c4
     clear H
     go_wp2
     go_ret
     exact ⟨re_, bl_⟩
 ·rw [if_neg c3] at H
  have c3b0 := beq_eq_false_iff_ne.mpr c3
  have c3b1 := bne_iff_ne.mpr c3
  have c3b2 : (l0.length == l1.length) = false := by first | simpa using c3 | (simp at c3 ⊢; omega)
  exact absurd H (by simp)

/-! ### laws_eqMail: function 81 -/
def laws_eqMail.f (a0_0 : Int) (a0_1 : Int) (a0_2 : ByteArray) (a1_0 : Int) (a1_1 : Int) (a1_2 : ByteArray) : Option (Bool) := if a0_0 = a1_0 then (if a0_1 = a1_1 then (if a0_2.toList = a1_2.toList then (some true) else (some false)) else (some false)) else (some false)
theorem laws_eqMail.calls (a0_0 : Int) (a0_1 : Int) (a0_2 : ByteArray) (a1_0 : Int) (a1_1 : Int) (a1_2 : ByteArray) (w : World) (h : laws_eqMail.f a0_0 a0_1 a0_2 a1_0 a1_1 a1_2 = some true) :
  Calls Tryd.prog 81 #[.agg #[.int .i64 a0_0, .int .i64 a0_1, .string a0_2], .agg #[.int .i64 a1_0, .int .i64 a1_1, .string a1_2]] w fun e w' => e = .returned (.bool true) ∧ Below w.heap.size w w' := by
 have hu101 := Tryd.underlying101
 have HB := Aside0.mk (Below.refl w.heap.size w)
 have H := h; unfold laws_eqMail.f at H
 clear h
 by_cases c3 : a0_0 = a1_0
 ·rw [if_pos c3] at H
  have c3b0 := beq_iff_eq.mpr c3
  have c3b1 := bne_eq_false_iff_eq.mpr c3
  clear c3
  by_cases c4 : a0_1 = a1_1
  ·rw [if_pos c4] at H
   have c4b0 := beq_iff_eq.mpr c4
   have c4b1 := bne_eq_false_iff_eq.mpr c4
   clear c4
   by_cases c5 : a0_2.toList = a1_2.toList
   ·rw [if_pos c5] at H
    have c5b0 := beq_iff_eq.mpr c5
    have c5b1 := bne_eq_false_iff_eq.mpr c5
    clear c5
    clear H
    go_enter Tryd.func81, Tryd.ntmps81
    go_wp2_with (first | ((with_reducible refine gd_ 2 ?_); refine bx_ 2 101 #[.int .i64 a0_0, .int .i64 a0_1, .string a0_2] ?_; intro gb498 hg w6 hbox hb; have BK498 := Aside0.mk (hbox); have GE498 := ge_ hg HB; replace HB := hb_ HB hb; clear hb hbox hg) | ((with_reducible refine gd_ 3 ?_); refine bx_ 3 101 #[.int .i64 a1_0, .int .i64 a1_1, .string a1_2] ?_; intro gb499 hg w7 hbox hb; have BK499 := Aside0.mk (hbox); have GE499 := ge_ hg HB; replace HB := hb_ HB hb; have NB498_499 := nl_ hg BK498; have NB499_498 := ng_ hg BK498; replace BK498 := bb_ BK498 hb; clear hb hbox hg; have hnb8 := NB498_499.out; have hnc8 := NB499_498.out; have hcz9 := blk_cell BK498.out; have hfz9 := blk_frozen BK498.out; have hcz10 := blk_cell BK499.out; have hfz10 := blk_frozen BK499.out))
    go_ret
    exact ⟨re_, bl_⟩
   ·rw [if_neg c5] at H
    have c5b0 := beq_eq_false_iff_ne.mpr c5
    have c5b1 := bne_iff_ne.mpr c5
    exact absurd H (by simp)
  ·rw [if_neg c4] at H
   have c4b0 := beq_eq_false_iff_ne.mpr c4
   have c4b1 := bne_iff_ne.mpr c4
   exact absurd H (by simp)
 ·rw [if_neg c3] at H
  have c3b0 := beq_eq_false_iff_ne.mpr c3
  have c3b1 := bne_iff_ne.mpr c3
  exact absurd H (by simp)

end Go.Proofs.YtdokcckgnamnfaaDoor.QFnExactStepBring
