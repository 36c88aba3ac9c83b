-- Written by a program of this session (myprint) out of Lean's own print of the translation. Lean checks it.
import Derived.Test.YtdokcckgnamnfaaDoorAge
import Derived.Test.YtdokcckgnamnfaaDoorShorter
import Derived.Test.YtdokcckgnamnfaaDoorSteps
import Derived.Test.YtdokcckgnamnfaaDoorQFnExactStepBringx0
import Derived.Test.YtdokcckgnamnfaaDoorQFnExactStepBringx1
import Derived.Test.YtdokcckgnamnfaaDoorQFnExactStepBringx5
import Derived.Test.YtdokcckgnamnfaaDoorQFnExactStepBringx6
import Derived.Test.YtdokcckgnamnfaaDoorQFnExactStepBringx9
import Derived.Test.YtdokcckgnamnfaaDoorQFnExactStepBringx10
import Derived.Test.YtdokcckgnamnfaaDoorQFnExactStepBringx11
import Derived.Test.YtdokcckgnamnfaaDoorQFnExactStepBringx12
import Derived.Test.YtdokcckgnamnfaaDoorQFnExactStepBringx13
import Derived.Test.YtdokcckgnamnfaaDoorQFnExactStepBringx14
namespace Go.Proofs.YtdokcckgnamnfaaDoor.QFnExactStepBring
open Go.Proofs.YtdokcckgnamnfaaDoorF
open Go.RowKit Go.Proofs.YtdokcckgnamnfaaDoorW.PrintWords Go.Proofs.YtdokcckgnamnfaaDoorW.PrintLast Go.Proofs.YtdokcckgnamnfaaDoorW.PrintMore
attribute [local go_sem] max2_int min2_int max_two min_two max_three min_three max_four min_four   -- for this text's walks alone
set_option maxHeartbeats 0
set_option maxRecDepth 100000
set_option linter.unusedVariables false
set_option linter.unusedSimpArgs false

def laws_FnExactStepBring.f (k : Nat) (a0_0 : Int) (a0_1 : ByteArray) (l0_2 : List ByteArray) (l0_3 : List ByteArray) (l1_0 : List (S73)) (a2 : ByteArray) : Option (Bool) := if (a2.size : Int) > 1048576 then (some true) else ((laws_szBring.f k a0_0 a0_1 l0_2 l0_3 1048576).bind fun t576 => (if t576 < 0 then (some true) else ((laws_szState.f k l1_0 t576).bind fun t577 => (if t577 < 0 then (some true) else ((laws_toBring.f k a0_0 a0_1 l0_2 l0_3).bind fun bt578 => ((laws_toState.f k l1_0).bind fun t586 => ((spec_StepBring.f k bt578.1 bt578.2.1 bt578.2.2.1 bt578.2.2.2 t586 a2).bind fun bt589 => ((laws_toBring.f k a0_0 a0_1 l0_2 l0_3).bind fun bt603 => ((laws_toState.f k l1_0).bind fun t612 => ((impl_StepBring.f k bt603.1 bt603.2.1 bt603.2.2.1 bt603.2.2.2 t612 a2).bind fun bt616 => ((laws_eqBring.f k bt616.1 bt616.2.1 bt616.2.2.1 bt616.2.2.2.1 bt589.1 bt589.2.1 bt589.2.2.1 bt589.2.2.2.1).bind fun t630 => (if t630 = true then (if bt616.2.2.2.2.1.toList = bt589.2.2.2.2.1.toList then (if bt616.2.2.2.2.2.1.toList = bt589.2.2.2.2.2.1.toList then ((laws_eqCallS.f k bt616.2.2.2.2.2.2 bt589.2.2.2.2.2.2).bind fun t631 => (if t631 = true then ((laws_toBring.f k a0_0 a0_1 l0_2 l0_3).bind fun bt632 => ((laws_eqBring.f k bt603.1 bt603.2.1 bt603.2.2.1 bt603.2.2.2 bt632.1 bt632.2.1 bt632.2.2.1 bt632.2.2.2).bind fun t640 => (if t640 = true then ((laws_toState.f k l1_0).bind fun t641 => ((laws_eqState.f k t612 t641).bind fun t644 => (if t644 = true then ((laws_markBring.f k bt603.1 bt603.2.1 bt603.2.2.1 bt603.2.2.2 1).bind fun bt645 => ((laws_markState.f k t612 bt645.1).bind fun bt648 => (if bt648.1 < 0 then (some false) else ((laws_eqBring.f k bt616.1 bt616.2.1 bt616.2.2.1 bt616.2.2.2.1 bt589.1 bt589.2.1 bt589.2.2.1 bt589.2.2.2.1).bind fun t650 => (if t650 = true then ((laws_eqCallS.f k bt616.2.2.2.2.2.2 bt589.2.2.2.2.2.2).bind fun t651 => (if t651 = true then ((laws_markBring.f k bt616.1 bt616.2.1 bt616.2.2.1 bt616.2.2.2.1 1).bind fun bt652 => ((laws_markCallS.f k bt616.2.2.2.2.2.2 bt652.1).bind fun bt655 => ((laws_heldBring.f k bt616.1 bt616.2.1 bt652.2.1 bt652.2.2 1).bind fun t657 => (if t657 < 0 then (some false) else ((laws_heldCallS.f k bt655.2 t657).bind fun t658 => (if t658 < 0 then (some false) else (if t658 = bt655.1 then ((laws_toBring.f k a0_0 a0_1 l0_2 l0_3).bind fun bt659 => ((laws_toState.f k l1_0).bind fun t667 => ((impl_StepBring.f k bt659.1 bt659.2.1 bt659.2.2.1 bt659.2.2.2 t667 a2).bind fun bt670 => ((laws_eqBring.f k bt670.1 bt670.2.1 bt670.2.2.1 bt670.2.2.2.1 bt589.1 bt589.2.1 bt589.2.2.1 bt589.2.2.2.1).bind fun t684 => (if t684 = true then (if bt670.2.2.2.2.1.toList = bt589.2.2.2.2.1.toList then (if bt670.2.2.2.2.2.1.toList = bt589.2.2.2.2.2.1.toList then ((laws_eqCallS.f k bt670.2.2.2.2.2.2 bt589.2.2.2.2.2.2).bind fun t685 => (if t685 = true then ((laws_heldBring.f k bt616.1 bt616.2.1 bt652.2.1 bt652.2.2 1).bind fun t686 => (if t686 < 0 then (some false) else ((laws_heldCallS.f k bt655.2 t686).bind fun t687 => (if t687 < 0 then (some false) else (if t687 = bt655.1 then (some true) else (some false)))))) else (some false))) else (some false)) else (some false)) else (some false)))))) else (some false)))))))) else (some false))) else (some false)))))) else (some false)))) else (some false)))) else (some false))) else (some false)) else (some false)) else (some false)))))))))))))
theorem laws_FnExactStepBring.mono : ∀ a0 a1 a2 a3 a4 a5 k, LeO (laws_FnExactStepBring.f k a0 a1 a2 a3 a4 a5) (laws_FnExactStepBring.f (k + 1) a0 a1 a2 a3 a4 a5) := by
 intro a0 a1 a2 a3 a4 a5 k
 unfold laws_FnExactStepBring.f
 repeat' first
   | (with_reducible exact impl_StepBring.mono _ _ _ _ _ _ _)
   | (with_reducible exact laws_eqBring.mono _ _ _ _ _ _ _ _ _)
   | (with_reducible exact laws_eqCallS.mono _ _ _)
   | (with_reducible exact laws_eqState.mono _ _ _)
   | (with_reducible exact laws_heldBring.mono _ _ _ _ _ _)
   | (with_reducible exact laws_heldCallS.mono _ _ _)
   | (with_reducible exact laws_markBring.mono _ _ _ _ _ _)
   | (with_reducible exact laws_markCallS.mono _ _ _)
   | (with_reducible exact laws_markState.mono _ _ _)
   | (with_reducible exact laws_szBring.mono _ _ _ _ _ _)
   | (with_reducible exact laws_szState.mono _ _ _)
   | (with_reducible exact laws_toBring.mono _ _ _ _ _)
   | (with_reducible exact laws_toState.mono _ _)
   | (with_reducible exact spec_StepBring.mono _ _ _ _ _ _ _)
   | (with_reducible first | exact LeO.refl _ | exact LeO.none _ | refine LeO.ite ?_ ?_ | refine LeO.bind ?_ (fun _ => ?_))
   | refine LeO.ite ?_ ?_
   | refine LeO.bind ?_ (fun _ => ?_)
def laws_FnExactStepBring.T10 : Bool × List (List Nat × List Nat) := (true, [([], []), ([0], [0]), ([], []), ([2, 1], [2]), ([], []), ([1, 3, 4, 3], [1, 3, 4]), ([5], [5]), ([6], [6]), ([6], [6]), ([6], [6]), ([6], [6]), ([], []), ([11, 7, 5, 0, 1, 2, 3, 4, 5, 6, 7, 11], [7, 11]), ([8, 12, 0, 1, 2, 3, 4, 5, 6, 7, 8, 11, 12], [8]), ([9, 13, 0, 1, 2, 3, 4, 5, 6, 7, 8, 9, 11, 12, 13], [9]), ([10, 14, 0, 1, 2, 3, 4, 5, 6, 7, 8, 9, 10, 11, 12, 13, 14], [10])])
def laws_FnExactStepBring.B10 : List Nat := [0, 1, 0, 7, 0, 31, 63, 127, 127, 127, 127, 0, 2303, 6655, 15359, 32767]
theorem laws_FnExactStepBring.tab10 : rtab .any (opsOf Tryd.f3 10) = laws_FnExactStepBring.T10 := by kernel_rfl
theorem laws_FnExactStepBring.bits10 : waitsOk laws_FnExactStepBring.T10.2 laws_FnExactStepBring.B10 = true := by kernel_rfl
def laws_FnExactStepBring.T37 : Bool × List (List Nat × List Nat) := (true, [([], []), ([0], [0]), ([], []), ([2, 1], [2]), ([], []), ([1, 3, 4, 3], [1, 3, 4]), ([5], [5]), ([6], [6]), ([6], [6]), ([6], [6]), ([6], [6]), ([], []), ([11, 7, 5, 0, 1, 2, 3, 4, 5, 6, 7, 11], [7, 11]), ([8, 12, 0, 1, 2, 3, 4, 5, 6, 7, 8, 11, 12], [8]), ([9, 13, 0, 1, 2, 3, 4, 5, 6, 7, 8, 9, 11, 12, 13], [9]), ([10, 14, 0, 1, 2, 3, 4, 5, 6, 7, 8, 9, 10, 11, 12, 13, 14], [10])])
def laws_FnExactStepBring.B37 : List Nat := [0, 1, 0, 7, 0, 31, 63, 127, 127, 127, 127, 0, 2303, 6655, 15359, 32767]
theorem laws_FnExactStepBring.tab37 : rtab .any (opsOf Tryd.f3 37) = laws_FnExactStepBring.T37 := by kernel_rfl
theorem laws_FnExactStepBring.bits37 : waitsOk laws_FnExactStepBring.T37.2 laws_FnExactStepBring.B37 = true := by kernel_rfl
theorem laws_FnExactStepBring.calls (k : Nat) (a0_0 : Int) (a0_1 : ByteArray) (A0_2 : Option Addr) (c0_2 : Nat) (l0_2 : List ByteArray) (A0_3 : Option Addr) (c0_3 : Nat) (l0_3 : List ByteArray) (A1_0 : Option Addr) (c1_0 : Nat) (l1_0 : List (S73)) (a2 : ByteArray) (w : World) (hr0_2 : Kd.C Kd.string w A0_2 l0_2.length l0_2) (hc0_2 : l0_2.length ≤ c0_2) (hr0_3 : Kd.C Kd.string w A0_3 l0_3.length l0_3) (hc0_3 : l0_3.length ≤ c0_3) (hr1_0 : Kd.C k73 w A1_0 l1_0.length l1_0) (hc1_0 : l1_0.length ≤ c1_0) (hG : GInt w) (h : laws_FnExactStepBring.f k a0_0 a0_1 l0_2 l0_3 l1_0 a2 = some true) :
  Calls Tryd.prog 3 #[.agg #[.int .i64 a0_0, .string a0_1, .slice A0_2 l0_2.length c0_2, .slice A0_3 l0_3.length c0_3], .agg #[.slice A1_0 l1_0.length c1_0], .string a2] w fun e w' => e = .returned (.bool true) ∧ Below w.heap.size w w' := by
 have hu24 := Tryd.underlying24
 have hu27 := Tryd.underlying27
 have hu30 := Tryd.underlying30
 have hu37 := Tryd.underlying37
 have HG := Aside0.mk hG
 clear hG
 have HR0_2 := Aside0.mk hr0_2
 have HC0_2 := Aside0.mk hc0_2
 clear hr0_2 hc0_2
 have HR0_3 := Aside0.mk hr0_3
 have HC0_3 := Aside0.mk hc0_3
 clear hr0_3 hc0_3
 have HR1_0 := Aside0.mk hr1_0
 have HC1_0 := Aside0.mk hc1_0
 clear hr1_0 hc1_0
 have HB := Aside0.mk (Below.refl w.heap.size w)
 have H := h; unfold laws_FnExactStepBring.f at H
 clear h
 by_cases c4 : (a2.size : Int) > 1048576
 ·rw [if_pos c4] at H
  have c4b0 : decide (1048576 < (a2.size : Int)) = true := decide_eq_true c4
  have c4b1 : decide (1048576 < a2.size) = true := decide_eq_true (by omega)
  clear c4
  clear H
  go_enter Tryd.func3, Tryd.ntmps3
  go_wp2_with (first | (refine lr_ 24 3 BK574 hu24 ?_) | (refine lr_ 27 4 BK575 hu27 ?_) | ((with_reducible refine gd_ 3 ?_); refine bx_ 3 24 #[.int .i64 a0_0, .string a0_1, .slice A0_2 l0_2.length c0_2, .slice A0_3 l0_3.length c0_3] ?_; intro gb574 hg w5 hbox hb; have BK574 := Aside0.mk (hbox); have GE574 := gel_ hg; replace HB := hbl_ hb; clear hb hbox hg) | ((with_reducible refine gd_ 4 ?_); refine bx_ 4 27 #[.slice A1_0 l1_0.length c1_0] ?_; intro gb575 hg w6 hbox hb; have BK575 := Aside0.mk (hbox); have GE575 := gel_ hg; replace HB := hbl_ hb; replace BK574 := bbl_ BK574 hb; clear hb hbox hg))
  go_ret
  exact ⟨re_, bl_⟩
 ·rw [if_neg c4] at H
  have c4b0 : decide (1048576 < (a2.size : Int)) = false := decide_eq_false c4
  have c4b1 : decide (1048576 < a2.size) = false := decide_eq_false (by omega)
  clear c4
  obtain ⟨t576, A7, H⟩ := bs_ H
  by_cases c8 : t576 < 0
  ·rw [if_pos c8] at H
   have c8b0 := decide_eq_true c8
   clear c8
   clear H
   go_enter Tryd.func3, Tryd.ntmps3
   go_wp2_with (first | (refine lr_ 24 3 BK574 hu24 ?_) | (refine lr_ 27 4 BK575 hu27 ?_) | ((with_reducible refine gd_ 3 ?_); refine bx_ 3 24 #[.int .i64 a0_0, .string a0_1, .slice A0_2 l0_2.length c0_2, .slice A0_3 l0_3.length c0_3] ?_; intro gb574 hg w9 hbox hb; have BK574 := Aside0.mk (hbox); have GE574 := gel_ hg; replace HB := hbl_ hb; clear hb hbox hg) | ((with_reducible refine gd_ 4 ?_); refine bx_ 4 27 #[.slice A1_0 l1_0.length c1_0] ?_; intro gb575 hg w10 hbox hb; have BK575 := Aside0.mk (hbox); have GE575 := gel_ hg; replace HB := hbl_ hb; have NB574_575 := nl_ hg BK574; have NB575_574 := ng_ hg BK574; replace BK574 := bbl_ BK574 hb; clear hb hbox hg; have hnb11 := NB574_575.out; have hnc11 := NB575_574.out; have hcz12 := blk_cell BK574.out; have hfz12 := blk_frozen BK574.out) | ((with_reducible refine gc_ 4 ?_); refine gl_ (some 30) Tryd.func4 #[.agg #[.int .i64 a0_0, .string a0_1, .slice A0_2 l0_2.length c0_2, .slice A0_3 l0_3.length c0_3], .int .i64 1048576] ?_; (with_reducible refine (laws_szBring.calls k a0_0 a0_1 _ _ l0_2 _ _ l0_3 1048576 t576 _ ?side1 ?side2 ?side3 ?side4 A7.out).mono ?_); (case side1 => exact cb_ HR0_2); (case side2 => exact HC0_2.out); (case side3 => exact cb_ HR0_3); (case side4 => exact HC0_3.out); rintro e w13 ⟨rfl, hb⟩; refine ⟨_, rfl, ?_⟩; replace BK574 := bbl_ BK574 hb; replace BK575 := bbl_ BK575 hb; replace HB := hbl_ hb; try clear hb; try clear hi))
   go_ret
   exact ⟨re_, bl_⟩
  ·rw [if_neg c8] at H
   have c8b0 := decide_eq_false c8
   clear c8
   obtain ⟨t577, A14, H⟩ := bs_ H
   by_cases c15 : t577 < 0
   ·rw [if_pos c15] at H
    have c15b0 := decide_eq_true c15
    clear c15
    clear H
    go_enter Tryd.func3, Tryd.ntmps3
    go_wp2_with (first | (refine lr_ 24 3 BK574 hu24 ?_) | (refine lr_ 27 4 BK575 hu27 ?_) | ((with_reducible refine gd_ 3 ?_); refine bx_ 3 24 #[.int .i64 a0_0, .string a0_1, .slice A0_2 l0_2.length c0_2, .slice A0_3 l0_3.length c0_3] ?_; intro gb574 hg w16 hbox hb; have BK574 := Aside0.mk (hbox); have GE574 := gel_ hg; replace HB := hbl_ hb; clear hb hbox hg) | ((with_reducible refine gd_ 4 ?_); refine bx_ 4 27 #[.slice A1_0 l1_0.length c1_0] ?_; intro gb575 hg w17 hbox hb; have BK575 := Aside0.mk (hbox); have GE575 := gel_ hg; replace HB := hbl_ hb; have NB574_575 := nl_ hg BK574; have NB575_574 := ng_ hg BK574; replace BK574 := bbl_ BK574 hb; clear hb hbox hg; have hnb18 := NB574_575.out; have hnc18 := NB575_574.out; have hcz19 := blk_cell BK574.out; have hfz19 := blk_frozen BK574.out) | ((with_reducible refine gc_ 4 ?_); refine gl_ (some 30) Tryd.func4 #[.agg #[.int .i64 a0_0, .string a0_1, .slice A0_2 l0_2.length c0_2, .slice A0_3 l0_3.length c0_3], .int .i64 1048576] ?_; (with_reducible refine (laws_szBring.calls k a0_0 a0_1 _ _ l0_2 _ _ l0_3 1048576 t576 _ ?side1 ?side2 ?side3 ?side4 A7.out).mono ?_); (case side1 => exact cb_ HR0_2); (case side2 => exact HC0_2.out); (case side3 => exact cb_ HR0_3); (case side4 => exact HC0_3.out); rintro e w20 ⟨rfl, hb⟩; refine ⟨_, rfl, ?_⟩; replace BK574 := bbl_ BK574 hb; replace BK575 := bbl_ BK575 hb; replace HB := hbl_ hb; try clear hb; have hcz21 := blk_cell BK575.out; have hfz21 := blk_frozen BK575.out) | ((with_reducible refine gc_ 5 ?_); refine gl_ (some 35) Tryd.func5 #[.agg #[.slice A1_0 l1_0.length c1_0], .int .i64 t576] ?_; (with_reducible refine (laws_szState.calls k _ _ l1_0 t576 t577 _ ?side1 ?side2 A14.out).mono ?_); (case side1 => exact cb_ HR1_0); (case side2 => exact HC1_0.out); rintro e w22 ⟨rfl, hb⟩; refine ⟨_, rfl, ?_⟩; replace BK574 := bbl_ BK574 hb; replace BK575 := bbl_ BK575 hb; replace HB := hbl_ hb; try clear hb; try clear hi))
    go_ret
    exact ⟨re_, bl_⟩
   ·rw [if_neg c15] at H
    have c15b0 := decide_eq_false c15
    clear c15
    obtain ⟨⟨t578, t579, t580, t583⟩, A23, H⟩ := bs_ H
    (try set_option simprocs false in dsimp only at H)
    obtain ⟨t586, A24, H⟩ := bs_ H
    obtain ⟨⟨t589, t590, t591, t594, t597, t598, t599⟩, A25, H⟩ := bs_ H
    (try set_option simprocs false in dsimp only at H)
    obtain ⟨⟨t603, t604, t605, t608⟩, A26, H⟩ := bs_ H
    (try set_option simprocs false in dsimp only at H)
    obtain ⟨t612, A27, H⟩ := bs_ H
    obtain ⟨⟨t616, t617, t618, t621, t624, t625, t626⟩, A28, H⟩ := bs_ H
    (try set_option simprocs false in dsimp only at H)
    obtain ⟨t630, A29, H⟩ := bs_ H
    by_cases c30 : t630 = true
    ·subst c30
     (try rw [if_pos rfl] at H)
     by_cases c31 : t624.toList = t597.toList
     ·rw [if_pos c31] at H
      have c31b0 := beq_iff_eq.mpr c31
      have c31b1 := bne_eq_false_iff_eq.mpr c31
      clear c31
      by_cases c32 : t625.toList = t598.toList
      ·rw [if_pos c32] at H
       have c32b0 := beq_iff_eq.mpr c32
       have c32b1 := bne_eq_false_iff_eq.mpr c32
       clear c32
       obtain ⟨t631, A33, H⟩ := bs_ H
       by_cases c34 : t631 = true
       ·subst c34
        (try rw [if_pos rfl] at H)
        obtain ⟨⟨t632, t633, t634, t637⟩, A35, H⟩ := bs_ H
        (try set_option simprocs false in dsimp only at H)
        obtain ⟨t640, A36, H⟩ := bs_ H
        by_cases c37 : t640 = true
        ·subst c37
         (try rw [if_pos rfl] at H)
         obtain ⟨t641, A38, H⟩ := bs_ H
         obtain ⟨t644, A39, H⟩ := bs_ H
         by_cases c40 : t644 = true
         ·subst c40
          (try rw [if_pos rfl] at H)
          obtain ⟨⟨t645, t646, t647⟩, A41, H⟩ := bs_ H
          (try set_option simprocs false in dsimp only at H)
          obtain ⟨⟨t648, t649⟩, A42, H⟩ := bs_ H
          (try set_option simprocs false in dsimp only at H)
          by_cases c43 : t648 < 0
          ·rw [if_pos c43] at H
           have c43b0 := decide_eq_true c43
           clear c43
           exact absurd H (by simp)
          ·rw [if_neg c43] at H
           have c43b0 := decide_eq_false c43
           clear c43
           obtain ⟨t650, A44, H⟩ := bs_ H
           by_cases c45 : t650 = true
           ·subst c45
            (try rw [if_pos rfl] at H)
            obtain ⟨t651, A46, H⟩ := bs_ H
            by_cases c47 : t651 = true
            ·subst c47
             (try rw [if_pos rfl] at H)
             obtain ⟨⟨t652, t653, t654⟩, A48, H⟩ := bs_ H
             (try set_option simprocs false in dsimp only at H)
             obtain ⟨⟨t655, t656⟩, A49, H⟩ := bs_ H
             (try set_option simprocs false in dsimp only at H)
             obtain ⟨t657, A50, H⟩ := bs_ H
             by_cases c51 : t657 < 0
             ·rw [if_pos c51] at H
              have c51b0 := decide_eq_true c51
              clear c51
              exact absurd H (by simp)
             ·rw [if_neg c51] at H
              have c51b0 := decide_eq_false c51
              clear c51
              obtain ⟨t658, A52, H⟩ := bs_ H
              by_cases c53 : t658 < 0
              ·rw [if_pos c53] at H
               have c53b0 := decide_eq_true c53
               clear c53
               exact absurd H (by simp)
              ·rw [if_neg c53] at H
               have c53b0 := decide_eq_false c53
               clear c53
               by_cases c54 : t658 = t655
               ·rw [if_pos c54] at H
                have c54b0 := beq_iff_eq.mpr c54
                have c54b1 := bne_eq_false_iff_eq.mpr c54
                clear c54
                obtain ⟨⟨t659, t660, t661, t664⟩, A55, H⟩ := bs_ H
                (try set_option simprocs false in dsimp only at H)
                obtain ⟨t667, A56, H⟩ := bs_ H
                obtain ⟨⟨t670, t671, t672, t675, t678, t679, t680⟩, A57, H⟩ := bs_ H
                (try set_option simprocs false in dsimp only at H)
                obtain ⟨t684, A58, H⟩ := bs_ H
                by_cases c59 : t684 = true
                ·subst c59
                 (try rw [if_pos rfl] at H)
                 by_cases c60 : t678.toList = t597.toList
                 ·rw [if_pos c60] at H
                  have c60b0 := beq_iff_eq.mpr c60
                  have c60b1 := bne_eq_false_iff_eq.mpr c60
                  clear c60
                  by_cases c61 : t679.toList = t598.toList
                  ·rw [if_pos c61] at H
                   have c61b0 := beq_iff_eq.mpr c61
                   have c61b1 := bne_eq_false_iff_eq.mpr c61
                   clear c61
                   obtain ⟨t685, A62, H⟩ := bs_ H
                   by_cases c63 : t685 = true
                   ·subst c63
                    (try rw [if_pos rfl] at H)
                    obtain ⟨t686, A64, H⟩ := bs_ H
                    by_cases c65 : t686 < 0
                    ·rw [if_pos c65] at H
                     have c65b0 := decide_eq_true c65
                     clear c65
                     exact absurd H (by simp)
                    ·rw [if_neg c65] at H
                     have c65b0 := decide_eq_false c65
                     clear c65
                     obtain ⟨t687, A66, H⟩ := bs_ H
                     by_cases c67 : t687 < 0
                     ·rw [if_pos c67] at H
                      have c67b0 := decide_eq_true c67
                      clear c67
                      exact absurd H (by simp)
                     ·rw [if_neg c67] at H
                      have c67b0 := decide_eq_false c67
                      clear c67
                      by_cases c68 : t687 = t655
                      ·rw [if_pos c68] at H
                       have c68b0 := beq_iff_eq.mpr c68
                       have c68b1 := bne_eq_false_iff_eq.mpr c68
                       clear c68
                       clear H
                       go_enter Tryd.func3, Tryd.ntmps3
                       try go_wp2_with (first | (refine lr_ 24 3 BK574 hu24 ?_) | (refine lr_ 27 4 BK575 hu27 ?_) | ((with_reducible refine gd_ 3 ?_); refine bx_ 3 24 #[.int .i64 a0_0, .string a0_1, .slice A0_2 l0_2.length c0_2, .slice A0_3 l0_3.length c0_3] ?_; intro gb574 hg w69 hbox hb; have BK574 := Aside0.mk (hbox); have GE574 := gel_ hg; replace HB := hbl_ hb; clear hb hbox hg) | ((with_reducible refine gd_ 4 ?_); refine bx_ 4 27 #[.slice A1_0 l1_0.length c1_0] ?_; intro gb575 hg w70 hbox hb; have BK575 := Aside0.mk (hbox); have GE575 := gel_ hg; replace HB := hbl_ hb; have NB574_575 := nl_ hg BK574; have NB575_574 := ng_ hg BK574; replace BK574 := bbl_ BK574 hb; clear hb hbox hg; have hnb71 := NB574_575.out; have hnc71 := NB575_574.out; have hcz72 := blk_cell BK574.out; have hfz72 := blk_frozen BK574.out) | ((with_reducible refine gc_ 4 ?_); refine gl_ (some 30) Tryd.func4 #[.agg #[.int .i64 a0_0, .string a0_1, .slice A0_2 l0_2.length c0_2, .slice A0_3 l0_3.length c0_3], .int .i64 1048576] ?_; (with_reducible refine (laws_szBring.calls k a0_0 a0_1 _ _ l0_2 _ _ l0_3 1048576 t576 _ ?side1 ?side2 ?side3 ?side4 A7.out).mono ?_); (case side1 => exact cb_ HR0_2); (case side2 => exact HC0_2.out); (case side3 => exact cb_ HR0_3); (case side4 => exact HC0_3.out); rintro e w73 ⟨rfl, hb⟩; refine ⟨_, rfl, ?_⟩; replace BK574 := bbl_ BK574 hb; replace BK575 := bbl_ BK575 hb; replace HB := hbl_ hb; try clear hb; have hcz74 := blk_cell BK575.out; have hfz74 := blk_frozen BK575.out) | ((with_reducible refine gc_ 5 ?_); refine gl_ (some 35) Tryd.func5 #[.agg #[.slice A1_0 l1_0.length c1_0], .int .i64 t576] ?_; (with_reducible refine (laws_szState.calls k _ _ l1_0 t576 t577 _ ?side1 ?side2 A14.out).mono ?_); (case side1 => exact cb_ HR1_0); (case side2 => exact HC1_0.out); rintro e w75 ⟨rfl, hb⟩; refine ⟨_, rfl, ?_⟩; replace BK574 := bbl_ BK574 hb; replace BK575 := bbl_ BK575 hb; replace HB := hbl_ hb; try clear hb; try clear hi))
                       replace BK574 := Aside0.mk (blk_drew BK574.out)
                       replace BK575 := Aside0.mk (blk_drew BK575.out)
                       replace HB := hd_ HB
                       refine start_ (n := 16) (S := fun w' => w'.cell? ⟨gb574, 0, none⟩ = some (.int .i64 a0_0) ∧ w'.cell? ⟨gb574, 1, none⟩ = some (.string a0_1) ∧ w'.cell? ⟨gb574, 2, none⟩ = some (.slice A0_2 l0_2.length c0_2) ∧ w'.cell? ⟨gb574, 3, none⟩ = some (.slice A0_3 l0_3.length c0_3) ∧ w'.cell? ⟨gb575, 0, none⟩ = some (.slice A1_0 l1_0.length c1_0)) (ds := []) (fl 16 0) (by kernel_rfl) rfl rfl ⟨bc_ BK574 0, bc_ BK574 1, bc_ BK574 2, bc_ BK574 3, bc_ BK575 0⟩ (fun hHeld => ?_); refine with_tabW laws_FnExactStepBring.tab10 laws_FnExactStepBring.bits10 (fun HT_ HW_ => ?_)
                       generalize w75.drew = w76 at BK574 BK575 HB hHeld ⊢
                       refine pq_ 4 43 (fl 16 16) HT_.out ?_
                       refine tq_ 0 39 (fl 16 17) HT_.out HW_.out hHeld ?_
                       refine tq_ 2 41 (fl 16 21) HT_.out HW_.out hHeld ?_
                       refine join_ (σ := Value × Value × Value × Value × Value × Value × Nat) 4 (fl 16 4095) (fun s_ => [(40, .agg #[.int .i64 t578, .string t579, s_.1, s_.2.1]), (42, .agg #[s_.2.2.1]), (44, .tuple #[.agg #[.int .i64 t589, .string t590, s_.2.2.2.1, s_.2.2.2.2.1], .string t597, .string t598, s_.2.2.2.2.2.1]), (8, .pointer (some ⟨s_.2.2.2.2.2.2, 0, none⟩)), (38, .tuple #[.agg #[.int .i64 t589, .string t590, s_.2.2.2.1, s_.2.2.2.2.1], .string t597, .string t598, s_.2.2.2.2.2.1]), (45, .agg #[.int .i64 t589, .string t590, s_.2.2.2.1, s_.2.2.2.2.1]), (46, .string t597), (47, .string t598), (48, s_.2.2.2.2.2.1)]) (fun s_ w' => (w'.cell? ⟨gb574, 0, none⟩ = some (.int .i64 a0_0) ∧ w'.cell? ⟨gb574, 1, none⟩ = some (.string a0_1) ∧ w'.cell? ⟨gb574, 2, none⟩ = some (.slice A0_2 l0_2.length c0_2) ∧ w'.cell? ⟨gb574, 3, none⟩ = some (.slice A0_3 l0_3.length c0_3) ∧ w'.cell? ⟨gb575, 0, none⟩ = some (.slice A1_0 l1_0.length c1_0)) ∧ (Kd.R Kd.string 9 w' w.heap.size (fun k_ => some k_ ≠ (s_.2.1 : Value).ownBlock ∧ some k_ ≠ (s_.2.2.2.1 : Value).ownBlock ∧ some k_ ≠ (s_.2.2.2.2.1 : Value).ownBlock) s_.1 t580) ∧ (Kd.R Kd.string 9 w' w.heap.size (fun k_ => some k_ ≠ (s_.1 : Value).ownBlock ∧ some k_ ≠ (s_.2.2.2.1 : Value).ownBlock ∧ some k_ ≠ (s_.2.2.2.2.1 : Value).ownBlock) s_.2.1 t583) ∧ (Kd.S k84 84 w' w.heap.size (fun _ => True) s_.2.2.1 t586) ∧ (Kd.R Kd.string 9 w' w.heap.size (fun k_ => some k_ ≠ (s_.1 : Value).ownBlock ∧ some k_ ≠ (s_.2.1 : Value).ownBlock ∧ some k_ ≠ (s_.2.2.2.2.1 : Value).ownBlock) s_.2.2.2.1 t591) ∧ (Kd.R Kd.string 9 w' w.heap.size (fun k_ => some k_ ≠ (s_.1 : Value).ownBlock ∧ some k_ ≠ (s_.2.1 : Value).ownBlock ∧ some k_ ≠ (s_.2.2.2.1 : Value).ownBlock) s_.2.2.2.2.1 t594) ∧ (Kd.S k65 65 w' w.heap.size (fun _ => True) s_.2.2.2.2.2.1 t599) ∧ (w'.heap[gb574]? = some (.cells #[.int .i64 a0_0, .string a0_1, .slice A0_2 l0_2.length c0_2, .slice A0_3 l0_3.length c0_3] 24 (0, 0))) ∧ (w'.heap[gb575]? = some (.cells #[.slice A1_0 l1_0.length c1_0] 27 (0, 0))) ∧ (w'.heap[s_.2.2.2.2.2.2]? = some (.cells #[.int .i64 0, .string (⟨#[]⟩ : ByteArray), .slice none 0 0, .slice none 0 0] 30 (0, 0))) ∧ (w.heap.size ≤ s_.2.2.2.2.2.2) ∧ (w.heap.size ≤ s_.2.2.2.2.2.2) ∧ (gb574 ≠ s_.2.2.2.2.2.2) ∧ (s_.2.2.2.2.2.2 ≠ gb574) ∧ (gb575 ≠ s_.2.2.2.2.2.2) ∧ (s_.2.2.2.2.2.2 ≠ gb575) ∧ (Below w.heap.size w w')) ?_ ?_
                       rotate_left
                       ·intro hCont
                        refine two_ (i := 1) (j := 11) (Ni := some 40) (Nj := some 8) (fl 16 23) (fl 16 2069) rfl rfl rfl rfl (two_of HT_.out (by kernel_rfl)) (by decide) (by decide) (fun K hK => ?_) (fun K hK => ?_)
                        ·skip
                         refine go_ Tryd.func7 #[.agg #[.int .i64 a0_0, .string a0_1, .slice A0_2 l0_2.length c0_2, .slice A0_3 l0_3.length c0_3]] ?_
                         with_reducible refine (laws_toBring.calls k a0_0 a0_1 _ _ l0_2 _ _ l0_3 t578 t579 t580 t583 _ ?side1 ?side2 ?side3 ?side4 A23.out).mono ?_
                         (case side1 => exact cb_ HR0_2)
                         (case side2 => exact HC0_2.out)
                         (case side3 => exact cb_ HR0_3)
                         (case side4 => exact HC0_3.out)
                         rintro e w77 ⟨v581, v584, rfl, ho0, ho1, hb⟩
                         refine ⟨_, rfl, ?_⟩
                         have HO582 := Aside0.mk (Kd.R_lower ho0 (below_size bl_))
                         have HO585 := Aside0.mk (Kd.R_lower ho1 (below_size bl_))
                         replace BK574 := bbl_ BK574 hb
                         replace BK575 := bbl_ BK575 hb
                         replace HB := hbl_ hb
                         try clear hb
                         try clear ho0
                         try clear ho1
                         refine hK.out _ _ ⟨bc_ BK574 0, bc_ BK574 1, bc_ BK574 2, bc_ BK574 3, bc_ BK575 0⟩ (fun hHeld => ?_)
                         clear hK K
                         refine nq_ ?_
                         refine two_ (i := 3) (j := 11) (Ni := some 42) (Nj := some 8) (fl 16 31) (fl 16 2071) rfl rfl rfl rfl (two_of HT_.out (by kernel_rfl)) (by decide) (by decide) (fun K hK => ?_) (fun K hK => ?_)
                         ·skip
                          refine go_ Tryd.func8 #[.agg #[.slice A1_0 l1_0.length c1_0]] ?_
                          with_reducible refine (laws_toState.calls k _ _ l1_0 t586 _ ?side1 ?side2 A24.out).mono ?_
                          (case side1 => exact cb_ HR1_0)
                          (case side2 => exact HC1_0.out)
                          rintro e w78 ⟨v587, rfl, ho0, hb⟩
                          refine ⟨_, rfl, ?_⟩
                          replace HO582 := rbl_ HO582 hb
                          replace HO585 := rbl_ HO585 hb
                          have HO588 := Aside0.mk (Kd.S_lower ho0 (below_size bl_))
                          replace BK574 := bbl_ BK574 hb
                          replace BK575 := bbl_ BK575 hb
                          replace HB := hbl_ hb
                          try clear hb
                          try clear ho0
                          obtain ⟨Ao79, co79, eo79⟩ := Kd.R_slice HO582.out
                          (first | subst eo79 | (injection eo79 with f1_ f2_ f3_; have f4_ := f1_.symm; have f5_ := f3_.symm; clear f1_ f2_ f3_; subst f4_; subst f5_))
                          obtain ⟨Ao80, co80, eo80⟩ := Kd.R_slice HO585.out
                          (first | subst eo80 | (injection eo80 with f1_ f2_ f3_; have f4_ := f1_.symm; have f5_ := f3_.symm; clear f1_ f2_ f3_; subst f4_; subst f5_))
                          obtain ⟨Ao81, co81, eo81⟩ := Kd.S_slice HO588.out
                          (first | subst eo81 | (injection eo81 with f1_ f2_ f3_; have f4_ := f1_.symm; have f5_ := f3_.symm; clear f1_ f2_ f3_; subst f4_; subst f5_))
                          refine hK.out _ _ ⟨bc_ BK574 0, bc_ BK574 1, bc_ BK574 2, bc_ BK574 3, bc_ BK575 0⟩ (fun hHeld => ?_)
                          clear hK K
                          refine nq_ ?_
                          refine two_ (i := 5) (j := 11) (Ni := some 44) (Nj := some 8) (fl 16 63) (fl 16 2079) rfl rfl rfl rfl (two_of HT_.out (by kernel_rfl)) (by decide) (by decide) (fun K hK => ?_) (fun K hK => ?_)
                          ·skip
                           refine go_ Tryd.func6 #[.agg #[.int .i64 t578, .string t579, .slice Ao79 t580.length co79, .slice Ao80 t583.length co80], .agg #[.slice Ao81 t586.length co81], .string a2] ?_
                           with_reducible refine (spec_StepBring.calls k t578 t579 _ _ t580 _ _ t583 _ _ t586 a2 t589 t590 t591 t594 t597 t598 t599 _ ?side1 ?side2 ?side3 ?side4 ?side5 ?side6 A25.out).mono ?_
                           (case side1 => exact cr_ HO582)
                           (case side2 => exact nr_ HO582)
                           (case side3 => exact cr_ HO585)
                           (case side4 => exact nr_ HO585)
                           (case side5 => exact cs_ HO588)
                           (case side6 => exact ns_ HO588)
                           rintro e w82 ⟨v592, v595, v600, rfl, ho0, ho1, ho2, hb⟩
                           refine ⟨_, rfl, ?_⟩
                           replace HO588 := sbl_ HO588 hb
                           have HO593 := Aside0.mk (Kd.R_lower (Kd.R_new' (Kd.R_new' ho0 (Kd.R_lt (rl_ HO582))) (Kd.R_lt (rl_ HO585))) (below_size bl_))
                           have HO596 := Aside0.mk (Kd.R_lower (Kd.R_new' (Kd.R_new' ho1 (Kd.R_lt (rl_ HO582))) (Kd.R_lt (rl_ HO585))) (below_size bl_))
                           replace HO582 := rt2_ HO582 hb ho0 ho1
                           replace HO585 := rt2_ HO585 hb ho0 ho1
                           have HO601 := Aside0.mk (Kd.S_lower ho2 (below_size bl_))
                           replace BK574 := bbl_ BK574 hb
                           replace BK575 := bbl_ BK575 hb
                           replace HB := hbl_ hb
                           try clear hb
                           try clear ho0
                           try clear ho1
                           try clear ho2
                           refine hK.out _ _ ⟨bc_ BK574 0, bc_ BK574 1, bc_ BK574 2, bc_ BK574 3, bc_ BK575 0⟩ (fun hHeld => ?_)
                           clear hK K
                           refine nq_ ?_
                           refine pq_ 6 38 (fl 16 127) HT_.out ?_
                           refine pq_ 7 45 (fl 16 255) HT_.out ?_
                           refine pq_ 8 46 (fl 16 511) HT_.out ?_
                           refine pq_ 9 47 (fl 16 1023) HT_.out ?_
                           refine pq_ 10 48 (fl 16 2047) HT_.out ?_
                           refine one_ (i := 11) (N := some 8) (fl 16 4095) rfl rfl (one_of HT_.out (by kernel_rfl)) (by decide) (fun K hK => ?_)
                           refine box_step ?hg (N := 8) ?hd (cs := #[.int .i64 0, .string (⟨#[]⟩ : ByteArray), .slice none 0 0, .slice none 0 0]) (t := 30) ?hr ?_; (case hd => rfl); (case hg => rfl); (case hr => first | (go_simp; done) | (go_simp; rfl))
                           intro gb602 hg w83 hbox hb
                           replace HO582 := rbl_ HO582 hb
                           replace HO585 := rbl_ HO585 hb
                           replace HO588 := sbl_ HO588 hb
                           replace HO593 := rbl_ HO593 hb
                           replace HO596 := rbl_ HO596 hb
                           replace HO601 := sbl_ HO601 hb
                           have BK602 := Aside0.mk (hbox)
                           have GW602 := gel_ hg
                           have GE602 := gel_ hg
                           replace HB := hbl_ hb
                           have NB574_602 := nl_ hg BK574
                           have NB602_574 := ng_ hg BK574
                           replace BK574 := bbl_ BK574 hb
                           have NB575_602 := nl_ hg BK575
                           have NB602_575 := ng_ hg BK575
                           replace BK575 := bbl_ BK575 hb
                           clear hb hbox hg
                           refine hK.out _ _ ⟨bc_ BK574 0, bc_ BK574 1, bc_ BK574 2, bc_ BK574 3, bc_ BK575 0⟩ (fun hHeld => ?_)
                           clear hK K
                           refine nq_ ?_
                           exact norm_ (by simp only [putAll, Act.put, List.setIfInBounds_toArray, List.set_cons_zero, List.set_cons_succ]) (hCont (.slice Ao79 t580.length co79, .slice Ao80 t583.length co80, .slice Ao81 t586.length co81, v592, v595, v600, gb602) _ ⟨hHeld, (rm_ HO582), (rm_ HO585), (sl_ HO588), (rm_ HO593), (rm_ HO596), (sl_ HO601), (kl_ BK574), (kl_ BK575), (kl_ BK602), GW602.out, GE602.out, NB574_602.out, NB602_574.out, NB575_602.out, NB602_575.out, bl_⟩)
                          ·skip
                           refine box_step ?hg (N := 8) ?hd (cs := #[.int .i64 0, .string (⟨#[]⟩ : ByteArray), .slice none 0 0, .slice none 0 0]) (t := 30) ?hr ?_; (case hd => rfl); (case hg => rfl); (case hr => first | (go_simp; done) | (go_simp; rfl))
                           intro gb602 hg w79 hbox hb
                           replace HO582 := rbl_ HO582 hb
                           replace HO585 := rbl_ HO585 hb
                           replace HO588 := sbl_ HO588 hb
                           have BK602 := Aside0.mk (hbox)
                           have GW602 := gel_ hg
                           have GE602 := gel_ hg
                           replace HB := hbl_ hb
                           have NB574_602 := nl_ hg BK574
                           have NB602_574 := ng_ hg BK574
                           replace BK574 := bbl_ BK574 hb
                           have NB575_602 := nl_ hg BK575
                           have NB602_575 := ng_ hg BK575
                           replace BK575 := bbl_ BK575 hb
                           clear hb hbox hg
                           obtain ⟨Ao80, co80, eo80⟩ := Kd.R_slice HO582.out
                           (first | subst eo80 | (injection eo80 with f1_ f2_ f3_; have f4_ := f1_.symm; have f5_ := f3_.symm; clear f1_ f2_ f3_; subst f4_; subst f5_))
                           obtain ⟨Ao81, co81, eo81⟩ := Kd.R_slice HO585.out
                           (first | subst eo81 | (injection eo81 with f1_ f2_ f3_; have f4_ := f1_.symm; have f5_ := f3_.symm; clear f1_ f2_ f3_; subst f4_; subst f5_))
                           obtain ⟨Ao82, co82, eo82⟩ := Kd.S_slice HO588.out
                           (first | subst eo82 | (injection eo82 with f1_ f2_ f3_; have f4_ := f1_.symm; have f5_ := f3_.symm; clear f1_ f2_ f3_; subst f4_; subst f5_))
                           refine hK.out _ _ ⟨bc_ BK574 0, bc_ BK574 1, bc_ BK574 2, bc_ BK574 3, bc_ BK575 0⟩ (fun hHeld => ?_)
                           clear hK K
                           refine nq_ ?_
                           refine one_ (i := 5) (N := some 44) (fl 16 2111) rfl rfl (one_of HT_.out (by kernel_rfl)) (by decide) (fun K hK => ?_)
                           refine go_ Tryd.func6 #[.agg #[.int .i64 t578, .string t579, .slice Ao80 t580.length co80, .slice Ao81 t583.length co81], .agg #[.slice Ao82 t586.length co82], .string a2] ?_
                           with_reducible refine (spec_StepBring.calls k t578 t579 _ _ t580 _ _ t583 _ _ t586 a2 t589 t590 t591 t594 t597 t598 t599 _ ?side1 ?side2 ?side3 ?side4 ?side5 ?side6 A25.out).mono ?_
                           (case side1 => exact cr_ HO582)
                           (case side2 => exact nr_ HO582)
                           (case side3 => exact cr_ HO585)
                           (case side4 => exact nr_ HO585)
                           (case side5 => exact cs_ HO588)
                           (case side6 => exact ns_ HO588)
                           rintro e w83 ⟨v592, v595, v600, rfl, ho0, ho1, ho2, hb⟩
                           refine ⟨_, rfl, ?_⟩
                           replace HO588 := sbl_ HO588 hb
                           have HO593 := Aside0.mk (Kd.R_lower (Kd.R_new' (Kd.R_new' ho0 (Kd.R_lt (rl_ HO582))) (Kd.R_lt (rl_ HO585))) (below_size bl_))
                           have HO596 := Aside0.mk (Kd.R_lower (Kd.R_new' (Kd.R_new' ho1 (Kd.R_lt (rl_ HO582))) (Kd.R_lt (rl_ HO585))) (below_size bl_))
                           replace HO582 := rt2_ HO582 hb ho0 ho1
                           replace HO585 := rt2_ HO585 hb ho0 ho1
                           have HO601 := Aside0.mk (Kd.S_lower ho2 (below_size bl_))
                           replace BK574 := bbl_ BK574 hb
                           replace BK575 := bbl_ BK575 hb
                           replace BK602 := bbl_ BK602 hb
                           replace HB := hbl_ hb
                           try clear hb
                           try clear ho0
                           try clear ho1
                           try clear ho2
                           refine hK.out _ _ ⟨bc_ BK574 0, bc_ BK574 1, bc_ BK574 2, bc_ BK574 3, bc_ BK575 0⟩ (fun hHeld => ?_)
                           clear hK K
                           refine nq_ ?_
                           refine pq_ 6 38 (fl 16 2175) HT_.out ?_
                           refine pq_ 7 45 (fl 16 2303) HT_.out ?_
                           refine pq_ 8 46 (fl 16 2559) HT_.out ?_
                           refine pq_ 9 47 (fl 16 3071) HT_.out ?_
                           refine pq_ 10 48 (fl 16 4095) HT_.out ?_
                           exact norm_ (by simp only [putAll, Act.put, List.setIfInBounds_toArray, List.set_cons_zero, List.set_cons_succ]) (hCont (.slice Ao80 t580.length co80, .slice Ao81 t583.length co81, .slice Ao82 t586.length co82, v592, v595, v600, gb602) _ ⟨hHeld, (rm_ HO582), (rm_ HO585), (sl_ HO588), (rm_ HO593), (rm_ HO596), (sl_ HO601), (kl_ BK574), (kl_ BK575), (kl_ BK602), GW602.out, GE602.out, NB574_602.out, NB602_574.out, NB575_602.out, NB602_575.out, bl_⟩)
                         ·skip
                          refine box_step ?hg (N := 8) ?hd (cs := #[.int .i64 0, .string (⟨#[]⟩ : ByteArray), .slice none 0 0, .slice none 0 0]) (t := 30) ?hr ?_; (case hd => rfl); (case hg => rfl); (case hr => first | (go_simp; done) | (go_simp; rfl))
                          intro gb602 hg w78 hbox hb
                          replace HO582 := rbl_ HO582 hb
                          replace HO585 := rbl_ HO585 hb
                          have BK602 := Aside0.mk (hbox)
                          have GW602 := gel_ hg
                          have GE602 := gel_ hg
                          replace HB := hbl_ hb
                          have NB574_602 := nl_ hg BK574
                          have NB602_574 := ng_ hg BK574
                          replace BK574 := bbl_ BK574 hb
                          have NB575_602 := nl_ hg BK575
                          have NB602_575 := ng_ hg BK575
                          replace BK575 := bbl_ BK575 hb
                          clear hb hbox hg
                          refine hK.out _ _ ⟨bc_ BK574 0, bc_ BK574 1, bc_ BK574 2, bc_ BK574 3, bc_ BK575 0⟩ (fun hHeld => ?_)
                          clear hK K
                          refine nq_ ?_
                          refine one_ (i := 3) (N := some 42) (fl 16 2079) rfl rfl (one_of HT_.out (by kernel_rfl)) (by decide) (fun K hK => ?_)
                          refine go_ Tryd.func8 #[.agg #[.slice A1_0 l1_0.length c1_0]] ?_
                          with_reducible refine (laws_toState.calls k _ _ l1_0 t586 _ ?side1 ?side2 A24.out).mono ?_
                          (case side1 => exact cb_ HR1_0)
                          (case side2 => exact HC1_0.out)
                          rintro e w79 ⟨v587, rfl, ho0, hb⟩
                          refine ⟨_, rfl, ?_⟩
                          replace HO582 := rbl_ HO582 hb
                          replace HO585 := rbl_ HO585 hb
                          have HO588 := Aside0.mk (Kd.S_lower ho0 (below_size bl_))
                          replace BK574 := bbl_ BK574 hb
                          replace BK575 := bbl_ BK575 hb
                          replace BK602 := bbl_ BK602 hb
                          replace HB := hbl_ hb
                          try clear hb
                          try clear ho0
                          obtain ⟨Ao80, co80, eo80⟩ := Kd.R_slice HO582.out
                          (first | subst eo80 | (injection eo80 with f1_ f2_ f3_; have f4_ := f1_.symm; have f5_ := f3_.symm; clear f1_ f2_ f3_; subst f4_; subst f5_))
                          obtain ⟨Ao81, co81, eo81⟩ := Kd.R_slice HO585.out
                          (first | subst eo81 | (injection eo81 with f1_ f2_ f3_; have f4_ := f1_.symm; have f5_ := f3_.symm; clear f1_ f2_ f3_; subst f4_; subst f5_))
                          obtain ⟨Ao82, co82, eo82⟩ := Kd.S_slice HO588.out
                          (first | subst eo82 | (injection eo82 with f1_ f2_ f3_; have f4_ := f1_.symm; have f5_ := f3_.symm; clear f1_ f2_ f3_; subst f4_; subst f5_))
                          refine hK.out _ _ ⟨bc_ BK574 0, bc_ BK574 1, bc_ BK574 2, bc_ BK574 3, bc_ BK575 0⟩ (fun hHeld => ?_)
                          clear hK K
                          refine nq_ ?_
                          refine one_ (i := 5) (N := some 44) (fl 16 2111) rfl rfl (one_of HT_.out (by kernel_rfl)) (by decide) (fun K hK => ?_)
                          refine go_ Tryd.func6 #[.agg #[.int .i64 t578, .string t579, .slice Ao80 t580.length co80, .slice Ao81 t583.length co81], .agg #[.slice Ao82 t586.length co82], .string a2] ?_
                          with_reducible refine (spec_StepBring.calls k t578 t579 _ _ t580 _ _ t583 _ _ t586 a2 t589 t590 t591 t594 t597 t598 t599 _ ?side1 ?side2 ?side3 ?side4 ?side5 ?side6 A25.out).mono ?_
                          (case side1 => exact cr_ HO582)
                          (case side2 => exact nr_ HO582)
                          (case side3 => exact cr_ HO585)
                          (case side4 => exact nr_ HO585)
                          (case side5 => exact cs_ HO588)
                          (case side6 => exact ns_ HO588)
                          rintro e w83 ⟨v592, v595, v600, rfl, ho0, ho1, ho2, hb⟩
                          refine ⟨_, rfl, ?_⟩
                          replace HO588 := sbl_ HO588 hb
                          have HO593 := Aside0.mk (Kd.R_lower (Kd.R_new' (Kd.R_new' ho0 (Kd.R_lt (rl_ HO582))) (Kd.R_lt (rl_ HO585))) (below_size bl_))
                          have HO596 := Aside0.mk (Kd.R_lower (Kd.R_new' (Kd.R_new' ho1 (Kd.R_lt (rl_ HO582))) (Kd.R_lt (rl_ HO585))) (below_size bl_))
                          replace HO582 := rt2_ HO582 hb ho0 ho1
                          replace HO585 := rt2_ HO585 hb ho0 ho1
                          have HO601 := Aside0.mk (Kd.S_lower ho2 (below_size bl_))
                          replace BK574 := bbl_ BK574 hb
                          replace BK575 := bbl_ BK575 hb
                          replace BK602 := bbl_ BK602 hb
                          replace HB := hbl_ hb
                          try clear hb
                          try clear ho0
                          try clear ho1
                          try clear ho2
                          refine hK.out _ _ ⟨bc_ BK574 0, bc_ BK574 1, bc_ BK574 2, bc_ BK574 3, bc_ BK575 0⟩ (fun hHeld => ?_)
                          clear hK K
                          refine nq_ ?_
                          refine pq_ 6 38 (fl 16 2175) HT_.out ?_
                          refine pq_ 7 45 (fl 16 2303) HT_.out ?_
                          refine pq_ 8 46 (fl 16 2559) HT_.out ?_
                          refine pq_ 9 47 (fl 16 3071) HT_.out ?_
                          refine pq_ 10 48 (fl 16 4095) HT_.out ?_
                          exact norm_ (by simp only [putAll, Act.put, List.setIfInBounds_toArray, List.set_cons_zero, List.set_cons_succ]) (hCont (.slice Ao80 t580.length co80, .slice Ao81 t583.length co81, .slice Ao82 t586.length co82, v592, v595, v600, gb602) _ ⟨hHeld, (rm_ HO582), (rm_ HO585), (sl_ HO588), (rm_ HO593), (rm_ HO596), (sl_ HO601), (kl_ BK574), (kl_ BK575), (kl_ BK602), GW602.out, GE602.out, NB574_602.out, NB602_574.out, NB575_602.out, NB602_575.out, bl_⟩)
                        ·skip
                         refine box_step ?hg (N := 8) ?hd (cs := #[.int .i64 0, .string (⟨#[]⟩ : ByteArray), .slice none 0 0, .slice none 0 0]) (t := 30) ?hr ?_; (case hd => rfl); (case hg => rfl); (case hr => first | (go_simp; done) | (go_simp; rfl))
                         intro gb602 hg w77 hbox hb
                         have BK602 := Aside0.mk (hbox)
                         have GW602 := gel_ hg
                         have GE602 := gel_ hg
                         replace HB := hbl_ hb
                         have NB574_602 := nl_ hg BK574
                         have NB602_574 := ng_ hg BK574
                         replace BK574 := bbl_ BK574 hb
                         have NB575_602 := nl_ hg BK575
                         have NB602_575 := ng_ hg BK575
                         replace BK575 := bbl_ BK575 hb
                         clear hb hbox hg
                         refine hK.out _ _ ⟨bc_ BK574 0, bc_ BK574 1, bc_ BK574 2, bc_ BK574 3, bc_ BK575 0⟩ (fun hHeld => ?_)
                         clear hK K
                         refine nq_ ?_
                         refine one_ (i := 1) (N := some 40) (fl 16 2071) rfl rfl (one_of HT_.out (by kernel_rfl)) (by decide) (fun K hK => ?_)
                         refine go_ Tryd.func7 #[.agg #[.int .i64 a0_0, .string a0_1, .slice A0_2 l0_2.length c0_2, .slice A0_3 l0_3.length c0_3]] ?_
                         with_reducible refine (laws_toBring.calls k a0_0 a0_1 _ _ l0_2 _ _ l0_3 t578 t579 t580 t583 _ ?side1 ?side2 ?side3 ?side4 A23.out).mono ?_
                         (case side1 => exact cb_ HR0_2)
                         (case side2 => exact HC0_2.out)
                         (case side3 => exact cb_ HR0_3)
                         (case side4 => exact HC0_3.out)
                         rintro e w78 ⟨v581, v584, rfl, ho0, ho1, hb⟩
                         refine ⟨_, rfl, ?_⟩
                         have HO582 := Aside0.mk (Kd.R_lower ho0 (below_size bl_))
                         have HO585 := Aside0.mk (Kd.R_lower ho1 (below_size bl_))
                         replace BK574 := bbl_ BK574 hb
                         replace BK575 := bbl_ BK575 hb
                         replace BK602 := bbl_ BK602 hb
                         replace HB := hbl_ hb
                         try clear hb
                         try clear ho0
                         try clear ho1
                         refine hK.out _ _ ⟨bc_ BK574 0, bc_ BK574 1, bc_ BK574 2, bc_ BK574 3, bc_ BK575 0⟩ (fun hHeld => ?_)
                         clear hK K
                         refine nq_ ?_
                         refine one_ (i := 3) (N := some 42) (fl 16 2079) rfl rfl (one_of HT_.out (by kernel_rfl)) (by decide) (fun K hK => ?_)
                         refine go_ Tryd.func8 #[.agg #[.slice A1_0 l1_0.length c1_0]] ?_
                         with_reducible refine (laws_toState.calls k _ _ l1_0 t586 _ ?side1 ?side2 A24.out).mono ?_
                         (case side1 => exact cb_ HR1_0)
                         (case side2 => exact HC1_0.out)
                         rintro e w79 ⟨v587, rfl, ho0, hb⟩
                         refine ⟨_, rfl, ?_⟩
                         replace HO582 := rbl_ HO582 hb
                         replace HO585 := rbl_ HO585 hb
                         have HO588 := Aside0.mk (Kd.S_lower ho0 (below_size bl_))
                         replace BK574 := bbl_ BK574 hb
                         replace BK575 := bbl_ BK575 hb
                         replace BK602 := bbl_ BK602 hb
                         replace HB := hbl_ hb
                         try clear hb
                         try clear ho0
                         obtain ⟨Ao80, co80, eo80⟩ := Kd.R_slice HO582.out
                         (first | subst eo80 | (injection eo80 with f1_ f2_ f3_; have f4_ := f1_.symm; have f5_ := f3_.symm; clear f1_ f2_ f3_; subst f4_; subst f5_))
                         obtain ⟨Ao81, co81, eo81⟩ := Kd.R_slice HO585.out
                         (first | subst eo81 | (injection eo81 with f1_ f2_ f3_; have f4_ := f1_.symm; have f5_ := f3_.symm; clear f1_ f2_ f3_; subst f4_; subst f5_))
                         obtain ⟨Ao82, co82, eo82⟩ := Kd.S_slice HO588.out
                         (first | subst eo82 | (injection eo82 with f1_ f2_ f3_; have f4_ := f1_.symm; have f5_ := f3_.symm; clear f1_ f2_ f3_; subst f4_; subst f5_))
                         refine hK.out _ _ ⟨bc_ BK574 0, bc_ BK574 1, bc_ BK574 2, bc_ BK574 3, bc_ BK575 0⟩ (fun hHeld => ?_)
                         clear hK K
                         refine nq_ ?_
                         refine one_ (i := 5) (N := some 44) (fl 16 2111) rfl rfl (one_of HT_.out (by kernel_rfl)) (by decide) (fun K hK => ?_)
                         refine go_ Tryd.func6 #[.agg #[.int .i64 t578, .string t579, .slice Ao80 t580.length co80, .slice Ao81 t583.length co81], .agg #[.slice Ao82 t586.length co82], .string a2] ?_
                         with_reducible refine (spec_StepBring.calls k t578 t579 _ _ t580 _ _ t583 _ _ t586 a2 t589 t590 t591 t594 t597 t598 t599 _ ?side1 ?side2 ?side3 ?side4 ?side5 ?side6 A25.out).mono ?_
                         (case side1 => exact cr_ HO582)
                         (case side2 => exact nr_ HO582)
                         (case side3 => exact cr_ HO585)
                         (case side4 => exact nr_ HO585)
                         (case side5 => exact cs_ HO588)
                         (case side6 => exact ns_ HO588)
                         rintro e w83 ⟨v592, v595, v600, rfl, ho0, ho1, ho2, hb⟩
                         refine ⟨_, rfl, ?_⟩
                         replace HO588 := sbl_ HO588 hb
                         have HO593 := Aside0.mk (Kd.R_lower (Kd.R_new' (Kd.R_new' ho0 (Kd.R_lt (rl_ HO582))) (Kd.R_lt (rl_ HO585))) (below_size bl_))
                         have HO596 := Aside0.mk (Kd.R_lower (Kd.R_new' (Kd.R_new' ho1 (Kd.R_lt (rl_ HO582))) (Kd.R_lt (rl_ HO585))) (below_size bl_))
                         replace HO582 := rt2_ HO582 hb ho0 ho1
                         replace HO585 := rt2_ HO585 hb ho0 ho1
                         have HO601 := Aside0.mk (Kd.S_lower ho2 (below_size bl_))
                         replace BK574 := bbl_ BK574 hb
                         replace BK575 := bbl_ BK575 hb
                         replace BK602 := bbl_ BK602 hb
                         replace HB := hbl_ hb
                         try clear hb
                         try clear ho0
                         try clear ho1
                         try clear ho2
                         refine hK.out _ _ ⟨bc_ BK574 0, bc_ BK574 1, bc_ BK574 2, bc_ BK574 3, bc_ BK575 0⟩ (fun hHeld => ?_)
                         clear hK K
                         refine nq_ ?_
                         refine pq_ 6 38 (fl 16 2175) HT_.out ?_
                         refine pq_ 7 45 (fl 16 2303) HT_.out ?_
                         refine pq_ 8 46 (fl 16 2559) HT_.out ?_
                         refine pq_ 9 47 (fl 16 3071) HT_.out ?_
                         refine pq_ 10 48 (fl 16 4095) HT_.out ?_
                         exact norm_ (by simp only [putAll, Act.put, List.setIfInBounds_toArray, List.set_cons_zero, List.set_cons_succ]) (hCont (.slice Ao80 t580.length co80, .slice Ao81 t583.length co81, .slice Ao82 t586.length co82, v592, v595, v600, gb602) _ ⟨hHeld, (rm_ HO582), (rm_ HO585), (sl_ HO588), (rm_ HO593), (rm_ HO596), (sl_ HO601), (kl_ BK574), (kl_ BK575), (kl_ BK602), GW602.out, GE602.out, NB574_602.out, NB602_574.out, NB575_602.out, NB602_575.out, bl_⟩)
                       rintro ⟨v581, v584, v587, v592, v595, v600, gb602⟩ w84 ⟨hS_, h0_, h1_, h2_, h3_, h4_, h5_, h6_, h7_, h8_, h9_, h10_, h11_, h12_, h13_, h14_, h15_⟩
                       have n0_ : Aside0 (Kd.R Kd.string 9 w84 w.heap.size (fun k_ => some k_ ≠ (v584 : Value).ownBlock ∧ some k_ ≠ (v592 : Value).ownBlock ∧ some k_ ≠ (v595 : Value).ownBlock) v581 t580) := ⟨h0_⟩
                       have n1_ : Aside0 (Kd.R Kd.string 9 w84 w.heap.size (fun k_ => some k_ ≠ (v581 : Value).ownBlock ∧ some k_ ≠ (v592 : Value).ownBlock ∧ some k_ ≠ (v595 : Value).ownBlock) v584 t583) := ⟨h1_⟩
                       have n2_ : Aside0 (Kd.S k84 84 w84 w.heap.size (fun _ => True) v587 t586) := ⟨h2_⟩
                       have n3_ : Aside0 (Kd.R Kd.string 9 w84 w.heap.size (fun k_ => some k_ ≠ (v581 : Value).ownBlock ∧ some k_ ≠ (v584 : Value).ownBlock ∧ some k_ ≠ (v595 : Value).ownBlock) v592 t591) := ⟨h3_⟩
                       have n4_ : Aside0 (Kd.R Kd.string 9 w84 w.heap.size (fun k_ => some k_ ≠ (v581 : Value).ownBlock ∧ some k_ ≠ (v584 : Value).ownBlock ∧ some k_ ≠ (v592 : Value).ownBlock) v595 t594) := ⟨h4_⟩
                       have n5_ : Aside0 (Kd.S k65 65 w84 w.heap.size (fun _ => True) v600 t599) := ⟨h5_⟩
                       have n6_ : Aside0 (w84.heap[gb574]? = some (.cells #[.int .i64 a0_0, .string a0_1, .slice A0_2 l0_2.length c0_2, .slice A0_3 l0_3.length c0_3] 24 (0, 0))) := ⟨h6_⟩
                       have n7_ : Aside0 (w84.heap[gb575]? = some (.cells #[.slice A1_0 l1_0.length c1_0] 27 (0, 0))) := ⟨h7_⟩
                       have n8_ : Aside0 (w84.heap[gb602]? = some (.cells #[.int .i64 0, .string (⟨#[]⟩ : ByteArray), .slice none 0 0, .slice none 0 0] 30 (0, 0))) := ⟨h8_⟩
                       have n10_ : Aside0 (w.heap.size ≤ gb602) := ⟨h10_⟩
                       have n11_ : Aside0 (gb574 ≠ gb602) := ⟨h11_⟩
                       have n12_ : Aside0 (gb602 ≠ gb574) := ⟨h12_⟩
                       have n13_ : Aside0 (gb575 ≠ gb602) := ⟨h13_⟩
                       have n14_ : Aside0 (gb602 ≠ gb575) := ⟨h14_⟩
                       have n15_ : Aside0 (Below w.heap.size w w84) := ⟨h15_⟩
                       clear BK574
                       clear BK575
                       clear HB
                       clear h0_ h1_ h2_ h3_ h4_ h5_ h6_ h7_ h8_ h9_ h10_ h11_ h12_ h13_ h14_ h15_
                       have HO582 := n0_
                       have HO585 := n1_
                       have HO588 := n2_
                       have HO593 := n3_
                       have HO596 := n4_
                       have HO601 := n5_
                       have BK574 := n6_
                       have BK575 := n7_
                       have BK602 := n8_
                       have GE602 := n10_
                       have NB574_602 := n11_
                       have NB602_574 := n12_
                       have NB575_602 := n13_
                       have NB602_575 := n14_
                       have HB := n15_
                       clear n0_ n1_ n2_ n3_ n4_ n5_ n6_ n7_ n8_ n10_ n11_ n12_ n13_ n14_ n15_
                       have hHeld : w84.cell? ⟨gb574, 0, none⟩ = some (.int .i64 a0_0) ∧ w84.cell? ⟨gb574, 1, none⟩ = some (.string a0_1) ∧ w84.cell? ⟨gb574, 2, none⟩ = some (.slice A0_2 l0_2.length c0_2) ∧ w84.cell? ⟨gb574, 3, none⟩ = some (.slice A0_3 l0_3.length c0_3) ∧ w84.cell? ⟨gb575, 0, none⟩ = some (.slice A1_0 l1_0.length c1_0) := hS_
                       obtain ⟨Ao87, co87, eo87⟩ := Kd.R_slice HO593.out
                       (first | subst eo87 | (injection eo87 with f1_ f2_ f3_; have f4_ := f1_.symm; have f5_ := f3_.symm; clear f1_ f2_ f3_; subst f4_; subst f5_))
                       obtain ⟨Ao89, co89, eo89⟩ := Kd.R_slice HO596.out
                       (first | subst eo89 | (injection eo89 with f1_ f2_ f3_; have f4_ := f1_.symm; have f5_ := f3_.symm; clear f1_ f2_ f3_; subst f4_; subst f5_))
                       refine norm_ (a' := ?_) ?_ ?_
                       rotate_left
                       ·simp only [putAll, Act.put, List.setIfInBounds_toArray, List.set_cons_zero, List.set_cons_succ]
                        rfl
                       refine one_ (i := 12) (N := none) (fl 16 8191) rfl rfl (one_of HT_.out (by kernel_rfl)) (by decide) (fun K hK => ?_)
                       have hs85 : w84.cell? ⟨gb602, 0, none⟩ = some (.int .i64 0) := bc_ BK602 0
                       have hfs85 := blk_frozen BK602.out 0
                       have hns85_0 := NB574_602.out
                       have hns85_1 := NB575_602.out
                       have hms85_0 := NB602_574.out
                       have hms85_1 := NB602_575.out
                       have hs86 : w84.cell? ⟨gb602, 1, none⟩ = some (.string (⟨#[]⟩ : ByteArray)) := bc_ BK602 1
                       have hfs86 := blk_frozen BK602.out 1
                       have hns86_0 := NB574_602.out
                       have hns86_1 := NB575_602.out
                       have hms86_0 := NB602_574.out
                       have hms86_1 := NB602_575.out
                       have hs88 : w84.cell? ⟨gb602, 2, none⟩ = some (.slice none 0 0) := bc_ BK602 2
                       have hfs88 := blk_frozen BK602.out 2
                       have hns88_0 := NB574_602.out
                       have hns88_1 := NB575_602.out
                       have hms88_0 := NB602_574.out
                       have hms88_1 := NB602_575.out
                       have hs90 : w84.cell? ⟨gb602, 3, none⟩ = some (.slice none 0 0) := bc_ BK602 3
                       have hfs90 := blk_frozen BK602.out 3
                       have hns90_0 := NB574_602.out
                       have hns90_1 := NB575_602.out
                       have hms90_0 := NB602_574.out
                       have hms90_1 := NB602_575.out
                       refine skip_ (w1 := ?_) (by rfl) rfl ?_ ?_
                       rotate_left
                       ·go_simp
                        rfl
                       refine hK.out _ _ ⟨((cell_far (p := ⟨gb602, _, none⟩) NB574_602.out _).trans (((cell_far (p := ⟨gb602, _, none⟩) NB574_602.out _).trans (((cell_far (p := ⟨gb602, _, none⟩) NB574_602.out _).trans (((cell_far (p := ⟨gb602, _, none⟩) NB574_602.out _).trans (hHeld.1)))))))), ((cell_far (p := ⟨gb602, _, none⟩) NB574_602.out _).trans (((cell_far (p := ⟨gb602, _, none⟩) NB574_602.out _).trans (((cell_far (p := ⟨gb602, _, none⟩) NB574_602.out _).trans (((cell_far (p := ⟨gb602, _, none⟩) NB574_602.out _).trans (hHeld.2.1)))))))), ((cell_far (p := ⟨gb602, _, none⟩) NB574_602.out _).trans (((cell_far (p := ⟨gb602, _, none⟩) NB574_602.out _).trans (((cell_far (p := ⟨gb602, _, none⟩) NB574_602.out _).trans (((cell_far (p := ⟨gb602, _, none⟩) NB574_602.out _).trans (hHeld.2.2.1)))))))), ((cell_far (p := ⟨gb602, _, none⟩) NB574_602.out _).trans (((cell_far (p := ⟨gb602, _, none⟩) NB574_602.out _).trans (((cell_far (p := ⟨gb602, _, none⟩) NB574_602.out _).trans (((cell_far (p := ⟨gb602, _, none⟩) NB574_602.out _).trans (hHeld.2.2.2.1)))))))), ((cell_far (p := ⟨gb602, _, none⟩) NB575_602.out _).trans (((cell_far (p := ⟨gb602, _, none⟩) NB575_602.out _).trans (((cell_far (p := ⟨gb602, _, none⟩) NB575_602.out _).trans (((cell_far (p := ⟨gb602, _, none⟩) NB575_602.out _).trans (hHeld.2.2.2.2))))))))⟩ (fun hHeld => ?_)
                       clear hK K
                       refine pq_ 13 9 (fl 16 16383) HT_.out ?_
                       refine pq_ 14 10 (fl 16 32767) HT_.out ?_
                       refine pq_ 15 11 (fl 16 65535) HT_.out ?_
                       refine done_ (done_of HT_.out (by kernel_rfl)) ?_
                       have hnb91 := NB574_602.out
                       have hnc91 := NB602_574.out
                       have hcz92 := blk_cell BK574.out
                       have hfz92 := blk_frozen BK574.out
                       try go_wp2_with (first | (refine lr_ 24 3 BK574 hu24 ?_) | (refine lr_ 27 4 BK575 hu27 ?_) | (refine lr_ 30 12 BK611 hu30 ?_) | (refine lr_ 37 13 BK615 hu37 ?_) | (refine lr_ 30 14 BK629 hu30 ?_) | ((with_reducible refine gd_ 101 ?_); refine gate_guard (by rfl) ?_; dsimp only; refine wpList_load_row rfl 30 (.tmp 14) rfl _ rfl 30 _ (0, 0) _ BK629.out hu30 rfl (by kernel_rfl) ?_) | ((with_reducible refine gc_ 7 ?_); refine gl_ (some 50) Tryd.func7 #[.agg #[.int .i64 a0_0, .string a0_1, .slice A0_2 l0_2.length c0_2, .slice A0_3 l0_3.length c0_3]] ?_; (with_reducible refine (laws_toBring.calls k a0_0 a0_1 _ _ l0_2 _ _ l0_3 t603 t604 t605 t608 _ ?side1 ?side2 ?side3 ?side4 A26.out).mono ?_); (case side1 => exact Kd.C_below HR0_2.out bl_); (case side2 => exact HC0_2.out); (case side3 => exact Kd.C_below HR0_3.out bl_); (case side4 => exact HC0_3.out); rintro e w93 ⟨v606, v609, rfl, ho0, ho1, hb⟩; refine ⟨_, rfl, ?_⟩; replace HO588 := Aside0.mk (Kd.S_below (by (with_reducible repeat (first | apply Kd.S_alloc | apply Kd.S_drewN | apply Kd.S_drew)); exact (Kd.S_mono (Kd.S_far (p := ⟨gb602, 3, none⟩) (Kd.S_far (p := ⟨gb602, 2, none⟩) (Kd.S_far (p := ⟨gb602, 1, none⟩) (Kd.S_far (p := ⟨gb602, 0, none⟩) (Kd.S_types HO588.out BK602.out (by decide)) (fun _ hk => hk.2) (.int .i64 t589)) (fun _ hk => hk.2) (.string t590)) (fun _ hk => hk.2) (.slice Ao87 t591.length co87)) (fun _ hk => hk.2) (.slice Ao89 t594.length co89)) (fun _ h_ => h_.1))) hb); replace HO601 := Aside0.mk (Kd.S_below (by (with_reducible repeat (first | apply Kd.S_alloc | apply Kd.S_drewN | apply Kd.S_drew)); exact (Kd.S_mono (Kd.S_far (p := ⟨gb602, 3, none⟩) (Kd.S_far (p := ⟨gb602, 2, none⟩) (Kd.S_far (p := ⟨gb602, 1, none⟩) (Kd.S_far (p := ⟨gb602, 0, none⟩) (Kd.S_types HO601.out BK602.out (by decide)) (fun _ hk => hk.2) (.int .i64 t589)) (fun _ hk => hk.2) (.string t590)) (fun _ hk => hk.2) (.slice Ao87 t591.length co87)) (fun _ hk => hk.2) (.slice Ao89 t594.length co89)) (fun _ h_ => h_.1))) hb); have HO607 := Aside0.mk (Kd.R_lower (Kd.R_new' (Kd.R_new' (Kd.R_new' (Kd.R_new' ho0 (Kd.R_lt (by (with_reducible repeat (first | apply Kd.R_alloc | apply Kd.R_drewN | apply Kd.R_drew)); exact (Kd.R_mono (rg4_ HO582 BK602) (fun _ h_ => h_.1))))) (Kd.R_lt (by (with_reducible repeat (first | apply Kd.R_alloc | apply Kd.R_drewN | apply Kd.R_drew)); exact (Kd.R_mono (rg4_ HO585 BK602) (fun _ h_ => h_.1))))) (Kd.R_lt (by (with_reducible repeat (first | apply Kd.R_alloc | apply Kd.R_drewN | apply Kd.R_drew)); exact (Kd.R_mono (rg4_ HO593 BK602) (fun _ h_ => h_.1))))) (Kd.R_lt (by (with_reducible repeat (first | apply Kd.R_alloc | apply Kd.R_drewN | apply Kd.R_drew)); exact (Kd.R_mono (rg4_ HO596 BK602) (fun _ h_ => h_.1))))) (below_size bl_)); have HO610 := Aside0.mk (Kd.R_lower (Kd.R_new' (Kd.R_new' (Kd.R_new' (Kd.R_new' ho1 (Kd.R_lt (by (with_reducible repeat (first | apply Kd.R_alloc | apply Kd.R_drewN | apply Kd.R_drew)); exact (Kd.R_mono (rg4_ HO582 BK602) (fun _ h_ => h_.1))))) (Kd.R_lt (by (with_reducible repeat (first | apply Kd.R_alloc | apply Kd.R_drewN | apply Kd.R_drew)); exact (Kd.R_mono (rg4_ HO585 BK602) (fun _ h_ => h_.1))))) (Kd.R_lt (by (with_reducible repeat (first | apply Kd.R_alloc | apply Kd.R_drewN | apply Kd.R_drew)); exact (Kd.R_mono (rg4_ HO593 BK602) (fun _ h_ => h_.1))))) (Kd.R_lt (by (with_reducible repeat (first | apply Kd.R_alloc | apply Kd.R_drewN | apply Kd.R_drew)); exact (Kd.R_mono (rg4_ HO596 BK602) (fun _ h_ => h_.1))))) (below_size bl_)); replace HO582 := Aside0.mk (Kd.R_mono (Kd.R_told (Kd.R_told (Kd.R_old (by (with_reducible repeat (first | apply Kd.R_alloc | apply Kd.R_drewN | apply Kd.R_drew)); exact (Kd.R_mono (rg4_ HO582 BK602) (fun _ h_ => h_.1))) hb) (Kd.R_base ho0)) (Kd.R_base ho1)) (fun _ h_ => h_.1)); replace HO585 := Aside0.mk (Kd.R_mono (Kd.R_told (Kd.R_told (Kd.R_old (by (with_reducible repeat (first | apply Kd.R_alloc | apply Kd.R_drewN | apply Kd.R_drew)); exact (Kd.R_mono (rg4_ HO585 BK602) (fun _ h_ => h_.1))) hb) (Kd.R_base ho0)) (Kd.R_base ho1)) (fun _ h_ => h_.1)); replace HO593 := Aside0.mk (Kd.R_mono (Kd.R_told (Kd.R_told (Kd.R_old (by (with_reducible repeat (first | apply Kd.R_alloc | apply Kd.R_drewN | apply Kd.R_drew)); exact (Kd.R_mono (rg4_ HO593 BK602) (fun _ h_ => h_.1))) hb) (Kd.R_base ho0)) (Kd.R_base ho1)) (fun _ h_ => h_.1)); replace HO596 := Aside0.mk (Kd.R_mono (Kd.R_told (Kd.R_told (Kd.R_old (by (with_reducible repeat (first | apply Kd.R_alloc | apply Kd.R_drewN | apply Kd.R_drew)); exact (Kd.R_mono (rg4_ HO596 BK602) (fun _ h_ => h_.1))) hb) (Kd.R_base ho0)) (Kd.R_base ho1)) (fun _ h_ => h_.1)); replace BK574 := Aside0.mk (blk_below (bf4_ BK574 NB574_602) hb); replace BK575 := Aside0.mk (blk_below (bf4_ BK575 NB575_602) hb); replace BK602 := Aside0.mk (blk_below (g := gb602) (o := .cells #[.int .i64 t589, .string t590, .slice Ao87 t591.length co87, .slice Ao89 t594.length co89] 30 (0, 0)) (by (with_reducible repeat (first | refine blk_drewN ?_ _ | refine blk_drew ?_ | refine blk_alloc ?_ _)); refine blk_put (cs := #[.int .i64 t589, .string t590, .slice Ao87 t591.length co87, .slice none 0 0]) ?_ 3 _ rfl; (with_reducible repeat (first | refine blk_drewN ?_ _ | refine blk_drew ?_ | refine blk_alloc ?_ _)); refine blk_put (cs := #[.int .i64 t589, .string t590, .slice none 0 0, .slice none 0 0]) ?_ 2 _ rfl; (with_reducible repeat (first | refine blk_drewN ?_ _ | refine blk_drew ?_ | refine blk_alloc ?_ _)); refine blk_put (cs := #[.int .i64 t589, .string (⟨#[]⟩ : ByteArray), .slice none 0 0, .slice none 0 0]) ?_ 1 _ rfl; (with_reducible repeat (first | refine blk_drewN ?_ _ | refine blk_drew ?_ | refine blk_alloc ?_ _)); refine blk_put (cs := #[.int .i64 0, .string (⟨#[]⟩ : ByteArray), .slice none 0 0, .slice none 0 0]) ?_ 0 _ rfl; (with_reducible repeat (first | refine blk_drewN ?_ _ | refine blk_drew ?_ | refine blk_alloc ?_ _)); exact BK602.out) hb); replace HB := hbl_ hb; try clear hb; try clear ho0; try clear ho1; obtain ⟨Ao94, co94, rfl⟩ := Kd.R_slice HO607.out; obtain ⟨Ao95, co95, rfl⟩ := Kd.R_slice HO610.out) | ((with_reducible refine gd_ 12 ?_); refine bf_ 12 30 #[.int .i64 0, .string (⟨#[]⟩ : ByteArray), .slice none 0 0, .slice none 0 0] #[.int .i64 t603, .string t604, .slice Ao94 t605.length co94, .slice Ao95 t608.length co95] ?_; intro gb611 hg w96 hbox hb; replace HO582 := rbl_ HO582 hb; replace HO585 := rbl_ HO585 hb; replace HO588 := sbl_ HO588 hb; replace HO593 := rbl_ HO593 hb; replace HO596 := rbl_ HO596 hb; replace HO601 := sbl_ HO601 hb; replace HO607 := rbl_ HO607 hb; replace HO610 := rbl_ HO610 hb; have BK611 := Aside0.mk (hbox); have GE611 := gel_ hg; replace HB := hbl_ hb; have NB574_611 := nl_ hg BK574; have NB611_574 := ng_ hg BK574; replace BK574 := bbl_ BK574 hb; have NB575_611 := nl_ hg BK575; have NB611_575 := ng_ hg BK575; replace BK575 := bbl_ BK575 hb; have NB602_611 := nl_ hg BK602; have NB611_602 := ng_ hg BK602; replace BK602 := bbl_ BK602 hb; clear hb hbox hg; have hnb97 := NB575_602.out; have hnc97 := NB602_575.out; have hnb98 := NB575_611.out; have hnc98 := NB611_575.out; have hcz99 := blk_cell BK575.out; have hfz99 := blk_frozen BK575.out) | ((with_reducible refine gc_ 8 ?_); refine gl_ (some 52) Tryd.func8 #[.agg #[.slice A1_0 l1_0.length c1_0]] ?_; (with_reducible refine (laws_toState.calls k _ _ l1_0 t612 _ ?side1 ?side2 A27.out).mono ?_); (case side1 => exact cb_ HR1_0); (case side2 => exact HC1_0.out); rintro e w100 ⟨v613, rfl, ho0, hb⟩; refine ⟨_, rfl, ?_⟩; replace HO582 := rbl_ HO582 hb; replace HO585 := rbl_ HO585 hb; replace HO593 := rbl_ HO593 hb; replace HO596 := rbl_ HO596 hb; replace HO601 := sbl_ HO601 hb; replace HO607 := rbl_ HO607 hb; replace HO610 := rbl_ HO610 hb; have HO614 := Aside0.mk (Kd.S_lower (Kd.S_new' ho0 (Kd.S_lt (sl_ HO588))) (below_size bl_)); replace HO588 := Aside0.mk (Kd.S_elder' (sl_ HO588) (Kd.S_base ho0) hb); replace BK574 := bbl_ BK574 hb; replace BK575 := bbl_ BK575 hb; replace BK602 := bbl_ BK602 hb; replace BK611 := bbl_ BK611 hb; replace HB := hbl_ hb; try clear hb; try clear ho0) | ((with_reducible refine gd_ 13 ?_); refine bx_ 13 37 #[.slice none 0 0] ?_; intro gb615 hg w101 hbox hb; replace HO582 := rbl_ HO582 hb; replace HO585 := rbl_ HO585 hb; replace HO588 := sbl_ HO588 hb; replace HO593 := rbl_ HO593 hb; replace HO596 := rbl_ HO596 hb; replace HO601 := sbl_ HO601 hb; replace HO607 := rbl_ HO607 hb; replace HO610 := rbl_ HO610 hb; replace HO614 := sbl_ HO614 hb; have BK615 := Aside0.mk (hbox); have GE615 := gel_ hg; replace HB := hbl_ hb; have NB574_615 := nl_ hg BK574; have NB615_574 := ng_ hg BK574; replace BK574 := bbl_ BK574 hb; have NB575_615 := nl_ hg BK575; have NB615_575 := ng_ hg BK575; replace BK575 := bbl_ BK575 hb; have NB602_615 := nl_ hg BK602; have NB615_602 := ng_ hg BK602; replace BK602 := bbl_ BK602 hb; have NB611_615 := nl_ hg BK611; have NB615_611 := ng_ hg BK611; replace BK611 := bbl_ BK611 hb; clear hb hbox hg; obtain ⟨Ao102, co102, rfl⟩ := Kd.S_slice HO614.out; have hnb103 := NB615_574.out; have hnc103 := NB574_615.out; have hnb104 := NB615_575.out; have hnc104 := NB575_615.out; have hnb105 := NB615_602.out; have hnc105 := NB602_615.out; have hnb106 := NB615_611.out; have hnc106 := NB611_615.out; have hcz107 := blk_cell BK615.out; have hfz107 := blk_frozen BK615.out; have hnb108 := NB611_574.out; have hnc108 := NB574_611.out; have hnb109 := NB611_602.out; have hnc109 := NB602_611.out; have hcz110 := blk_cell BK611.out; have hfz110 := blk_frozen BK611.out) | ((with_reducible refine gc_ 9 ?_); refine gl_ (some 57) Tryd.func9 #[.agg #[.int .i64 t603, .string t604, .slice Ao94 t605.length co94, .slice Ao95 t608.length co95], .agg #[.slice Ao102 t612.length co102], .string a2] ?_; (with_reducible refine (impl_StepBring.calls k t603 t604 _ _ t605 _ _ t608 _ _ t612 a2 t616 t617 t618 t621 t624 t625 t626 _ ?side1 ?side2 ?side3 ?side4 ?side5 ?side6 ?side7 A28.out).mono ?_); (case side1 => refine (Kd.R_reads' (e := 9) (base := w.heap.size) (ok := fun k_ => ((((some k_ ≠ (.slice Ao95 t608.length co95 : Value).ownBlock ∧ some k_ ≠ (v581 : Value).ownBlock) ∧ some k_ ≠ (v584 : Value).ownBlock) ∧ some k_ ≠ (.slice Ao87 t591.length co87 : Value).ownBlock) ∧ some k_ ≠ (.slice Ao89 t594.length co89 : Value).ownBlock)) (n := t605.length) (c := co94) ?_).2.2; exact (by (with_reducible repeat (first | apply Kd.R_alloc | apply Kd.R_drewN | apply Kd.R_drew)); exact (Kd.R_mono (Kd.R_far (p := ⟨gb615, 0, none⟩) (Kd.R_types HO607.out BK615.out (by decide)) (fun _ hk => hk.2) (.slice Ao102 t612.length co102)) (fun _ h_ => h_.1)))); (case side2 => exact nr_ HO607); (case side3 => refine (Kd.R_reads' (e := 9) (base := w.heap.size) (ok := fun k_ => ((((some k_ ≠ (.slice Ao94 t605.length co94 : Value).ownBlock ∧ some k_ ≠ (v581 : Value).ownBlock) ∧ some k_ ≠ (v584 : Value).ownBlock) ∧ some k_ ≠ (.slice Ao87 t591.length co87 : Value).ownBlock) ∧ some k_ ≠ (.slice Ao89 t594.length co89 : Value).ownBlock)) (n := t608.length) (c := co95) ?_).2.2; exact (by (with_reducible repeat (first | apply Kd.R_alloc | apply Kd.R_drewN | apply Kd.R_drew)); exact (Kd.R_mono (Kd.R_far (p := ⟨gb615, 0, none⟩) (Kd.R_types HO610.out BK615.out (by decide)) (fun _ hk => hk.2) (.slice Ao102 t612.length co102)) (fun _ h_ => h_.1)))); (case side4 => exact nr_ HO610); (case side5 => refine (Kd.S_reads' (e := 84) (base := w.heap.size) (ok := fun k_ => (True ∧ some k_ ≠ (v587 : Value).ownBlock)) (n := t612.length) (c := co102) ?_).2.2; exact (by (with_reducible repeat (first | apply Kd.S_alloc | apply Kd.S_drewN | apply Kd.S_drew)); exact (Kd.S_mono (Kd.S_far (p := ⟨gb615, 0, none⟩) (Kd.S_types HO614.out BK615.out (by decide)) (fun _ hk => hk.2) (.slice Ao102 t612.length co102)) (fun _ h_ => h_.1)))); (case side6 => exact ns_ HO614); (case side7 => exact gint_below bl_ HG.out); rintro e w111 ⟨v619, v622, v627, rfl, ho0, ho1, ho2, hb⟩; refine ⟨_, rfl, ?_⟩; replace HO588 := Aside0.mk (Kd.S_below (by (with_reducible repeat (first | apply Kd.S_alloc | apply Kd.S_drewN | apply Kd.S_drew)); exact (Kd.S_mono (Kd.S_far (p := ⟨gb615, 0, none⟩) (Kd.S_types HO588.out BK615.out (by decide)) (fun _ hk => hk.2) (.slice Ao102 t612.length co102)) (fun _ h_ => h_.1))) hb); replace HO614 := Aside0.mk (Kd.S_below (by (with_reducible repeat (first | apply Kd.S_alloc | apply Kd.S_drewN | apply Kd.S_drew)); exact (Kd.S_mono (Kd.S_far (p := ⟨gb615, 0, none⟩) (Kd.S_types HO614.out BK615.out (by decide)) (fun _ hk => hk.2) (.slice Ao102 t612.length co102)) (fun _ h_ => h_.1))) hb); have HO620 := Aside0.mk (Kd.R_lower (Kd.R_new' (Kd.R_new' (Kd.R_new' (Kd.R_new' (Kd.R_new' (Kd.R_new' ho0 (Kd.R_lt (by (with_reducible repeat (first | apply Kd.R_alloc | apply Kd.R_drewN | apply Kd.R_drew)); exact (Kd.R_mono (Kd.R_far (p := ⟨gb615, 0, none⟩) (Kd.R_types HO582.out BK615.out (by decide)) (fun _ hk => hk.2) (.slice Ao102 t612.length co102)) (fun _ h_ => h_.1))))) (Kd.R_lt (by (with_reducible repeat (first | apply Kd.R_alloc | apply Kd.R_drewN | apply Kd.R_drew)); exact (Kd.R_mono (Kd.R_far (p := ⟨gb615, 0, none⟩) (Kd.R_types HO585.out BK615.out (by decide)) (fun _ hk => hk.2) (.slice Ao102 t612.length co102)) (fun _ h_ => h_.1))))) (Kd.R_lt (by (with_reducible repeat (first | apply Kd.R_alloc | apply Kd.R_drewN | apply Kd.R_drew)); exact (Kd.R_mono (Kd.R_far (p := ⟨gb615, 0, none⟩) (Kd.R_types HO593.out BK615.out (by decide)) (fun _ hk => hk.2) (.slice Ao102 t612.length co102)) (fun _ h_ => h_.1))))) (Kd.R_lt (by (with_reducible repeat (first | apply Kd.R_alloc | apply Kd.R_drewN | apply Kd.R_drew)); exact (Kd.R_mono (Kd.R_far (p := ⟨gb615, 0, none⟩) (Kd.R_types HO596.out BK615.out (by decide)) (fun _ hk => hk.2) (.slice Ao102 t612.length co102)) (fun _ h_ => h_.1))))) (Kd.R_lt (by (with_reducible repeat (first | apply Kd.R_alloc | apply Kd.R_drewN | apply Kd.R_drew)); exact (Kd.R_mono (Kd.R_far (p := ⟨gb615, 0, none⟩) (Kd.R_types HO607.out BK615.out (by decide)) (fun _ hk => hk.2) (.slice Ao102 t612.length co102)) (fun _ h_ => h_.1))))) (Kd.R_lt (by (with_reducible repeat (first | apply Kd.R_alloc | apply Kd.R_drewN | apply Kd.R_drew)); exact (Kd.R_mono (Kd.R_far (p := ⟨gb615, 0, none⟩) (Kd.R_types HO610.out BK615.out (by decide)) (fun _ hk => hk.2) (.slice Ao102 t612.length co102)) (fun _ h_ => h_.1))))) (below_size bl_)); have HO623 := Aside0.mk (Kd.R_lower (Kd.R_new' (Kd.R_new' (Kd.R_new' (Kd.R_new' (Kd.R_new' (Kd.R_new' ho1 (Kd.R_lt (by (with_reducible repeat (first | apply Kd.R_alloc | apply Kd.R_drewN | apply Kd.R_drew)); exact (Kd.R_mono (Kd.R_far (p := ⟨gb615, 0, none⟩) (Kd.R_types HO582.out BK615.out (by decide)) (fun _ hk => hk.2) (.slice Ao102 t612.length co102)) (fun _ h_ => h_.1))))) (Kd.R_lt (by (with_reducible repeat (first | apply Kd.R_alloc | apply Kd.R_drewN | apply Kd.R_drew)); exact (Kd.R_mono (Kd.R_far (p := ⟨gb615, 0, none⟩) (Kd.R_types HO585.out BK615.out (by decide)) (fun _ hk => hk.2) (.slice Ao102 t612.length co102)) (fun _ h_ => h_.1))))) (Kd.R_lt (by (with_reducible repeat (first | apply Kd.R_alloc | apply Kd.R_drewN | apply Kd.R_drew)); exact (Kd.R_mono (Kd.R_far (p := ⟨gb615, 0, none⟩) (Kd.R_types HO593.out BK615.out (by decide)) (fun _ hk => hk.2) (.slice Ao102 t612.length co102)) (fun _ h_ => h_.1))))) (Kd.R_lt (by (with_reducible repeat (first | apply Kd.R_alloc | apply Kd.R_drewN | apply Kd.R_drew)); exact (Kd.R_mono (Kd.R_far (p := ⟨gb615, 0, none⟩) (Kd.R_types HO596.out BK615.out (by decide)) (fun _ hk => hk.2) (.slice Ao102 t612.length co102)) (fun _ h_ => h_.1))))) (Kd.R_lt (by (with_reducible repeat (first | apply Kd.R_alloc | apply Kd.R_drewN | apply Kd.R_drew)); exact (Kd.R_mono (Kd.R_far (p := ⟨gb615, 0, none⟩) (Kd.R_types HO607.out BK615.out (by decide)) (fun _ hk => hk.2) (.slice Ao102 t612.length co102)) (fun _ h_ => h_.1))))) (Kd.R_lt (by (with_reducible repeat (first | apply Kd.R_alloc | apply Kd.R_drewN | apply Kd.R_drew)); exact (Kd.R_mono (Kd.R_far (p := ⟨gb615, 0, none⟩) (Kd.R_types HO610.out BK615.out (by decide)) (fun _ hk => hk.2) (.slice Ao102 t612.length co102)) (fun _ h_ => h_.1))))) (below_size bl_)); replace HO582 := Aside0.mk (Kd.R_mono (Kd.R_told (Kd.R_told (Kd.R_old (by (with_reducible repeat (first | apply Kd.R_alloc | apply Kd.R_drewN | apply Kd.R_drew)); exact (Kd.R_mono (Kd.R_far (p := ⟨gb615, 0, none⟩) (Kd.R_types HO582.out BK615.out (by decide)) (fun _ hk => hk.2) (.slice Ao102 t612.length co102)) (fun _ h_ => h_.1))) hb) (Kd.R_base ho0)) (Kd.R_base ho1)) (fun _ h_ => h_.1)); replace HO585 := Aside0.mk (Kd.R_mono (Kd.R_told (Kd.R_told (Kd.R_old (by (with_reducible repeat (first | apply Kd.R_alloc | apply Kd.R_drewN | apply Kd.R_drew)); exact (Kd.R_mono (Kd.R_far (p := ⟨gb615, 0, none⟩) (Kd.R_types HO585.out BK615.out (by decide)) (fun _ hk => hk.2) (.slice Ao102 t612.length co102)) (fun _ h_ => h_.1))) hb) (Kd.R_base ho0)) (Kd.R_base ho1)) (fun _ h_ => h_.1)); replace HO593 := Aside0.mk (Kd.R_mono (Kd.R_told (Kd.R_told (Kd.R_old (by (with_reducible repeat (first | apply Kd.R_alloc | apply Kd.R_drewN | apply Kd.R_drew)); exact (Kd.R_mono (Kd.R_far (p := ⟨gb615, 0, none⟩) (Kd.R_types HO593.out BK615.out (by decide)) (fun _ hk => hk.2) (.slice Ao102 t612.length co102)) (fun _ h_ => h_.1))) hb) (Kd.R_base ho0)) (Kd.R_base ho1)) (fun _ h_ => h_.1)); replace HO596 := Aside0.mk (Kd.R_mono (Kd.R_told (Kd.R_told (Kd.R_old (by (with_reducible repeat (first | apply Kd.R_alloc | apply Kd.R_drewN | apply Kd.R_drew)); exact (Kd.R_mono (Kd.R_far (p := ⟨gb615, 0, none⟩) (Kd.R_types HO596.out BK615.out (by decide)) (fun _ hk => hk.2) (.slice Ao102 t612.length co102)) (fun _ h_ => h_.1))) hb) (Kd.R_base ho0)) (Kd.R_base ho1)) (fun _ h_ => h_.1)); replace HO607 := Aside0.mk (Kd.R_mono (Kd.R_told (Kd.R_told (Kd.R_old (by (with_reducible repeat (first | apply Kd.R_alloc | apply Kd.R_drewN | apply Kd.R_drew)); exact (Kd.R_mono (Kd.R_far (p := ⟨gb615, 0, none⟩) (Kd.R_types HO607.out BK615.out (by decide)) (fun _ hk => hk.2) (.slice Ao102 t612.length co102)) (fun _ h_ => h_.1))) hb) (Kd.R_base ho0)) (Kd.R_base ho1)) (fun _ h_ => h_.1)); replace HO610 := Aside0.mk (Kd.R_mono (Kd.R_told (Kd.R_told (Kd.R_old (by (with_reducible repeat (first | apply Kd.R_alloc | apply Kd.R_drewN | apply Kd.R_drew)); exact (Kd.R_mono (Kd.R_far (p := ⟨gb615, 0, none⟩) (Kd.R_types HO610.out BK615.out (by decide)) (fun _ hk => hk.2) (.slice Ao102 t612.length co102)) (fun _ h_ => h_.1))) hb) (Kd.R_base ho0)) (Kd.R_base ho1)) (fun _ h_ => h_.1)); replace ho2 := ag_ ho2; have HO628 := Aside0.mk (Kd.S_lower (Kd.S_new' ho2 (Kd.S_lt (by (with_reducible repeat (first | apply Kd.S_alloc | apply Kd.S_drewN | apply Kd.S_drew)); exact (Kd.S_mono (Kd.S_far (p := ⟨gb615, 0, none⟩) (Kd.S_types HO601.out BK615.out (by decide)) (fun _ hk => hk.2) (.slice Ao102 t612.length co102)) (fun _ h_ => h_.1))))) (below_size bl_)); replace HO601 := Aside0.mk (Kd.S_elder' (el_ (by (with_reducible repeat (first | apply Kd.S_alloc | apply Kd.S_drewN | apply Kd.S_drew)); exact (Kd.S_mono (Kd.S_far (p := ⟨gb615, 0, none⟩) (Kd.S_types HO601.out BK615.out (by decide)) (fun _ hk => hk.2) (.slice Ao102 t612.length co102)) (fun _ h_ => h_.1)))) (Kd.S_base ho2) hb); replace BK574 := Aside0.mk (blk_below (g := gb574) (o := .cells #[.int .i64 a0_0, .string a0_1, .slice A0_2 l0_2.length c0_2, .slice A0_3 l0_3.length c0_3] 24 (0, 0)) (by (with_reducible repeat (first | refine blk_drewN ?_ _ | refine blk_drew ?_ | refine blk_alloc ?_ _)); refine blk_far ?_ NB574_615.out _; (with_reducible repeat (first | refine blk_drewN ?_ _ | refine blk_drew ?_ | refine blk_alloc ?_ _)); exact BK574.out) hb); replace BK575 := Aside0.mk (blk_below (g := gb575) (o := .cells #[.slice A1_0 l1_0.length c1_0] 27 (0, 0)) (by (with_reducible repeat (first | refine blk_drewN ?_ _ | refine blk_drew ?_ | refine blk_alloc ?_ _)); refine blk_far ?_ NB575_615.out _; (with_reducible repeat (first | refine blk_drewN ?_ _ | refine blk_drew ?_ | refine blk_alloc ?_ _)); exact BK575.out) hb); replace BK602 := Aside0.mk (blk_below (g := gb602) (o := .cells #[.int .i64 t589, .string t590, .slice Ao87 t591.length co87, .slice Ao89 t594.length co89] 30 (0, 0)) (by (with_reducible repeat (first | refine blk_drewN ?_ _ | refine blk_drew ?_ | refine blk_alloc ?_ _)); refine blk_far ?_ NB602_615.out _; (with_reducible repeat (first | refine blk_drewN ?_ _ | refine blk_drew ?_ | refine blk_alloc ?_ _)); exact BK602.out) hb); replace BK611 := Aside0.mk (blk_below (g := gb611) (o := .cells #[.int .i64 t603, .string t604, .slice Ao94 t605.length co94, .slice Ao95 t608.length co95] 30 (0, 0)) (by (with_reducible repeat (first | refine blk_drewN ?_ _ | refine blk_drew ?_ | refine blk_alloc ?_ _)); refine blk_far ?_ NB611_615.out _; (with_reducible repeat (first | refine blk_drewN ?_ _ | refine blk_drew ?_ | refine blk_alloc ?_ _)); exact BK611.out) hb); replace BK615 := Aside0.mk (blk_below (g := gb615) (o := .cells #[.slice Ao102 t612.length co102] 37 (0, 0)) (by (with_reducible repeat (first | refine blk_drewN ?_ _ | refine blk_drew ?_ | refine blk_alloc ?_ _)); refine blk_put (cs := #[.slice none 0 0]) ?_ 0 _ rfl; (with_reducible repeat (first | refine blk_drewN ?_ _ | refine blk_drew ?_ | refine blk_alloc ?_ _)); exact BK615.out) hb); replace HB := hbl_ hb; try clear hb; try clear ho0; try clear ho1; try clear ho2; obtain ⟨Ao112, co112, rfl⟩ := Kd.R_slice HO620.out; obtain ⟨Ao113, co113, rfl⟩ := Kd.R_slice HO623.out) | ((with_reducible refine gd_ 14 ?_); refine bf_ 14 30 #[.int .i64 0, .string (⟨#[]⟩ : ByteArray), .slice none 0 0, .slice none 0 0] #[.int .i64 t616, .string t617, .slice Ao112 t618.length co112, .slice Ao113 t621.length co113] ?_; intro gb629 hg w114 hbox hb; replace HO582 := rbl_ HO582 hb; replace HO585 := rbl_ HO585 hb; replace HO588 := sbl_ HO588 hb; replace HO593 := rbl_ HO593 hb; replace HO596 := rbl_ HO596 hb; replace HO601 := sbl_ HO601 hb; replace HO607 := rbl_ HO607 hb; replace HO610 := rbl_ HO610 hb; replace HO614 := sbl_ HO614 hb; replace HO620 := rbl_ HO620 hb; replace HO623 := rbl_ HO623 hb; replace HO628 := sbl_ HO628 hb; have BK629 := Aside0.mk (hbox); have GE629 := gel_ hg; replace HB := hbl_ hb; have NB574_629 := nl_ hg BK574; have NB629_574 := ng_ hg BK574; replace BK574 := bbl_ BK574 hb; have NB575_629 := nl_ hg BK575; have NB629_575 := ng_ hg BK575; replace BK575 := bbl_ BK575 hb; have NB602_629 := nl_ hg BK602; have NB629_602 := ng_ hg BK602; replace BK602 := bbl_ BK602 hb; have NB611_629 := nl_ hg BK611; have NB629_611 := ng_ hg BK611; replace BK611 := bbl_ BK611 hb; have NB615_629 := nl_ hg BK615; have NB629_615 := ng_ hg BK615; replace BK615 := bbl_ BK615 hb; clear hb hbox hg; have hnb115 := NB629_574.out; have hnc115 := NB574_629.out; have hnb116 := NB629_575.out; have hnc116 := NB575_629.out; have hnb117 := NB629_602.out; have hnc117 := NB602_629.out; have hnb118 := NB629_611.out; have hnc118 := NB611_629.out; have hnb119 := NB629_615.out; have hnc119 := NB615_629.out; have hcz120 := blk_cell BK629.out; have hfz120 := blk_frozen BK629.out; have hcz121 := blk_cell BK602.out; have hfz121 := blk_frozen BK602.out) | ((with_reducible refine gc_ 10 ?_); refine gl_ (some 64) Tryd.func10 #[.agg #[.int .i64 t616, .string t617, .slice Ao112 t618.length co112, .slice Ao113 t621.length co113], .agg #[.int .i64 t589, .string t590, .slice Ao87 t591.length co87, .slice Ao89 t594.length co89]] ?_; (with_reducible refine (laws_eqBring.calls k t616 t617 _ _ t618 _ _ t621 t589 t590 _ _ t591 _ _ t594  _ ?side1 ?side2 ?side3 ?side4 ?side5 ?side6 ?side7 ?side8 A29.out).mono ?_); (case side1 => exact cr_ HO620); (case side2 => exact nr_ HO620); (case side3 => exact cr_ HO623); (case side4 => exact nr_ HO623); (case side5 => exact cr_ HO593); (case side6 => exact nr_ HO593); (case side7 => exact cr_ HO596); (case side8 => exact nr_ HO596); rintro e w122 ⟨rfl, hb⟩; refine ⟨_, rfl, ?_⟩; replace HO582 := rbl_ HO582 hb; replace HO585 := rbl_ HO585 hb; replace HO588 := sbl_ HO588 hb; replace HO593 := rbl_ HO593 hb; replace HO596 := rbl_ HO596 hb; replace HO601 := sbl_ HO601 hb; replace HO607 := rbl_ HO607 hb; replace HO610 := rbl_ HO610 hb; replace HO614 := sbl_ HO614 hb; replace HO620 := rbl_ HO620 hb; replace HO623 := rbl_ HO623 hb; replace HO628 := sbl_ HO628 hb; replace BK574 := bbl_ BK574 hb; replace BK575 := bbl_ BK575 hb; replace BK602 := bbl_ BK602 hb; replace BK611 := bbl_ BK611 hb; replace BK615 := bbl_ BK615 hb; replace BK629 := bbl_ BK629 hb; replace HB := hbl_ hb; try clear hb; obtain ⟨Ao123, co123, rfl⟩ := Kd.S_slice HO628.out; obtain ⟨Ao124, co124, rfl⟩ := Kd.S_slice HO601.out) | (go_at_call 11; (with_reducible refine (laws_eqCallS.calls k _ _ t626 _ _ t599  _ ?side1 ?side2 ?side3 ?side4 A33.out).mono ?_); (case side1 => exact cs_ HO628); (case side2 => exact ns_ HO628); (case side3 => exact cs_ HO601); (case side4 => exact ns_ HO601); rintro e w125 ⟨rfl, hb⟩; replace HO582 := rbl_ HO582 hb; replace HO585 := rbl_ HO585 hb; replace HO588 := sbl_ HO588 hb; replace HO593 := rbl_ HO593 hb; replace HO596 := rbl_ HO596 hb; replace HO601 := sbl_ HO601 hb; replace HO607 := rbl_ HO607 hb; replace HO610 := rbl_ HO610 hb; replace HO614 := sbl_ HO614 hb; replace HO620 := rbl_ HO620 hb; replace HO623 := rbl_ HO623 hb; replace HO628 := sbl_ HO628 hb; replace BK574 := bbl_ BK574 hb; replace BK575 := bbl_ BK575 hb; replace BK602 := bbl_ BK602 hb; replace BK611 := bbl_ BK611 hb; replace BK615 := bbl_ BK615 hb; replace BK629 := bbl_ BK629 hb; replace HB := hbl_ hb; try clear hb; try clear hi))
                       replace HO582 := Aside0.mk (Kd.R_drew HO582.out)
                       replace HO585 := Aside0.mk (Kd.R_drew HO585.out)
                       replace HO588 := Aside0.mk (Kd.S_drew HO588.out)
                       replace HO593 := Aside0.mk (Kd.R_drew HO593.out)
                       replace HO596 := Aside0.mk (Kd.R_drew HO596.out)
                       replace HO601 := Aside0.mk (Kd.S_drew HO601.out)
                       replace HO607 := Aside0.mk (Kd.R_drew HO607.out)
                       replace HO610 := Aside0.mk (Kd.R_drew HO610.out)
                       replace HO614 := Aside0.mk (Kd.S_drew HO614.out)
                       replace HO620 := Aside0.mk (Kd.R_drew HO620.out)
                       replace HO623 := Aside0.mk (Kd.R_drew HO623.out)
                       replace HO628 := Aside0.mk (Kd.S_drew HO628.out)
                       replace BK574 := Aside0.mk (blk_drew BK574.out)
                       replace BK575 := Aside0.mk (blk_drew BK575.out)
                       replace BK602 := Aside0.mk (blk_drew BK602.out)
                       replace BK611 := Aside0.mk (blk_drew BK611.out)
                       replace BK615 := Aside0.mk (blk_drew BK615.out)
                       replace BK629 := Aside0.mk (blk_drew BK629.out)
                       replace HB := hd_ HB
                       refine start_ (n := 5) (S := fun w' => w'.cell? ⟨gb611, 0, none⟩ = some (.int .i64 t603) ∧ w'.cell? ⟨gb611, 1, none⟩ = some (.string t604) ∧ w'.cell? ⟨gb611, 2, none⟩ = some (.slice Ao94 t605.length co94) ∧ w'.cell? ⟨gb611, 3, none⟩ = some (.slice Ao95 t608.length co95) ∧ w'.cell? ⟨gb574, 0, none⟩ = some (.int .i64 a0_0) ∧ w'.cell? ⟨gb574, 1, none⟩ = some (.string a0_1) ∧ w'.cell? ⟨gb574, 2, none⟩ = some (.slice A0_2 l0_2.length c0_2) ∧ w'.cell? ⟨gb574, 3, none⟩ = some (.slice A0_3 l0_3.length c0_3)) (ds := []) (fl 5 0) (by kernel_rfl) rfl rfl ⟨bc_ BK611 0, bc_ BK611 1, bc_ BK611 2, bc_ BK611 3, bc_ BK574 0, bc_ BK574 1, bc_ BK574 2, bc_ BK574 3⟩ (fun hHeld => ?_)
                       generalize w125.drew = w126 at HO582 HO585 HO588 HO593 HO596 HO601 HO607 HO610 HO614 HO620 HO623 HO628 BK574 BK575 BK602 BK611 BK615 BK629 HB hHeld ⊢
                       refine take_ (i := 0) (N := some 82) (v := ?_) (a' := ?_) (fl 5 1) rfl rfl (by kernel_rfl) (fun _ _ _ h => h) (Or.inl ⟨by rfl, ?_⟩) hHeld ?_ ?_
                       rotate_left
                       ·rintro w' ⟨s0, s1, s2, s3, s4, s5, s6, s7⟩
                        go_simp
                        with_reducible rfl
                       rotate_left
                       ·simp only [Act.put, List.setIfInBounds_toArray, List.set_cons_zero, List.set_cons_succ, i64_w, i32_w]
                        rfl
                       refine take_ (i := 1) (N := some 83) (v := ?_) (a' := ?_) (fl 5 3) rfl rfl (by kernel_rfl) (fun _ _ _ h => h) (Or.inl ⟨by rfl, ?_⟩) hHeld ?_ ?_
                       rotate_left
                       ·rintro w' ⟨s0, s1, s2, s3, s4, s5, s6, s7⟩
                        go_simp
                        with_reducible rfl
                       rotate_left
                       ·simp only [Act.put, List.setIfInBounds_toArray, List.set_cons_zero, List.set_cons_succ, i64_w, i32_w]
                        rfl
                       refine one_ (i := 2) (N := some 84) (fl 5 7) rfl rfl (by kernel_rfl) (by decide) (fun K hK => ?_)
                       refine go_ Tryd.func7 #[.agg #[.int .i64 a0_0, .string a0_1, .slice A0_2 l0_2.length c0_2, .slice A0_3 l0_3.length c0_3]] ?_
                       with_reducible refine (laws_toBring.calls k a0_0 a0_1 _ _ l0_2 _ _ l0_3 t632 t633 t634 t637 _ ?side1 ?side2 ?side3 ?side4 A35.out).mono ?_
                       (case side1 => exact cb_ HR0_2)
                       (case side2 => exact HC0_2.out)
                       (case side3 => exact cb_ HR0_3)
                       (case side4 => exact HC0_3.out)
                       rintro e w127 ⟨v635, v638, rfl, ho0, ho1, hb⟩
                       refine ⟨_, rfl, ?_⟩
                       replace HO588 := sbl_ HO588 hb
                       replace HO601 := sbl_ HO601 hb
                       replace HO614 := sbl_ HO614 hb
                       replace HO628 := sbl_ HO628 hb
                       have HO636 := Aside0.mk (Kd.R_lower (Kd.R_new' (Kd.R_new' (Kd.R_new' (Kd.R_new' (Kd.R_new' (Kd.R_new' (Kd.R_new' (Kd.R_new' ho0 (Kd.R_lt (rl_ HO582))) (Kd.R_lt (rl_ HO585))) (Kd.R_lt (rl_ HO593))) (Kd.R_lt (rl_ HO596))) (Kd.R_lt (rl_ HO607))) (Kd.R_lt (rl_ HO610))) (Kd.R_lt (rl_ HO620))) (Kd.R_lt (rl_ HO623))) (below_size bl_))
                       have HO639 := Aside0.mk (Kd.R_lower (Kd.R_new' (Kd.R_new' (Kd.R_new' (Kd.R_new' (Kd.R_new' (Kd.R_new' (Kd.R_new' (Kd.R_new' ho1 (Kd.R_lt (rl_ HO582))) (Kd.R_lt (rl_ HO585))) (Kd.R_lt (rl_ HO593))) (Kd.R_lt (rl_ HO596))) (Kd.R_lt (rl_ HO607))) (Kd.R_lt (rl_ HO610))) (Kd.R_lt (rl_ HO620))) (Kd.R_lt (rl_ HO623))) (below_size bl_))
                       replace HO582 := rt2_ HO582 hb ho0 ho1
                       replace HO585 := rt2_ HO585 hb ho0 ho1
                       replace HO593 := rt2_ HO593 hb ho0 ho1
                       replace HO596 := rt2_ HO596 hb ho0 ho1
                       replace HO607 := rt2_ HO607 hb ho0 ho1
                       replace HO610 := rt2_ HO610 hb ho0 ho1
                       replace HO620 := rt2_ HO620 hb ho0 ho1
                       replace HO623 := rt2_ HO623 hb ho0 ho1
                       replace BK574 := bbl_ BK574 hb
                       replace BK575 := bbl_ BK575 hb
                       replace BK602 := bbl_ BK602 hb
                       replace BK611 := bbl_ BK611 hb
                       replace BK615 := bbl_ BK615 hb
                       replace BK629 := bbl_ BK629 hb
                       replace HB := hbl_ hb
                       try clear hb
                       try clear ho0
                       try clear ho1
                       obtain ⟨Ao128, co128, eo128⟩ := Kd.R_slice HO636.out
                       (first | subst eo128 | (injection eo128 with f1_ f2_ f3_; have f4_ := f1_.symm; have f5_ := f3_.symm; clear f1_ f2_ f3_; subst f4_; subst f5_))
                       obtain ⟨Ao129, co129, eo129⟩ := Kd.R_slice HO639.out
                       (first | subst eo129 | (injection eo129 with f1_ f2_ f3_; have f4_ := f1_.symm; have f5_ := f3_.symm; clear f1_ f2_ f3_; subst f4_; subst f5_))
                       refine hK.out _ _ ⟨bc_ BK611 0, bc_ BK611 1, bc_ BK611 2, bc_ BK611 3, bc_ BK574 0, bc_ BK574 1, bc_ BK574 2, bc_ BK574 3⟩ (fun hHeld => ?_)
                       clear hK K
                       refine nq_ ?_
                       refine one_ (i := 3) (N := some 85) (fl 5 15) rfl rfl (by kernel_rfl) (by decide) (fun K hK => ?_)
                       refine go_ Tryd.func10 #[.agg #[.int .i64 t603, .string t604, .slice Ao94 t605.length co94, .slice Ao95 t608.length co95], .agg #[.int .i64 t632, .string t633, .slice Ao128 t634.length co128, .slice Ao129 t637.length co129]] ?_
                       with_reducible refine (laws_eqBring.calls k t603 t604 _ _ t605 _ _ t608 t632 t633 _ _ t634 _ _ t637  _ ?side1 ?side2 ?side3 ?side4 ?side5 ?side6 ?side7 ?side8 A36.out).mono ?_
                       (case side1 => exact cr_ HO607)
                       (case side2 => exact nr_ HO607)
                       (case side3 => exact cr_ HO610)
                       (case side4 => exact nr_ HO610)
                       (case side5 => exact cr_ HO636)
                       (case side6 => exact nr_ HO636)
                       (case side7 => exact cr_ HO639)
                       (case side8 => exact nr_ HO639)
                       rintro e w130 ⟨rfl, hb⟩
                       refine ⟨_, rfl, ?_⟩
                       replace HO582 := rbl_ HO582 hb
                       replace HO585 := rbl_ HO585 hb
                       replace HO588 := sbl_ HO588 hb
                       replace HO593 := rbl_ HO593 hb
                       replace HO596 := rbl_ HO596 hb
                       replace HO601 := sbl_ HO601 hb
                       replace HO607 := rbl_ HO607 hb
                       replace HO610 := rbl_ HO610 hb
                       replace HO614 := sbl_ HO614 hb
                       replace HO620 := rbl_ HO620 hb
                       replace HO623 := rbl_ HO623 hb
                       replace HO628 := sbl_ HO628 hb
                       replace HO636 := rbl_ HO636 hb
                       replace HO639 := rbl_ HO639 hb
                       replace BK574 := bbl_ BK574 hb
                       replace BK575 := bbl_ BK575 hb
                       replace BK602 := bbl_ BK602 hb
                       replace BK611 := bbl_ BK611 hb
                       replace BK615 := bbl_ BK615 hb
                       replace BK629 := bbl_ BK629 hb
                       replace HB := hbl_ hb
                       try clear hb
                       refine hK.out _ _ ⟨bc_ BK611 0, bc_ BK611 1, bc_ BK611 2, bc_ BK611 3, bc_ BK574 0, bc_ BK574 1, bc_ BK574 2, bc_ BK574 3⟩ (fun hHeld => ?_)
                       clear hK K
                       refine nq_ ?_
                       refine pure_ (i := 4) (N := some 86) (v := ?_) (a' := ?_) (fl 5 31) rfl rfl (by kernel_rfl) (fun _ _ _ h => h) (Or.inl ⟨by rfl, ?_⟩) ?_ ?_
                       rotate_left
                       ·intro w'
                        go_simp
                        with_reducible rfl
                       rotate_left
                       ·simp only [Act.put, List.setIfInBounds_toArray, List.set_cons_zero, List.set_cons_succ, i64_w, i32_w]
                        rfl
                       refine done_ (by kernel_rfl) ?_
                       try go_wp2
                       replace HO582 := Aside0.mk (Kd.R_drew HO582.out)
                       replace HO585 := Aside0.mk (Kd.R_drew HO585.out)
                       replace HO588 := Aside0.mk (Kd.S_drew HO588.out)
                       replace HO593 := Aside0.mk (Kd.R_drew HO593.out)
                       replace HO596 := Aside0.mk (Kd.R_drew HO596.out)
                       replace HO601 := Aside0.mk (Kd.S_drew HO601.out)
                       replace HO607 := Aside0.mk (Kd.R_drew HO607.out)
                       replace HO610 := Aside0.mk (Kd.R_drew HO610.out)
                       replace HO614 := Aside0.mk (Kd.S_drew HO614.out)
                       replace HO620 := Aside0.mk (Kd.R_drew HO620.out)
                       replace HO623 := Aside0.mk (Kd.R_drew HO623.out)
                       replace HO628 := Aside0.mk (Kd.S_drew HO628.out)
                       replace HO636 := Aside0.mk (Kd.R_drew HO636.out)
                       replace HO639 := Aside0.mk (Kd.R_drew HO639.out)
                       replace BK574 := Aside0.mk (blk_drew BK574.out)
                       replace BK575 := Aside0.mk (blk_drew BK575.out)
                       replace BK602 := Aside0.mk (blk_drew BK602.out)
                       replace BK611 := Aside0.mk (blk_drew BK611.out)
                       replace BK615 := Aside0.mk (blk_drew BK615.out)
                       replace BK629 := Aside0.mk (blk_drew BK629.out)
                       replace HB := hd_ HB
                       refine start_ (n := 5) (S := fun w' => w'.cell? ⟨gb615, 0, none⟩ = some (.slice Ao102 t612.length co102) ∧ w'.cell? ⟨gb575, 0, none⟩ = some (.slice A1_0 l1_0.length c1_0)) (ds := []) (fl 5 0) (by kernel_rfl) rfl rfl ⟨bc_ BK615 0, bc_ BK575 0⟩ (fun hHeld => ?_)
                       generalize w130.drew = w131 at HO582 HO585 HO588 HO593 HO596 HO601 HO607 HO610 HO614 HO620 HO623 HO628 HO636 HO639 BK574 BK575 BK602 BK611 BK615 BK629 HB hHeld ⊢
                       refine take_ (i := 0) (N := some 87) (v := ?_) (a' := ?_) (fl 5 1) rfl rfl (by kernel_rfl) (fun _ _ _ h => h) (Or.inl ⟨by rfl, ?_⟩) hHeld ?_ ?_
                       rotate_left
                       ·rintro w' ⟨s0, s1⟩
                        go_simp
                        with_reducible rfl
                       rotate_left
                       ·simp only [Act.put, List.setIfInBounds_toArray, List.set_cons_zero, List.set_cons_succ, i64_w, i32_w]
                        rfl
                       refine take_ (i := 1) (N := some 88) (v := ?_) (a' := ?_) (fl 5 3) rfl rfl (by kernel_rfl) (fun _ _ _ h => h) (Or.inl ⟨by rfl, ?_⟩) hHeld ?_ ?_
                       rotate_left
                       ·rintro w' ⟨s0, s1⟩
                        go_simp
                        with_reducible rfl
                       rotate_left
                       ·simp only [Act.put, List.setIfInBounds_toArray, List.set_cons_zero, List.set_cons_succ, i64_w, i32_w]
                        rfl
                       refine one_ (i := 2) (N := some 89) (fl 5 7) rfl rfl (by kernel_rfl) (by decide) (fun K hK => ?_)
                       refine go_ Tryd.func8 #[.agg #[.slice A1_0 l1_0.length c1_0]] ?_
                       with_reducible refine (laws_toState.calls k _ _ l1_0 t641 _ ?side1 ?side2 A38.out).mono ?_
                       (case side1 => exact cb_ HR1_0)
                       (case side2 => exact HC1_0.out)
                       rintro e w132 ⟨v642, rfl, ho0, hb⟩
                       refine ⟨_, rfl, ?_⟩
                       replace HO582 := rbl_ HO582 hb
                       replace HO585 := rbl_ HO585 hb
                       replace HO593 := rbl_ HO593 hb
                       replace HO596 := rbl_ HO596 hb
                       replace HO601 := sbl_ HO601 hb
                       replace HO607 := rbl_ HO607 hb
                       replace HO610 := rbl_ HO610 hb
                       replace HO620 := rbl_ HO620 hb
                       replace HO623 := rbl_ HO623 hb
                       replace HO628 := sbl_ HO628 hb
                       replace HO636 := rbl_ HO636 hb
                       replace HO639 := rbl_ HO639 hb
                       have HO643 := Aside0.mk (Kd.S_lower (Kd.S_new' (Kd.S_new' ho0 (Kd.S_lt (sl_ HO588))) (Kd.S_lt (sl_ HO614))) (below_size bl_))
                       replace HO614 := Aside0.mk (Kd.S_elder' (sl_ HO614) (Kd.S_base ho0) hb)
                       replace BK574 := bbl_ BK574 hb
                       replace BK575 := bbl_ BK575 hb
                       replace BK602 := bbl_ BK602 hb
                       replace BK611 := bbl_ BK611 hb
                       replace BK615 := bbl_ BK615 hb
                       replace BK629 := bbl_ BK629 hb
                       replace HB := hbl_ hb
                       try clear hb
                       try clear ho0
                       obtain ⟨Ao133, co133, eo133⟩ := Kd.S_slice HO643.out
                       (first | subst eo133 | (injection eo133 with f1_ f2_ f3_; have f4_ := f1_.symm; have f5_ := f3_.symm; clear f1_ f2_ f3_; subst f4_; subst f5_))
                       refine hK.out _ _ ⟨bc_ BK615 0, bc_ BK575 0⟩ (fun hHeld => ?_)
                       clear hK K
                       refine nq_ ?_
                       refine one_ (i := 3) (N := some 90) (fl 5 15) rfl rfl (by kernel_rfl) (by decide) (fun K hK => ?_)
                       refine go_ Tryd.func12 #[.agg #[.slice Ao102 t612.length co102], .agg #[.slice Ao133 t641.length co133]] ?_
                       with_reducible refine (laws_eqState.calls k _ _ t612 _ _ t641  _ ?side1 ?side2 ?side3 ?side4 A39.out).mono ?_
                       (case side1 => exact cs_ HO614)
                       (case side2 => exact ns_ HO614)
                       (case side3 => exact cs_ HO643)
                       (case side4 => exact ns_ HO643)
                       rintro e w134 ⟨rfl, hb⟩
                       refine ⟨_, rfl, ?_⟩
                       replace HO582 := rbl_ HO582 hb
                       replace HO585 := rbl_ HO585 hb
                       replace HO593 := rbl_ HO593 hb
                       replace HO596 := rbl_ HO596 hb
                       replace HO601 := sbl_ HO601 hb
                       replace HO607 := rbl_ HO607 hb
                       replace HO610 := rbl_ HO610 hb
                       replace HO614 := sbl_ HO614 hb
                       replace HO620 := rbl_ HO620 hb
                       replace HO623 := rbl_ HO623 hb
                       replace HO628 := sbl_ HO628 hb
                       replace HO636 := rbl_ HO636 hb
                       replace HO639 := rbl_ HO639 hb
                       replace BK574 := bbl_ BK574 hb
                       replace BK575 := bbl_ BK575 hb
                       replace BK602 := bbl_ BK602 hb
                       replace BK611 := bbl_ BK611 hb
                       replace BK615 := bbl_ BK615 hb
                       replace BK629 := bbl_ BK629 hb
                       replace HB := hbl_ hb
                       try clear hb
                       refine hK.out _ _ ⟨bc_ BK615 0, bc_ BK575 0⟩ (fun hHeld => ?_)
                       clear hK K
                       refine nq_ ?_
                       refine pure_ (i := 4) (N := some 91) (v := ?_) (a' := ?_) (fl 5 31) rfl rfl (by kernel_rfl) (fun _ _ _ h => h) (Or.inl ⟨by rfl, ?_⟩) ?_ ?_
                       rotate_left
                       ·intro w'
                        go_simp
                        with_reducible rfl
                       rotate_left
                       ·simp only [Act.put, List.setIfInBounds_toArray, List.set_cons_zero, List.set_cons_succ, i64_w, i32_w]
                        rfl
                       refine done_ (by kernel_rfl) ?_
                       have hcz135 := blk_cell BK611.out
                       have hfz135 := blk_frozen BK611.out
                       try go_wp2_with (first | (refine lr_ 30 12 BK611 hu30 ?_) | (refine lr_ 24 3 BK574 hu24 ?_) | (refine lr_ 37 13 BK615 hu37 ?_) | (refine lr_ 27 4 BK575 hu27 ?_) | ((with_reducible refine gd_ 101 ?_); refine gate_guard (by rfl) ?_; dsimp only; refine wpList_load_row rfl 30 (.tmp 14) rfl _ rfl 30 _ (0, 0) _ BK629.out hu30 rfl (by kernel_rfl) ?_) | (refine lr_ 30 14 BK629 hu30 ?_) | ((with_reducible refine gc_ 13 ?_); refine gl_ (some 94) Tryd.func13 #[.agg #[.int .i64 t603, .string t604, .slice Ao94 t605.length co94, .slice Ao95 t608.length co95], .int .i64 1] ?_; (with_reducible refine (laws_markBring.calls k t603 t604 (fun k_ => some k_ = (.slice Ao94 t605.length co94 : Value).ownBlock) (.slice Ao94 t605.length co94) t605 (fun k_ => some k_ = (.slice Ao95 t608.length co95 : Value).ownBlock) (.slice Ao95 t608.length co95) t608 1 t645 t646 t647 w _ ?side1 ?side2 ?side3 ?side4 ?side5 A41.out).mono ?_); (case side1 => repeat (first | (with_reducible first | exact HB.out | apply below_alloc | apply pw_below_drewN | apply below_drew1 | refine below_set ?_ GE574.out | refine below_set ?_ GE575.out | refine below_set ?_ GE602.out | refine below_set ?_ GE611.out | refine below_set ?_ GE615.out | refine below_set ?_ GE629.out) | exact HB.out)); (case side2 => exact Kd.R_tight rfl HO607.out); (case side3 => exact fun k_ e_ => (HO607.out.1 k_ e_.symm).1.1.1.1.1.1.1.1); (case side4 => exact Kd.R_tight rfl HO610.out); (case side5 => exact fun k_ e_ => (HO610.out.1 k_ e_.symm).1.1.1.1.1.1.1.1); rintro e w136 ⟨rfl, hy0, hy1, hb, hkp⟩; refine ⟨_, rfl, ?_⟩; replace BK574 := Aside0.mk (blk_kept (kl_ BK574) hkp (fun hs_ => Or.elim hs_ (fun e_ => (fun e_ => (Kd.R_ne HO607.out BK574.out (by decide)) e_) e_) (fun e_ => (fun e_ => (Kd.R_ne HO610.out BK574.out (by decide)) e_) e_))); replace BK575 := Aside0.mk (blk_kept (kl_ BK575) hkp (fun hs_ => Or.elim hs_ (fun e_ => (fun e_ => (Kd.R_ne HO607.out BK575.out (by decide)) e_) e_) (fun e_ => (fun e_ => (Kd.R_ne HO610.out BK575.out (by decide)) e_) e_))); replace HO582 := Aside0.mk (Kd.R_mono (ok' := fun k_ => some k_ ≠ (v584 : Value).ownBlock ∧ some k_ ≠ (.slice Ao87 t591.length co87 : Value).ownBlock ∧ some k_ ≠ (.slice Ao89 t594.length co89 : Value).ownBlock ∧ some k_ ≠ (.slice Ao94 t605.length co94 : Value).ownBlock ∧ some k_ ≠ (.slice Ao95 t608.length co95 : Value).ownBlock ∧ some k_ ≠ (.slice Ao112 t618.length co112 : Value).ownBlock ∧ some k_ ≠ (.slice Ao113 t621.length co113 : Value).ownBlock ∧ some k_ ≠ (.slice Ao128 t634.length co128 : Value).ownBlock ∧ some k_ ≠ (.slice Ao129 t637.length co129 : Value).ownBlock) (Kd.R_keptB (HO582.out) hkp (fun k_ hk_ hs_ => Or.elim hs_ (fun e_ => (hk_.1.1.1.1.1.2) e_) (fun e_ => (hk_.1.1.1.1.2) e_))) (fun k_ hk_ => ⟨hk_.1.1.1.1.1.1.1.1, hk_.1.1.1.1.1.1.1.2.1, hk_.1.1.1.1.1.1.1.2.2, hk_.1.1.1.1.1.1.2, hk_.1.1.1.1.1.2, hk_.1.1.1.1.2, hk_.1.1.1.2, hk_.1.1.2, hk_.1.2⟩)); replace HO585 := Aside0.mk (Kd.R_mono (ok' := fun k_ => some k_ ≠ (v581 : Value).ownBlock ∧ some k_ ≠ (.slice Ao87 t591.length co87 : Value).ownBlock ∧ some k_ ≠ (.slice Ao89 t594.length co89 : Value).ownBlock ∧ some k_ ≠ (.slice Ao94 t605.length co94 : Value).ownBlock ∧ some k_ ≠ (.slice Ao95 t608.length co95 : Value).ownBlock ∧ some k_ ≠ (.slice Ao112 t618.length co112 : Value).ownBlock ∧ some k_ ≠ (.slice Ao113 t621.length co113 : Value).ownBlock ∧ some k_ ≠ (.slice Ao128 t634.length co128 : Value).ownBlock ∧ some k_ ≠ (.slice Ao129 t637.length co129 : Value).ownBlock) (Kd.R_keptB (HO585.out) hkp (fun k_ hk_ hs_ => Or.elim hs_ (fun e_ => (hk_.1.1.1.1.1.2) e_) (fun e_ => (hk_.1.1.1.1.2) e_))) (fun k_ hk_ => ⟨hk_.1.1.1.1.1.1.1.1, hk_.1.1.1.1.1.1.1.2.1, hk_.1.1.1.1.1.1.1.2.2, hk_.1.1.1.1.1.1.2, hk_.1.1.1.1.1.2, hk_.1.1.1.1.2, hk_.1.1.1.2, hk_.1.1.2, hk_.1.2⟩)); replace HO593 := Aside0.mk (Kd.R_mono (ok' := fun k_ => some k_ ≠ (v581 : Value).ownBlock ∧ some k_ ≠ (v584 : Value).ownBlock ∧ some k_ ≠ (.slice Ao89 t594.length co89 : Value).ownBlock ∧ some k_ ≠ (.slice Ao94 t605.length co94 : Value).ownBlock ∧ some k_ ≠ (.slice Ao95 t608.length co95 : Value).ownBlock ∧ some k_ ≠ (.slice Ao112 t618.length co112 : Value).ownBlock ∧ some k_ ≠ (.slice Ao113 t621.length co113 : Value).ownBlock ∧ some k_ ≠ (.slice Ao128 t634.length co128 : Value).ownBlock ∧ some k_ ≠ (.slice Ao129 t637.length co129 : Value).ownBlock) (Kd.R_keptB (HO593.out) hkp (fun k_ hk_ hs_ => Or.elim hs_ (fun e_ => (hk_.1.1.1.1.1.2) e_) (fun e_ => (hk_.1.1.1.1.2) e_))) (fun k_ hk_ => ⟨hk_.1.1.1.1.1.1.1.1, hk_.1.1.1.1.1.1.1.2.1, hk_.1.1.1.1.1.1.1.2.2, hk_.1.1.1.1.1.1.2, hk_.1.1.1.1.1.2, hk_.1.1.1.1.2, hk_.1.1.1.2, hk_.1.1.2, hk_.1.2⟩)); replace HO596 := Aside0.mk (Kd.R_mono (ok' := fun k_ => some k_ ≠ (v581 : Value).ownBlock ∧ some k_ ≠ (v584 : Value).ownBlock ∧ some k_ ≠ (.slice Ao87 t591.length co87 : Value).ownBlock ∧ some k_ ≠ (.slice Ao94 t605.length co94 : Value).ownBlock ∧ some k_ ≠ (.slice Ao95 t608.length co95 : Value).ownBlock ∧ some k_ ≠ (.slice Ao112 t618.length co112 : Value).ownBlock ∧ some k_ ≠ (.slice Ao113 t621.length co113 : Value).ownBlock ∧ some k_ ≠ (.slice Ao128 t634.length co128 : Value).ownBlock ∧ some k_ ≠ (.slice Ao129 t637.length co129 : Value).ownBlock) (Kd.R_keptB (HO596.out) hkp (fun k_ hk_ hs_ => Or.elim hs_ (fun e_ => (hk_.1.1.1.1.1.2) e_) (fun e_ => (hk_.1.1.1.1.2) e_))) (fun k_ hk_ => ⟨hk_.1.1.1.1.1.1.1.1, hk_.1.1.1.1.1.1.1.2.1, hk_.1.1.1.1.1.1.1.2.2, hk_.1.1.1.1.1.1.2, hk_.1.1.1.1.1.2, hk_.1.1.1.1.2, hk_.1.1.1.2, hk_.1.1.2, hk_.1.2⟩)); replace HO601 := Aside0.mk (Kd.S_mono (Kd.S_keptB ((Kd.S_apart' (Kd.S_apart' HO601.out (Kd.R_typed HO607.out) (by decide)) (Kd.R_typed HO610.out) (by decide))) hkp (fun k_ hk_ hs_ => Or.elim hs_ (fun e_ => (hk_.1.2) e_) (fun e_ => (hk_.2) e_))) (fun k_ hk_ => hk_.1.1.1)); replace BK602 := Aside0.mk (blk_kept (kl_ BK602) hkp (fun hs_ => Or.elim hs_ (fun e_ => (fun e_ => (Kd.R_ne HO607.out BK602.out (by decide)) e_) e_) (fun e_ => (fun e_ => (Kd.R_ne HO610.out BK602.out (by decide)) e_) e_))); replace BK611 := Aside0.mk (blk_kept (kl_ BK611) hkp (fun hs_ => Or.elim hs_ (fun e_ => (fun e_ => (Kd.R_ne HO607.out BK611.out (by decide)) e_) e_) (fun e_ => (fun e_ => (Kd.R_ne HO610.out BK611.out (by decide)) e_) e_))); replace HO614 := Aside0.mk (Kd.S_mono (ok' := fun k_ => some k_ ≠ (v587 : Value).ownBlock ∧ some k_ ≠ (.slice Ao133 t641.length co133 : Value).ownBlock) (Kd.S_keptB ((Kd.S_apart' (Kd.S_apart' HO614.out (Kd.R_typed HO607.out) (by decide)) (Kd.R_typed HO610.out) (by decide))) hkp (fun k_ hk_ hs_ => Or.elim hs_ (fun e_ => (hk_.1.2) e_) (fun e_ => (hk_.2) e_))) (fun k_ hk_ => ⟨hk_.1.1.1.1.2, hk_.1.1.1.2⟩)); replace BK615 := Aside0.mk (blk_kept (kl_ BK615) hkp (fun hs_ => Or.elim hs_ (fun e_ => (fun e_ => (Kd.R_ne HO607.out BK615.out (by decide)) e_) e_) (fun e_ => (fun e_ => (Kd.R_ne HO610.out BK615.out (by decide)) e_) e_))); replace HO620 := Aside0.mk (Kd.R_mono (ok' := fun k_ => some k_ ≠ (v581 : Value).ownBlock ∧ some k_ ≠ (v584 : Value).ownBlock ∧ some k_ ≠ (.slice Ao87 t591.length co87 : Value).ownBlock ∧ some k_ ≠ (.slice Ao89 t594.length co89 : Value).ownBlock ∧ some k_ ≠ (.slice Ao94 t605.length co94 : Value).ownBlock ∧ some k_ ≠ (.slice Ao95 t608.length co95 : Value).ownBlock ∧ some k_ ≠ (.slice Ao113 t621.length co113 : Value).ownBlock ∧ some k_ ≠ (.slice Ao128 t634.length co128 : Value).ownBlock ∧ some k_ ≠ (.slice Ao129 t637.length co129 : Value).ownBlock) (Kd.R_keptB (HO620.out) hkp (fun k_ hk_ hs_ => Or.elim hs_ (fun e_ => (hk_.1.1.1.2) e_) (fun e_ => (hk_.1.1.2) e_))) (fun k_ hk_ => ⟨hk_.1.1.1.1.1.1.1.1.2, hk_.1.1.1.1.1.1.1.2, hk_.1.1.1.1.1.1.2, hk_.1.1.1.1.1.2, hk_.1.1.1.1.2, hk_.1.1.1.2, hk_.1.1.1.1.1.1.1.1.1, hk_.1.1.2, hk_.1.2⟩)); replace HO623 := Aside0.mk (Kd.R_mono (ok' := fun k_ => some k_ ≠ (v581 : Value).ownBlock ∧ some k_ ≠ (v584 : Value).ownBlock ∧ some k_ ≠ (.slice Ao87 t591.length co87 : Value).ownBlock ∧ some k_ ≠ (.slice Ao89 t594.length co89 : Value).ownBlock ∧ some k_ ≠ (.slice Ao94 t605.length co94 : Value).ownBlock ∧ some k_ ≠ (.slice Ao95 t608.length co95 : Value).ownBlock ∧ some k_ ≠ (.slice Ao112 t618.length co112 : Value).ownBlock ∧ some k_ ≠ (.slice Ao128 t634.length co128 : Value).ownBlock ∧ some k_ ≠ (.slice Ao129 t637.length co129 : Value).ownBlock) (Kd.R_keptB (HO623.out) hkp (fun k_ hk_ hs_ => Or.elim hs_ (fun e_ => (hk_.1.1.1.2) e_) (fun e_ => (hk_.1.1.2) e_))) (fun k_ hk_ => ⟨hk_.1.1.1.1.1.1.1.1.2, hk_.1.1.1.1.1.1.1.2, hk_.1.1.1.1.1.1.2, hk_.1.1.1.1.1.2, hk_.1.1.1.1.2, hk_.1.1.1.2, hk_.1.1.1.1.1.1.1.1.1, hk_.1.1.2, hk_.1.2⟩)); replace HO628 := Aside0.mk (Kd.S_mono (Kd.S_keptB ((Kd.S_apart' (Kd.S_apart' HO628.out (Kd.R_typed HO607.out) (by decide)) (Kd.R_typed HO610.out) (by decide))) hkp (fun k_ hk_ hs_ => Or.elim hs_ (fun e_ => (hk_.1.2) e_) (fun e_ => (hk_.2) e_))) (fun k_ hk_ => hk_.1.1.1)); replace BK629 := Aside0.mk (blk_kept (kl_ BK629) hkp (fun hs_ => Or.elim hs_ (fun e_ => (fun e_ => (Kd.R_ne HO607.out BK629.out (by decide)) e_) e_) (fun e_ => (fun e_ => (Kd.R_ne HO610.out BK629.out (by decide)) e_) e_))); replace HO636 := Aside0.mk (Kd.R_mono (ok' := fun k_ => some k_ ≠ (v581 : Value).ownBlock ∧ some k_ ≠ (v584 : Value).ownBlock ∧ some k_ ≠ (.slice Ao87 t591.length co87 : Value).ownBlock ∧ some k_ ≠ (.slice Ao89 t594.length co89 : Value).ownBlock ∧ some k_ ≠ (.slice Ao94 t605.length co94 : Value).ownBlock ∧ some k_ ≠ (.slice Ao95 t608.length co95 : Value).ownBlock ∧ some k_ ≠ (.slice Ao112 t618.length co112 : Value).ownBlock ∧ some k_ ≠ (.slice Ao113 t621.length co113 : Value).ownBlock ∧ some k_ ≠ (.slice Ao129 t637.length co129 : Value).ownBlock) (Kd.R_keptB (HO636.out) hkp (fun k_ hk_ hs_ => Or.elim hs_ (fun e_ => (hk_.1.1.1.2) e_) (fun e_ => (hk_.1.1.2) e_))) (fun k_ hk_ => ⟨hk_.1.1.1.1.1.1.1.1.2, hk_.1.1.1.1.1.1.1.2, hk_.1.1.1.1.1.1.2, hk_.1.1.1.1.1.2, hk_.1.1.1.1.2, hk_.1.1.1.2, hk_.1.1.2, hk_.1.2, hk_.1.1.1.1.1.1.1.1.1⟩)); replace HO639 := Aside0.mk (Kd.R_mono (ok' := fun k_ => some k_ ≠ (v581 : Value).ownBlock ∧ some k_ ≠ (v584 : Value).ownBlock ∧ some k_ ≠ (.slice Ao87 t591.length co87 : Value).ownBlock ∧ some k_ ≠ (.slice Ao89 t594.length co89 : Value).ownBlock ∧ some k_ ≠ (.slice Ao94 t605.length co94 : Value).ownBlock ∧ some k_ ≠ (.slice Ao95 t608.length co95 : Value).ownBlock ∧ some k_ ≠ (.slice Ao112 t618.length co112 : Value).ownBlock ∧ some k_ ≠ (.slice Ao113 t621.length co113 : Value).ownBlock ∧ some k_ ≠ (.slice Ao128 t634.length co128 : Value).ownBlock) (Kd.R_keptB (HO639.out) hkp (fun k_ hk_ hs_ => Or.elim hs_ (fun e_ => (hk_.1.1.1.2) e_) (fun e_ => (hk_.1.1.2) e_))) (fun k_ hk_ => ⟨hk_.1.1.1.1.1.1.1.1.2, hk_.1.1.1.1.1.1.1.2, hk_.1.1.1.1.1.1.2, hk_.1.1.1.1.1.2, hk_.1.1.1.1.2, hk_.1.1.1.2, hk_.1.1.2, hk_.1.2, hk_.1.1.1.1.1.1.1.1.1⟩)); replace HO607 := Aside0.mk (Kd.R_reok rfl hy0 (fun k_ e_ => HO607.out.1 k_ e_)); replace HO610 := Aside0.mk (Kd.R_reok rfl hy1 (fun k_ e_ => HO610.out.1 k_ e_)); replace HB := Aside0.mk (hb); try clear hb; (try clear hkp); (try clear hy0); (try clear hy1); have hcz137 := blk_cell BK615.out; have hfz137 := blk_frozen BK615.out) | ((with_reducible refine gc_ 14 ?_); refine gl_ (some 97) Tryd.func14 #[.agg #[.slice Ao102 t612.length co102], .int .i64 t645] ?_; (with_reducible refine (laws_markState.calls k ?okp (.slice Ao102 t612.length co102) t612 t645 t648 t649 w _ ?side1 ?side2 A42.out).mono ?_); (case side1 => exact bl_); (case side2 => exact (Kd.S_bound HO614.out)); rintro e w138 ⟨rfl, hr_, hb, hk_⟩; refine ⟨_, rfl, ?_⟩; replace BK574 := bt_ BK574 hk_; replace BK575 := bt_ BK575 hk_; replace HO582 := tt_ HO582 hk_; replace HO585 := tt_ HO585 hk_; replace HO593 := tt_ HO593 hk_; replace HO596 := tt_ HO596 hk_; replace HO601 := Aside0.mk (Kd.S_mono (Kd.S_step (Kd.S_bound HO601.out) (fun k_ hk hl_ => hk_.2 k_ hl_ (fun hP_ => Go.Proofs.YtdokcckgnamnfaaDoorR.typed_off2 hP_.2.2.2 hk.2.2.2 (by decide)))) (fun _ h_ => h_.1)); replace BK602 := bt_ BK602 hk_; replace HO607 := tt_ HO607 hk_; replace HO610 := tt_ HO610 hk_; replace BK611 := bt_ BK611 hk_; replace BK615 := bt_ BK615 hk_; replace HO620 := tt_ HO620 hk_; replace HO623 := tt_ HO623 hk_; replace HO628 := Aside0.mk (Kd.S_mono (Kd.S_step (Kd.S_bound HO628.out) (fun k_ hk hl_ => hk_.2 k_ hl_ (fun hP_ => Go.Proofs.YtdokcckgnamnfaaDoorR.typed_off2 hP_.2.2.2 hk.2.2.2 (by decide)))) (fun _ h_ => h_.1)); replace BK629 := bt_ BK629 hk_; replace HO636 := tt_ HO636 hk_; replace HO639 := tt_ HO639 hk_; replace HB := Aside0.mk (hb); clear HO588 HO614 HO643; clear hr_ hb hk_; have hcz139 := blk_cell BK629.out; have hfz139 := blk_frozen BK629.out; have hcz140 := blk_cell BK602.out; have hfz140 := blk_frozen BK602.out) | (go_at_call 10; (with_reducible refine (laws_eqBring.calls k t616 t617 _ _ t618 _ _ t621 t589 t590 _ _ t591 _ _ t594  _ ?side1 ?side2 ?side3 ?side4 ?side5 ?side6 ?side7 ?side8 A44.out).mono ?_); (case side1 => exact cr_ HO620); (case side2 => exact nr_ HO620); (case side3 => exact cr_ HO623); (case side4 => exact nr_ HO623); (case side5 => exact cr_ HO593); (case side6 => exact nr_ HO593); (case side7 => exact cr_ HO596); (case side8 => exact nr_ HO596); rintro e w141 ⟨rfl, hb⟩; replace HO582 := rbl_ HO582 hb; replace HO585 := rbl_ HO585 hb; replace HO593 := rbl_ HO593 hb; replace HO596 := rbl_ HO596 hb; replace HO601 := sbl_ HO601 hb; replace HO607 := rbl_ HO607 hb; replace HO610 := rbl_ HO610 hb; replace HO620 := rbl_ HO620 hb; replace HO623 := rbl_ HO623 hb; replace HO628 := sbl_ HO628 hb; replace HO636 := rbl_ HO636 hb; replace HO639 := rbl_ HO639 hb; replace BK574 := bbl_ BK574 hb; replace BK575 := bbl_ BK575 hb; replace BK602 := bbl_ BK602 hb; replace BK611 := bbl_ BK611 hb; replace BK615 := bbl_ BK615 hb; replace BK629 := bbl_ BK629 hb; replace HB := hbl_ hb; try clear hb; try clear hi) | (go_at_call 11; (with_reducible refine (laws_eqCallS.calls k _ _ t626 _ _ t599  _ ?side1 ?side2 ?side3 ?side4 A46.out).mono ?_); (case side1 => exact cs_ HO628); (case side2 => exact ns_ HO628); (case side3 => exact cs_ HO601); (case side4 => exact ns_ HO601); rintro e w142 ⟨rfl, hb⟩; replace HO582 := rbl_ HO582 hb; replace HO585 := rbl_ HO585 hb; replace HO593 := rbl_ HO593 hb; replace HO596 := rbl_ HO596 hb; replace HO601 := sbl_ HO601 hb; replace HO607 := rbl_ HO607 hb; replace HO610 := rbl_ HO610 hb; replace HO620 := rbl_ HO620 hb; replace HO623 := rbl_ HO623 hb; replace HO628 := sbl_ HO628 hb; replace HO636 := rbl_ HO636 hb; replace HO639 := rbl_ HO639 hb; replace BK574 := bbl_ BK574 hb; replace BK575 := bbl_ BK575 hb; replace BK602 := bbl_ BK602 hb; replace BK611 := bbl_ BK611 hb; replace BK615 := bbl_ BK615 hb; replace BK629 := bbl_ BK629 hb; replace HB := hbl_ hb; try clear hb; have hcz143 := blk_cell BK629.out; have hfz143 := blk_frozen BK629.out) | ((with_reducible refine gc_ 13 ?_); refine gl_ (some 124) Tryd.func13 #[.agg #[.int .i64 t616, .string t617, .slice Ao112 t618.length co112, .slice Ao113 t621.length co113], .int .i64 1] ?_; (with_reducible refine (laws_markBring.calls k t616 t617 (fun k_ => some k_ = (.slice Ao112 t618.length co112 : Value).ownBlock) (.slice Ao112 t618.length co112) t618 (fun k_ => some k_ = (.slice Ao113 t621.length co113 : Value).ownBlock) (.slice Ao113 t621.length co113) t621 1 t652 t653 t654 w _ ?side1 ?side2 ?side3 ?side4 ?side5 A48.out).mono ?_); (case side1 => repeat (first | (with_reducible first | exact HB.out | apply below_alloc | apply pw_below_drewN | apply below_drew1 | refine below_set ?_ GE574.out | refine below_set ?_ GE575.out | refine below_set ?_ GE602.out | refine below_set ?_ GE611.out | refine below_set ?_ GE615.out | refine below_set ?_ GE629.out) | exact HB.out)); (case side2 => exact Kd.R_tight rfl HO620.out); (case side3 => exact fun k_ e_ => (HO620.out.1 k_ e_.symm).2.2.2.2.2.2.1); (case side4 => exact Kd.R_tight rfl HO623.out); (case side5 => exact fun k_ e_ => (HO623.out.1 k_ e_.symm).2.2.2.2.2.2.1); rintro e w144 ⟨rfl, hy0, hy1, hb, hkp⟩; refine ⟨_, rfl, ?_⟩; replace BK574 := Aside0.mk (blk_kept (kl_ BK574) hkp (fun hs_ => Or.elim hs_ (fun e_ => (fun e_ => (Kd.R_ne HO620.out BK574.out (by decide)) e_) e_) (fun e_ => (fun e_ => (Kd.R_ne HO623.out BK574.out (by decide)) e_) e_))); replace BK575 := Aside0.mk (blk_kept (kl_ BK575) hkp (fun hs_ => Or.elim hs_ (fun e_ => (fun e_ => (Kd.R_ne HO620.out BK575.out (by decide)) e_) e_) (fun e_ => (fun e_ => (Kd.R_ne HO623.out BK575.out (by decide)) e_) e_))); replace HO582 := Aside0.mk (Kd.R_mono (Kd.R_keptB (HO582.out) hkp (fun k_ hk_ hs_ => Or.elim hs_ (fun e_ => (hk_.2.2.2.2.2.1) e_) (fun e_ => (hk_.2.2.2.2.2.2.1) e_))) (fun k_ hk_ => hk_.1)); replace HO585 := Aside0.mk (Kd.R_mono (Kd.R_keptB (HO585.out) hkp (fun k_ hk_ hs_ => Or.elim hs_ (fun e_ => (hk_.2.2.2.2.2.1) e_) (fun e_ => (hk_.2.2.2.2.2.2.1) e_))) (fun k_ hk_ => hk_.1)); replace HO593 := Aside0.mk (Kd.R_mono (Kd.R_keptB (HO593.out) hkp (fun k_ hk_ hs_ => Or.elim hs_ (fun e_ => (hk_.2.2.2.2.2.1) e_) (fun e_ => (hk_.2.2.2.2.2.2.1) e_))) (fun k_ hk_ => hk_.1)); replace HO596 := Aside0.mk (Kd.R_mono (Kd.R_keptB (HO596.out) hkp (fun k_ hk_ hs_ => Or.elim hs_ (fun e_ => (hk_.2.2.2.2.2.1) e_) (fun e_ => (hk_.2.2.2.2.2.2.1) e_))) (fun k_ hk_ => hk_.1)); replace HO601 := Aside0.mk (Kd.S_mono (Kd.S_keptB ((Kd.S_apart' (Kd.S_apart' HO601.out (Kd.R_typed HO620.out) (by decide)) (Kd.R_typed HO623.out) (by decide))) hkp (fun k_ hk_ hs_ => Or.elim hs_ (fun e_ => (hk_.1.2) e_) (fun e_ => (hk_.2) e_))) (fun k_ hk_ => hk_.1.1.1)); replace BK602 := Aside0.mk (blk_kept (kl_ BK602) hkp (fun hs_ => Or.elim hs_ (fun e_ => (fun e_ => (Kd.R_ne HO620.out BK602.out (by decide)) e_) e_) (fun e_ => (fun e_ => (Kd.R_ne HO623.out BK602.out (by decide)) e_) e_))); replace HO607 := Aside0.mk (Kd.R_mono (ok' := fun k_ => some k_ ≠ (v581 : Value).ownBlock ∧ some k_ ≠ (v584 : Value).ownBlock ∧ some k_ ≠ (.slice Ao87 t591.length co87 : Value).ownBlock ∧ some k_ ≠ (.slice Ao89 t594.length co89 : Value).ownBlock ∧ some k_ ≠ (.slice Ao95 t608.length co95 : Value).ownBlock ∧ some k_ ≠ (.slice Ao112 t618.length co112 : Value).ownBlock ∧ some k_ ≠ (.slice Ao113 t621.length co113 : Value).ownBlock ∧ some k_ ≠ (.slice Ao128 t634.length co128 : Value).ownBlock ∧ some k_ ≠ (.slice Ao129 t637.length co129 : Value).ownBlock) (Kd.R_keptB (HO607.out) hkp (fun k_ hk_ hs_ => Or.elim hs_ (fun e_ => (hk_.1.1.1.2) e_) (fun e_ => (hk_.1.1.2) e_))) (fun k_ hk_ => ⟨hk_.1.1.1.1.1.1.1.1.2, hk_.1.1.1.1.1.1.1.2, hk_.1.1.1.1.1.1.2, hk_.1.1.1.1.1.2, hk_.1.1.1.1.1.1.1.1.1, hk_.1.1.1.1.2, hk_.1.1.1.2, hk_.1.1.2, hk_.1.2⟩)); replace HO610 := Aside0.mk (Kd.R_mono (ok' := fun k_ => some k_ ≠ (v581 : Value).ownBlock ∧ some k_ ≠ (v584 : Value).ownBlock ∧ some k_ ≠ (.slice Ao87 t591.length co87 : Value).ownBlock ∧ some k_ ≠ (.slice Ao89 t594.length co89 : Value).ownBlock ∧ some k_ ≠ (.slice Ao94 t605.length co94 : Value).ownBlock ∧ some k_ ≠ (.slice Ao112 t618.length co112 : Value).ownBlock ∧ some k_ ≠ (.slice Ao113 t621.length co113 : Value).ownBlock ∧ some k_ ≠ (.slice Ao128 t634.length co128 : Value).ownBlock ∧ some k_ ≠ (.slice Ao129 t637.length co129 : Value).ownBlock) (Kd.R_keptB (HO610.out) hkp (fun k_ hk_ hs_ => Or.elim hs_ (fun e_ => (hk_.1.1.1.2) e_) (fun e_ => (hk_.1.1.2) e_))) (fun k_ hk_ => ⟨hk_.1.1.1.1.1.1.1.1.2, hk_.1.1.1.1.1.1.1.2, hk_.1.1.1.1.1.1.2, hk_.1.1.1.1.1.2, hk_.1.1.1.1.1.1.1.1.1, hk_.1.1.1.1.2, hk_.1.1.1.2, hk_.1.1.2, hk_.1.2⟩)); replace BK611 := Aside0.mk (blk_kept (kl_ BK611) hkp (fun hs_ => Or.elim hs_ (fun e_ => (fun e_ => (Kd.R_ne HO620.out BK611.out (by decide)) e_) e_) (fun e_ => (fun e_ => (Kd.R_ne HO623.out BK611.out (by decide)) e_) e_))); replace BK615 := Aside0.mk (blk_kept (kl_ BK615) hkp (fun hs_ => Or.elim hs_ (fun e_ => (fun e_ => (Kd.R_ne HO620.out BK615.out (by decide)) e_) e_) (fun e_ => (fun e_ => (Kd.R_ne HO623.out BK615.out (by decide)) e_) e_))); replace HO628 := Aside0.mk (Kd.S_mono (Kd.S_keptB ((Kd.S_apart' (Kd.S_apart' HO628.out (Kd.R_typed HO620.out) (by decide)) (Kd.R_typed HO623.out) (by decide))) hkp (fun k_ hk_ hs_ => Or.elim hs_ (fun e_ => (hk_.1.2) e_) (fun e_ => (hk_.2) e_))) (fun k_ hk_ => hk_.1.1.1)); replace BK629 := Aside0.mk (blk_kept (kl_ BK629) hkp (fun hs_ => Or.elim hs_ (fun e_ => (fun e_ => (Kd.R_ne HO620.out BK629.out (by decide)) e_) e_) (fun e_ => (fun e_ => (Kd.R_ne HO623.out BK629.out (by decide)) e_) e_))); replace HO620 := Aside0.mk (Kd.R_reok rfl hy0 (fun k_ e_ => HO620.out.1 k_ e_)); replace HO623 := Aside0.mk (Kd.R_reok rfl hy1 (fun k_ e_ => HO623.out.1 k_ e_)); replace HO636 := Aside0.mk (Kd.R_mono (Kd.R_keptB (HO636.out) hkp (fun k_ hk_ hs_ => Or.elim hs_ (fun e_ => (hk_.2.2.2.2.2.2.1) e_) (fun e_ => (hk_.2.2.2.2.2.2.2.1) e_))) (fun k_ hk_ => hk_.1)); replace HO639 := Aside0.mk (Kd.R_mono (Kd.R_keptB (HO639.out) hkp (fun k_ hk_ hs_ => Or.elim hs_ (fun e_ => (hk_.2.2.2.2.2.2.1) e_) (fun e_ => (hk_.2.2.2.2.2.2.2.1) e_))) (fun k_ hk_ => hk_.1)); replace HB := Aside0.mk (hb); try clear hb; (try clear hkp); (try clear hy0); (try clear hy1)) | ((with_reducible refine gc_ 15 ?_); refine gl_ (some 127) Tryd.func15 #[.slice Ao123 t626.length co123, .int .i64 t652] ?_; (with_reducible refine (laws_markCallS.calls k ?okq (.slice Ao123 t626.length co123) t626 t652 t655 t656 w _ ?side1 ?side2 A49.out).mono ?_); (case side1 => exact bl_); (case side2 => exact (Kd.S_bound HO628.out)); rintro e w145 ⟨rfl, hr_, hb, hk_⟩; refine ⟨_, rfl, ?_⟩; replace BK574 := bt_ BK574 hk_; replace BK575 := bt_ BK575 hk_; replace HO582 := tt_ HO582 hk_; replace HO585 := tt_ HO585 hk_; replace HO593 := tt_ HO593 hk_; replace HO596 := tt_ HO596 hk_; replace HO601 := Aside0.mk (Kd.S_mono (Kd.S_step HO601.out (fun k_ hk hl_ => hk_.2 k_ hl_ (fun hP_ => absurd hP_.1.1 (Nat.not_le_of_lt hk.1)))) (fun _ h_ => h_.2)); replace BK602 := bt_ BK602 hk_; replace HO607 := tt_ HO607 hk_; replace HO610 := tt_ HO610 hk_; replace BK611 := bt_ BK611 hk_; replace BK615 := bt_ BK615 hk_; replace HO620 := tt_ HO620 hk_; replace HO623 := tt_ HO623 hk_; replace HO628 := Aside0.mk (Kd.S_mono (ok' := fun _ => True) hr_ (fun _ _ => trivial)); replace BK629 := bt_ BK629 hk_; replace HO636 := tt_ HO636 hk_; replace HO639 := tt_ HO639 hk_; replace HB := Aside0.mk (hb); clear hr_ hb hk_; have hcz146 := blk_cell BK629.out; have hfz146 := blk_frozen BK629.out) | ((with_reducible refine gc_ 16 ?_); refine goesL_ (some 130) rfl rfl Tryd.func16 (by kernel_rfl) rfl #[.agg #[.int .i64 t616, .string t617, .slice Ao112 t653.length co112, .slice Ao113 t654.length co113], .int .i64 1] rfl (by (try simp only [List.map_toArray, List.map_cons, List.map_nil]); first | done | (rw [show t653.length = t618.length from (Kd.R_reads' HO620.out).1.symm, show t654.length = t621.length from (Kd.R_reads' HO623.out).1.symm] <;> rfl) | rfl | (simp only [List.length_drop, List.length_take]; rfl)) ?_; (with_reducible refine (laws_heldBring.calls k t616 t617 _ _ t653 _ _ t654 1 t657 _ ?side1 ?side2 ?side3 ?side4 A50.out).mono ?_); (case side1 => exact cr_ HO620); (case side2 => rw [show t653.length = t618.length from (Kd.R_reads' HO620.out).1.symm]; exact nr_ HO620); (case side3 => exact cr_ HO623); (case side4 => rw [show t654.length = t621.length from (Kd.R_reads' HO623.out).1.symm]; exact nr_ HO623); rintro e w147 ⟨rfl, hb⟩; refine ⟨_, rfl, ?_⟩; replace HO582 := rbl_ HO582 hb; replace HO585 := rbl_ HO585 hb; replace HO593 := rbl_ HO593 hb; replace HO596 := rbl_ HO596 hb; replace HO601 := sbl_ HO601 hb; replace HO607 := rbl_ HO607 hb; replace HO610 := rbl_ HO610 hb; replace HO620 := rbl_ HO620 hb; replace HO623 := rbl_ HO623 hb; replace HO628 := sbl_ HO628 hb; replace HO636 := rbl_ HO636 hb; replace HO639 := rbl_ HO639 hb; replace BK574 := bbl_ BK574 hb; replace BK575 := bbl_ BK575 hb; replace BK602 := bbl_ BK602 hb; replace BK611 := bbl_ BK611 hb; replace BK615 := bbl_ BK615 hb; replace BK629 := bbl_ BK629 hb; replace HB := hbl_ hb; try clear hb; try clear hi) | ((with_reducible refine gc_ 17 ?_); refine goesL_ (some 135) rfl rfl Tryd.func17 (by kernel_rfl) rfl #[.slice Ao123 t656.length co123, .int .i64 t657] rfl (by (try simp only [List.map_toArray, List.map_cons, List.map_nil]); first | done | (rw [show t656.length = t626.length from (Kd.S_reads' HO628.out).1.symm] <;> rfl) | rfl | (simp only [List.length_drop, List.length_take]; rfl)) ?_; (with_reducible refine (laws_heldCallS.calls k _ _ t656 t657 t658 _ ?side1 ?side2 A52.out).mono ?_); (case side1 => exact cs_ HO628); (case side2 => rw [show t656.length = t626.length from (Kd.S_reads' HO628.out).1.symm]; exact ns_ HO628); rintro e w148 ⟨rfl, hb⟩; refine ⟨_, rfl, ?_⟩; replace HO582 := rbl_ HO582 hb; replace HO585 := rbl_ HO585 hb; replace HO593 := rbl_ HO593 hb; replace HO596 := rbl_ HO596 hb; replace HO601 := sbl_ HO601 hb; replace HO607 := rbl_ HO607 hb; replace HO610 := rbl_ HO610 hb; replace HO620 := rbl_ HO620 hb; replace HO623 := rbl_ HO623 hb; replace HO628 := sbl_ HO628 hb; replace HO636 := rbl_ HO636 hb; replace HO639 := rbl_ HO639 hb; replace BK574 := bbl_ BK574 hb; replace BK575 := bbl_ BK575 hb; replace BK602 := bbl_ BK602 hb; replace BK611 := bbl_ BK611 hb; replace BK615 := bbl_ BK615 hb; replace BK629 := bbl_ BK629 hb; replace HB := hbl_ hb; try clear hb; try clear hi))
                       replace HO582 := Aside0.mk (Kd.R_drew HO582.out)
                       replace HO585 := Aside0.mk (Kd.R_drew HO585.out)
                       replace HO593 := Aside0.mk (Kd.R_drew HO593.out)
                       replace HO596 := Aside0.mk (Kd.R_drew HO596.out)
                       replace HO601 := Aside0.mk (Kd.S_drew HO601.out)
                       replace HO607 := Aside0.mk (Kd.R_drew HO607.out)
                       replace HO610 := Aside0.mk (Kd.R_drew HO610.out)
                       replace HO620 := Aside0.mk (Kd.R_drew HO620.out)
                       replace HO623 := Aside0.mk (Kd.R_drew HO623.out)
                       replace HO628 := Aside0.mk (Kd.S_drew HO628.out)
                       replace HO636 := Aside0.mk (Kd.R_drew HO636.out)
                       replace HO639 := Aside0.mk (Kd.R_drew HO639.out)
                       replace BK574 := Aside0.mk (blk_drew BK574.out)
                       replace BK575 := Aside0.mk (blk_drew BK575.out)
                       replace BK602 := Aside0.mk (blk_drew BK602.out)
                       replace BK611 := Aside0.mk (blk_drew BK611.out)
                       replace BK615 := Aside0.mk (blk_drew BK615.out)
                       replace BK629 := Aside0.mk (blk_drew BK629.out)
                       replace HB := hd_ HB
                       refine start_ (n := 16) (S := fun w' => w'.cell? ⟨gb574, 0, none⟩ = some (.int .i64 a0_0) ∧ w'.cell? ⟨gb574, 1, none⟩ = some (.string a0_1) ∧ w'.cell? ⟨gb574, 2, none⟩ = some (.slice A0_2 l0_2.length c0_2) ∧ w'.cell? ⟨gb574, 3, none⟩ = some (.slice A0_3 l0_3.length c0_3) ∧ w'.cell? ⟨gb575, 0, none⟩ = some (.slice A1_0 l1_0.length c1_0)) (ds := []) (fl 16 0) (by kernel_rfl) rfl rfl ⟨bc_ BK574 0, bc_ BK574 1, bc_ BK574 2, bc_ BK574 3, bc_ BK575 0⟩ (fun hHeld => ?_); refine with_tabW laws_FnExactStepBring.tab37 laws_FnExactStepBring.bits37 (fun HT_ HW_ => ?_)
                       generalize w148.drew = w149 at HO582 HO585 HO593 HO596 HO601 HO607 HO610 HO620 HO623 HO628 HO636 HO639 BK574 BK575 BK602 BK611 BK615 BK629 HB hHeld ⊢
                       refine pq_ 4 146 (fl 16 16) HT_.out ?_
                       refine tq_ 0 142 (fl 16 17) HT_.out HW_.out hHeld ?_
                       refine tq_ 2 144 (fl 16 21) HT_.out HW_.out hHeld ?_
                       refine join_ (σ := Value × Value × Value × Value × Value × Value × Nat) 4 (fl 16 4095) (fun s_ => [(143, .agg #[.int .i64 t659, .string t660, s_.1, s_.2.1]), (145, .agg #[s_.2.2.1]), (147, .tuple #[.agg #[.int .i64 t670, .string t671, s_.2.2.2.1, s_.2.2.2.2.1], .string t678, .string t679, s_.2.2.2.2.2.1]), (21, .pointer (some ⟨s_.2.2.2.2.2.2, 0, none⟩)), (141, .tuple #[.agg #[.int .i64 t670, .string t671, s_.2.2.2.1, s_.2.2.2.2.1], .string t678, .string t679, s_.2.2.2.2.2.1]), (148, .agg #[.int .i64 t670, .string t671, s_.2.2.2.1, s_.2.2.2.2.1]), (149, .string t678), (150, .string t679), (151, s_.2.2.2.2.2.1)]) (fun s_ w' => (w'.cell? ⟨gb574, 0, none⟩ = some (.int .i64 a0_0) ∧ w'.cell? ⟨gb574, 1, none⟩ = some (.string a0_1) ∧ w'.cell? ⟨gb574, 2, none⟩ = some (.slice A0_2 l0_2.length c0_2) ∧ w'.cell? ⟨gb574, 3, none⟩ = some (.slice A0_3 l0_3.length c0_3) ∧ w'.cell? ⟨gb575, 0, none⟩ = some (.slice A1_0 l1_0.length c1_0)) ∧ (Kd.R Kd.string 9 w' w.heap.size (fun k_ => some k_ ≠ (v584 : Value).ownBlock ∧ some k_ ≠ (.slice Ao87 t591.length co87 : Value).ownBlock ∧ some k_ ≠ (.slice Ao89 t594.length co89 : Value).ownBlock ∧ some k_ ≠ (.slice Ao94 t605.length co94 : Value).ownBlock ∧ some k_ ≠ (.slice Ao95 t608.length co95 : Value).ownBlock ∧ some k_ ≠ (.slice Ao112 t618.length co112 : Value).ownBlock ∧ some k_ ≠ (.slice Ao113 t621.length co113 : Value).ownBlock ∧ some k_ ≠ (.slice Ao128 t634.length co128 : Value).ownBlock ∧ some k_ ≠ (.slice Ao129 t637.length co129 : Value).ownBlock ∧ some k_ ≠ (s_.1 : Value).ownBlock ∧ some k_ ≠ (s_.2.1 : Value).ownBlock ∧ some k_ ≠ (s_.2.2.2.1 : Value).ownBlock ∧ some k_ ≠ (s_.2.2.2.2.1 : Value).ownBlock) v581 t580) ∧ (Kd.R Kd.string 9 w' w.heap.size (fun k_ => some k_ ≠ (v581 : Value).ownBlock ∧ some k_ ≠ (.slice Ao87 t591.length co87 : Value).ownBlock ∧ some k_ ≠ (.slice Ao89 t594.length co89 : Value).ownBlock ∧ some k_ ≠ (.slice Ao94 t605.length co94 : Value).ownBlock ∧ some k_ ≠ (.slice Ao95 t608.length co95 : Value).ownBlock ∧ some k_ ≠ (.slice Ao112 t618.length co112 : Value).ownBlock ∧ some k_ ≠ (.slice Ao113 t621.length co113 : Value).ownBlock ∧ some k_ ≠ (.slice Ao128 t634.length co128 : Value).ownBlock ∧ some k_ ≠ (.slice Ao129 t637.length co129 : Value).ownBlock ∧ some k_ ≠ (s_.1 : Value).ownBlock ∧ some k_ ≠ (s_.2.1 : Value).ownBlock ∧ some k_ ≠ (s_.2.2.2.1 : Value).ownBlock ∧ some k_ ≠ (s_.2.2.2.2.1 : Value).ownBlock) v584 t583) ∧ (Kd.R Kd.string 9 w' w.heap.size (fun k_ => some k_ ≠ (v581 : Value).ownBlock ∧ some k_ ≠ (v584 : Value).ownBlock ∧ some k_ ≠ (.slice Ao89 t594.length co89 : Value).ownBlock ∧ some k_ ≠ (.slice Ao94 t605.length co94 : Value).ownBlock ∧ some k_ ≠ (.slice Ao95 t608.length co95 : Value).ownBlock ∧ some k_ ≠ (.slice Ao112 t618.length co112 : Value).ownBlock ∧ some k_ ≠ (.slice Ao113 t621.length co113 : Value).ownBlock ∧ some k_ ≠ (.slice Ao128 t634.length co128 : Value).ownBlock ∧ some k_ ≠ (.slice Ao129 t637.length co129 : Value).ownBlock ∧ some k_ ≠ (s_.1 : Value).ownBlock ∧ some k_ ≠ (s_.2.1 : Value).ownBlock ∧ some k_ ≠ (s_.2.2.2.1 : Value).ownBlock ∧ some k_ ≠ (s_.2.2.2.2.1 : Value).ownBlock) (.slice Ao87 t591.length co87) t591) ∧ (Kd.R Kd.string 9 w' w.heap.size (fun k_ => some k_ ≠ (v581 : Value).ownBlock ∧ some k_ ≠ (v584 : Value).ownBlock ∧ some k_ ≠ (.slice Ao87 t591.length co87 : Value).ownBlock ∧ some k_ ≠ (.slice Ao94 t605.length co94 : Value).ownBlock ∧ some k_ ≠ (.slice Ao95 t608.length co95 : Value).ownBlock ∧ some k_ ≠ (.slice Ao112 t618.length co112 : Value).ownBlock ∧ some k_ ≠ (.slice Ao113 t621.length co113 : Value).ownBlock ∧ some k_ ≠ (.slice Ao128 t634.length co128 : Value).ownBlock ∧ some k_ ≠ (.slice Ao129 t637.length co129 : Value).ownBlock ∧ some k_ ≠ (s_.1 : Value).ownBlock ∧ some k_ ≠ (s_.2.1 : Value).ownBlock ∧ some k_ ≠ (s_.2.2.2.1 : Value).ownBlock ∧ some k_ ≠ (s_.2.2.2.2.1 : Value).ownBlock) (.slice Ao89 t594.length co89) t594) ∧ (Kd.S k65 65 w' w.heap.size (fun k_ => some k_ ≠ (.slice Ao123 t626.length co123 : Value).ownBlock ∧ some k_ ≠ (s_.2.2.2.2.2.1 : Value).ownBlock) (.slice Ao124 t599.length co124) t599) ∧ (Kd.R Kd.string 9 w' w.heap.size (fun k_ => some k_ ≠ (v581 : Value).ownBlock ∧ some k_ ≠ (v584 : Value).ownBlock ∧ some k_ ≠ (.slice Ao87 t591.length co87 : Value).ownBlock ∧ some k_ ≠ (.slice Ao89 t594.length co89 : Value).ownBlock ∧ some k_ ≠ (.slice Ao95 t608.length co95 : Value).ownBlock ∧ some k_ ≠ (.slice Ao112 t618.length co112 : Value).ownBlock ∧ some k_ ≠ (.slice Ao113 t621.length co113 : Value).ownBlock ∧ some k_ ≠ (.slice Ao128 t634.length co128 : Value).ownBlock ∧ some k_ ≠ (.slice Ao129 t637.length co129 : Value).ownBlock ∧ some k_ ≠ (s_.1 : Value).ownBlock ∧ some k_ ≠ (s_.2.1 : Value).ownBlock ∧ some k_ ≠ (s_.2.2.2.1 : Value).ownBlock ∧ some k_ ≠ (s_.2.2.2.2.1 : Value).ownBlock) (.slice Ao94 t605.length co94) t646) ∧ (Kd.R Kd.string 9 w' w.heap.size (fun k_ => some k_ ≠ (v581 : Value).ownBlock ∧ some k_ ≠ (v584 : Value).ownBlock ∧ some k_ ≠ (.slice Ao87 t591.length co87 : Value).ownBlock ∧ some k_ ≠ (.slice Ao89 t594.length co89 : Value).ownBlock ∧ some k_ ≠ (.slice Ao94 t605.length co94 : Value).ownBlock ∧ some k_ ≠ (.slice Ao112 t618.length co112 : Value).ownBlock ∧ some k_ ≠ (.slice Ao113 t621.length co113 : Value).ownBlock ∧ some k_ ≠ (.slice Ao128 t634.length co128 : Value).ownBlock ∧ some k_ ≠ (.slice Ao129 t637.length co129 : Value).ownBlock ∧ some k_ ≠ (s_.1 : Value).ownBlock ∧ some k_ ≠ (s_.2.1 : Value).ownBlock ∧ some k_ ≠ (s_.2.2.2.1 : Value).ownBlock ∧ some k_ ≠ (s_.2.2.2.2.1 : Value).ownBlock) (.slice Ao95 t608.length co95) t647) ∧ (Kd.R Kd.string 9 w' w.heap.size (fun k_ => some k_ ≠ (v581 : Value).ownBlock ∧ some k_ ≠ (v584 : Value).ownBlock ∧ some k_ ≠ (.slice Ao87 t591.length co87 : Value).ownBlock ∧ some k_ ≠ (.slice Ao89 t594.length co89 : Value).ownBlock ∧ some k_ ≠ (.slice Ao94 t605.length co94 : Value).ownBlock ∧ some k_ ≠ (.slice Ao95 t608.length co95 : Value).ownBlock ∧ some k_ ≠ (.slice Ao113 t621.length co113 : Value).ownBlock ∧ some k_ ≠ (.slice Ao128 t634.length co128 : Value).ownBlock ∧ some k_ ≠ (.slice Ao129 t637.length co129 : Value).ownBlock ∧ some k_ ≠ (s_.1 : Value).ownBlock ∧ some k_ ≠ (s_.2.1 : Value).ownBlock ∧ some k_ ≠ (s_.2.2.2.1 : Value).ownBlock ∧ some k_ ≠ (s_.2.2.2.2.1 : Value).ownBlock) (.slice Ao112 t618.length co112) t653) ∧ (Kd.R Kd.string 9 w' w.heap.size (fun k_ => some k_ ≠ (v581 : Value).ownBlock ∧ some k_ ≠ (v584 : Value).ownBlock ∧ some k_ ≠ (.slice Ao87 t591.length co87 : Value).ownBlock ∧ some k_ ≠ (.slice Ao89 t594.length co89 : Value).ownBlock ∧ some k_ ≠ (.slice Ao94 t605.length co94 : Value).ownBlock ∧ some k_ ≠ (.slice Ao95 t608.length co95 : Value).ownBlock ∧ some k_ ≠ (.slice Ao112 t618.length co112 : Value).ownBlock ∧ some k_ ≠ (.slice Ao128 t634.length co128 : Value).ownBlock ∧ some k_ ≠ (.slice Ao129 t637.length co129 : Value).ownBlock ∧ some k_ ≠ (s_.1 : Value).ownBlock ∧ some k_ ≠ (s_.2.1 : Value).ownBlock ∧ some k_ ≠ (s_.2.2.2.1 : Value).ownBlock ∧ some k_ ≠ (s_.2.2.2.2.1 : Value).ownBlock) (.slice Ao113 t621.length co113) t654) ∧ (Kd.S k65 65 w' w.heap.size (fun k_ => some k_ ≠ (s_.2.2.2.2.2.1 : Value).ownBlock) (.slice Ao123 t626.length co123) t656) ∧ (Kd.R Kd.string 9 w' w.heap.size (fun k_ => some k_ ≠ (v581 : Value).ownBlock ∧ some k_ ≠ (v584 : Value).ownBlock ∧ some k_ ≠ (.slice Ao87 t591.length co87 : Value).ownBlock ∧ some k_ ≠ (.slice Ao89 t594.length co89 : Value).ownBlock ∧ some k_ ≠ (.slice Ao94 t605.length co94 : Value).ownBlock ∧ some k_ ≠ (.slice Ao95 t608.length co95 : Value).ownBlock ∧ some k_ ≠ (.slice Ao112 t618.length co112 : Value).ownBlock ∧ some k_ ≠ (.slice Ao113 t621.length co113 : Value).ownBlock ∧ some k_ ≠ (.slice Ao129 t637.length co129 : Value).ownBlock ∧ some k_ ≠ (s_.1 : Value).ownBlock ∧ some k_ ≠ (s_.2.1 : Value).ownBlock ∧ some k_ ≠ (s_.2.2.2.1 : Value).ownBlock ∧ some k_ ≠ (s_.2.2.2.2.1 : Value).ownBlock) (.slice Ao128 t634.length co128) t634) ∧ (Kd.R Kd.string 9 w' w.heap.size (fun k_ => some k_ ≠ (v581 : Value).ownBlock ∧ some k_ ≠ (v584 : Value).ownBlock ∧ some k_ ≠ (.slice Ao87 t591.length co87 : Value).ownBlock ∧ some k_ ≠ (.slice Ao89 t594.length co89 : Value).ownBlock ∧ some k_ ≠ (.slice Ao94 t605.length co94 : Value).ownBlock ∧ some k_ ≠ (.slice Ao95 t608.length co95 : Value).ownBlock ∧ some k_ ≠ (.slice Ao112 t618.length co112 : Value).ownBlock ∧ some k_ ≠ (.slice Ao113 t621.length co113 : Value).ownBlock ∧ some k_ ≠ (.slice Ao128 t634.length co128 : Value).ownBlock ∧ some k_ ≠ (s_.1 : Value).ownBlock ∧ some k_ ≠ (s_.2.1 : Value).ownBlock ∧ some k_ ≠ (s_.2.2.2.1 : Value).ownBlock ∧ some k_ ≠ (s_.2.2.2.2.1 : Value).ownBlock) (.slice Ao129 t637.length co129) t637) ∧ (Kd.R Kd.string 9 w' w.heap.size (fun k_ => some k_ ≠ (v581 : Value).ownBlock ∧ some k_ ≠ (v584 : Value).ownBlock ∧ some k_ ≠ (.slice Ao87 t591.length co87 : Value).ownBlock ∧ some k_ ≠ (.slice Ao89 t594.length co89 : Value).ownBlock ∧ some k_ ≠ (.slice Ao94 t605.length co94 : Value).ownBlock ∧ some k_ ≠ (.slice Ao95 t608.length co95 : Value).ownBlock ∧ some k_ ≠ (.slice Ao112 t618.length co112 : Value).ownBlock ∧ some k_ ≠ (.slice Ao113 t621.length co113 : Value).ownBlock ∧ some k_ ≠ (.slice Ao128 t634.length co128 : Value).ownBlock ∧ some k_ ≠ (.slice Ao129 t637.length co129 : Value).ownBlock ∧ some k_ ≠ (s_.2.1 : Value).ownBlock ∧ some k_ ≠ (s_.2.2.2.1 : Value).ownBlock ∧ some k_ ≠ (s_.2.2.2.2.1 : Value).ownBlock) s_.1 t661) ∧ (Kd.R Kd.string 9 w' w.heap.size (fun k_ => some k_ ≠ (v581 : Value).ownBlock ∧ some k_ ≠ (v584 : Value).ownBlock ∧ some k_ ≠ (.slice Ao87 t591.length co87 : Value).ownBlock ∧ some k_ ≠ (.slice Ao89 t594.length co89 : Value).ownBlock ∧ some k_ ≠ (.slice Ao94 t605.length co94 : Value).ownBlock ∧ some k_ ≠ (.slice Ao95 t608.length co95 : Value).ownBlock ∧ some k_ ≠ (.slice Ao112 t618.length co112 : Value).ownBlock ∧ some k_ ≠ (.slice Ao113 t621.length co113 : Value).ownBlock ∧ some k_ ≠ (.slice Ao128 t634.length co128 : Value).ownBlock ∧ some k_ ≠ (.slice Ao129 t637.length co129 : Value).ownBlock ∧ some k_ ≠ (s_.1 : Value).ownBlock ∧ some k_ ≠ (s_.2.2.2.1 : Value).ownBlock ∧ some k_ ≠ (s_.2.2.2.2.1 : Value).ownBlock) s_.2.1 t664) ∧ (Kd.S k84 84 w' w.heap.size (fun _ => True) s_.2.2.1 t667) ∧ (Kd.R Kd.string 9 w' w.heap.size (fun k_ => some k_ ≠ (v581 : Value).ownBlock ∧ some k_ ≠ (v584 : Value).ownBlock ∧ some k_ ≠ (.slice Ao87 t591.length co87 : Value).ownBlock ∧ some k_ ≠ (.slice Ao89 t594.length co89 : Value).ownBlock ∧ some k_ ≠ (.slice Ao94 t605.length co94 : Value).ownBlock ∧ some k_ ≠ (.slice Ao95 t608.length co95 : Value).ownBlock ∧ some k_ ≠ (.slice Ao112 t618.length co112 : Value).ownBlock ∧ some k_ ≠ (.slice Ao113 t621.length co113 : Value).ownBlock ∧ some k_ ≠ (.slice Ao128 t634.length co128 : Value).ownBlock ∧ some k_ ≠ (.slice Ao129 t637.length co129 : Value).ownBlock ∧ some k_ ≠ (s_.1 : Value).ownBlock ∧ some k_ ≠ (s_.2.1 : Value).ownBlock ∧ some k_ ≠ (s_.2.2.2.2.1 : Value).ownBlock) s_.2.2.2.1 t672) ∧ (Kd.R Kd.string 9 w' w.heap.size (fun k_ => some k_ ≠ (v581 : Value).ownBlock ∧ some k_ ≠ (v584 : Value).ownBlock ∧ some k_ ≠ (.slice Ao87 t591.length co87 : Value).ownBlock ∧ some k_ ≠ (.slice Ao89 t594.length co89 : Value).ownBlock ∧ some k_ ≠ (.slice Ao94 t605.length co94 : Value).ownBlock ∧ some k_ ≠ (.slice Ao95 t608.length co95 : Value).ownBlock ∧ some k_ ≠ (.slice Ao112 t618.length co112 : Value).ownBlock ∧ some k_ ≠ (.slice Ao113 t621.length co113 : Value).ownBlock ∧ some k_ ≠ (.slice Ao128 t634.length co128 : Value).ownBlock ∧ some k_ ≠ (.slice Ao129 t637.length co129 : Value).ownBlock ∧ some k_ ≠ (s_.1 : Value).ownBlock ∧ some k_ ≠ (s_.2.1 : Value).ownBlock ∧ some k_ ≠ (s_.2.2.2.1 : Value).ownBlock) s_.2.2.2.2.1 t675) ∧ (Kd.S k65 65 w' w.heap.size (fun k_ => some k_ ≠ (.slice Ao124 t599.length co124 : Value).ownBlock ∧ some k_ ≠ (.slice Ao123 t626.length co123 : Value).ownBlock) s_.2.2.2.2.2.1 t680) ∧ (w'.heap[gb574]? = some (.cells #[.int .i64 a0_0, .string a0_1, .slice A0_2 l0_2.length c0_2, .slice A0_3 l0_3.length c0_3] 24 (0, 0))) ∧ (w'.heap[gb575]? = some (.cells #[.slice A1_0 l1_0.length c1_0] 27 (0, 0))) ∧ (w'.heap[gb602]? = some (.cells #[.int .i64 t589, .string t590, .slice Ao87 t591.length co87, .slice Ao89 t594.length co89] 30 (0, 0))) ∧ (w'.heap[gb611]? = some (.cells #[.int .i64 t603, .string t604, .slice Ao94 t605.length co94, .slice Ao95 t608.length co95] 30 (0, 0))) ∧ (w'.heap[gb615]? = some (.cells #[.slice Ao102 t612.length co102] 37 (0, 0))) ∧ (w'.heap[gb629]? = some (.cells #[.int .i64 t616, .string t617, .slice Ao112 t618.length co112, .slice Ao113 t621.length co113] 30 (0, 0))) ∧ (w'.heap[s_.2.2.2.2.2.2]? = some (.cells #[.int .i64 0, .string (⟨#[]⟩ : ByteArray), .slice none 0 0, .slice none 0 0] 30 (0, 0))) ∧ (w.heap.size ≤ s_.2.2.2.2.2.2) ∧ (w.heap.size ≤ s_.2.2.2.2.2.2) ∧ (gb574 ≠ s_.2.2.2.2.2.2) ∧ (s_.2.2.2.2.2.2 ≠ gb574) ∧ (gb575 ≠ s_.2.2.2.2.2.2) ∧ (s_.2.2.2.2.2.2 ≠ gb575) ∧ (gb602 ≠ s_.2.2.2.2.2.2) ∧ (s_.2.2.2.2.2.2 ≠ gb602) ∧ (gb611 ≠ s_.2.2.2.2.2.2) ∧ (s_.2.2.2.2.2.2 ≠ gb611) ∧ (gb615 ≠ s_.2.2.2.2.2.2) ∧ (s_.2.2.2.2.2.2 ≠ gb615) ∧ (gb629 ≠ s_.2.2.2.2.2.2) ∧ (s_.2.2.2.2.2.2 ≠ gb629) ∧ (Below w.heap.size w w')) ?_ ?_
                       rotate_left
                       ·intro hCont
                        refine two_ (i := 1) (j := 11) (Ni := some 143) (Nj := some 21) (fl 16 23) (fl 16 2069) rfl rfl rfl rfl (two_of HT_.out (by kernel_rfl)) (by decide) (by decide) (fun K hK => ?_) (fun K hK => ?_)
                        ·skip
                         refine go_ Tryd.func7 #[.agg #[.int .i64 a0_0, .string a0_1, .slice A0_2 l0_2.length c0_2, .slice A0_3 l0_3.length c0_3]] ?_
                         with_reducible refine (laws_toBring.calls k a0_0 a0_1 _ _ l0_2 _ _ l0_3 t659 t660 t661 t664 _ ?side1 ?side2 ?side3 ?side4 A55.out).mono ?_
                         (case side1 => exact cb_ HR0_2)
                         (case side2 => exact HC0_2.out)
                         (case side3 => exact cb_ HR0_3)
                         (case side4 => exact HC0_3.out)
                         rintro e w150 ⟨v662, v665, rfl, ho0, ho1, hb⟩
                         refine ⟨_, rfl, ?_⟩
                         replace HO601 := sbl_ HO601 hb
                         replace HO628 := sbl_ HO628 hb
                         have HO663 := Aside0.mk (Kd.R_lower (Kd.R_new' (Kd.R_new' (Kd.R_new' (Kd.R_new' (Kd.R_new' (Kd.R_new' (Kd.R_new' (Kd.R_new' (Kd.R_new' (Kd.R_new' ho0 (Kd.R_lt (rl_ HO582))) (Kd.R_lt (rl_ HO585))) (Kd.R_lt (rl_ HO593))) (Kd.R_lt (rl_ HO596))) (Kd.R_lt (rl_ HO607))) (Kd.R_lt (rl_ HO610))) (Kd.R_lt (rl_ HO620))) (Kd.R_lt (rl_ HO623))) (Kd.R_lt (rl_ HO636))) (Kd.R_lt (rl_ HO639))) (below_size bl_))
                         have HO666 := Aside0.mk (Kd.R_lower (Kd.R_new' (Kd.R_new' (Kd.R_new' (Kd.R_new' (Kd.R_new' (Kd.R_new' (Kd.R_new' (Kd.R_new' (Kd.R_new' (Kd.R_new' ho1 (Kd.R_lt (rl_ HO582))) (Kd.R_lt (rl_ HO585))) (Kd.R_lt (rl_ HO593))) (Kd.R_lt (rl_ HO596))) (Kd.R_lt (rl_ HO607))) (Kd.R_lt (rl_ HO610))) (Kd.R_lt (rl_ HO620))) (Kd.R_lt (rl_ HO623))) (Kd.R_lt (rl_ HO636))) (Kd.R_lt (rl_ HO639))) (below_size bl_))
                         replace HO582 := rt2_ HO582 hb ho0 ho1
                         replace HO585 := rt2_ HO585 hb ho0 ho1
                         replace HO593 := rt2_ HO593 hb ho0 ho1
                         replace HO596 := rt2_ HO596 hb ho0 ho1
                         replace HO607 := rt2_ HO607 hb ho0 ho1
                         replace HO610 := rt2_ HO610 hb ho0 ho1
                         replace HO620 := rt2_ HO620 hb ho0 ho1
                         replace HO623 := rt2_ HO623 hb ho0 ho1
                         replace HO636 := rt2_ HO636 hb ho0 ho1
                         replace HO639 := rt2_ HO639 hb ho0 ho1
                         replace BK574 := bbl_ BK574 hb
                         replace BK575 := bbl_ BK575 hb
                         replace BK602 := bbl_ BK602 hb
                         replace BK611 := bbl_ BK611 hb
                         replace BK615 := bbl_ BK615 hb
                         replace BK629 := bbl_ BK629 hb
                         replace HB := hbl_ hb
                         try clear hb
                         try clear ho0
                         try clear ho1
                         refine hK.out _ _ ⟨bc_ BK574 0, bc_ BK574 1, bc_ BK574 2, bc_ BK574 3, bc_ BK575 0⟩ (fun hHeld => ?_)
                         clear hK K
                         refine nq_ ?_
                         refine two_ (i := 3) (j := 11) (Ni := some 145) (Nj := some 21) (fl 16 31) (fl 16 2071) rfl rfl rfl rfl (two_of HT_.out (by kernel_rfl)) (by decide) (by decide) (fun K hK => ?_) (fun K hK => ?_)
                         ·skip
                          refine go_ Tryd.func8 #[.agg #[.slice A1_0 l1_0.length c1_0]] ?_
                          with_reducible refine (laws_toState.calls k _ _ l1_0 t667 _ ?side1 ?side2 A56.out).mono ?_
                          (case side1 => exact cb_ HR1_0)
                          (case side2 => exact HC1_0.out)
                          rintro e w151 ⟨v668, rfl, ho0, hb⟩
                          refine ⟨_, rfl, ?_⟩
                          replace HO582 := rbl_ HO582 hb
                          replace HO585 := rbl_ HO585 hb
                          replace HO593 := rbl_ HO593 hb
                          replace HO596 := rbl_ HO596 hb
                          replace HO601 := sbl_ HO601 hb
                          replace HO607 := rbl_ HO607 hb
                          replace HO610 := rbl_ HO610 hb
                          replace HO620 := rbl_ HO620 hb
                          replace HO623 := rbl_ HO623 hb
                          replace HO628 := sbl_ HO628 hb
                          replace HO636 := rbl_ HO636 hb
                          replace HO639 := rbl_ HO639 hb
                          replace HO663 := rbl_ HO663 hb
                          replace HO666 := rbl_ HO666 hb
                          have HO669 := Aside0.mk (Kd.S_lower ho0 (below_size bl_))
                          replace BK574 := bbl_ BK574 hb
                          replace BK575 := bbl_ BK575 hb
                          replace BK602 := bbl_ BK602 hb
                          replace BK611 := bbl_ BK611 hb
                          replace BK615 := bbl_ BK615 hb
                          replace BK629 := bbl_ BK629 hb
                          replace HB := hbl_ hb
                          try clear hb
                          try clear ho0
                          obtain ⟨Ao152, co152, eo152⟩ := Kd.R_slice HO663.out
                          (first | subst eo152 | (injection eo152 with f1_ f2_ f3_; have f4_ := f1_.symm; have f5_ := f3_.symm; clear f1_ f2_ f3_; subst f4_; subst f5_))
                          obtain ⟨Ao153, co153, eo153⟩ := Kd.R_slice HO666.out
                          (first | subst eo153 | (injection eo153 with f1_ f2_ f3_; have f4_ := f1_.symm; have f5_ := f3_.symm; clear f1_ f2_ f3_; subst f4_; subst f5_))
                          obtain ⟨Ao154, co154, eo154⟩ := Kd.S_slice HO669.out
                          (first | subst eo154 | (injection eo154 with f1_ f2_ f3_; have f4_ := f1_.symm; have f5_ := f3_.symm; clear f1_ f2_ f3_; subst f4_; subst f5_))
                          refine hK.out _ _ ⟨bc_ BK574 0, bc_ BK574 1, bc_ BK574 2, bc_ BK574 3, bc_ BK575 0⟩ (fun hHeld => ?_)
                          clear hK K
                          refine nq_ ?_
                          refine two_ (i := 5) (j := 11) (Ni := some 147) (Nj := some 21) (fl 16 63) (fl 16 2079) rfl rfl rfl rfl (two_of HT_.out (by kernel_rfl)) (by decide) (by decide) (fun K hK => ?_) (fun K hK => ?_)
                          ·skip
                           refine go_ Tryd.func9 #[.agg #[.int .i64 t659, .string t660, .slice Ao152 t661.length co152, .slice Ao153 t664.length co153], .agg #[.slice Ao154 t667.length co154], .string a2] ?_
                           with_reducible refine (impl_StepBring.calls k t659 t660 _ _ t661 _ _ t664 _ _ t667 a2 t670 t671 t672 t675 t678 t679 t680 _ ?side1 ?side2 ?side3 ?side4 ?side5 ?side6 ?side7 A57.out).mono ?_
                           (case side1 => exact cr_ HO663)
                           (case side2 => exact nr_ HO663)
                           (case side3 => exact cr_ HO666)
                           (case side4 => exact nr_ HO666)
                           (case side5 => exact cs_ HO669)
                           (case side6 => exact ns_ HO669)
                           (case side7 => exact gint_below bl_ HG.out)
                           rintro e w155 ⟨v673, v676, v681, rfl, ho0, ho1, ho2, hb⟩
                           refine ⟨_, rfl, ?_⟩
                           replace HO669 := sbl_ HO669 hb
                           have HO674 := Aside0.mk (Kd.R_lower (Kd.R_new' (Kd.R_new' (Kd.R_new' (Kd.R_new' (Kd.R_new' (Kd.R_new' (Kd.R_new' (Kd.R_new' (Kd.R_new' (Kd.R_new' (Kd.R_new' (Kd.R_new' ho0 (Kd.R_lt (rl_ HO582))) (Kd.R_lt (rl_ HO585))) (Kd.R_lt (rl_ HO593))) (Kd.R_lt (rl_ HO596))) (Kd.R_lt (rl_ HO607))) (Kd.R_lt (rl_ HO610))) (Kd.R_lt (rl_ HO620))) (Kd.R_lt (rl_ HO623))) (Kd.R_lt (rl_ HO636))) (Kd.R_lt (rl_ HO639))) (Kd.R_lt (rl_ HO663))) (Kd.R_lt (rl_ HO666))) (below_size bl_))
                           have HO677 := Aside0.mk (Kd.R_lower (Kd.R_new' (Kd.R_new' (Kd.R_new' (Kd.R_new' (Kd.R_new' (Kd.R_new' (Kd.R_new' (Kd.R_new' (Kd.R_new' (Kd.R_new' (Kd.R_new' (Kd.R_new' ho1 (Kd.R_lt (rl_ HO582))) (Kd.R_lt (rl_ HO585))) (Kd.R_lt (rl_ HO593))) (Kd.R_lt (rl_ HO596))) (Kd.R_lt (rl_ HO607))) (Kd.R_lt (rl_ HO610))) (Kd.R_lt (rl_ HO620))) (Kd.R_lt (rl_ HO623))) (Kd.R_lt (rl_ HO636))) (Kd.R_lt (rl_ HO639))) (Kd.R_lt (rl_ HO663))) (Kd.R_lt (rl_ HO666))) (below_size bl_))
                           replace HO582 := rt2_ HO582 hb ho0 ho1
                           replace HO585 := rt2_ HO585 hb ho0 ho1
                           replace HO593 := rt2_ HO593 hb ho0 ho1
                           replace HO596 := rt2_ HO596 hb ho0 ho1
                           replace HO607 := rt2_ HO607 hb ho0 ho1
                           replace HO610 := rt2_ HO610 hb ho0 ho1
                           replace HO620 := rt2_ HO620 hb ho0 ho1
                           replace HO623 := rt2_ HO623 hb ho0 ho1
                           replace HO636 := rt2_ HO636 hb ho0 ho1
                           replace HO639 := rt2_ HO639 hb ho0 ho1
                           replace HO663 := rt2_ HO663 hb ho0 ho1
                           replace HO666 := rt2_ HO666 hb ho0 ho1
                           have HO682 := Aside0.mk (Kd.S_lower (Kd.S_new' (Kd.S_new' ho2 (Kd.S_lt (sl_ HO601))) (Kd.S_lt (sl_ HO628))) (below_size bl_))
                           replace HO601 := Aside0.mk (Kd.S_elder' (sl_ HO601) (Kd.S_base ho2) hb)
                           replace HO628 := Aside0.mk (Kd.S_elder' (sl_ HO628) (Kd.S_base ho2) hb)
                           replace BK574 := bbl_ BK574 hb
                           replace BK575 := bbl_ BK575 hb
                           replace BK602 := bbl_ BK602 hb
                           replace BK611 := bbl_ BK611 hb
                           replace BK615 := bbl_ BK615 hb
                           replace BK629 := bbl_ BK629 hb
                           replace HB := hbl_ hb
                           try clear hb
                           try clear ho0
                           try clear ho1
                           try clear ho2
                           refine hK.out _ _ ⟨bc_ BK574 0, bc_ BK574 1, bc_ BK574 2, bc_ BK574 3, bc_ BK575 0⟩ (fun hHeld => ?_)
                           clear hK K
                           refine nq_ ?_
                           refine pq_ 6 141 (fl 16 127) HT_.out ?_
                           refine pq_ 7 148 (fl 16 255) HT_.out ?_
                           refine pq_ 8 149 (fl 16 511) HT_.out ?_
                           refine pq_ 9 150 (fl 16 1023) HT_.out ?_
                           refine pq_ 10 151 (fl 16 2047) HT_.out ?_
                           refine one_ (i := 11) (N := some 21) (fl 16 4095) rfl rfl (one_of HT_.out (by kernel_rfl)) (by decide) (fun K hK => ?_)
                           refine box_step ?hg (N := 21) ?hd (cs := #[.int .i64 0, .string (⟨#[]⟩ : ByteArray), .slice none 0 0, .slice none 0 0]) (t := 30) ?hr ?_; (case hd => rfl); (case hg => rfl); (case hr => first | (go_simp; done) | (go_simp; rfl))
                           intro gb683 hg w156 hbox hb
                           replace HO582 := rbl_ HO582 hb
                           replace HO585 := rbl_ HO585 hb
                           replace HO593 := rbl_ HO593 hb
                           replace HO596 := rbl_ HO596 hb
                           replace HO601 := sbl_ HO601 hb
                           replace HO607 := rbl_ HO607 hb
                           replace HO610 := rbl_ HO610 hb
                           replace HO620 := rbl_ HO620 hb
                           replace HO623 := rbl_ HO623 hb
                           replace HO628 := sbl_ HO628 hb
                           replace HO636 := rbl_ HO636 hb
                           replace HO639 := rbl_ HO639 hb
                           replace HO663 := rbl_ HO663 hb
                           replace HO666 := rbl_ HO666 hb
                           replace HO669 := sbl_ HO669 hb
                           replace HO674 := rbl_ HO674 hb
                           replace HO677 := rbl_ HO677 hb
                           replace HO682 := sbl_ HO682 hb
                           have BK683 := Aside0.mk (hbox)
                           have GW683 := gel_ hg
                           have GE683 := gel_ hg
                           replace HB := hbl_ hb
                           have NB574_683 := nl_ hg BK574
                           have NB683_574 := ng_ hg BK574
                           replace BK574 := bbl_ BK574 hb
                           have NB575_683 := nl_ hg BK575
                           have NB683_575 := ng_ hg BK575
                           replace BK575 := bbl_ BK575 hb
                           have NB602_683 := nl_ hg BK602
                           have NB683_602 := ng_ hg BK602
                           replace BK602 := bbl_ BK602 hb
                           have NB611_683 := nl_ hg BK611
                           have NB683_611 := ng_ hg BK611
                           replace BK611 := bbl_ BK611 hb
                           have NB615_683 := nl_ hg BK615
                           have NB683_615 := ng_ hg BK615
                           replace BK615 := bbl_ BK615 hb
                           have NB629_683 := nl_ hg BK629
                           have NB683_629 := ng_ hg BK629
                           replace BK629 := bbl_ BK629 hb
                           clear hb hbox hg
                           refine hK.out _ _ ⟨bc_ BK574 0, bc_ BK574 1, bc_ BK574 2, bc_ BK574 3, bc_ BK575 0⟩ (fun hHeld => ?_)
                           clear hK K
                           refine nq_ ?_
                           exact norm_ (by simp only [putAll, Act.put, List.setIfInBounds_toArray, List.set_cons_zero, List.set_cons_succ]) (hCont (.slice Ao152 t661.length co152, .slice Ao153 t664.length co153, .slice Ao154 t667.length co154, v673, v676, v681, gb683) _ ⟨hHeld, (rm_ HO582), (rm_ HO585), (rm_ HO593), (rm_ HO596), (sl_ HO601), (rm_ HO607), (rm_ HO610), (rm_ HO620), (rm_ HO623), (by (with_reducible repeat (first | apply Kd.S_alloc | apply Kd.S_drewN | apply Kd.S_drew)); exact Kd.S_mono HO628.out (fun _ hk => hk.2)), (rm_ HO636), (rm_ HO639), (rm_ HO663), (rm_ HO666), (sl_ HO669), (rm_ HO674), (rm_ HO677), (by (with_reducible repeat (first | apply Kd.S_alloc | apply Kd.S_drewN | apply Kd.S_drew)); exact Kd.S_mono HO682.out (fun _ hk => ⟨hk.1.2, hk.2⟩)), (kl_ BK574), (kl_ BK575), (kl_ BK602), (kl_ BK611), (kl_ BK615), (kl_ BK629), (kl_ BK683), GW683.out, GE683.out, NB574_683.out, NB683_574.out, NB575_683.out, NB683_575.out, NB602_683.out, NB683_602.out, NB611_683.out, NB683_611.out, NB615_683.out, NB683_615.out, NB629_683.out, NB683_629.out, bl_⟩)
                          ·skip
                           refine box_step ?hg (N := 21) ?hd (cs := #[.int .i64 0, .string (⟨#[]⟩ : ByteArray), .slice none 0 0, .slice none 0 0]) (t := 30) ?hr ?_; (case hd => rfl); (case hg => rfl); (case hr => first | (go_simp; done) | (go_simp; rfl))
                           intro gb683 hg w152 hbox hb
                           replace HO582 := rbl_ HO582 hb
                           replace HO585 := rbl_ HO585 hb
                           replace HO593 := rbl_ HO593 hb
                           replace HO596 := rbl_ HO596 hb
                           replace HO601 := sbl_ HO601 hb
                           replace HO607 := rbl_ HO607 hb
                           replace HO610 := rbl_ HO610 hb
                           replace HO620 := rbl_ HO620 hb
                           replace HO623 := rbl_ HO623 hb
                           replace HO628 := sbl_ HO628 hb
                           replace HO636 := rbl_ HO636 hb
                           replace HO639 := rbl_ HO639 hb
                           replace HO663 := rbl_ HO663 hb
                           replace HO666 := rbl_ HO666 hb
                           replace HO669 := sbl_ HO669 hb
                           have BK683 := Aside0.mk (hbox)
                           have GW683 := gel_ hg
                           have GE683 := gel_ hg
                           replace HB := hbl_ hb
                           have NB574_683 := nl_ hg BK574
                           have NB683_574 := ng_ hg BK574
                           replace BK574 := bbl_ BK574 hb
                           have NB575_683 := nl_ hg BK575
                           have NB683_575 := ng_ hg BK575
                           replace BK575 := bbl_ BK575 hb
                           have NB602_683 := nl_ hg BK602
                           have NB683_602 := ng_ hg BK602
                           replace BK602 := bbl_ BK602 hb
                           have NB611_683 := nl_ hg BK611
                           have NB683_611 := ng_ hg BK611
                           replace BK611 := bbl_ BK611 hb
                           have NB615_683 := nl_ hg BK615
                           have NB683_615 := ng_ hg BK615
                           replace BK615 := bbl_ BK615 hb
                           have NB629_683 := nl_ hg BK629
                           have NB683_629 := ng_ hg BK629
                           replace BK629 := bbl_ BK629 hb
                           clear hb hbox hg
                           obtain ⟨Ao153, co153, eo153⟩ := Kd.R_slice HO663.out
                           (first | subst eo153 | (injection eo153 with f1_ f2_ f3_; have f4_ := f1_.symm; have f5_ := f3_.symm; clear f1_ f2_ f3_; subst f4_; subst f5_))
                           obtain ⟨Ao154, co154, eo154⟩ := Kd.R_slice HO666.out
                           (first | subst eo154 | (injection eo154 with f1_ f2_ f3_; have f4_ := f1_.symm; have f5_ := f3_.symm; clear f1_ f2_ f3_; subst f4_; subst f5_))
                           obtain ⟨Ao155, co155, eo155⟩ := Kd.S_slice HO669.out
                           (first | subst eo155 | (injection eo155 with f1_ f2_ f3_; have f4_ := f1_.symm; have f5_ := f3_.symm; clear f1_ f2_ f3_; subst f4_; subst f5_))
                           refine hK.out _ _ ⟨bc_ BK574 0, bc_ BK574 1, bc_ BK574 2, bc_ BK574 3, bc_ BK575 0⟩ (fun hHeld => ?_)
                           clear hK K
                           refine nq_ ?_
                           refine one_ (i := 5) (N := some 147) (fl 16 2111) rfl rfl (one_of HT_.out (by kernel_rfl)) (by decide) (fun K hK => ?_)
                           refine go_ Tryd.func9 #[.agg #[.int .i64 t659, .string t660, .slice Ao153 t661.length co153, .slice Ao154 t664.length co154], .agg #[.slice Ao155 t667.length co155], .string a2] ?_
                           with_reducible refine (impl_StepBring.calls k t659 t660 _ _ t661 _ _ t664 _ _ t667 a2 t670 t671 t672 t675 t678 t679 t680 _ ?side1 ?side2 ?side3 ?side4 ?side5 ?side6 ?side7 A57.out).mono ?_
                           (case side1 => exact cr_ HO663)
                           (case side2 => exact nr_ HO663)
                           (case side3 => exact cr_ HO666)
                           (case side4 => exact nr_ HO666)
                           (case side5 => exact cs_ HO669)
                           (case side6 => exact ns_ HO669)
                           (case side7 => exact gint_below bl_ HG.out)
                           rintro e w156 ⟨v673, v676, v681, rfl, ho0, ho1, ho2, hb⟩
                           refine ⟨_, rfl, ?_⟩
                           replace HO669 := sbl_ HO669 hb
                           have HO674 := Aside0.mk (Kd.R_lower (Kd.R_new' (Kd.R_new' (Kd.R_new' (Kd.R_new' (Kd.R_new' (Kd.R_new' (Kd.R_new' (Kd.R_new' (Kd.R_new' (Kd.R_new' (Kd.R_new' (Kd.R_new' ho0 (Kd.R_lt (rl_ HO582))) (Kd.R_lt (rl_ HO585))) (Kd.R_lt (rl_ HO593))) (Kd.R_lt (rl_ HO596))) (Kd.R_lt (rl_ HO607))) (Kd.R_lt (rl_ HO610))) (Kd.R_lt (rl_ HO620))) (Kd.R_lt (rl_ HO623))) (Kd.R_lt (rl_ HO636))) (Kd.R_lt (rl_ HO639))) (Kd.R_lt (rl_ HO663))) (Kd.R_lt (rl_ HO666))) (below_size bl_))
                           have HO677 := Aside0.mk (Kd.R_lower (Kd.R_new' (Kd.R_new' (Kd.R_new' (Kd.R_new' (Kd.R_new' (Kd.R_new' (Kd.R_new' (Kd.R_new' (Kd.R_new' (Kd.R_new' (Kd.R_new' (Kd.R_new' ho1 (Kd.R_lt (rl_ HO582))) (Kd.R_lt (rl_ HO585))) (Kd.R_lt (rl_ HO593))) (Kd.R_lt (rl_ HO596))) (Kd.R_lt (rl_ HO607))) (Kd.R_lt (rl_ HO610))) (Kd.R_lt (rl_ HO620))) (Kd.R_lt (rl_ HO623))) (Kd.R_lt (rl_ HO636))) (Kd.R_lt (rl_ HO639))) (Kd.R_lt (rl_ HO663))) (Kd.R_lt (rl_ HO666))) (below_size bl_))
                           replace HO582 := rt2_ HO582 hb ho0 ho1
                           replace HO585 := rt2_ HO585 hb ho0 ho1
                           replace HO593 := rt2_ HO593 hb ho0 ho1
                           replace HO596 := rt2_ HO596 hb ho0 ho1
                           replace HO607 := rt2_ HO607 hb ho0 ho1
                           replace HO610 := rt2_ HO610 hb ho0 ho1
                           replace HO620 := rt2_ HO620 hb ho0 ho1
                           replace HO623 := rt2_ HO623 hb ho0 ho1
                           replace HO636 := rt2_ HO636 hb ho0 ho1
                           replace HO639 := rt2_ HO639 hb ho0 ho1
                           replace HO663 := rt2_ HO663 hb ho0 ho1
                           replace HO666 := rt2_ HO666 hb ho0 ho1
                           have HO682 := Aside0.mk (Kd.S_lower (Kd.S_new' (Kd.S_new' ho2 (Kd.S_lt (sl_ HO601))) (Kd.S_lt (sl_ HO628))) (below_size bl_))
                           replace HO601 := Aside0.mk (Kd.S_elder' (sl_ HO601) (Kd.S_base ho2) hb)
                           replace HO628 := Aside0.mk (Kd.S_elder' (sl_ HO628) (Kd.S_base ho2) hb)
                           replace BK574 := bbl_ BK574 hb
                           replace BK575 := bbl_ BK575 hb
                           replace BK602 := bbl_ BK602 hb
                           replace BK611 := bbl_ BK611 hb
                           replace BK615 := bbl_ BK615 hb
                           replace BK629 := bbl_ BK629 hb
                           replace BK683 := bbl_ BK683 hb
                           replace HB := hbl_ hb
                           try clear hb
                           try clear ho0
                           try clear ho1
                           try clear ho2
                           refine hK.out _ _ ⟨bc_ BK574 0, bc_ BK574 1, bc_ BK574 2, bc_ BK574 3, bc_ BK575 0⟩ (fun hHeld => ?_)
                           clear hK K
                           refine nq_ ?_
                           refine pq_ 6 141 (fl 16 2175) HT_.out ?_
                           refine pq_ 7 148 (fl 16 2303) HT_.out ?_
                           refine pq_ 8 149 (fl 16 2559) HT_.out ?_
                           refine pq_ 9 150 (fl 16 3071) HT_.out ?_
                           refine pq_ 10 151 (fl 16 4095) HT_.out ?_
                           exact norm_ (by simp only [putAll, Act.put, List.setIfInBounds_toArray, List.set_cons_zero, List.set_cons_succ]) (hCont (.slice Ao153 t661.length co153, .slice Ao154 t664.length co154, .slice Ao155 t667.length co155, v673, v676, v681, gb683) _ ⟨hHeld, (rm_ HO582), (rm_ HO585), (rm_ HO593), (rm_ HO596), (sl_ HO601), (rm_ HO607), (rm_ HO610), (rm_ HO620), (rm_ HO623), (by (with_reducible repeat (first | apply Kd.S_alloc | apply Kd.S_drewN | apply Kd.S_drew)); exact Kd.S_mono HO628.out (fun _ hk => hk.2)), (rm_ HO636), (rm_ HO639), (rm_ HO663), (rm_ HO666), (sl_ HO669), (rm_ HO674), (rm_ HO677), (by (with_reducible repeat (first | apply Kd.S_alloc | apply Kd.S_drewN | apply Kd.S_drew)); exact Kd.S_mono HO682.out (fun _ hk => ⟨hk.1.2, hk.2⟩)), (kl_ BK574), (kl_ BK575), (kl_ BK602), (kl_ BK611), (kl_ BK615), (kl_ BK629), (kl_ BK683), GW683.out, GE683.out, NB574_683.out, NB683_574.out, NB575_683.out, NB683_575.out, NB602_683.out, NB683_602.out, NB611_683.out, NB683_611.out, NB615_683.out, NB683_615.out, NB629_683.out, NB683_629.out, bl_⟩)
                         ·skip
                          refine box_step ?hg (N := 21) ?hd (cs := #[.int .i64 0, .string (⟨#[]⟩ : ByteArray), .slice none 0 0, .slice none 0 0]) (t := 30) ?hr ?_; (case hd => rfl); (case hg => rfl); (case hr => first | (go_simp; done) | (go_simp; rfl))
                          intro gb683 hg w151 hbox hb
                          replace HO582 := rbl_ HO582 hb
                          replace HO585 := rbl_ HO585 hb
                          replace HO593 := rbl_ HO593 hb
                          replace HO596 := rbl_ HO596 hb
                          replace HO601 := sbl_ HO601 hb
                          replace HO607 := rbl_ HO607 hb
                          replace HO610 := rbl_ HO610 hb
                          replace HO620 := rbl_ HO620 hb
                          replace HO623 := rbl_ HO623 hb
                          replace HO628 := sbl_ HO628 hb
                          replace HO636 := rbl_ HO636 hb
                          replace HO639 := rbl_ HO639 hb
                          replace HO663 := rbl_ HO663 hb
                          replace HO666 := rbl_ HO666 hb
                          have BK683 := Aside0.mk (hbox)
                          have GW683 := gel_ hg
                          have GE683 := gel_ hg
                          replace HB := hbl_ hb
                          have NB574_683 := nl_ hg BK574
                          have NB683_574 := ng_ hg BK574
                          replace BK574 := bbl_ BK574 hb
                          have NB575_683 := nl_ hg BK575
                          have NB683_575 := ng_ hg BK575
                          replace BK575 := bbl_ BK575 hb
                          have NB602_683 := nl_ hg BK602
                          have NB683_602 := ng_ hg BK602
                          replace BK602 := bbl_ BK602 hb
                          have NB611_683 := nl_ hg BK611
                          have NB683_611 := ng_ hg BK611
                          replace BK611 := bbl_ BK611 hb
                          have NB615_683 := nl_ hg BK615
                          have NB683_615 := ng_ hg BK615
                          replace BK615 := bbl_ BK615 hb
                          have NB629_683 := nl_ hg BK629
                          have NB683_629 := ng_ hg BK629
                          replace BK629 := bbl_ BK629 hb
                          clear hb hbox hg
                          refine hK.out _ _ ⟨bc_ BK574 0, bc_ BK574 1, bc_ BK574 2, bc_ BK574 3, bc_ BK575 0⟩ (fun hHeld => ?_)
                          clear hK K
                          refine nq_ ?_
                          refine one_ (i := 3) (N := some 145) (fl 16 2079) rfl rfl (one_of HT_.out (by kernel_rfl)) (by decide) (fun K hK => ?_)
                          refine go_ Tryd.func8 #[.agg #[.slice A1_0 l1_0.length c1_0]] ?_
                          with_reducible refine (laws_toState.calls k _ _ l1_0 t667 _ ?side1 ?side2 A56.out).mono ?_
                          (case side1 => exact cb_ HR1_0)
                          (case side2 => exact HC1_0.out)
                          rintro e w152 ⟨v668, rfl, ho0, hb⟩
                          refine ⟨_, rfl, ?_⟩
                          replace HO582 := rbl_ HO582 hb
                          replace HO585 := rbl_ HO585 hb
                          replace HO593 := rbl_ HO593 hb
                          replace HO596 := rbl_ HO596 hb
                          replace HO601 := sbl_ HO601 hb
                          replace HO607 := rbl_ HO607 hb
                          replace HO610 := rbl_ HO610 hb
                          replace HO620 := rbl_ HO620 hb
                          replace HO623 := rbl_ HO623 hb
                          replace HO628 := sbl_ HO628 hb
                          replace HO636 := rbl_ HO636 hb
                          replace HO639 := rbl_ HO639 hb
                          replace HO663 := rbl_ HO663 hb
                          replace HO666 := rbl_ HO666 hb
                          have HO669 := Aside0.mk (Kd.S_lower ho0 (below_size bl_))
                          replace BK574 := bbl_ BK574 hb
                          replace BK575 := bbl_ BK575 hb
                          replace BK602 := bbl_ BK602 hb
                          replace BK611 := bbl_ BK611 hb
                          replace BK615 := bbl_ BK615 hb
                          replace BK629 := bbl_ BK629 hb
                          replace BK683 := bbl_ BK683 hb
                          replace HB := hbl_ hb
                          try clear hb
                          try clear ho0
                          obtain ⟨Ao153, co153, eo153⟩ := Kd.R_slice HO663.out
                          (first | subst eo153 | (injection eo153 with f1_ f2_ f3_; have f4_ := f1_.symm; have f5_ := f3_.symm; clear f1_ f2_ f3_; subst f4_; subst f5_))
                          obtain ⟨Ao154, co154, eo154⟩ := Kd.R_slice HO666.out
                          (first | subst eo154 | (injection eo154 with f1_ f2_ f3_; have f4_ := f1_.symm; have f5_ := f3_.symm; clear f1_ f2_ f3_; subst f4_; subst f5_))
                          obtain ⟨Ao155, co155, eo155⟩ := Kd.S_slice HO669.out
                          (first | subst eo155 | (injection eo155 with f1_ f2_ f3_; have f4_ := f1_.symm; have f5_ := f3_.symm; clear f1_ f2_ f3_; subst f4_; subst f5_))
                          refine hK.out _ _ ⟨bc_ BK574 0, bc_ BK574 1, bc_ BK574 2, bc_ BK574 3, bc_ BK575 0⟩ (fun hHeld => ?_)
                          clear hK K
                          refine nq_ ?_
                          refine one_ (i := 5) (N := some 147) (fl 16 2111) rfl rfl (one_of HT_.out (by kernel_rfl)) (by decide) (fun K hK => ?_)
                          refine go_ Tryd.func9 #[.agg #[.int .i64 t659, .string t660, .slice Ao153 t661.length co153, .slice Ao154 t664.length co154], .agg #[.slice Ao155 t667.length co155], .string a2] ?_
                          with_reducible refine (impl_StepBring.calls k t659 t660 _ _ t661 _ _ t664 _ _ t667 a2 t670 t671 t672 t675 t678 t679 t680 _ ?side1 ?side2 ?side3 ?side4 ?side5 ?side6 ?side7 A57.out).mono ?_
                          (case side1 => exact cr_ HO663)
                          (case side2 => exact nr_ HO663)
                          (case side3 => exact cr_ HO666)
                          (case side4 => exact nr_ HO666)
                          (case side5 => exact cs_ HO669)
                          (case side6 => exact ns_ HO669)
                          (case side7 => exact gint_below bl_ HG.out)
                          rintro e w156 ⟨v673, v676, v681, rfl, ho0, ho1, ho2, hb⟩
                          refine ⟨_, rfl, ?_⟩
                          replace HO669 := sbl_ HO669 hb
                          have HO674 := Aside0.mk (Kd.R_lower (Kd.R_new' (Kd.R_new' (Kd.R_new' (Kd.R_new' (Kd.R_new' (Kd.R_new' (Kd.R_new' (Kd.R_new' (Kd.R_new' (Kd.R_new' (Kd.R_new' (Kd.R_new' ho0 (Kd.R_lt (rl_ HO582))) (Kd.R_lt (rl_ HO585))) (Kd.R_lt (rl_ HO593))) (Kd.R_lt (rl_ HO596))) (Kd.R_lt (rl_ HO607))) (Kd.R_lt (rl_ HO610))) (Kd.R_lt (rl_ HO620))) (Kd.R_lt (rl_ HO623))) (Kd.R_lt (rl_ HO636))) (Kd.R_lt (rl_ HO639))) (Kd.R_lt (rl_ HO663))) (Kd.R_lt (rl_ HO666))) (below_size bl_))
                          have HO677 := Aside0.mk (Kd.R_lower (Kd.R_new' (Kd.R_new' (Kd.R_new' (Kd.R_new' (Kd.R_new' (Kd.R_new' (Kd.R_new' (Kd.R_new' (Kd.R_new' (Kd.R_new' (Kd.R_new' (Kd.R_new' ho1 (Kd.R_lt (rl_ HO582))) (Kd.R_lt (rl_ HO585))) (Kd.R_lt (rl_ HO593))) (Kd.R_lt (rl_ HO596))) (Kd.R_lt (rl_ HO607))) (Kd.R_lt (rl_ HO610))) (Kd.R_lt (rl_ HO620))) (Kd.R_lt (rl_ HO623))) (Kd.R_lt (rl_ HO636))) (Kd.R_lt (rl_ HO639))) (Kd.R_lt (rl_ HO663))) (Kd.R_lt (rl_ HO666))) (below_size bl_))
                          replace HO582 := rt2_ HO582 hb ho0 ho1
                          replace HO585 := rt2_ HO585 hb ho0 ho1
                          replace HO593 := rt2_ HO593 hb ho0 ho1
                          replace HO596 := rt2_ HO596 hb ho0 ho1
                          replace HO607 := rt2_ HO607 hb ho0 ho1
                          replace HO610 := rt2_ HO610 hb ho0 ho1
                          replace HO620 := rt2_ HO620 hb ho0 ho1
                          replace HO623 := rt2_ HO623 hb ho0 ho1
                          replace HO636 := rt2_ HO636 hb ho0 ho1
                          replace HO639 := rt2_ HO639 hb ho0 ho1
                          replace HO663 := rt2_ HO663 hb ho0 ho1
                          replace HO666 := rt2_ HO666 hb ho0 ho1
                          have HO682 := Aside0.mk (Kd.S_lower (Kd.S_new' (Kd.S_new' ho2 (Kd.S_lt (sl_ HO601))) (Kd.S_lt (sl_ HO628))) (below_size bl_))
                          replace HO601 := Aside0.mk (Kd.S_elder' (sl_ HO601) (Kd.S_base ho2) hb)
                          replace HO628 := Aside0.mk (Kd.S_elder' (sl_ HO628) (Kd.S_base ho2) hb)
                          replace BK574 := bbl_ BK574 hb
                          replace BK575 := bbl_ BK575 hb
                          replace BK602 := bbl_ BK602 hb
                          replace BK611 := bbl_ BK611 hb
                          replace BK615 := bbl_ BK615 hb
                          replace BK629 := bbl_ BK629 hb
                          replace BK683 := bbl_ BK683 hb
                          replace HB := hbl_ hb
                          try clear hb
                          try clear ho0
                          try clear ho1
                          try clear ho2
                          refine hK.out _ _ ⟨bc_ BK574 0, bc_ BK574 1, bc_ BK574 2, bc_ BK574 3, bc_ BK575 0⟩ (fun hHeld => ?_)
                          clear hK K
                          refine nq_ ?_
                          refine pq_ 6 141 (fl 16 2175) HT_.out ?_
                          refine pq_ 7 148 (fl 16 2303) HT_.out ?_
                          refine pq_ 8 149 (fl 16 2559) HT_.out ?_
                          refine pq_ 9 150 (fl 16 3071) HT_.out ?_
                          refine pq_ 10 151 (fl 16 4095) HT_.out ?_
                          exact norm_ (by simp only [putAll, Act.put, List.setIfInBounds_toArray, List.set_cons_zero, List.set_cons_succ]) (hCont (.slice Ao153 t661.length co153, .slice Ao154 t664.length co154, .slice Ao155 t667.length co155, v673, v676, v681, gb683) _ ⟨hHeld, (rm_ HO582), (rm_ HO585), (rm_ HO593), (rm_ HO596), (sl_ HO601), (rm_ HO607), (rm_ HO610), (rm_ HO620), (rm_ HO623), (by (with_reducible repeat (first | apply Kd.S_alloc | apply Kd.S_drewN | apply Kd.S_drew)); exact Kd.S_mono HO628.out (fun _ hk => hk.2)), (rm_ HO636), (rm_ HO639), (rm_ HO663), (rm_ HO666), (sl_ HO669), (rm_ HO674), (rm_ HO677), (by (with_reducible repeat (first | apply Kd.S_alloc | apply Kd.S_drewN | apply Kd.S_drew)); exact Kd.S_mono HO682.out (fun _ hk => ⟨hk.1.2, hk.2⟩)), (kl_ BK574), (kl_ BK575), (kl_ BK602), (kl_ BK611), (kl_ BK615), (kl_ BK629), (kl_ BK683), GW683.out, GE683.out, NB574_683.out, NB683_574.out, NB575_683.out, NB683_575.out, NB602_683.out, NB683_602.out, NB611_683.out, NB683_611.out, NB615_683.out, NB683_615.out, NB629_683.out, NB683_629.out, bl_⟩)
                        ·skip
                         refine box_step ?hg (N := 21) ?hd (cs := #[.int .i64 0, .string (⟨#[]⟩ : ByteArray), .slice none 0 0, .slice none 0 0]) (t := 30) ?hr ?_; (case hd => rfl); (case hg => rfl); (case hr => first | (go_simp; done) | (go_simp; rfl))
                         intro gb683 hg w150 hbox hb
                         replace HO582 := rbl_ HO582 hb
                         replace HO585 := rbl_ HO585 hb
                         replace HO593 := rbl_ HO593 hb
                         replace HO596 := rbl_ HO596 hb
                         replace HO601 := sbl_ HO601 hb
                         replace HO607 := rbl_ HO607 hb
                         replace HO610 := rbl_ HO610 hb
                         replace HO620 := rbl_ HO620 hb
                         replace HO623 := rbl_ HO623 hb
                         replace HO628 := sbl_ HO628 hb
                         replace HO636 := rbl_ HO636 hb
                         replace HO639 := rbl_ HO639 hb
                         have BK683 := Aside0.mk (hbox)
                         have GW683 := gel_ hg
                         have GE683 := gel_ hg
                         replace HB := hbl_ hb
                         have NB574_683 := nl_ hg BK574
                         have NB683_574 := ng_ hg BK574
                         replace BK574 := bbl_ BK574 hb
                         have NB575_683 := nl_ hg BK575
                         have NB683_575 := ng_ hg BK575
                         replace BK575 := bbl_ BK575 hb
                         have NB602_683 := nl_ hg BK602
                         have NB683_602 := ng_ hg BK602
                         replace BK602 := bbl_ BK602 hb
                         have NB611_683 := nl_ hg BK611
                         have NB683_611 := ng_ hg BK611
                         replace BK611 := bbl_ BK611 hb
                         have NB615_683 := nl_ hg BK615
                         have NB683_615 := ng_ hg BK615
                         replace BK615 := bbl_ BK615 hb
                         have NB629_683 := nl_ hg BK629
                         have NB683_629 := ng_ hg BK629
                         replace BK629 := bbl_ BK629 hb
                         clear hb hbox hg
                         refine hK.out _ _ ⟨bc_ BK574 0, bc_ BK574 1, bc_ BK574 2, bc_ BK574 3, bc_ BK575 0⟩ (fun hHeld => ?_)
                         clear hK K
                         refine nq_ ?_
                         refine one_ (i := 1) (N := some 143) (fl 16 2071) rfl rfl (one_of HT_.out (by kernel_rfl)) (by decide) (fun K hK => ?_)
                         refine go_ Tryd.func7 #[.agg #[.int .i64 a0_0, .string a0_1, .slice A0_2 l0_2.length c0_2, .slice A0_3 l0_3.length c0_3]] ?_
                         with_reducible refine (laws_toBring.calls k a0_0 a0_1 _ _ l0_2 _ _ l0_3 t659 t660 t661 t664 _ ?side1 ?side2 ?side3 ?side4 A55.out).mono ?_
                         (case side1 => exact cb_ HR0_2)
                         (case side2 => exact HC0_2.out)
                         (case side3 => exact cb_ HR0_3)
                         (case side4 => exact HC0_3.out)
                         rintro e w151 ⟨v662, v665, rfl, ho0, ho1, hb⟩
                         refine ⟨_, rfl, ?_⟩
                         replace HO601 := sbl_ HO601 hb
                         replace HO628 := sbl_ HO628 hb
                         have HO663 := Aside0.mk (Kd.R_lower (Kd.R_new' (Kd.R_new' (Kd.R_new' (Kd.R_new' (Kd.R_new' (Kd.R_new' (Kd.R_new' (Kd.R_new' (Kd.R_new' (Kd.R_new' ho0 (Kd.R_lt (rl_ HO582))) (Kd.R_lt (rl_ HO585))) (Kd.R_lt (rl_ HO593))) (Kd.R_lt (rl_ HO596))) (Kd.R_lt (rl_ HO607))) (Kd.R_lt (rl_ HO610))) (Kd.R_lt (rl_ HO620))) (Kd.R_lt (rl_ HO623))) (Kd.R_lt (rl_ HO636))) (Kd.R_lt (rl_ HO639))) (below_size bl_))
                         have HO666 := Aside0.mk (Kd.R_lower (Kd.R_new' (Kd.R_new' (Kd.R_new' (Kd.R_new' (Kd.R_new' (Kd.R_new' (Kd.R_new' (Kd.R_new' (Kd.R_new' (Kd.R_new' ho1 (Kd.R_lt (rl_ HO582))) (Kd.R_lt (rl_ HO585))) (Kd.R_lt (rl_ HO593))) (Kd.R_lt (rl_ HO596))) (Kd.R_lt (rl_ HO607))) (Kd.R_lt (rl_ HO610))) (Kd.R_lt (rl_ HO620))) (Kd.R_lt (rl_ HO623))) (Kd.R_lt (rl_ HO636))) (Kd.R_lt (rl_ HO639))) (below_size bl_))
                         replace HO582 := rt2_ HO582 hb ho0 ho1
                         replace HO585 := rt2_ HO585 hb ho0 ho1
                         replace HO593 := rt2_ HO593 hb ho0 ho1
                         replace HO596 := rt2_ HO596 hb ho0 ho1
                         replace HO607 := rt2_ HO607 hb ho0 ho1
                         replace HO610 := rt2_ HO610 hb ho0 ho1
                         replace HO620 := rt2_ HO620 hb ho0 ho1
                         replace HO623 := rt2_ HO623 hb ho0 ho1
                         replace HO636 := rt2_ HO636 hb ho0 ho1
                         replace HO639 := rt2_ HO639 hb ho0 ho1
                         replace BK574 := bbl_ BK574 hb
                         replace BK575 := bbl_ BK575 hb
                         replace BK602 := bbl_ BK602 hb
                         replace BK611 := bbl_ BK611 hb
                         replace BK615 := bbl_ BK615 hb
                         replace BK629 := bbl_ BK629 hb
                         replace BK683 := bbl_ BK683 hb
                         replace HB := hbl_ hb
                         try clear hb
                         try clear ho0
                         try clear ho1
                         refine hK.out _ _ ⟨bc_ BK574 0, bc_ BK574 1, bc_ BK574 2, bc_ BK574 3, bc_ BK575 0⟩ (fun hHeld => ?_)
                         clear hK K
                         refine nq_ ?_
                         refine one_ (i := 3) (N := some 145) (fl 16 2079) rfl rfl (one_of HT_.out (by kernel_rfl)) (by decide) (fun K hK => ?_)
                         refine go_ Tryd.func8 #[.agg #[.slice A1_0 l1_0.length c1_0]] ?_
                         with_reducible refine (laws_toState.calls k _ _ l1_0 t667 _ ?side1 ?side2 A56.out).mono ?_
                         (case side1 => exact cb_ HR1_0)
                         (case side2 => exact HC1_0.out)
                         rintro e w152 ⟨v668, rfl, ho0, hb⟩
                         refine ⟨_, rfl, ?_⟩
                         replace HO582 := rbl_ HO582 hb
                         replace HO585 := rbl_ HO585 hb
                         replace HO593 := rbl_ HO593 hb
                         replace HO596 := rbl_ HO596 hb
                         replace HO601 := sbl_ HO601 hb
                         replace HO607 := rbl_ HO607 hb
                         replace HO610 := rbl_ HO610 hb
                         replace HO620 := rbl_ HO620 hb
                         replace HO623 := rbl_ HO623 hb
                         replace HO628 := sbl_ HO628 hb
                         replace HO636 := rbl_ HO636 hb
                         replace HO639 := rbl_ HO639 hb
                         replace HO663 := rbl_ HO663 hb
                         replace HO666 := rbl_ HO666 hb
                         have HO669 := Aside0.mk (Kd.S_lower ho0 (below_size bl_))
                         replace BK574 := bbl_ BK574 hb
                         replace BK575 := bbl_ BK575 hb
                         replace BK602 := bbl_ BK602 hb
                         replace BK611 := bbl_ BK611 hb
                         replace BK615 := bbl_ BK615 hb
                         replace BK629 := bbl_ BK629 hb
                         replace BK683 := bbl_ BK683 hb
                         replace HB := hbl_ hb
                         try clear hb
                         try clear ho0
                         obtain ⟨Ao153, co153, eo153⟩ := Kd.R_slice HO663.out
                         (first | subst eo153 | (injection eo153 with f1_ f2_ f3_; have f4_ := f1_.symm; have f5_ := f3_.symm; clear f1_ f2_ f3_; subst f4_; subst f5_))
                         obtain ⟨Ao154, co154, eo154⟩ := Kd.R_slice HO666.out
                         (first | subst eo154 | (injection eo154 with f1_ f2_ f3_; have f4_ := f1_.symm; have f5_ := f3_.symm; clear f1_ f2_ f3_; subst f4_; subst f5_))
                         obtain ⟨Ao155, co155, eo155⟩ := Kd.S_slice HO669.out
                         (first | subst eo155 | (injection eo155 with f1_ f2_ f3_; have f4_ := f1_.symm; have f5_ := f3_.symm; clear f1_ f2_ f3_; subst f4_; subst f5_))
                         refine hK.out _ _ ⟨bc_ BK574 0, bc_ BK574 1, bc_ BK574 2, bc_ BK574 3, bc_ BK575 0⟩ (fun hHeld => ?_)
                         clear hK K
                         refine nq_ ?_
                         refine one_ (i := 5) (N := some 147) (fl 16 2111) rfl rfl (one_of HT_.out (by kernel_rfl)) (by decide) (fun K hK => ?_)
                         refine go_ Tryd.func9 #[.agg #[.int .i64 t659, .string t660, .slice Ao153 t661.length co153, .slice Ao154 t664.length co154], .agg #[.slice Ao155 t667.length co155], .string a2] ?_
                         with_reducible refine (impl_StepBring.calls k t659 t660 _ _ t661 _ _ t664 _ _ t667 a2 t670 t671 t672 t675 t678 t679 t680 _ ?side1 ?side2 ?side3 ?side4 ?side5 ?side6 ?side7 A57.out).mono ?_
                         (case side1 => exact cr_ HO663)
                         (case side2 => exact nr_ HO663)
                         (case side3 => exact cr_ HO666)
                         (case side4 => exact nr_ HO666)
                         (case side5 => exact cs_ HO669)
                         (case side6 => exact ns_ HO669)
                         (case side7 => exact gint_below bl_ HG.out)
                         rintro e w156 ⟨v673, v676, v681, rfl, ho0, ho1, ho2, hb⟩
                         refine ⟨_, rfl, ?_⟩
                         replace HO669 := sbl_ HO669 hb
                         have HO674 := Aside0.mk (Kd.R_lower (Kd.R_new' (Kd.R_new' (Kd.R_new' (Kd.R_new' (Kd.R_new' (Kd.R_new' (Kd.R_new' (Kd.R_new' (Kd.R_new' (Kd.R_new' (Kd.R_new' (Kd.R_new' ho0 (Kd.R_lt (rl_ HO582))) (Kd.R_lt (rl_ HO585))) (Kd.R_lt (rl_ HO593))) (Kd.R_lt (rl_ HO596))) (Kd.R_lt (rl_ HO607))) (Kd.R_lt (rl_ HO610))) (Kd.R_lt (rl_ HO620))) (Kd.R_lt (rl_ HO623))) (Kd.R_lt (rl_ HO636))) (Kd.R_lt (rl_ HO639))) (Kd.R_lt (rl_ HO663))) (Kd.R_lt (rl_ HO666))) (below_size bl_))
                         have HO677 := Aside0.mk (Kd.R_lower (Kd.R_new' (Kd.R_new' (Kd.R_new' (Kd.R_new' (Kd.R_new' (Kd.R_new' (Kd.R_new' (Kd.R_new' (Kd.R_new' (Kd.R_new' (Kd.R_new' (Kd.R_new' ho1 (Kd.R_lt (rl_ HO582))) (Kd.R_lt (rl_ HO585))) (Kd.R_lt (rl_ HO593))) (Kd.R_lt (rl_ HO596))) (Kd.R_lt (rl_ HO607))) (Kd.R_lt (rl_ HO610))) (Kd.R_lt (rl_ HO620))) (Kd.R_lt (rl_ HO623))) (Kd.R_lt (rl_ HO636))) (Kd.R_lt (rl_ HO639))) (Kd.R_lt (rl_ HO663))) (Kd.R_lt (rl_ HO666))) (below_size bl_))
                         replace HO582 := rt2_ HO582 hb ho0 ho1
                         replace HO585 := rt2_ HO585 hb ho0 ho1
                         replace HO593 := rt2_ HO593 hb ho0 ho1
                         replace HO596 := rt2_ HO596 hb ho0 ho1
                         replace HO607 := rt2_ HO607 hb ho0 ho1
                         replace HO610 := rt2_ HO610 hb ho0 ho1
                         replace HO620 := rt2_ HO620 hb ho0 ho1
                         replace HO623 := rt2_ HO623 hb ho0 ho1
                         replace HO636 := rt2_ HO636 hb ho0 ho1
                         replace HO639 := rt2_ HO639 hb ho0 ho1
                         replace HO663 := rt2_ HO663 hb ho0 ho1
                         replace HO666 := rt2_ HO666 hb ho0 ho1
                         have HO682 := Aside0.mk (Kd.S_lower (Kd.S_new' (Kd.S_new' ho2 (Kd.S_lt (sl_ HO601))) (Kd.S_lt (sl_ HO628))) (below_size bl_))
                         replace HO601 := Aside0.mk (Kd.S_elder' (sl_ HO601) (Kd.S_base ho2) hb)
                         replace HO628 := Aside0.mk (Kd.S_elder' (sl_ HO628) (Kd.S_base ho2) hb)
                         replace BK574 := bbl_ BK574 hb
                         replace BK575 := bbl_ BK575 hb
                         replace BK602 := bbl_ BK602 hb
                         replace BK611 := bbl_ BK611 hb
                         replace BK615 := bbl_ BK615 hb
                         replace BK629 := bbl_ BK629 hb
                         replace BK683 := bbl_ BK683 hb
                         replace HB := hbl_ hb
                         try clear hb
                         try clear ho0
                         try clear ho1
                         try clear ho2
                         refine hK.out _ _ ⟨bc_ BK574 0, bc_ BK574 1, bc_ BK574 2, bc_ BK574 3, bc_ BK575 0⟩ (fun hHeld => ?_)
                         clear hK K
                         refine nq_ ?_
                         refine pq_ 6 141 (fl 16 2175) HT_.out ?_
                         refine pq_ 7 148 (fl 16 2303) HT_.out ?_
                         refine pq_ 8 149 (fl 16 2559) HT_.out ?_
                         refine pq_ 9 150 (fl 16 3071) HT_.out ?_
                         refine pq_ 10 151 (fl 16 4095) HT_.out ?_
                         exact norm_ (by simp only [putAll, Act.put, List.setIfInBounds_toArray, List.set_cons_zero, List.set_cons_succ]) (hCont (.slice Ao153 t661.length co153, .slice Ao154 t664.length co154, .slice Ao155 t667.length co155, v673, v676, v681, gb683) _ ⟨hHeld, (rm_ HO582), (rm_ HO585), (rm_ HO593), (rm_ HO596), (sl_ HO601), (rm_ HO607), (rm_ HO610), (rm_ HO620), (rm_ HO623), (by (with_reducible repeat (first | apply Kd.S_alloc | apply Kd.S_drewN | apply Kd.S_drew)); exact Kd.S_mono HO628.out (fun _ hk => hk.2)), (rm_ HO636), (rm_ HO639), (rm_ HO663), (rm_ HO666), (sl_ HO669), (rm_ HO674), (rm_ HO677), (by (with_reducible repeat (first | apply Kd.S_alloc | apply Kd.S_drewN | apply Kd.S_drew)); exact Kd.S_mono HO682.out (fun _ hk => ⟨hk.1.2, hk.2⟩)), (kl_ BK574), (kl_ BK575), (kl_ BK602), (kl_ BK611), (kl_ BK615), (kl_ BK629), (kl_ BK683), GW683.out, GE683.out, NB574_683.out, NB683_574.out, NB575_683.out, NB683_575.out, NB602_683.out, NB683_602.out, NB611_683.out, NB683_611.out, NB615_683.out, NB683_615.out, NB629_683.out, NB683_629.out, bl_⟩)
                       rintro ⟨v662, v665, v668, v673, v676, v681, gb683⟩ w157 ⟨hS_, h0_, h1_, h2_, h3_, h4_, h5_, h6_, h7_, h8_, h9_, h10_, h11_, h12_, h13_, h14_, h15_, h16_, h17_, h18_, h19_, h20_, h21_, h22_, h23_, h24_, h25_, h26_, h27_, h28_, h29_, h30_, h31_, h32_, h33_, h34_, h35_, h36_, h37_, h38_, h39_⟩
                       have n2_ : Aside0 (Kd.R Kd.string 9 w157 w.heap.size (fun k_ => some k_ ≠ (v581 : Value).ownBlock ∧ some k_ ≠ (v584 : Value).ownBlock ∧ some k_ ≠ (.slice Ao89 t594.length co89 : Value).ownBlock ∧ some k_ ≠ (.slice Ao94 t605.length co94 : Value).ownBlock ∧ some k_ ≠ (.slice Ao95 t608.length co95 : Value).ownBlock ∧ some k_ ≠ (.slice Ao112 t618.length co112 : Value).ownBlock ∧ some k_ ≠ (.slice Ao113 t621.length co113 : Value).ownBlock ∧ some k_ ≠ (.slice Ao128 t634.length co128 : Value).ownBlock ∧ some k_ ≠ (.slice Ao129 t637.length co129 : Value).ownBlock ∧ some k_ ≠ (v662 : Value).ownBlock ∧ some k_ ≠ (v665 : Value).ownBlock ∧ some k_ ≠ (v673 : Value).ownBlock ∧ some k_ ≠ (v676 : Value).ownBlock) (.slice Ao87 t591.length co87) t591) := ⟨h2_⟩
                       have n3_ : Aside0 (Kd.R Kd.string 9 w157 w.heap.size (fun k_ => some k_ ≠ (v581 : Value).ownBlock ∧ some k_ ≠ (v584 : Value).ownBlock ∧ some k_ ≠ (.slice Ao87 t591.length co87 : Value).ownBlock ∧ some k_ ≠ (.slice Ao94 t605.length co94 : Value).ownBlock ∧ some k_ ≠ (.slice Ao95 t608.length co95 : Value).ownBlock ∧ some k_ ≠ (.slice Ao112 t618.length co112 : Value).ownBlock ∧ some k_ ≠ (.slice Ao113 t621.length co113 : Value).ownBlock ∧ some k_ ≠ (.slice Ao128 t634.length co128 : Value).ownBlock ∧ some k_ ≠ (.slice Ao129 t637.length co129 : Value).ownBlock ∧ some k_ ≠ (v662 : Value).ownBlock ∧ some k_ ≠ (v665 : Value).ownBlock ∧ some k_ ≠ (v673 : Value).ownBlock ∧ some k_ ≠ (v676 : Value).ownBlock) (.slice Ao89 t594.length co89) t594) := ⟨h3_⟩
                       have n4_ : Aside0 (Kd.S k65 65 w157 w.heap.size (fun k_ => some k_ ≠ (.slice Ao123 t626.length co123 : Value).ownBlock ∧ some k_ ≠ (v681 : Value).ownBlock) (.slice Ao124 t599.length co124) t599) := ⟨h4_⟩
                       have n7_ : Aside0 (Kd.R Kd.string 9 w157 w.heap.size (fun k_ => some k_ ≠ (v581 : Value).ownBlock ∧ some k_ ≠ (v584 : Value).ownBlock ∧ some k_ ≠ (.slice Ao87 t591.length co87 : Value).ownBlock ∧ some k_ ≠ (.slice Ao89 t594.length co89 : Value).ownBlock ∧ some k_ ≠ (.slice Ao94 t605.length co94 : Value).ownBlock ∧ some k_ ≠ (.slice Ao95 t608.length co95 : Value).ownBlock ∧ some k_ ≠ (.slice Ao113 t621.length co113 : Value).ownBlock ∧ some k_ ≠ (.slice Ao128 t634.length co128 : Value).ownBlock ∧ some k_ ≠ (.slice Ao129 t637.length co129 : Value).ownBlock ∧ some k_ ≠ (v662 : Value).ownBlock ∧ some k_ ≠ (v665 : Value).ownBlock ∧ some k_ ≠ (v673 : Value).ownBlock ∧ some k_ ≠ (v676 : Value).ownBlock) (.slice Ao112 t618.length co112) t653) := ⟨h7_⟩
                       have n8_ : Aside0 (Kd.R Kd.string 9 w157 w.heap.size (fun k_ => some k_ ≠ (v581 : Value).ownBlock ∧ some k_ ≠ (v584 : Value).ownBlock ∧ some k_ ≠ (.slice Ao87 t591.length co87 : Value).ownBlock ∧ some k_ ≠ (.slice Ao89 t594.length co89 : Value).ownBlock ∧ some k_ ≠ (.slice Ao94 t605.length co94 : Value).ownBlock ∧ some k_ ≠ (.slice Ao95 t608.length co95 : Value).ownBlock ∧ some k_ ≠ (.slice Ao112 t618.length co112 : Value).ownBlock ∧ some k_ ≠ (.slice Ao128 t634.length co128 : Value).ownBlock ∧ some k_ ≠ (.slice Ao129 t637.length co129 : Value).ownBlock ∧ some k_ ≠ (v662 : Value).ownBlock ∧ some k_ ≠ (v665 : Value).ownBlock ∧ some k_ ≠ (v673 : Value).ownBlock ∧ some k_ ≠ (v676 : Value).ownBlock) (.slice Ao113 t621.length co113) t654) := ⟨h8_⟩
                       have n9_ : Aside0 (Kd.S k65 65 w157 w.heap.size (fun k_ => some k_ ≠ (v681 : Value).ownBlock) (.slice Ao123 t626.length co123) t656) := ⟨h9_⟩
                       have n15_ : Aside0 (Kd.R Kd.string 9 w157 w.heap.size (fun k_ => some k_ ≠ (v581 : Value).ownBlock ∧ some k_ ≠ (v584 : Value).ownBlock ∧ some k_ ≠ (.slice Ao87 t591.length co87 : Value).ownBlock ∧ some k_ ≠ (.slice Ao89 t594.length co89 : Value).ownBlock ∧ some k_ ≠ (.slice Ao94 t605.length co94 : Value).ownBlock ∧ some k_ ≠ (.slice Ao95 t608.length co95 : Value).ownBlock ∧ some k_ ≠ (.slice Ao112 t618.length co112 : Value).ownBlock ∧ some k_ ≠ (.slice Ao113 t621.length co113 : Value).ownBlock ∧ some k_ ≠ (.slice Ao128 t634.length co128 : Value).ownBlock ∧ some k_ ≠ (.slice Ao129 t637.length co129 : Value).ownBlock ∧ some k_ ≠ (v662 : Value).ownBlock ∧ some k_ ≠ (v665 : Value).ownBlock ∧ some k_ ≠ (v676 : Value).ownBlock) v673 t672) := ⟨h15_⟩
                       have n16_ : Aside0 (Kd.R Kd.string 9 w157 w.heap.size (fun k_ => some k_ ≠ (v581 : Value).ownBlock ∧ some k_ ≠ (v584 : Value).ownBlock ∧ some k_ ≠ (.slice Ao87 t591.length co87 : Value).ownBlock ∧ some k_ ≠ (.slice Ao89 t594.length co89 : Value).ownBlock ∧ some k_ ≠ (.slice Ao94 t605.length co94 : Value).ownBlock ∧ some k_ ≠ (.slice Ao95 t608.length co95 : Value).ownBlock ∧ some k_ ≠ (.slice Ao112 t618.length co112 : Value).ownBlock ∧ some k_ ≠ (.slice Ao113 t621.length co113 : Value).ownBlock ∧ some k_ ≠ (.slice Ao128 t634.length co128 : Value).ownBlock ∧ some k_ ≠ (.slice Ao129 t637.length co129 : Value).ownBlock ∧ some k_ ≠ (v662 : Value).ownBlock ∧ some k_ ≠ (v665 : Value).ownBlock ∧ some k_ ≠ (v673 : Value).ownBlock) v676 t675) := ⟨h16_⟩
                       have n17_ : Aside0 (Kd.S k65 65 w157 w.heap.size (fun k_ => some k_ ≠ (.slice Ao124 t599.length co124 : Value).ownBlock ∧ some k_ ≠ (.slice Ao123 t626.length co123 : Value).ownBlock) v681 t680) := ⟨h17_⟩
                       have n18_ : Aside0 (w157.heap[gb574]? = some (.cells #[.int .i64 a0_0, .string a0_1, .slice A0_2 l0_2.length c0_2, .slice A0_3 l0_3.length c0_3] 24 (0, 0))) := ⟨h18_⟩
                       have n19_ : Aside0 (w157.heap[gb575]? = some (.cells #[.slice A1_0 l1_0.length c1_0] 27 (0, 0))) := ⟨h19_⟩
                       have n20_ : Aside0 (w157.heap[gb602]? = some (.cells #[.int .i64 t589, .string t590, .slice Ao87 t591.length co87, .slice Ao89 t594.length co89] 30 (0, 0))) := ⟨h20_⟩
                       have n23_ : Aside0 (w157.heap[gb629]? = some (.cells #[.int .i64 t616, .string t617, .slice Ao112 t618.length co112, .slice Ao113 t621.length co113] 30 (0, 0))) := ⟨h23_⟩
                       have n24_ : Aside0 (w157.heap[gb683]? = some (.cells #[.int .i64 0, .string (⟨#[]⟩ : ByteArray), .slice none 0 0, .slice none 0 0] 30 (0, 0))) := ⟨h24_⟩
                       have n26_ : Aside0 (w.heap.size ≤ gb683) := ⟨h26_⟩
                       have n27_ : Aside0 (gb574 ≠ gb683) := ⟨h27_⟩
                       have n28_ : Aside0 (gb683 ≠ gb574) := ⟨h28_⟩
                       have n29_ : Aside0 (gb575 ≠ gb683) := ⟨h29_⟩
                       have n30_ : Aside0 (gb683 ≠ gb575) := ⟨h30_⟩
                       have n31_ : Aside0 (gb602 ≠ gb683) := ⟨h31_⟩
                       have n32_ : Aside0 (gb683 ≠ gb602) := ⟨h32_⟩
                       have n33_ : Aside0 (gb611 ≠ gb683) := ⟨h33_⟩
                       have n34_ : Aside0 (gb683 ≠ gb611) := ⟨h34_⟩
                       have n35_ : Aside0 (gb615 ≠ gb683) := ⟨h35_⟩
                       have n36_ : Aside0 (gb683 ≠ gb615) := ⟨h36_⟩
                       have n37_ : Aside0 (gb629 ≠ gb683) := ⟨h37_⟩
                       have n38_ : Aside0 (gb683 ≠ gb629) := ⟨h38_⟩
                       have n39_ : Aside0 (Below w.heap.size w w157) := ⟨h39_⟩
                       clear HO582
                       clear HO585
                       clear HO593
                       clear HO596
                       clear HO601
                       clear HO607
                       clear HO610
                       clear HO620
                       clear HO623
                       clear HO628
                       clear HO636
                       clear HO639
                       clear BK574
                       clear BK575
                       clear BK602
                       clear BK611
                       clear BK615
                       clear BK629
                       clear HB
                       clear h0_ h1_ h2_ h3_ h4_ h5_ h6_ h7_ h8_ h9_ h10_ h11_ h12_ h13_ h14_ h15_ h16_ h17_ h18_ h19_ h20_ h21_ h22_ h23_ h24_ h25_ h26_ h27_ h28_ h29_ h30_ h31_ h32_ h33_ h34_ h35_ h36_ h37_ h38_ h39_
                       have HO593 := n2_
                       have HO596 := n3_
                       have HO601 := n4_
                       have HO620 := n7_
                       have HO623 := n8_
                       have HO628 := n9_
                       have HO674 := n15_
                       have HO677 := n16_
                       have HO682 := n17_
                       have BK574 := n18_
                       have BK575 := n19_
                       have BK602 := n20_
                       have BK629 := n23_
                       have BK683 := n24_
                       have GE683 := n26_
                       have NB574_683 := n27_
                       have NB683_574 := n28_
                       have NB575_683 := n29_
                       have NB683_575 := n30_
                       have NB602_683 := n31_
                       have NB683_602 := n32_
                       have NB611_683 := n33_
                       have NB683_611 := n34_
                       have NB615_683 := n35_
                       have NB683_615 := n36_
                       have NB629_683 := n37_
                       have NB683_629 := n38_
                       have HB := n39_
                       clear n2_ n3_ n4_ n7_ n8_ n9_ n15_ n16_ n17_ n18_ n19_ n20_ n23_ n24_ n26_ n27_ n28_ n29_ n30_ n31_ n32_ n33_ n34_ n35_ n36_ n37_ n38_ n39_
                       have hHeld : w157.cell? ⟨gb574, 0, none⟩ = some (.int .i64 a0_0) ∧ w157.cell? ⟨gb574, 1, none⟩ = some (.string a0_1) ∧ w157.cell? ⟨gb574, 2, none⟩ = some (.slice A0_2 l0_2.length c0_2) ∧ w157.cell? ⟨gb574, 3, none⟩ = some (.slice A0_3 l0_3.length c0_3) ∧ w157.cell? ⟨gb575, 0, none⟩ = some (.slice A1_0 l1_0.length c1_0) := hS_
                       obtain ⟨Ao160, co160, eo160⟩ := Kd.R_slice HO674.out
                       (first | subst eo160 | (injection eo160 with f1_ f2_ f3_; have f4_ := f1_.symm; have f5_ := f3_.symm; clear f1_ f2_ f3_; subst f4_; subst f5_))
                       obtain ⟨Ao162, co162, eo162⟩ := Kd.R_slice HO677.out
                       (first | subst eo162 | (injection eo162 with f1_ f2_ f3_; have f4_ := f1_.symm; have f5_ := f3_.symm; clear f1_ f2_ f3_; subst f4_; subst f5_))
                       refine norm_ (a' := ?_) ?_ ?_
                       rotate_left
                       ·simp only [putAll, Act.put, List.setIfInBounds_toArray, List.set_cons_zero, List.set_cons_succ]
                        rfl
                       refine one_ (i := 12) (N := none) (fl 16 8191) rfl rfl (one_of HT_.out (by kernel_rfl)) (by decide) (fun K hK => ?_)
                       have hs158 : w157.cell? ⟨gb683, 0, none⟩ = some (.int .i64 0) := bc_ BK683 0
                       have hfs158 := blk_frozen BK683.out 0
                       have hns158_0 := NB574_683.out
                       have hns158_1 := NB575_683.out
                       have hns158_2 := NB602_683.out
                       have hns158_3 := NB611_683.out
                       have hns158_4 := NB615_683.out
                       have hns158_5 := NB629_683.out
                       have hms158_0 := NB683_574.out
                       have hms158_1 := NB683_575.out
                       have hms158_2 := NB683_602.out
                       have hms158_3 := NB683_611.out
                       have hms158_4 := NB683_615.out
                       have hms158_5 := NB683_629.out
                       have hs159 : w157.cell? ⟨gb683, 1, none⟩ = some (.string (⟨#[]⟩ : ByteArray)) := bc_ BK683 1
                       have hfs159 := blk_frozen BK683.out 1
                       have hns159_0 := NB574_683.out
                       have hns159_1 := NB575_683.out
                       have hns159_2 := NB602_683.out
                       have hns159_3 := NB611_683.out
                       have hns159_4 := NB615_683.out
                       have hns159_5 := NB629_683.out
                       have hms159_0 := NB683_574.out
                       have hms159_1 := NB683_575.out
                       have hms159_2 := NB683_602.out
                       have hms159_3 := NB683_611.out
                       have hms159_4 := NB683_615.out
                       have hms159_5 := NB683_629.out
                       have hs161 : w157.cell? ⟨gb683, 2, none⟩ = some (.slice none 0 0) := bc_ BK683 2
                       have hfs161 := blk_frozen BK683.out 2
                       have hns161_0 := NB574_683.out
                       have hns161_1 := NB575_683.out
                       have hns161_2 := NB602_683.out
                       have hns161_3 := NB611_683.out
                       have hns161_4 := NB615_683.out
                       have hns161_5 := NB629_683.out
                       have hms161_0 := NB683_574.out
                       have hms161_1 := NB683_575.out
                       have hms161_2 := NB683_602.out
                       have hms161_3 := NB683_611.out
                       have hms161_4 := NB683_615.out
                       have hms161_5 := NB683_629.out
                       have hs163 : w157.cell? ⟨gb683, 3, none⟩ = some (.slice none 0 0) := bc_ BK683 3
                       have hfs163 := blk_frozen BK683.out 3
                       have hns163_0 := NB574_683.out
                       have hns163_1 := NB575_683.out
                       have hns163_2 := NB602_683.out
                       have hns163_3 := NB611_683.out
                       have hns163_4 := NB615_683.out
                       have hns163_5 := NB629_683.out
                       have hms163_0 := NB683_574.out
                       have hms163_1 := NB683_575.out
                       have hms163_2 := NB683_602.out
                       have hms163_3 := NB683_611.out
                       have hms163_4 := NB683_615.out
                       have hms163_5 := NB683_629.out
                       refine skip_ (w1 := ?_) (by rfl) rfl ?_ ?_
                       rotate_left
                       ·go_simp
                        rfl
                       refine hK.out _ _ ⟨((cell_far (p := ⟨gb683, _, none⟩) NB574_683.out _).trans (((cell_far (p := ⟨gb683, _, none⟩) NB574_683.out _).trans (((cell_far (p := ⟨gb683, _, none⟩) NB574_683.out _).trans (((cell_far (p := ⟨gb683, _, none⟩) NB574_683.out _).trans (hHeld.1)))))))), ((cell_far (p := ⟨gb683, _, none⟩) NB574_683.out _).trans (((cell_far (p := ⟨gb683, _, none⟩) NB574_683.out _).trans (((cell_far (p := ⟨gb683, _, none⟩) NB574_683.out _).trans (((cell_far (p := ⟨gb683, _, none⟩) NB574_683.out _).trans (hHeld.2.1)))))))), ((cell_far (p := ⟨gb683, _, none⟩) NB574_683.out _).trans (((cell_far (p := ⟨gb683, _, none⟩) NB574_683.out _).trans (((cell_far (p := ⟨gb683, _, none⟩) NB574_683.out _).trans (((cell_far (p := ⟨gb683, _, none⟩) NB574_683.out _).trans (hHeld.2.2.1)))))))), ((cell_far (p := ⟨gb683, _, none⟩) NB574_683.out _).trans (((cell_far (p := ⟨gb683, _, none⟩) NB574_683.out _).trans (((cell_far (p := ⟨gb683, _, none⟩) NB574_683.out _).trans (((cell_far (p := ⟨gb683, _, none⟩) NB574_683.out _).trans (hHeld.2.2.2.1)))))))), ((cell_far (p := ⟨gb683, _, none⟩) NB575_683.out _).trans (((cell_far (p := ⟨gb683, _, none⟩) NB575_683.out _).trans (((cell_far (p := ⟨gb683, _, none⟩) NB575_683.out _).trans (((cell_far (p := ⟨gb683, _, none⟩) NB575_683.out _).trans (hHeld.2.2.2.2))))))))⟩ (fun hHeld => ?_)
                       clear hK K
                       refine pq_ 13 22 (fl 16 16383) HT_.out ?_
                       refine pq_ 14 23 (fl 16 32767) HT_.out ?_
                       refine pq_ 15 24 (fl 16 65535) HT_.out ?_
                       refine done_ (done_of HT_.out (by kernel_rfl)) ?_
                       have hnb164 := NB683_574.out
                       have hnc164 := NB574_683.out
                       have hnb165 := NB683_575.out
                       have hnc165 := NB575_683.out
                       have hnb166 := NB683_602.out
                       have hnc166 := NB602_683.out
                       have hnb167 := NB683_611.out
                       have hnc167 := NB611_683.out
                       have hnb168 := NB683_615.out
                       have hnc168 := NB615_683.out
                       have hnb169 := NB683_629.out
                       have hnc169 := NB629_683.out
                       have hcz170 := blk_cell BK683.out
                       have hfz170 := blk_frozen BK683.out
                       have hcz171 := blk_cell BK602.out
                       have hfz171 := blk_frozen BK602.out
                       try go_wp2_with (first | (refine lr_ 24 3 BK574 hu24 ?_) | (refine lr_ 27 4 BK575 hu27 ?_) | (refine lr_ 30 14 BK629 hu30 ?_) | ((with_reducible refine gc_ 10 ?_); refine gl_ (some 154) Tryd.func10 #[.agg #[.int .i64 t670, .string t671, .slice Ao160 t672.length co160, .slice Ao162 t675.length co162], .agg #[.int .i64 t589, .string t590, .slice Ao87 t591.length co87, .slice Ao89 t594.length co89]] ?_; (with_reducible refine (laws_eqBring.calls k t670 t671 _ _ t672 _ _ t675 t589 t590 _ _ t591 _ _ t594  _ ?side1 ?side2 ?side3 ?side4 ?side5 ?side6 ?side7 ?side8 A58.out).mono ?_); (case side1 => refine (Kd.R_reads' (e := 9) (base := w.heap.size) (ok := fun k_ => (some k_ ≠ (v581 : Value).ownBlock ∧ (some k_ ≠ (v584 : Value).ownBlock ∧ (some k_ ≠ (.slice Ao87 t591.length co87 : Value).ownBlock ∧ (some k_ ≠ (.slice Ao89 t594.length co89 : Value).ownBlock ∧ (some k_ ≠ (.slice Ao94 t605.length co94 : Value).ownBlock ∧ (some k_ ≠ (.slice Ao95 t608.length co95 : Value).ownBlock ∧ (some k_ ≠ (.slice Ao112 t618.length co112 : Value).ownBlock ∧ (some k_ ≠ (.slice Ao113 t621.length co113 : Value).ownBlock ∧ (some k_ ≠ (.slice Ao128 t634.length co128 : Value).ownBlock ∧ (some k_ ≠ (.slice Ao129 t637.length co129 : Value).ownBlock ∧ (some k_ ≠ (v662 : Value).ownBlock ∧ (some k_ ≠ (v665 : Value).ownBlock ∧ some k_ ≠ (.slice Ao162 t675.length co162 : Value).ownBlock))))))))))))) (n := t672.length) (c := co160) ?_).2.2; exact (by (with_reducible repeat (first | apply Kd.R_alloc | apply Kd.R_drewN | apply Kd.R_drew)); exact (Kd.R_mono (rg4_ HO674 BK683) (fun _ h_ => h_.1)))); (case side2 => exact nr_ HO674); (case side3 => refine (Kd.R_reads' (e := 9) (base := w.heap.size) (ok := fun k_ => (some k_ ≠ (v581 : Value).ownBlock ∧ (some k_ ≠ (v584 : Value).ownBlock ∧ (some k_ ≠ (.slice Ao87 t591.length co87 : Value).ownBlock ∧ (some k_ ≠ (.slice Ao89 t594.length co89 : Value).ownBlock ∧ (some k_ ≠ (.slice Ao94 t605.length co94 : Value).ownBlock ∧ (some k_ ≠ (.slice Ao95 t608.length co95 : Value).ownBlock ∧ (some k_ ≠ (.slice Ao112 t618.length co112 : Value).ownBlock ∧ (some k_ ≠ (.slice Ao113 t621.length co113 : Value).ownBlock ∧ (some k_ ≠ (.slice Ao128 t634.length co128 : Value).ownBlock ∧ (some k_ ≠ (.slice Ao129 t637.length co129 : Value).ownBlock ∧ (some k_ ≠ (v662 : Value).ownBlock ∧ (some k_ ≠ (v665 : Value).ownBlock ∧ some k_ ≠ (.slice Ao160 t672.length co160 : Value).ownBlock))))))))))))) (n := t675.length) (c := co162) ?_).2.2; exact (by (with_reducible repeat (first | apply Kd.R_alloc | apply Kd.R_drewN | apply Kd.R_drew)); exact (Kd.R_mono (rg4_ HO677 BK683) (fun _ h_ => h_.1)))); (case side4 => exact nr_ HO677); (case side5 => refine (Kd.R_reads' (e := 9) (base := w.heap.size) (ok := fun k_ => (some k_ ≠ (v581 : Value).ownBlock ∧ (some k_ ≠ (v584 : Value).ownBlock ∧ (some k_ ≠ (.slice Ao89 t594.length co89 : Value).ownBlock ∧ (some k_ ≠ (.slice Ao94 t605.length co94 : Value).ownBlock ∧ (some k_ ≠ (.slice Ao95 t608.length co95 : Value).ownBlock ∧ (some k_ ≠ (.slice Ao112 t618.length co112 : Value).ownBlock ∧ (some k_ ≠ (.slice Ao113 t621.length co113 : Value).ownBlock ∧ (some k_ ≠ (.slice Ao128 t634.length co128 : Value).ownBlock ∧ (some k_ ≠ (.slice Ao129 t637.length co129 : Value).ownBlock ∧ (some k_ ≠ (v662 : Value).ownBlock ∧ (some k_ ≠ (v665 : Value).ownBlock ∧ (some k_ ≠ (.slice Ao160 t672.length co160 : Value).ownBlock ∧ some k_ ≠ (.slice Ao162 t675.length co162 : Value).ownBlock))))))))))))) (n := t591.length) (c := co87) ?_).2.2; exact (by (with_reducible repeat (first | apply Kd.R_alloc | apply Kd.R_drewN | apply Kd.R_drew)); exact (Kd.R_mono (rg4_ HO593 BK683) (fun _ h_ => h_.1)))); (case side6 => exact nr_ HO593); (case side7 => refine (Kd.R_reads' (e := 9) (base := w.heap.size) (ok := fun k_ => (some k_ ≠ (v581 : Value).ownBlock ∧ (some k_ ≠ (v584 : Value).ownBlock ∧ (some k_ ≠ (.slice Ao87 t591.length co87 : Value).ownBlock ∧ (some k_ ≠ (.slice Ao94 t605.length co94 : Value).ownBlock ∧ (some k_ ≠ (.slice Ao95 t608.length co95 : Value).ownBlock ∧ (some k_ ≠ (.slice Ao112 t618.length co112 : Value).ownBlock ∧ (some k_ ≠ (.slice Ao113 t621.length co113 : Value).ownBlock ∧ (some k_ ≠ (.slice Ao128 t634.length co128 : Value).ownBlock ∧ (some k_ ≠ (.slice Ao129 t637.length co129 : Value).ownBlock ∧ (some k_ ≠ (v662 : Value).ownBlock ∧ (some k_ ≠ (v665 : Value).ownBlock ∧ (some k_ ≠ (.slice Ao160 t672.length co160 : Value).ownBlock ∧ some k_ ≠ (.slice Ao162 t675.length co162 : Value).ownBlock))))))))))))) (n := t594.length) (c := co89) ?_).2.2; exact (by (with_reducible repeat (first | apply Kd.R_alloc | apply Kd.R_drewN | apply Kd.R_drew)); exact (Kd.R_mono (rg4_ HO596 BK683) (fun _ h_ => h_.1)))); (case side8 => exact nr_ HO596); rintro e w172 ⟨rfl, hb⟩; refine ⟨_, rfl, ?_⟩; replace HO601 := Aside0.mk (Kd.S_below (by (with_reducible repeat (first | apply Kd.S_alloc | apply Kd.S_drewN | apply Kd.S_drew)); exact (Kd.S_mono (Kd.S_far (p := ⟨gb683, 3, none⟩) (Kd.S_far (p := ⟨gb683, 2, none⟩) (Kd.S_far (p := ⟨gb683, 1, none⟩) (Kd.S_far (p := ⟨gb683, 0, none⟩) (Kd.S_types HO601.out BK683.out (by decide)) (fun _ hk => hk.2) (.int .i64 t670)) (fun _ hk => hk.2) (.string t671)) (fun _ hk => hk.2) (.slice Ao160 t672.length co160)) (fun _ hk => hk.2) (.slice Ao162 t675.length co162)) (fun _ h_ => h_.1))) hb); replace HO620 := Aside0.mk (Kd.R_below (by (with_reducible repeat (first | apply Kd.R_alloc | apply Kd.R_drewN | apply Kd.R_drew)); exact (Kd.R_mono (rg4_ HO620 BK683) (fun _ h_ => h_.1))) hb); replace HO623 := Aside0.mk (Kd.R_below (by (with_reducible repeat (first | apply Kd.R_alloc | apply Kd.R_drewN | apply Kd.R_drew)); exact (Kd.R_mono (rg4_ HO623 BK683) (fun _ h_ => h_.1))) hb); replace HO628 := Aside0.mk (Kd.S_below (by (with_reducible repeat (first | apply Kd.S_alloc | apply Kd.S_drewN | apply Kd.S_drew)); exact (Kd.S_mono (Kd.S_far (p := ⟨gb683, 3, none⟩) (Kd.S_far (p := ⟨gb683, 2, none⟩) (Kd.S_far (p := ⟨gb683, 1, none⟩) (Kd.S_far (p := ⟨gb683, 0, none⟩) (Kd.S_types HO628.out BK683.out (by decide)) (fun _ hk => hk.2) (.int .i64 t670)) (fun _ hk => hk.2) (.string t671)) (fun _ hk => hk.2) (.slice Ao160 t672.length co160)) (fun _ hk => hk.2) (.slice Ao162 t675.length co162)) (fun _ h_ => h_.1))) hb); replace HO682 := Aside0.mk (Kd.S_below (by (with_reducible repeat (first | apply Kd.S_alloc | apply Kd.S_drewN | apply Kd.S_drew)); exact (Kd.S_mono (Kd.S_far (p := ⟨gb683, 3, none⟩) (Kd.S_far (p := ⟨gb683, 2, none⟩) (Kd.S_far (p := ⟨gb683, 1, none⟩) (Kd.S_far (p := ⟨gb683, 0, none⟩) (Kd.S_types HO682.out BK683.out (by decide)) (fun _ hk => hk.2) (.int .i64 t670)) (fun _ hk => hk.2) (.string t671)) (fun _ hk => hk.2) (.slice Ao160 t672.length co160)) (fun _ hk => hk.2) (.slice Ao162 t675.length co162)) (fun _ h_ => h_.1))) hb); replace BK574 := Aside0.mk (blk_below (bf4_ BK574 NB574_683) hb); replace BK575 := Aside0.mk (blk_below (bf4_ BK575 NB575_683) hb); replace BK629 := Aside0.mk (blk_below (bf4_ BK629 NB629_683) hb); replace HB := hbl_ hb; try clear hb; obtain ⟨Ao173, co173, rfl⟩ := Kd.S_slice HO682.out) | (go_at_call 11; (with_reducible refine (laws_eqCallS.calls k _ _ t680 _ _ t599  _ ?side1 ?side2 ?side3 ?side4 A62.out).mono ?_); (case side1 => exact cs_ HO682); (case side2 => exact ns_ HO682); (case side3 => exact cs_ HO601); (case side4 => exact ns_ HO601); rintro e w174 ⟨rfl, hb⟩; replace HO620 := rbl_ HO620 hb; replace HO623 := rbl_ HO623 hb; replace HO628 := sbl_ HO628 hb; replace BK574 := bbl_ BK574 hb; replace BK575 := bbl_ BK575 hb; replace BK629 := bbl_ BK629 hb; replace HB := hbl_ hb; try clear hb; have hcz175 := blk_cell BK629.out; have hfz175 := blk_frozen BK629.out) | ((with_reducible refine gc_ 16 ?_); refine goesL_ (some 174) rfl rfl Tryd.func16 (by kernel_rfl) rfl #[.agg #[.int .i64 t616, .string t617, .slice Ao112 t653.length co112, .slice Ao113 t654.length co113], .int .i64 1] rfl (by (try simp only [List.map_toArray, List.map_cons, List.map_nil]); first | done | (rw [show t653.length = t618.length from (Kd.R_reads' HO620.out).1.symm, show t654.length = t621.length from (Kd.R_reads' HO623.out).1.symm] <;> rfl) | rfl | (simp only [List.length_drop, List.length_take]; rfl)) ?_; (with_reducible refine (laws_heldBring.calls k t616 t617 _ _ t653 _ _ t654 1 t686 _ ?side1 ?side2 ?side3 ?side4 A64.out).mono ?_); (case side1 => exact cr_ HO620); (case side2 => rw [show t653.length = t618.length from (Kd.R_reads' HO620.out).1.symm]; exact nr_ HO620); (case side3 => exact cr_ HO623); (case side4 => rw [show t654.length = t621.length from (Kd.R_reads' HO623.out).1.symm]; exact nr_ HO623); rintro e w176 ⟨rfl, hb⟩; refine ⟨_, rfl, ?_⟩; replace HO628 := sbl_ HO628 hb; replace BK574 := bbl_ BK574 hb; replace BK575 := bbl_ BK575 hb; replace BK629 := bbl_ BK629 hb; replace HB := hbl_ hb; try clear hb; try clear hi) | ((with_reducible refine gc_ 17 ?_); refine goesL_ (some 179) rfl rfl Tryd.func17 (by kernel_rfl) rfl #[.slice Ao123 t656.length co123, .int .i64 t686] rfl (by (try simp only [List.map_toArray, List.map_cons, List.map_nil]); first | done | (rw [show t656.length = t626.length from (Kd.S_reads' HO628.out).1.symm] <;> rfl) | rfl | (simp only [List.length_drop, List.length_take]; rfl)) ?_; (with_reducible refine (laws_heldCallS.calls k _ _ t656 t686 t687 _ ?side1 ?side2 A66.out).mono ?_); (case side1 => exact cs_ HO628); (case side2 => rw [show t656.length = t626.length from (Kd.S_reads' HO628.out).1.symm]; exact ns_ HO628); rintro e w177 ⟨rfl, hb⟩; refine ⟨_, rfl, ?_⟩; replace BK574 := bbl_ BK574 hb; replace BK575 := bbl_ BK575 hb; replace BK629 := bbl_ BK629 hb; replace HB := hbl_ hb; try clear hb; try clear hi))
                       go_ret
                       exact ⟨re_, bl_⟩
                      ·rw [if_neg c68] at H
                       have c68b0 := beq_eq_false_iff_ne.mpr c68
                       have c68b1 := bne_iff_ne.mpr c68
                       exact absurd H (by simp)
                   ·replace c63 := Bool.eq_false_iff.mpr c63
                    subst c63
                    (try rw [if_neg (show ¬ (false = true) by decide)] at H)
                    exact absurd H (by simp)
                  ·rw [if_neg c61] at H
                   have c61b0 := beq_eq_false_iff_ne.mpr c61
                   have c61b1 := bne_iff_ne.mpr c61
                   exact absurd H (by simp)
                 ·rw [if_neg c60] at H
                  have c60b0 := beq_eq_false_iff_ne.mpr c60
                  have c60b1 := bne_iff_ne.mpr c60
                  exact absurd H (by simp)
                ·replace c59 := Bool.eq_false_iff.mpr c59
                 subst c59
                 (try rw [if_neg (show ¬ (false = true) by decide)] at H)
                 exact absurd H (by simp)
               ·rw [if_neg c54] at H
                have c54b0 := beq_eq_false_iff_ne.mpr c54
                have c54b1 := bne_iff_ne.mpr c54
                exact absurd H (by simp)
            ·replace c47 := Bool.eq_false_iff.mpr c47
             subst c47
             (try rw [if_neg (show ¬ (false = true) by decide)] at H)
             exact absurd H (by simp)
           ·replace c45 := Bool.eq_false_iff.mpr c45
            subst c45
            (try rw [if_neg (show ¬ (false = true) by decide)] at H)
            exact absurd H (by simp)
         ·replace c40 := Bool.eq_false_iff.mpr c40
          subst c40
          (try rw [if_neg (show ¬ (false = true) by decide)] at H)
          exact absurd H (by simp)
        ·replace c37 := Bool.eq_false_iff.mpr c37
         subst c37
         (try rw [if_neg (show ¬ (false = true) by decide)] at H)
         exact absurd H (by simp)
       ·replace c34 := Bool.eq_false_iff.mpr c34
        subst c34
        (try rw [if_neg (show ¬ (false = true) by decide)] at H)
        exact absurd H (by simp)
      ·rw [if_neg c32] at H
       have c32b0 := beq_eq_false_iff_ne.mpr c32
       have c32b1 := bne_iff_ne.mpr c32
       exact absurd H (by simp)
     ·rw [if_neg c31] at H
      have c31b0 := beq_eq_false_iff_ne.mpr c31
      have c31b1 := bne_iff_ne.mpr c31
      exact absurd H (by simp)
    ·replace c30 := Bool.eq_false_iff.mpr c30
     subst c30
     (try rw [if_neg (show ¬ (false = true) by decide)] at H)
     exact absurd H (by simp)

end Go.Proofs.YtdokcckgnamnfaaDoor.QFnExactStepBring
