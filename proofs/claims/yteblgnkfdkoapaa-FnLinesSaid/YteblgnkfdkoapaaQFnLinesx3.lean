-- Written by a program of this session (myprint) out of Lean's own print of the translation. Lean checks it.
import Derived.Test.YteblgnkfdkoapaaQFnLinesx0
import Derived.Test.YteblgnkfdkoapaaQFnLinesx1
import Derived.Test.YteblgnkfdkoapaaQFnLinesx2
namespace Go.Proofs.Yteblgnkfdkoapaa.QFnLines
open Go.RowKit Go.Proofs.YteblgnkfdkoapaaW.PrintWords Go.Proofs.YteblgnkfdkoapaaW.PrintLast Go.Proofs.YteblgnkfdkoapaaW.PrintMore
attribute [local go_sem] max2_int min2_int max_two min_two max_three min_three max_four min_four   -- for this text's walks alone
set_option linter.unusedVariables false
set_option linter.unusedSimpArgs false

/-! ### laws_FnLines: function 6 -/
def laws_FnLines.l0 : Nat → List Int → List ByteArray → ByteArray → Int → Option (Bool)
  | 0, _, _, _, _ => none
  | k + 1, x0, x3, x5, x6 => if x6 < (x3.length : Int) then ((impl_TakeLine.f x5).bind fun bt200 => (if bt200.2.2 = 0 then (if 0 ≤ x6 then (if bt200.1.toList = (rdOf ByteArray.empty x3 x6).toList then (laws_FnLines.l0 k x0 x3 bt200.2.1 (wrap64 (x6 + 1))) else (some false)) else (none)) else (some false))) else ((impl_TakeLine.f (⟨#[104, 97, 108, 102]⟩ : ByteArray)).bind fun bt204 => ((spec_DrawTakeLine.f k x0).bind fun t207 => ((impl_TakeLine.f t207).bind fun bt208 => ((spec_TakeLine.f k t207).bind fun bt211 => (if x5.toList = ([] : List UInt8) then (if bt204.2.2 = 1 then (if bt204.2.1.toList = ([104, 97, 108, 102] : List UInt8) then (if bt208.1.toList = bt211.1.toList then (if bt208.2.1.toList = bt211.2.1.toList then (some (bt208.2.2 == bt211.2.2)) else (some false)) else (some false)) else (some false)) else (some false)) else (some false))))))
def laws_FnLines.f (k : Nat) (l0 : List Int) : Option (Bool) := (laws_big.f l0).bind fun t179 => (if t179 = true then (some true) else ((some (([(⟨#[104, 101, 108, 111, 32, 97, 110, 110]⟩ : ByteArray), (⟨#[]⟩ : ByteArray), (⟨#[97, 32, 98, 32, 32, 99]⟩ : ByteArray), (⟨#[120]⟩ : ByteArray), (⟨#[46, 46]⟩ : ByteArray), (⟨#[110, 111]⟩ : ByteArray)] : List ByteArray) : List ByteArray)).bind fun y180 => ((spec_DrawPlaces.f k l0).bind fun t183 => (if 0 < (t183.length : Int) then (if 0 ≤ (Int.tmod (rd t183 0) 6) then (if (Int.tmod (rd t183 0) 6) ≤ (y180.length : Int) then ((some (y180.drop ((Int.tmod (rd t183 0) 6) : Int).toNat : List ByteArray)).bind fun y187 => (if 1 < (t183.length : Int) then (if 0 ≤ (Int.tmod (rd t183 1) 6) then (if (Int.tmod (rd t183 1) 6) ≤ (y180.length : Int) then ((some (y180.take ((Int.tmod (rd t183 1) 6) : Int).toNat : List ByteArray)).bind fun y192 => (if y187.length + y192.length < 8796093022208 then ((some (y187 ++ y192 : List ByteArray)).bind fun y196 => ((laws_lines.f k y196).bind fun t199 => (laws_FnLines.l0 k l0 y196 t199 0))) else (none))) else (none)) else (none)) else (none))) else (none)) else (none)) else (none)))))
theorem laws_FnLines.mono_l : ∀ k, (∀ y0 y1 y2 y3, LeO (laws_FnLines.l0 k y0 y1 y2 y3) (laws_FnLines.l0 (k + 1) y0 y1 y2 y3))
  | 0 => fun _ _ _ _ r h => by simp [laws_FnLines.l0] at h
  | k + 1 => by
    have ih0 := laws_FnLines.mono_l k
    · intro y0 y1 y2 y3
      unfold laws_FnLines.l0
      repeat' first
      | (with_reducible exact ih0 _ _ _ _)
      | (with_reducible exact laws_lines.mono _ _)
      | (with_reducible exact spec_DrawPlaces.mono _ _)
      | (with_reducible exact spec_DrawTakeLine.mono _ _)
      | (with_reducible exact spec_TakeLine.mono _ _)
      | (with_reducible exact LeO.refl _)
      | (with_reducible exact LeO.none _)
      | (with_reducible refine LeO.ite ?_ ?_)
      | (with_reducible refine LeO.bind ?_ (fun _ => ?_))
      | exact ih0 _ _ _ _
      | exact laws_lines.mono _ _
      | exact spec_DrawPlaces.mono _ _
      | exact spec_DrawTakeLine.mono _ _
      | exact spec_TakeLine.mono _ _
      | exact LeO.none _
      | refine LeO.ite ?_ ?_
      | refine LeO.bind ?_ (fun _ => ?_)
theorem laws_FnLines.mono : ∀ a0 k, LeO (laws_FnLines.f k a0) (laws_FnLines.f (k + 1) a0) := by
  intro a0 k
  have ih0 := laws_FnLines.mono_l k
  unfold laws_FnLines.f
  repeat' first
      | (with_reducible exact ih0 _ _ _ _)
      | (with_reducible exact laws_lines.mono _ _)
      | (with_reducible exact spec_DrawPlaces.mono _ _)
      | (with_reducible exact spec_DrawTakeLine.mono _ _)
      | (with_reducible exact spec_TakeLine.mono _ _)
      | (with_reducible exact LeO.refl _)
      | (with_reducible exact LeO.none _)
      | (with_reducible refine LeO.ite ?_ ?_)
      | (with_reducible refine LeO.bind ?_ (fun _ => ?_))
      | exact ih0 _ _ _ _
      | exact laws_lines.mono _ _
      | exact spec_DrawPlaces.mono _ _
      | exact spec_DrawTakeLine.mono _ _
      | exact spec_TakeLine.mono _ _
      | exact LeO.none _
      | refine LeO.ite ?_ ?_
      | refine LeO.bind ?_ (fun _ => ?_)
def laws_FnLines.T5 : Bool × List (List Nat × List Nat) := (true, [([], []), ([], []), ([1], [1]), ([2], [2]), ([3], [3]), ([0, 4], [0, 4]), ([], []), ([], []), ([7], [7]), ([8], [8]), ([9], [9]), ([6, 10], [6, 10]), ([5, 11], [5, 11]), ([12, 12, 0, 1, 2, 3, 4, 5, 6, 7, 8, 9, 10, 11, 12], [0, 6, 12])])
def laws_FnLines.B5 : List Nat := [0, 0, 2, 6, 14, 31, 0, 0, 128, 384, 896, 1984, 4095, 8191]
theorem laws_FnLines.tab5 : rtab .any (opsOf Try.f6 5) = laws_FnLines.T5 := by kernel_rfl
theorem laws_FnLines.bits5 : waitsOk laws_FnLines.T5.2 laws_FnLines.B5 = true := by kernel_rfl
set_option maxHeartbeats 8000000 in
set_option maxRecDepth 100000 in
theorem laws_FnLines.calls (k : Nat) (A0 : Option Addr) (c0 : Nat) (l0 : List Int) (w : World) (hr0 : Kd.C (Kd.int .u8) w A0 l0.length l0) (hc0 : l0.length ≤ c0) (hG : GInt w) (h : laws_FnLines.f k l0 = some true) :
    Calls Try.prog 6 #[.slice A0 l0.length c0] w fun e w' => e = .returned (.bool true) ∧ Below w.heap.size w w' := by
  have HG := Aside0.mk hG
  clear hG
  have HR0 := Aside0.mk hr0
  have HC0 := Aside0.mk hc0
  clear hr0 hc0
  have HB := Aside0.mk (Below.refl w.heap.size w)
  have H : ((laws_big.f l0).bind fun t179 => (if t179 = true then (some true) else ((some (([(⟨#[104, 101, 108, 111, 32, 97, 110, 110]⟩ : ByteArray), (⟨#[]⟩ : ByteArray), (⟨#[97, 32, 98, 32, 32, 99]⟩ : ByteArray), (⟨#[120]⟩ : ByteArray), (⟨#[46, 46]⟩ : ByteArray), (⟨#[110, 111]⟩ : ByteArray)] : List ByteArray) : List ByteArray)).bind fun y180 => ((spec_DrawPlaces.f k l0).bind fun t183 => (if 0 < (t183.length : Int) then (if 0 ≤ (Int.tmod (rd t183 0) 6) then (if (Int.tmod (rd t183 0) 6) ≤ (y180.length : Int) then ((some (y180.drop ((Int.tmod (rd t183 0) 6) : Int).toNat : List ByteArray)).bind fun y187 => (if 1 < (t183.length : Int) then (if 0 ≤ (Int.tmod (rd t183 1) 6) then (if (Int.tmod (rd t183 1) 6) ≤ (y180.length : Int) then ((some (y180.take ((Int.tmod (rd t183 1) 6) : Int).toNat : List ByteArray)).bind fun y192 => (if y187.length + y192.length < 8796093022208 then ((some (y187 ++ y192 : List ByteArray)).bind fun y196 => ((laws_lines.f k y196).bind fun t199 => (laws_FnLines.l0 k l0 y196 t199 0))) else (none))) else (none)) else (none)) else (none))) else (none)) else (none)) else (none)))))) = some true := h
  clear h
  replace H := Option.bind_eq_some_iff.mp H
  obtain ⟨t179, A20, H⟩ := H
  replace H : (if t179 = true then (some true) else ((some (([(⟨#[104, 101, 108, 111, 32, 97, 110, 110]⟩ : ByteArray), (⟨#[]⟩ : ByteArray), (⟨#[97, 32, 98, 32, 32, 99]⟩ : ByteArray), (⟨#[120]⟩ : ByteArray), (⟨#[46, 46]⟩ : ByteArray), (⟨#[110, 111]⟩ : ByteArray)] : List ByteArray) : List ByteArray)).bind fun y180 => ((spec_DrawPlaces.f k l0).bind fun t183 => (if 0 < (t183.length : Int) then (if 0 ≤ (Int.tmod (rd t183 0) 6) then (if (Int.tmod (rd t183 0) 6) ≤ (y180.length : Int) then ((some (y180.drop ((Int.tmod (rd t183 0) 6) : Int).toNat : List ByteArray)).bind fun y187 => (if 1 < (t183.length : Int) then (if 0 ≤ (Int.tmod (rd t183 1) 6) then (if (Int.tmod (rd t183 1) 6) ≤ (y180.length : Int) then ((some (y180.take ((Int.tmod (rd t183 1) 6) : Int).toNat : List ByteArray)).bind fun y192 => (if y187.length + y192.length < 8796093022208 then ((some (y187 ++ y192 : List ByteArray)).bind fun y196 => ((laws_lines.f k y196).bind fun t199 => (laws_FnLines.l0 k l0 y196 t199 0))) else (none))) else (none)) else (none)) else (none))) else (none)) else (none)) else (none))))) = some true := H
  have A2 := Aside0.mk A20
  clear A20
  by_cases c3 : t179 = true
  · subst c3
    have H1 : (some true) = some true := by first | (rw [if_pos rfl] at H; exact H) | rfl
    clear H
    have H := H1
    clear H1
    clear H
    go_enter Try.func6, Try.ntmps6
    go_wp2_with (first | ((with_reducible refine gate_callee (f := 24) rfl ?_); refine goesL_ (some 21) rfl rfl Try.func24 (by kernel_rfl) rfl #[.slice A0 l0.length c0] rfl (by (try simp only [List.map_toArray, List.map_cons, List.map_nil]); first | done | rfl | (simp only [List.length_drop, List.length_take]; rfl)) ?_; (with_reducible refine (laws_big.calls _ _ l0 true _ ?side1 ?side2 A2.out).mono ?_); (case side1 => repeat (first | exact HR0.out | (with_reducible refine Kd.C_alloc ?_ _) | (with_reducible refine Kd.C_drewN ?_ _) | (with_reducible refine Kd.C_drew ?_))); (case side2 => exact HC0.out); rintro e w' ⟨rfl, ⟨nd, rfl⟩⟩; refine ⟨_, rfl, ?_⟩))
    go_ret
    exact ⟨by first | rfl | (simp [errW_none, errW_some] <;> rfl) | (simp [*, errW_none, errW_some] <;> rfl), by repeat (first | (with_reducible first | exact HB.out | apply below_alloc | apply pw_below_drewN | apply below_drew1) | exact HB.out)⟩
  · replace c3 := Bool.eq_false_iff.mpr c3
    subst c3
    have H1 : ((some (([(⟨#[104, 101, 108, 111, 32, 97, 110, 110]⟩ : ByteArray), (⟨#[]⟩ : ByteArray), (⟨#[97, 32, 98, 32, 32, 99]⟩ : ByteArray), (⟨#[120]⟩ : ByteArray), (⟨#[46, 46]⟩ : ByteArray), (⟨#[110, 111]⟩ : ByteArray)] : List ByteArray) : List ByteArray)).bind fun y180 => ((spec_DrawPlaces.f k l0).bind fun t183 => (if 0 < (t183.length : Int) then (if 0 ≤ (Int.tmod (rd t183 0) 6) then (if (Int.tmod (rd t183 0) 6) ≤ (y180.length : Int) then ((some (y180.drop ((Int.tmod (rd t183 0) 6) : Int).toNat : List ByteArray)).bind fun y187 => (if 1 < (t183.length : Int) then (if 0 ≤ (Int.tmod (rd t183 1) 6) then (if (Int.tmod (rd t183 1) 6) ≤ (y180.length : Int) then ((some (y180.take ((Int.tmod (rd t183 1) 6) : Int).toNat : List ByteArray)).bind fun y192 => (if y187.length + y192.length < 8796093022208 then ((some (y187 ++ y192 : List ByteArray)).bind fun y196 => ((laws_lines.f k y196).bind fun t199 => (laws_FnLines.l0 k l0 y196 t199 0))) else (none))) else (none)) else (none)) else (none))) else (none)) else (none)) else (none)))) = some true := by first | (rw [if_neg (show ¬ (false = true) by decide)] at H; exact H) | rfl
    clear H
    have H := H1
    clear H1
    obtain ⟨y180, hy180⟩ : ∃ y_ : List ByteArray, y_ = (([(⟨#[104, 101, 108, 111, 32, 97, 110, 110]⟩ : ByteArray), (⟨#[]⟩ : ByteArray), (⟨#[97, 32, 98, 32, 32, 99]⟩ : ByteArray), (⟨#[120]⟩ : ByteArray), (⟨#[46, 46]⟩ : ByteArray), (⟨#[110, 111]⟩ : ByteArray)] : List ByteArray)) := ⟨_, rfl⟩
    replace H : ((spec_DrawPlaces.f k l0).bind fun t183 => (if 0 < (t183.length : Int) then (if 0 ≤ (Int.tmod (rd t183 0) 6) then (if (Int.tmod (rd t183 0) 6) ≤ (y180.length : Int) then ((some (y180.drop ((Int.tmod (rd t183 0) 6) : Int).toNat : List ByteArray)).bind fun y187 => (if 1 < (t183.length : Int) then (if 0 ≤ (Int.tmod (rd t183 1) 6) then (if (Int.tmod (rd t183 1) 6) ≤ (y180.length : Int) then ((some (y180.take ((Int.tmod (rd t183 1) 6) : Int).toNat : List ByteArray)).bind fun y192 => (if y187.length + y192.length < 8796093022208 then ((some (y187 ++ y192 : List ByteArray)).bind fun y196 => ((laws_lines.f k y196).bind fun t199 => (laws_FnLines.l0 k l0 y196 t199 0))) else (none))) else (none)) else (none)) else (none))) else (none)) else (none)) else (none))) = some true := by first | (rw [hy180]; with_reducible exact H) | (have H2_ := (Option.bind_some _ _).symm.trans H; rw [hy180]; with_reducible exact H2_) | (have H2_ := (Option.bind_some _ _).symm.trans H; with_reducible exact H2_) | with_reducible exact H | (rw [hy180]; exact H) | exact H
    have Ny180 := Aside0.mk hy180
    clear hy180
    replace H := Option.bind_eq_some_iff.mp H
    obtain ⟨t183, A40, H⟩ := H
    replace H : (if 0 < (t183.length : Int) then (if 0 ≤ (Int.tmod (rd t183 0) 6) then (if (Int.tmod (rd t183 0) 6) ≤ (y180.length : Int) then ((some (y180.drop ((Int.tmod (rd t183 0) 6) : Int).toNat : List ByteArray)).bind fun y187 => (if 1 < (t183.length : Int) then (if 0 ≤ (Int.tmod (rd t183 1) 6) then (if (Int.tmod (rd t183 1) 6) ≤ (y180.length : Int) then ((some (y180.take ((Int.tmod (rd t183 1) 6) : Int).toNat : List ByteArray)).bind fun y192 => (if y187.length + y192.length < 8796093022208 then ((some (y187 ++ y192 : List ByteArray)).bind fun y196 => ((laws_lines.f k y196).bind fun t199 => (laws_FnLines.l0 k l0 y196 t199 0))) else (none))) else (none)) else (none)) else (none))) else (none)) else (none)) else (none)) = some true := H
    have A4 := Aside0.mk A40
    clear A40
    by_cases c5 : 0 < (t183.length : Int)
    · rw [if_pos c5] at H
      have c5b0 : decide (0 < (t183.length : Int)) = true := decide_eq_true c5
      have c5b1 : decide (0 < t183.length) = true := decide_eq_true (by omega)
      clear c5
      obtain ⟨ji6, hji6⟩ : ∃ j_ : Int, (Int.tmod (rd t183 0) 6) = j_ := ⟨_, rfl⟩
      replace H : (if 0 ≤ (ji6) then (if (ji6) ≤ (y180.length : Int) then ((some (y180.drop ((ji6) : Int).toNat : List ByteArray)).bind fun y187 => (if 1 < (t183.length : Int) then (if 0 ≤ (Int.tmod (rd t183 1) 6) then (if (Int.tmod (rd t183 1) 6) ≤ (y180.length : Int) then ((some (y180.take ((Int.tmod (rd t183 1) 6) : Int).toNat : List ByteArray)).bind fun y192 => (if y187.length + y192.length < 8796093022208 then ((some (y187 ++ y192 : List ByteArray)).bind fun y196 => ((laws_lines.f k y196).bind fun t199 => (laws_FnLines.l0 k l0 y196 t199 0))) else (none))) else (none)) else (none)) else (none))) else (none)) else (none)) = some true := by first | (rw [hji6] at H; exact H) | (simp only [hji6] at H ⊢; exact H)
      (try rw [hji6] at A2)
      (try rw [hji6] at A4)
      by_cases c7 : 0 ≤ (ji6)
      · rw [if_pos c7] at H
        have c7b0 := eq_true c7
        have c7b1 : decide (0 ≤ (ji6)) = true := decide_eq_true c7
        clear c7
        by_cases c8 : (ji6) ≤ (y180.length : Int)
        · rw [if_pos c8] at H
          have c8b0 := eq_true c8
          have c8b1 : decide ((ji6) ≤ (y180.length : Int)) = true := decide_eq_true c8
          clear c8
          obtain ⟨y187, hy187⟩ : ∃ y_ : List ByteArray, y_ = (y180.drop ((ji6) : Int).toNat) := ⟨_, rfl⟩
          replace H : (if 1 < (t183.length : Int) then (if 0 ≤ (Int.tmod (rd t183 1) 6) then (if (Int.tmod (rd t183 1) 6) ≤ (y180.length : Int) then ((some (y180.take ((Int.tmod (rd t183 1) 6) : Int).toNat : List ByteArray)).bind fun y192 => (if y187.length + y192.length < 8796093022208 then ((some (y187 ++ y192 : List ByteArray)).bind fun y196 => ((laws_lines.f k y196).bind fun t199 => (laws_FnLines.l0 k l0 y196 t199 0))) else (none))) else (none)) else (none)) else (none)) = some true := by first | (rw [hy187]; with_reducible exact H) | (have H2_ := (Option.bind_some _ _).symm.trans H; rw [hy187]; with_reducible exact H2_) | (have H2_ := (Option.bind_some _ _).symm.trans H; with_reducible exact H2_) | with_reducible exact H | (rw [hy187]; exact H) | exact H
          have Ny187 := Aside0.mk hy187
          clear hy187
          by_cases c9 : 1 < (t183.length : Int)
          · rw [if_pos c9] at H
            have c9b0 : decide (1 < (t183.length : Int)) = true := decide_eq_true c9
            have c9b1 : decide (1 < t183.length) = true := decide_eq_true (by omega)
            clear c9
            obtain ⟨ji10, hji10⟩ : ∃ j_ : Int, (Int.tmod (rd t183 1) 6) = j_ := ⟨_, rfl⟩
            replace H : (if 0 ≤ (ji10) then (if (ji10) ≤ (y180.length : Int) then ((some (y180.take ((ji10) : Int).toNat : List ByteArray)).bind fun y192 => (if y187.length + y192.length < 8796093022208 then ((some (y187 ++ y192 : List ByteArray)).bind fun y196 => ((laws_lines.f k y196).bind fun t199 => (laws_FnLines.l0 k l0 y196 t199 0))) else (none))) else (none)) else (none)) = some true := by first | (rw [hji10] at H; exact H) | (simp only [hji10] at H ⊢; exact H)
            (try rw [hji10] at A2)
            (try rw [hji10] at A4)
            by_cases c11 : 0 ≤ (ji10)
            · rw [if_pos c11] at H
              have c11b0 := eq_true c11
              have c11b1 : decide (0 ≤ (ji10)) = true := decide_eq_true c11
              clear c11
              by_cases c12 : (ji10) ≤ (y180.length : Int)
              · rw [if_pos c12] at H
                have c12b0 := eq_true c12
                have c12b1 : decide ((ji10) ≤ (y180.length : Int)) = true := decide_eq_true c12
                clear c12
                obtain ⟨y192, hy192⟩ : ∃ y_ : List ByteArray, y_ = (y180.take ((ji10) : Int).toNat) := ⟨_, rfl⟩
                replace H : (if y187.length + y192.length < 8796093022208 then ((some (y187 ++ y192 : List ByteArray)).bind fun y196 => ((laws_lines.f k y196).bind fun t199 => (laws_FnLines.l0 k l0 y196 t199 0))) else (none)) = some true := by first | (rw [hy192]; with_reducible exact H) | (have H2_ := (Option.bind_some _ _).symm.trans H; rw [hy192]; with_reducible exact H2_) | (have H2_ := (Option.bind_some _ _).symm.trans H; with_reducible exact H2_) | with_reducible exact H | (rw [hy192]; exact H) | exact H
                have Ny192 := Aside0.mk hy192
                clear hy192
                by_cases c13 : y187.length + y192.length < 8796093022208
                · rw [if_pos c13] at H
                  have LMc13 := Aside0.mk c13
                  clear c13
                  obtain ⟨y196, hy196⟩ : ∃ y_ : List ByteArray, y_ = (y187 ++ y192) := ⟨_, rfl⟩
                  replace H : ((laws_lines.f k y196).bind fun t199 => (laws_FnLines.l0 k l0 y196 t199 0)) = some true := by first | (rw [hy196]; with_reducible exact H) | (have H2_ := (Option.bind_some _ _).symm.trans H; rw [hy196]; with_reducible exact H2_) | (have H2_ := (Option.bind_some _ _).symm.trans H; with_reducible exact H2_) | with_reducible exact H | (rw [hy196]; exact H) | exact H
                  have Ny196 := Aside0.mk hy196
                  clear hy196
                  replace H := Option.bind_eq_some_iff.mp H
                  obtain ⟨t199, A140, H⟩ := H
                  replace H : (laws_FnLines.l0 k l0 y196 t199 0) = some true := H
                  have A14 := Aside0.mk A140
                  clear A140
                  have H' := Aside0.mk H
                  clear H
                  go_enter Try.func6, Try.ntmps6
                  try go_wp2_with (first | ((with_reducible refine gate_callee (f := 24) rfl ?_); refine goesL_ (some 21) rfl rfl Try.func24 (by kernel_rfl) rfl #[.slice A0 l0.length c0] rfl (by (try simp only [List.map_toArray, List.map_cons, List.map_nil]); first | done | rfl | (simp only [List.length_drop, List.length_take]; rfl)) ?_; (with_reducible refine (laws_big.calls _ _ l0 false _ ?side1 ?side2 A2.out).mono ?_); (case side1 => repeat (first | exact HR0.out | (with_reducible refine Kd.C_alloc ?_ _) | (with_reducible refine Kd.C_drewN ?_ _) | (with_reducible refine Kd.C_drew ?_))); (case side2 => exact HC0.out); rintro e w' ⟨rfl, ⟨nd, rfl⟩⟩; refine ⟨_, rfl, ?_⟩) | ((with_reducible refine gate_dst (N := 22) rfl ?_); refine Kd.R_lit Kd.string _ 9 ?hg (N := 22) ?hd (xs := ([(⟨#[104, 101, 108, 111, 32, 97, 110, 110]⟩ : ByteArray), (⟨#[]⟩ : ByteArray), (⟨#[97, 32, 98, 32, 32, 99]⟩ : ByteArray), (⟨#[120]⟩ : ByteArray), (⟨#[46, 46]⟩ : ByteArray), (⟨#[110, 111]⟩ : ByteArray)] : List ByteArray)) (inner := [.string (⟨#[104, 101, 108, 111, 32, 97, 110, 110]⟩ : ByteArray), .string (⟨#[]⟩ : ByteArray), .string (⟨#[97, 32, 98, 32, 32, 99]⟩ : ByteArray), .string (⟨#[120]⟩ : ByteArray), .string (⟨#[46, 46]⟩ : ByteArray), .string (⟨#[110, 111]⟩ : ByteArray)]) (ok := fun _ => True) (okp := fun _ => True) ?hr ?hp (fun _ hk => hk) trivial (Below.refl _ _) (Nat.le_refl _) (by simp) ?_; (case hd => rfl); (case hg => rfl); (case hr => first | (go_simp; done) | (go_simp; rfl)); (case hp => exact (Reps.one (show Kd.M Kd.string _ _ _ (⟨#[104, 101, 108, 111, 32, 97, 110, 110]⟩ : ByteArray) [.string (⟨#[104, 101, 108, 111, 32, 97, 110, 110]⟩ : ByteArray)] from rfl) (Reps.one (show Kd.M Kd.string _ _ _ (⟨#[]⟩ : ByteArray) [.string (⟨#[]⟩ : ByteArray)] from rfl) (Reps.one (show Kd.M Kd.string _ _ _ (⟨#[97, 32, 98, 32, 32, 99]⟩ : ByteArray) [.string (⟨#[97, 32, 98, 32, 32, 99]⟩ : ByteArray)] from rfl) (Reps.one (show Kd.M Kd.string _ _ _ (⟨#[120]⟩ : ByteArray) [.string (⟨#[120]⟩ : ByteArray)] from rfl) (Reps.one (show Kd.M Kd.string _ _ _ (⟨#[46, 46]⟩ : ByteArray) [.string (⟨#[46, 46]⟩ : ByteArray)] from rfl) (Reps.one (show Kd.M Kd.string _ _ _ (⟨#[110, 111]⟩ : ByteArray) [.string (⟨#[110, 111]⟩ : ByteArray)] from rfl) (Reps.none _ _)))))))); intro v181 w15 ho16 hb hg_ hnew_; clear hg_ hnew_; (first | rw [← Ny180.out] at ho16 | (simp only [Int.reduceToNat] at ho16; rw [← Ny180.out] at ho16)); have n0_ := Aside0.mk (Kd.R_lower ho16 (below_size (by repeat (first | (with_reducible first | exact HB.out | apply below_alloc | apply pw_below_drewN | apply below_drew1) | exact HB.out)))); have n1_ := Aside0.mk (below_step (by repeat (first | (with_reducible first | exact HB.out | apply below_alloc | apply pw_below_drewN | apply below_drew1) | exact HB.out)) hb); clear HB; have HO182 := n0_; have HB := n1_; clear n0_ n1_; clear hb ho16) | ((with_reducible refine gate_callee (f := 25) rfl ?_); refine goesL_ (some 24) rfl rfl Try.func25 (by kernel_rfl) rfl #[.slice A0 l0.length c0] rfl (by (try simp only [List.map_toArray, List.map_cons, List.map_nil]); first | done | rfl | (simp only [List.length_drop, List.length_take]; rfl)) ?_; (with_reducible refine (spec_DrawPlaces.calls k _ _ l0 t183 _ ?side1 ?side2 A4.out).mono ?_); (case side1 => repeat (first | exact (Kd.C_below HR0.out HB.out) | (with_reducible refine Kd.C_alloc ?_ _) | (with_reducible refine Kd.C_drewN ?_ _) | (with_reducible refine Kd.C_drew ?_))); (case side2 => exact HC0.out); rintro e w17 ⟨v184, rfl, ho0, hb⟩; refine ⟨_, rfl, ?_⟩; have n0_ := Aside0.mk (Kd.R_below (by (with_reducible repeat (first | apply Kd.R_alloc | apply Kd.R_drewN | apply Kd.R_drew)); exact HO182.out) hb); have n1_ := Aside0.mk (Kd.R_lower ho0 (below_size (by repeat (first | (with_reducible first | exact HB.out | apply below_alloc | apply pw_below_drewN | apply below_drew1) | exact HB.out)))); have n2_ := Aside0.mk (below_step (by repeat (first | (with_reducible first | exact HB.out | apply below_alloc | apply pw_below_drewN | apply below_drew1) | exact HB.out)) hb); clear HO182; clear HB; have HO182 := n0_; have HO185 := n1_; have HB := n2_; clear n0_ n1_ n2_; (try clear hb); (try clear hb2); (try clear hk); (try clear hi); (try clear ho0)))
                  have n0_ := Aside0.mk (Kd.R_drew HO182.out)
                  have n1_ := Aside0.mk (Kd.R_drew HO185.out)
                  have n2_ := Aside0.mk (below_drew1 HB.out)
                  clear HO182
                  clear HO185
                  clear HB
                  have HO182 := n0_
                  have HO185 := n1_
                  have HB := n2_
                  clear n0_ n1_ n2_
                  obtain ⟨Ao19, co19, eo19⟩ := Kd.R_slice HO185.out
                  (first | subst eo19 | (injection eo19 with f1_ f2_ f3_; have f4_ := f1_.symm; have f5_ := f3_.symm; clear f1_ f2_ f3_; subst f4_; subst f5_))
                  have p186 : 0 ≤ (0 : Int) := (by omega)
                  have q186 : 0 < (t183.length : Int) := of_decide_eq_true (by first | (with_reducible assumption) | assumption)
                  obtain ⟨ad186, e186, hx186_0⟩ := Kd.at_int (Kd.R_reads' HO185.out).2.2 0 p186 q186
                  cases e186
                  have qi186 : (0 < t183.length) = True := eq_true (by omega)
                  (try rw [show ((0 : Int)).toNat = 0 from rfl] at hx186_0)
                  (try rw [Addr.add_zero'] at hx186_0)
                  replace p186 := eq_true p186
                  replace q186 := eq_true q186
                  obtain ⟨Ao21, co21, eo21⟩ := Kd.R_slice HO182.out
                  (first | subst eo21 | (injection eo21 with f1_ f2_ f3_; have f4_ := f1_.symm; have f5_ := f3_.symm; clear f1_ f2_ f3_; subst f4_; subst f5_))
                  have q20 : ((ji6) : Int) ≤ ((y180.length : Int) : Int) := of_decide_eq_true (by first | (with_reducible assumption) | assumption)
                  obtain ⟨i020, hi020, _, hsz20, _⟩ := info_parts info9
                  have hroom20 : y180.length ≤ co21 := (Kd.R_reads' HO182.out).2.1
                  have hC20 : Kd.C Kd.string _ Ao21 y180.length y180 := (Kd.R_reads' HO182.out).2.2
                  have q020 : (0 : Int) ≤ ((ji6) : Int) := of_decide_eq_true (by first | (with_reducible assumption) | assumption)
                  have hcut20 := cut_from (P := Try.prog) 22 9 .i64 Try.underlying22 hi020 1 hsz20 Ao21 y180.length co21 (ji6) q020 q20
                  have hr20 := Kd.C_drop (m := ((ji6) : Int).toNat) (c := co21) hC20 (by omega) hroom20
                  obtain ⟨A20, hA20⟩ : ∃ A1, A1 = (if co21 = ((ji6) : Int).toNat then Ao21 else (Ao21 : Option Addr).map (·.add (((ji6) : Int).toNat * 1))) := ⟨_, rfl⟩
                  obtain ⟨c20, hc20⟩ : ∃ c1, c1 = co21 - ((ji6) : Int).toNat := ⟨_, rfl⟩
                  have hy20 : y187.length = y180.length - ((ji6) : Int).toNat := (by rw [Ny187.out, List.length_drop] <;> omega)
                  rw [show (y180).drop ((ji6) : Int).toNat = y187 from Ny187.out.symm] at hr20
                  replace hr20 : Kd.C Kd.string _ A20 y187.length y187 := (by rw [hA20]; exact hr20)
                  rw [← hy20, ← hA20, ← hc20] at hcut20
                  have HR190 := Aside0.mk hr20
                  have HC190 := Aside0.mk (show y187.length ≤ c20 from by rw [hy20, hc20]; exact Nat.sub_le_sub_right hroom20 _)
                  have KC20 := Aside0.mk hc20
                  clear hr20 hC20 hroom20 hi020 hsz20 hc20
                  have KY20 := Aside0.mk hy20
                  have KA20 := Aside0.mk hA20
                  clear hy20 hA20
                  have KL20 := Aside0.mk (show ((ji6) : Int).toNat ≤ y180.length from by omega)
                  replace q20 := eq_true q20
                  have p191 : 0 ≤ (1 : Int) := (by omega)
                  have q191 : 1 < (t183.length : Int) := of_decide_eq_true (by first | (with_reducible assumption) | assumption)
                  obtain ⟨ad191, e191, hx191_0⟩ := Kd.at_int (Kd.R_reads' HO185.out).2.2 1 p191 q191
                  obtain rfl : ad186 = ad191 := (by injection e191)
                  (try simp only [show (1 : Int).toNat = 1 from rfl, Nat.reduceMul, Nat.reduceEqDiff, Go.Addr.add, ↓reduceIte] at hx191_0)
                  have qi191 : (1 < t183.length) = True := eq_true (by omega)
                  (try rw [show ((1 : Int)).toNat = 1 from rfl] at hx191_0)
                  replace p191 := eq_true p191
                  replace q191 := eq_true q191
                  have q22 : ((ji10) : Int) ≤ ((y180.length : Int) : Int) := of_decide_eq_true (by first | (with_reducible assumption) | assumption)
                  obtain ⟨i022, hi022, _, hsz22, _⟩ := info_parts info9
                  have hroom22 : y180.length ≤ co21 := (Kd.R_reads' HO182.out).2.1
                  have hC22 : Kd.C Kd.string _ Ao21 y180.length y180 := (Kd.R_reads' HO182.out).2.2
                  have hcut22 := cut_to (P := Try.prog) 22 9 .i64 Try.underlying22 hi022 Ao21 y180.length co21 (ji10) (of_decide_eq_true (by first | (with_reducible assumption) | assumption)) q22 hroom22
                  have hr22 := Kd.C_take (m := ((ji10) : Int).toNat) hC22 (by omega)
                  have hy22 : y192.length = ((ji10) : Int).toNat := (by rw [Ny192.out, List.length_take]; omega)
                  rw [← Ny192.out] at hr22
                  rw [← hy22] at hcut22
                  have HR195 := Aside0.mk hr22
                  have HC195 := Aside0.mk (show y192.length ≤ co21 from by omega)
                  clear hr22 hC22 hroom22 hi022 hsz22
                  have KY22 := Aside0.mk hy22
                  clear hy22
                  have KL22 := Aside0.mk (show ((ji10) : Int).toNat ≤ y180.length from by omega)
                  replace q22 := eq_true q22
                  refine start_ (n := 14) (S := fun w' => w'.cell? ad186 = some (.int .i64 (rd t183 0)) ∧ w'.cell? ⟨ad186.block, ad186.off + 1, none⟩ = some (.int .i64 (rd t183 1))) (ds := [12]) #[false, false, false, false, false, false, false, false, false, false, false, false, false, false] (by kernel_rfl) rfl rfl ⟨hx186_0, hx191_0⟩ (fun hHeld => ?_); refine with_tabW laws_FnLines.tab5 laws_FnLines.bits5 (fun HT_ HW_ => ?_)
                  generalize w17.drew = w18 at HO182 HO185 HB HR190 HR195 hx186_0 hx191_0 hHeld ⊢
                  refine pure_ (i := 0) (N := some 25) (v := ?_) (a' := ?_) #[true, false, false, false, false, false, false, false, false, false, false, false, false, false] rfl rfl (any_of HT_.out (by kernel_rfl)) (fun _ _ _ h => h) (Or.inl ⟨by rfl, ?_⟩) ?_ ?_
                  rotate_left
                  · intro w'
                    go_simp
                    with_reducible rfl
                  rotate_left
                  · simp only [Act.put, List.setIfInBounds_toArray, List.set_cons_zero, List.set_cons_succ, i64_w, i32_w]
                    rfl
                  refine pure_ (i := 1) (N := some 26) (v := ?_) (a' := ?_) #[true, true, false, false, false, false, false, false, false, false, false, false, false, false] rfl rfl (any_of HT_.out (by kernel_rfl)) (fun _ _ _ h => h) (Or.inl ⟨by rfl, ?_⟩) ?_ ?_
                  rotate_left
                  · intro w'
                    go_simp
                    with_reducible rfl
                  rotate_left
                  · simp only [Act.put, List.setIfInBounds_toArray, List.set_cons_zero, List.set_cons_succ, i64_w, i32_w]
                    rfl
                  refine pure_ (i := 2) (N := some 27) (v := ?_) (a' := ?_) #[true, true, true, false, false, false, false, false, false, false, false, false, false, false] rfl rfl (any_of HT_.out (by kernel_rfl)) (fun _ _ _ h => h) (Or.inl ⟨by rfl, ?_⟩) ?_ ?_
                  rotate_left
                  · intro w'
                    go_simp
                    with_reducible rfl
                  rotate_left
                  · simp only [Act.put, List.setIfInBounds_toArray, List.set_cons_zero, List.set_cons_succ, i64_w, i32_w]
                    rfl
                  refine pure_ (i := 6) (N := some 31) (v := ?_) (a' := ?_) #[true, true, true, false, false, false, true, false, false, false, false, false, false, false] rfl rfl (any_of HT_.out (by kernel_rfl)) (fun _ _ _ h => h) (Or.inl ⟨by rfl, ?_⟩) ?_ ?_
                  rotate_left
                  · intro w'
                    go_simp
                    with_reducible rfl
                  rotate_left
                  · simp only [Act.put, List.setIfInBounds_toArray, List.set_cons_zero, List.set_cons_succ, i64_w, i32_w]
                    rfl
                  refine pure_ (i := 7) (N := some 32) (v := ?_) (a' := ?_) #[true, true, true, false, false, false, true, true, false, false, false, false, false, false] rfl rfl (any_of HT_.out (by kernel_rfl)) (fun _ _ _ h => h) (Or.inl ⟨by rfl, ?_⟩) ?_ ?_
                  rotate_left
                  · intro w'
                    go_simp
                    with_reducible rfl
                  rotate_left
                  · simp only [Act.put, List.setIfInBounds_toArray, List.set_cons_zero, List.set_cons_succ, i64_w, i32_w]
                    rfl
                  refine pure_ (i := 8) (N := some 33) (v := ?_) (a' := ?_) #[true, true, true, false, false, false, true, true, true, false, false, false, false, false] rfl rfl (any_of HT_.out (by kernel_rfl)) (fun _ _ _ h => h) (Or.inl ⟨by rfl, ?_⟩) ?_ ?_
                  rotate_left
                  · intro w'
                    go_simp
                    with_reducible rfl
                  rotate_left
                  · simp only [Act.put, List.setIfInBounds_toArray, List.set_cons_zero, List.set_cons_succ, i64_w, i32_w]
                    rfl
                  refine take_ (i := 3) (N := some 28) (v := ?_) (a' := ?_) #[true, true, true, true, false, false, true, true, true, false, false, false, false, false] rfl rfl (take_ofW HT_.out HW_.out (by kernel_rfl)) (fun _ _ _ h => h) (Or.inl ⟨by rfl, ?_⟩) hHeld ?_ ?_
                  rotate_left
                  · rintro w' ⟨s0, s1⟩
                    go_simp
                    with_reducible rfl
                  rotate_left
                  · simp only [Act.put, List.setIfInBounds_toArray, List.set_cons_zero, List.set_cons_succ, i64_w, i32_w]
                    rfl
                  refine pure_ (i := 4) (N := some 29) (v := ?_) (a' := ?_) #[true, true, true, true, true, false, true, true, true, false, false, false, false, false] rfl rfl (any_of HT_.out (by kernel_rfl)) (fun _ _ _ h => h) (Or.inl ⟨by rfl, ?_⟩) ?_ ?_
                  rotate_left
                  · intro w'
                    go_simp
                    with_reducible rfl
                  rotate_left
                  · simp only [Act.put, List.setIfInBounds_toArray, List.set_cons_zero, List.set_cons_succ, i64_w, i32_w]
                    rfl
                  refine pure_ (i := 5) (N := some 30) (v := ?_) (a' := ?_) #[true, true, true, true, true, true, true, true, true, false, false, false, false, false] rfl rfl (any_of HT_.out (by kernel_rfl)) (fun _ _ _ h => h) (Or.inl ⟨by rfl, ?_⟩) ?_ ?_
                  rotate_left
                  · intro w'
                    go_simp
                    with_reducible rfl
                  rotate_left
                  · simp only [Act.put, List.setIfInBounds_toArray, List.set_cons_zero, List.set_cons_succ, i64_w, i32_w]
                    rfl
                  refine take_ (i := 9) (N := some 34) (v := ?_) (a' := ?_) #[true, true, true, true, true, true, true, true, true, true, false, false, false, false] rfl rfl (take_ofW HT_.out HW_.out (by kernel_rfl)) (fun _ _ _ h => h) (Or.inl ⟨by rfl, ?_⟩) hHeld ?_ ?_
                  rotate_left
                  · rintro w' ⟨s0, s1⟩
                    go_simp
                    with_reducible rfl
                  rotate_left
                  · simp only [Act.put, List.setIfInBounds_toArray, List.set_cons_zero, List.set_cons_succ, i64_w, i32_w]
                    rfl
                  refine pure_ (i := 10) (N := some 35) (v := ?_) (a' := ?_) #[true, true, true, true, true, true, true, true, true, true, true, false, false, false] rfl rfl (any_of HT_.out (by kernel_rfl)) (fun _ _ _ h => h) (Or.inl ⟨by rfl, ?_⟩) ?_ ?_
                  rotate_left
                  · intro w'
                    go_simp
                    with_reducible rfl
                  rotate_left
                  · simp only [Act.put, List.setIfInBounds_toArray, List.set_cons_zero, List.set_cons_succ, i64_w, i32_w]
                    rfl
                  refine pure_ (i := 11) (N := some 36) (v := ?_) (a' := ?_) #[true, true, true, true, true, true, true, true, true, true, true, true, false, false] rfl rfl (any_of HT_.out (by kernel_rfl)) (fun _ _ _ h => h) (Or.inl ⟨by rfl, ?_⟩) ?_ ?_
                  rotate_left
                  · intro w'
                    go_simp
                    with_reducible rfl
                  rotate_left
                  · simp only [Act.put, List.setIfInBounds_toArray, List.set_cons_zero, List.set_cons_succ, i64_w, i32_w]
                    rfl
                  refine last_ (i := 12) (N := some 37) #[true, true, true, true, true, true, true, true, true, true, true, true, true, false] rfl rfl (one_of HT_.out (by kernel_rfl)) (by decide) (fun K hK => ?_)
                  refine Go.Proofs.YteblgnkfdkoapaaK.append_cuts_step Kd.string (w0 := w) w.heap.size (by rfl) (.tmp 30) (.tmp 36) 22 9 (.string ⟨#[]⟩) 16 rfl Try.underlying22 info9 rfl (by decide) (by omega) Ao21 y180.length co21 y180 y187 y192 (((ji6) : Int).toNat) A20 c20 _ _ _ (fun _ => True) (fun _ => False) rfl rfl ?aO ?aK ?aY ?aA ?aC ?aR (fun _ _ h => h) (fun _ h => h.elim) ?aF ?aB ?aS ?aL ?_
                  (case aK => exact KL20.out)
                  (case aY => exact Ny187.out)
                  (case aA => exact KA20.out)
                  (case aC => exact KC20.out)
                  (case aR => repeat (first | exact (by repeat (first | (with_reducible exact HR195.out) | (with_reducible refine Kd.C_alloc ?_ _) | (with_reducible refine Kd.C_drewN ?_ _) | (with_reducible refine Kd.C_drew ?_) | exact HR195.out)) | (with_reducible refine Kd.C_alloc ?_ _) | (with_reducible refine Kd.C_drewN ?_ _) | (with_reducible refine Kd.C_drew ?_)))
                  (case aB => exact (by repeat (first | (with_reducible first | exact HB.out | apply below_alloc | apply pw_below_drewN | apply below_drew1) | exact HB.out)))
                  (case aF => exact (fun _ _ => trivial))
                  (case aO => exact (by (with_reducible repeat (first | apply Kd.R_alloc | apply Kd.R_drewN | apply Kd.R_drew)); exact HO182.out))
                  (case aS => exact (below_size (by repeat (first | (with_reducible first | exact HB.out | apply below_alloc | apply pw_below_drewN | apply below_drew1) | exact HB.out))))
                  (case aL => have := LMc13.out; omega)
                  intro v197 w23 ho hb hg hat
                  rw [← Ny196.out] at ho
                  have n0_ := Aside0.mk (Kd.R_over' (by (with_reducible repeat (first | apply Kd.R_alloc | apply Kd.R_drewN | apply Kd.R_drew)); exact HO185.out) (Kd.R_typed (by (with_reducible repeat (first | apply Kd.R_alloc | apply Kd.R_drewN | apply Kd.R_drew)); exact HO182.out)) (by decide) hg)
                  have n1_ := Aside0.mk (hb)
                  have n2_ := Aside0.mk (ho)
                  clear HO185
                  clear HB
                  clear HO182
                  have HO185 := n0_
                  have HB := n1_
                  have HO198 := n2_
                  clear n0_ n1_ n2_
                  clear ho hb hg hat
                  refine hK.out _ _ ?_
                  clear hK K
                  refine norm_ (a' := ?_) ?_ ?_
                  rotate_left
                  · show Act.put _ (some 37) _ = _
                    simp only [Act.put, List.setIfInBounds_toArray, List.set_cons_zero, List.set_cons_succ, i64_w, i32_w]
                    rfl
                  refine pure_ (i := 13) (N := some 3) (v := ?_) (a' := ?_) #[true, true, true, true, true, true, true, true, true, true, true, true, true, true] rfl rfl (any_of HT_.out (by kernel_rfl)) (fun _ _ _ h => h) (Or.inl ⟨by rfl, ?_⟩) ?_ ?_
                  rotate_left
                  · intro w'
                    go_simp
                    with_reducible rfl
                  rotate_left
                  · simp only [Act.put, List.setIfInBounds_toArray, List.set_cons_zero, List.set_cons_succ, i64_w, i32_w]
                    rfl
                  refine done_ (done_of HT_.out (by kernel_rfl)) ?_
                  obtain ⟨Ao24, co24, eo24, _⟩ := Kd.Q_slice HO198.out
                  subst eo24
                  try go_wp2_with (first | ((with_reducible refine gate_callee (f := 26) rfl ?_); refine goesL_ (some 39) rfl rfl Try.func26 (by kernel_rfl) rfl #[.slice Ao24 y196.length co24] rfl (by (try simp only [List.map_toArray, List.map_cons, List.map_nil]); first | done | rfl | (simp only [List.length_drop, List.length_take]; rfl)) ?_; (with_reducible refine (laws_lines.calls k _ _ y196 t199 _ ?side1 ?side2 A14.out).mono ?_); (case side1 => repeat (first | exact (Kd.Q_reads' HO198.out).2.2 | (with_reducible refine Kd.C_alloc ?_ _) | (with_reducible refine Kd.C_drewN ?_ _) | (with_reducible refine Kd.C_drew ?_))); (case side2 => exact (Kd.Q_reads' HO198.out).2.1); rintro e w' ⟨rfl, ⟨nd, rfl⟩⟩; refine ⟨_, rfl, ?_⟩))
                  go_loopg [5, 6] k (fun kq v5 v6 w' => ∃ (x5_1 : ByteArray) (x6_1 : Int), v5 = .string x5_1 ∧ v6 = .int .i64 x6_1 ∧ Aside0 (laws_FnLines.l0 kq l0 y196 x5_1 x6_1 = some true) ∧ Aside0 (kq ≤ k) ∧ Aside0 (Kd.Q Kd.string 9 w' w.heap.size (fun _ => True) (.slice Ao24 y196.length co24) y196) ∧ Aside0 (Below w.heap.size w w'))
                  case atStart => exact ⟨(t199), (0), (by first | rfl | (simp; done) | (simp [*]; done) | (simp; exact (by intro l; cases l <;> rfl : ∀ l : List UInt8, l.isEmpty = !(l != [])) _)), (by first | rfl | (simp; done) | (simp [*]; done) | (simp; exact (by intro l; cases l <;> rfl : ∀ l : List UInt8, l.isEmpty = !(l != [])) _)), H', ⟨Nat.le_refl _⟩, ⟨by (with_reducible repeat (first | apply Kd.Q_alloc | apply Kd.Q_drewN | apply Kd.Q_drew)); exact HO198.out⟩, ⟨by repeat (first | (with_reducible first | exact HB.out | apply below_alloc | apply pw_below_drewN | apply below_drew1) | exact HB.out)⟩⟩
                  case round =>
                    clear H'
                    try clear c1
                    try clear p1
                    try clear q1
                    try clear hx1
                    try clear qi1
                    try clear c2
                    try clear p2
                    try clear q2
                    try clear c3
                    try clear c5
                    try clear c5b0
                    try clear c5b1
                    try clear c6
                    try clear c7
                    try clear c7b0
                    try clear c7b1
                    try clear c8
                    try clear c8b0
                    try clear c8b1
                    try clear c9
                    try clear c9b0
                    try clear c9b1
                    try clear c11
                    try clear c11b0
                    try clear c11b1
                    try clear c12
                    try clear c12b0
                    try clear c12b1
                    try clear c13
                    try clear p18
                    try clear q18
                    try clear hx18
                    try clear qi18
                    try clear p19
                    try clear q19
                    try clear hx19
                    try clear qi19
                    try clear c20
                    try clear q20
                    try clear q22
                    try clear c24
                    try clear hx186_0
                    try clear hx191_0
                    try clear p186
                    try clear p191
                    try clear q020
                    try clear q186
                    try clear q191
                    try clear q20
                    try clear q22
                    obtain ⟨x5_1, x6_1, rfl, rfl, HA, HK1, HO_3, HB⟩ := hrel
                    cases gk with
                    | zero => exact absurd HA.out (by simp [laws_FnLines.l0])
                    | succ k1 =>
                      have H := HA.out
                      clear HA
                      simp only [laws_FnLines.l0] at H
                      by_cases c25 : x6_1 < (y196.length : Int)
                      · rw [if_pos c25] at H
                        have c25b0 : decide (x6_1 < (y196.length : Int)) = true := decide_eq_true c25
                        clear c25
                        replace H := Option.bind_eq_some_iff.mp H
                        obtain ⟨⟨t200, t201, t202⟩, A260, H⟩ := H
                        replace H : (if t202 = 0 then (if 0 ≤ x6_1 then (if t200.toList = (rdOf ByteArray.empty y196 x6_1).toList then (laws_FnLines.l0 k1 l0 y196 t201 (wrap64 (x6_1 + 1))) else (some false)) else (none)) else (some false)) = some true := H
                        have A26 := Aside0.mk A260
                        clear A260
                        by_cases c27 : t202 = 0
                        · rw [if_pos c27] at H
                          have c27b0 : (t202 == 0) = true := beq_iff_eq.mpr c27
                          have c27b1 : (t202 != 0) = false := bne_eq_false_iff_eq.mpr c27
                          clear c27
                          by_cases c28 : 0 ≤ x6_1
                          · rw [if_pos c28] at H
                            have c28b0 : decide (0 ≤ x6_1) = true := decide_eq_true c28
                            clear c28
                            by_cases c29 : t200.toList = (rdOf ByteArray.empty y196 x6_1).toList
                            · rw [if_pos c29] at H
                              have c29b0 : (t200.toList == (rdOf ByteArray.empty y196 x6_1).toList) = true := beq_iff_eq.mpr c29
                              have c29b1 : (t200.toList != (rdOf ByteArray.empty y196 x6_1).toList) = false := bne_eq_false_iff_eq.mpr c29
                              clear c29
                              have H' := Aside0.mk H
                              clear H
                              go_wp2_with (first | ((with_reducible refine gate_callee (f := 27) rfl ?_); refine goesL_ (some 48) rfl rfl Try.func27 (by kernel_rfl) rfl #[.string x5_1] rfl (by (try simp only [List.map_toArray, List.map_cons, List.map_nil]); first | done | rfl | (simp only [List.length_drop, List.length_take]; rfl)) ?_; (with_reducible refine (impl_TakeLine.calls x5_1 t200 t201 t202 _ ?side1 A26.out).mono ?_); (case side1 => exact gint_below (by repeat (first | (with_reducible first | exact HB.out | apply below_alloc | apply pw_below_drewN | apply below_drew1) | exact HB.out)) HG.out); rintro e w' ⟨rfl, ⟨nd, rfl⟩⟩; refine ⟨_, rfl, ?_⟩; have p203 : 0 ≤ (x6_1 : Int) := of_decide_eq_true (by first | (with_reducible assumption) | assumption); have q203 : x6_1 < (y196.length : Int) := of_decide_eq_true (by first | (with_reducible assumption) | assumption); obtain ⟨ad203, e203, hx203_0⟩ := Kd.at_string (Kd.Q_reads' HO_3.out).2.2 x6_1 p203 q203; cases e203; replace p203 := eq_true p203; replace q203 := eq_true q203))
                              go_roundg k1
                              case measure => have := HK1.out; omega
                              case rel => exact ⟨(t201), (wrap64 (x6_1 + 1)), (by first | rfl | (simp; done) | (simp [*]; done) | (simp; exact (by intro l; cases l <;> rfl : ∀ l : List UInt8, l.isEmpty = !(l != [])) _)), (by first | rfl | (simp; done) | (simp [*]; done) | (simp; exact (by intro l; cases l <;> rfl : ∀ l : List UInt8, l.isEmpty = !(l != [])) _)), H', ⟨by have := HK1.out; omega⟩, ⟨by (with_reducible repeat (first | apply Kd.Q_alloc | apply Kd.Q_drewN | apply Kd.Q_drew)); exact HO_3.out⟩, ⟨by repeat (first | (with_reducible first | exact HB.out | apply below_alloc | apply pw_below_drewN | apply below_drew1) | exact HB.out)⟩⟩
                            · rw [if_neg c29] at H
                              have c29b0 : (t200.toList == (rdOf ByteArray.empty y196 x6_1).toList) = false := beq_eq_false_iff_ne.mpr c29
                              have c29b1 : (t200.toList != (rdOf ByteArray.empty y196 x6_1).toList) = true := bne_iff_ne.mpr c29
                              exact absurd H (by simp)
                          · rw [if_neg c28] at H
                            exact absurd H (by simp)
                        · rw [if_neg c27] at H
                          have c27b0 : (t202 == 0) = false := beq_eq_false_iff_ne.mpr c27
                          have c27b1 : (t202 != 0) = true := bne_iff_ne.mpr c27
                          exact absurd H (by simp)
                      · rw [if_neg c25] at H
                        have c25b0 : decide (x6_1 < (y196.length : Int)) = false := decide_eq_false c25
                        clear c25
                        replace H := Option.bind_eq_some_iff.mp H
                        obtain ⟨⟨t204, t205, t206⟩, A300, H⟩ := H
                        replace H : ((spec_DrawTakeLine.f k1 l0).bind fun t207 => ((impl_TakeLine.f t207).bind fun bt208 => ((spec_TakeLine.f k1 t207).bind fun bt211 => (if x5_1.toList = ([] : List UInt8) then (if t206 = 1 then (if t205.toList = ([104, 97, 108, 102] : List UInt8) then (if bt208.1.toList = bt211.1.toList then (if bt208.2.1.toList = bt211.2.1.toList then (some (bt208.2.2 == bt211.2.2)) else (some false)) else (some false)) else (some false)) else (some false)) else (some false))))) = some true := H
                        have A30 := Aside0.mk A300
                        clear A300
                        replace H := Option.bind_eq_some_iff.mp H
                        obtain ⟨t207, A310, H⟩ := H
                        replace H : ((impl_TakeLine.f t207).bind fun bt208 => ((spec_TakeLine.f k1 t207).bind fun bt211 => (if x5_1.toList = ([] : List UInt8) then (if t206 = 1 then (if t205.toList = ([104, 97, 108, 102] : List UInt8) then (if bt208.1.toList = bt211.1.toList then (if bt208.2.1.toList = bt211.2.1.toList then (some (bt208.2.2 == bt211.2.2)) else (some false)) else (some false)) else (some false)) else (some false)) else (some false)))) = some true := H
                        have A31 := Aside0.mk A310
                        clear A310
                        replace H := Option.bind_eq_some_iff.mp H
                        obtain ⟨⟨t208, t209, t210⟩, A320, H⟩ := H
                        replace H : ((spec_TakeLine.f k1 t207).bind fun bt211 => (if x5_1.toList = ([] : List UInt8) then (if t206 = 1 then (if t205.toList = ([104, 97, 108, 102] : List UInt8) then (if t208.toList = bt211.1.toList then (if t209.toList = bt211.2.1.toList then (some (t210 == bt211.2.2)) else (some false)) else (some false)) else (some false)) else (some false)) else (some false))) = some true := H
                        have A32 := Aside0.mk A320
                        clear A320
                        replace H := Option.bind_eq_some_iff.mp H
                        obtain ⟨⟨t211, t212, t213⟩, A330, H⟩ := H
                        replace H : (if x5_1.toList = ([] : List UInt8) then (if t206 = 1 then (if t205.toList = ([104, 97, 108, 102] : List UInt8) then (if t208.toList = t211.toList then (if t209.toList = t212.toList then (some (t210 == t213)) else (some false)) else (some false)) else (some false)) else (some false)) else (some false)) = some true := H
                        have A33 := Aside0.mk A330
                        clear A330
                        by_cases c34 : x5_1.toList = ([] : List UInt8)
                        · rw [if_pos c34] at H
                          have c34b0 : (x5_1.toList == ([] : List UInt8)) = true := beq_iff_eq.mpr c34
                          have c34b1 : (x5_1.toList != ([] : List UInt8)) = false := bne_eq_false_iff_eq.mpr c34
                          clear c34
                          by_cases c35 : t206 = 1
                          · rw [if_pos c35] at H
                            have c35b0 : (t206 == 1) = true := beq_iff_eq.mpr c35
                            have c35b1 : (t206 != 1) = false := bne_eq_false_iff_eq.mpr c35
                            clear c35
                            by_cases c36 : t205.toList = ([104, 97, 108, 102] : List UInt8)
                            · rw [if_pos c36] at H
                              have c36b0 : (t205.toList == ([104, 97, 108, 102] : List UInt8)) = true := beq_iff_eq.mpr c36
                              have c36b1 : (t205.toList != ([104, 97, 108, 102] : List UInt8)) = false := bne_eq_false_iff_eq.mpr c36
                              clear c36
                              by_cases c37 : t208.toList = t211.toList
                              · rw [if_pos c37] at H
                                have c37b0 : (t208.toList == t211.toList) = true := beq_iff_eq.mpr c37
                                have c37b1 : (t208.toList != t211.toList) = false := bne_eq_false_iff_eq.mpr c37
                                clear c37
                                by_cases c38 : t209.toList = t212.toList
                                · rw [if_pos c38] at H
                                  have c38b0 : (t209.toList == t212.toList) = true := beq_iff_eq.mpr c38
                                  have c38b1 : (t209.toList != t212.toList) = false := bne_eq_false_iff_eq.mpr c38
                                  clear c38
                                  have hres := Option.some.inj H
                                  go_wp2_with (first | ((with_reducible refine gate_callee (f := 27) rfl ?_); refine goesL_ (some 64) rfl rfl Try.func27 (by kernel_rfl) rfl #[.string (⟨#[104, 97, 108, 102]⟩ : ByteArray)] rfl (by (try simp only [List.map_toArray, List.map_cons, List.map_nil]); first | done | rfl | (simp only [List.length_drop, List.length_take]; rfl)) ?_; (with_reducible refine (impl_TakeLine.calls (⟨#[104, 97, 108, 102]⟩ : ByteArray) t204 t205 t206 _ ?side1 A30.out).mono ?_); (case side1 => exact gint_below (by repeat (first | (with_reducible first | exact HB.out | apply below_alloc | apply pw_below_drewN | apply below_drew1) | exact HB.out)) HG.out); rintro e w' ⟨rfl, ⟨nd, rfl⟩⟩; refine ⟨_, rfl, ?_⟩) | ((with_reducible refine gate_callee (f := 28) rfl ?_); refine goesL_ (some 69) rfl rfl Try.func28 (by kernel_rfl) rfl #[.slice A0 l0.length c0] rfl (by (try simp only [List.map_toArray, List.map_cons, List.map_nil]); first | done | rfl | (simp only [List.length_drop, List.length_take]; rfl)) ?_; (with_reducible refine (spec_DrawTakeLine.calls k1 _ _ l0 t207 _ ?side1 ?side2 A31.out).mono ?_); (case side1 => repeat (first | exact (Kd.C_below HR0.out (by repeat (first | (with_reducible first | exact HB.out | apply below_alloc | apply pw_below_drewN | apply below_drew1) | exact HB.out))) | (with_reducible refine Kd.C_alloc ?_ _) | (with_reducible refine Kd.C_drewN ?_ _) | (with_reducible refine Kd.C_drew ?_))); (case side2 => exact HC0.out); rintro e w39 ⟨rfl, hb⟩; refine ⟨_, rfl, ?_⟩; have n0_ := Aside0.mk (Kd.Q_below (by (with_reducible repeat (first | apply Kd.Q_alloc | apply Kd.Q_drewN | apply Kd.Q_drew)); exact HO_3.out) hb); have n1_ := Aside0.mk (below_step (by repeat (first | (with_reducible first | exact HB.out | apply below_alloc | apply pw_below_drewN | apply below_drew1) | exact HB.out)) hb); clear HO_3; clear HB; have HO_3 := n0_; have HB := n1_; clear n0_ n1_; (try clear hb); (try clear hb2); (try clear hk); (try clear hi)) | ((with_reducible refine gate_callee (f := 27) rfl ?_); refine goesL_ (some 72) rfl rfl Try.func27 (by kernel_rfl) rfl #[.string t207] rfl (by (try simp only [List.map_toArray, List.map_cons, List.map_nil]); first | done | rfl | (simp only [List.length_drop, List.length_take]; rfl)) ?_; (with_reducible refine (impl_TakeLine.calls t207 t208 t209 t210 _ ?side1 A32.out).mono ?_); (case side1 => exact gint_below (by repeat (first | (with_reducible first | exact HB.out | apply below_alloc | apply pw_below_drewN | apply below_drew1) | exact HB.out)) HG.out); rintro e w' ⟨rfl, ⟨nd, rfl⟩⟩; refine ⟨_, rfl, ?_⟩) | ((with_reducible refine gate_callee (f := 29) rfl ?_); refine goesL_ (some 78) rfl rfl Try.func29 (by kernel_rfl) rfl #[.string t207] rfl (by (try simp only [List.map_toArray, List.map_cons, List.map_nil]); first | done | rfl | (simp only [List.length_drop, List.length_take]; rfl)) ?_; (with_reducible refine (spec_TakeLine.calls k1 t207 t211 t212 t213 _ A33.out).mono ?_); rintro e w' ⟨rfl, ⟨nd, rfl⟩⟩; refine ⟨_, rfl, ?_⟩))
                                  go_ret
                                  exact ⟨by first | rfl | (simp [errW_none, errW_some] <;> rfl) | (simp only [← hji6, ← hji10]; first | rfl | (simp [errW_none, errW_some] <;> rfl)) | (simp [*, errW_none, errW_some] <;> rfl), by repeat (first | (with_reducible first | exact HB.out | apply below_alloc | apply pw_below_drewN | apply below_drew1) | exact HB.out)⟩
                                · rw [if_neg c38] at H
                                  have c38b0 : (t209.toList == t212.toList) = false := beq_eq_false_iff_ne.mpr c38
                                  have c38b1 : (t209.toList != t212.toList) = true := bne_iff_ne.mpr c38
                                  exact absurd H (by simp)
                              · rw [if_neg c37] at H
                                have c37b0 : (t208.toList == t211.toList) = false := beq_eq_false_iff_ne.mpr c37
                                have c37b1 : (t208.toList != t211.toList) = true := bne_iff_ne.mpr c37
                                exact absurd H (by simp)
                            · rw [if_neg c36] at H
                              have c36b0 : (t205.toList == ([104, 97, 108, 102] : List UInt8)) = false := beq_eq_false_iff_ne.mpr c36
                              have c36b1 : (t205.toList != ([104, 97, 108, 102] : List UInt8)) = true := bne_iff_ne.mpr c36
                              exact absurd H (by simp)
                          · rw [if_neg c35] at H
                            have c35b0 : (t206 == 1) = false := beq_eq_false_iff_ne.mpr c35
                            have c35b1 : (t206 != 1) = true := bne_iff_ne.mpr c35
                            exact absurd H (by simp)
                        · rw [if_neg c34] at H
                          have c34b0 : (x5_1.toList == ([] : List UInt8)) = false := beq_eq_false_iff_ne.mpr c34
                          have c34b1 : (x5_1.toList != ([] : List UInt8)) = true := bne_iff_ne.mpr c34
                          exact absurd H (by simp)
                · rw [if_neg c13] at H
                  exact absurd H (by simp)
              · rw [if_neg c12] at H
                exact absurd H (by simp)
            · rw [if_neg c11] at H
              exact absurd H (by simp)
          · rw [if_neg c9] at H
            exact absurd H (by simp)
        · rw [if_neg c8] at H
          exact absurd H (by simp)
      · rw [if_neg c7] at H
        exact absurd H (by simp)
    · rw [if_neg c5] at H
      exact absurd H (by simp)

end Go.Proofs.Yteblgnkfdkoapaa.QFnLines
