-- Written by a program of this session (myprint) out of Lean's own print of the translation. Lean checks it.
import Derived.Test.YtdokcckgnamnfaaDoorShorter
import Derived.Test.YtdokcckgnamnfaaDoorSteps
import Derived.Test.YtdokcckgnamnfaaDoorQFnExactStepBringx0
import Derived.Test.YtdokcckgnamnfaaDoorQFnExactStepBringx2
import Derived.Test.YtdokcckgnamnfaaDoorQFnExactStepBringx3
import Derived.Test.YtdokcckgnamnfaaDoorQFnExactStepBringx4
namespace Go.Proofs.YtdokcckgnamnfaaDoor.QFnExactStepBring
open Go.Proofs.YtdokcckgnamnfaaDoorF
open Go.RowKit Go.Proofs.YtdokcckgnamnfaaDoorW.PrintWords Go.Proofs.YtdokcckgnamnfaaDoorW.PrintLast Go.Proofs.YtdokcckgnamnfaaDoorW.PrintMore
attribute [local go_sem] max2_int min2_int max_two min_two max_three min_three max_four min_four   -- for this text's walks alone
set_option maxHeartbeats 8000000
set_option maxRecDepth 100000
set_option linter.unusedVariables false
set_option linter.unusedSimpArgs false

/-! ### spec_StepBring: function 6 -/
mutual
def spec_StepBring.j1 : Nat → List (S65) → List ByteArray → ByteArray → Int → ByteArray → List ByteArray → List ByteArray → List (S84) → Int → ByteArray → List ByteArray → List ByteArray → Option (Int × ByteArray × List ByteArray × List ByteArray × ByteArray × ByteArray × (List (S65)))
 | 0, _, _, _, _, _, _, _, _, _, _, _, _ => none
 | k + 1, x10, x12, x13, x231000, x231001, x231002, x231003, x232000, x258000, x258001, x258002, x258003 => if x13.toList = ([104, 101, 108, 111] : List UInt8) then (some (1, (⟨#[]⟩ : ByteArray), ([] : List ByteArray), ([] : List ByteArray), (⟨#[50, 53, 48, 32, 111, 107]⟩ : ByteArray), (⟨#[]⟩ : ByteArray), x10)) else (if x13.toList = ([109, 97, 105, 108] : List UInt8) then (if 1 < (x12.length : Int) then (some (2, rdOf ByteArray.empty x12 1, x258002, x258003, (⟨#[50, 53, 48, 32, 111, 107]⟩ : ByteArray), (⟨#[]⟩ : ByteArray), x10)) else (none)) else (if x13.toList = ([114, 99, 112, 116] : List UInt8) then (if 1 < (x12.length : Int) then ((spec_l19Rcpt.f k x231000 x231001 x231002 x231003 x232000 (rdOf ByteArray.empty x12 1)).bind fun bt268 => (some (bt268.1, bt268.2.1, bt268.2.2.1, bt268.2.2.2.1, bt268.2.2.2.2, (⟨#[]⟩ : ByteArray), x10))) else (none)) else (if x13.toList = ([100, 97, 116, 97] : List UInt8) then (some (4, x258001, x258002, x258003, (⟨#[51, 53, 52, 32, 103, 111]⟩ : ByteArray), (⟨#[]⟩ : ByteArray), x10)) else (if x13.toList = ([114, 115, 101, 116] : List UInt8) then (if x231000 = 0 then (some (0, (⟨#[]⟩ : ByteArray), ([] : List ByteArray), ([] : List ByteArray), (⟨#[50, 53, 48, 32, 111, 107]⟩ : ByteArray), (⟨#[]⟩ : ByteArray), x10)) else (some (1, (⟨#[]⟩ : ByteArray), ([] : List ByteArray), ([] : List ByteArray), (⟨#[50, 53, 48, 32, 111, 107]⟩ : ByteArray), (⟨#[]⟩ : ByteArray), x10))) else (if x13.toList = ([113, 117, 105, 116] : List UInt8) then (some (x258000, x258001, x258002, x258003, (⟨#[50, 50, 49, 32, 98, 121, 101]⟩ : ByteArray), (⟨#[]⟩ : ByteArray), x10)) else (some (x258000, x258001, x258002, x258003, (⟨#[50, 53, 48, 32, 111, 107]⟩ : ByteArray), (⟨#[]⟩ : ByteArray), x10)))))))
def spec_StepBring.j0 : Nat → List (S65) → List ByteArray → ByteArray → Bool → Int → ByteArray → List ByteArray → List ByteArray → List (S84) → Int → ByteArray → List ByteArray → List ByteArray → Option (Int × ByteArray × List ByteArray × List ByteArray × ByteArray × ByteArray × (List (S65)))
 | 0, _, _, _, _, _, _, _, _, _, _, _, _, _ => none
 | k + 1, x10, x12, x13, x48, x231000, x231001, x231002, x231003, x232000, x258000, x258001, x258002, x258003 => if x48 = true then (some (x258000, x258001, x258002, x258003, (⟨#[53, 48, 49, 32, 119, 111, 114, 100, 115]⟩ : ByteArray), (⟨#[]⟩ : ByteArray), x10)) else (if x13.toList = ([109, 97, 105, 108] : List UInt8) then (if x231000 = 1 then (if x13.toList = ([114, 99, 112, 116] : List UInt8) then (if x231000 = 2 then (if x13.toList = ([100, 97, 116, 97] : List UInt8) then (if x231000 = 3 then (spec_StepBring.j1 k x10 x12 x13 x231000 x231001 x231002 x231003 x232000 x258000 x258001 x258002 x258003) else (some (x258000, x258001, x258002, x258003, (⟨#[53, 48, 51, 32, 111, 114, 100, 101, 114]⟩ : ByteArray), (⟨#[]⟩ : ByteArray), x10))) else (spec_StepBring.j1 k x10 x12 x13 x231000 x231001 x231002 x231003 x232000 x258000 x258001 x258002 x258003)) else (if x231000 = 3 then (if x13.toList = ([100, 97, 116, 97] : List UInt8) then (spec_StepBring.j1 k x10 x12 x13 x231000 x231001 x231002 x231003 x232000 x258000 x258001 x258002 x258003) else (spec_StepBring.j1 k x10 x12 x13 x231000 x231001 x231002 x231003 x232000 x258000 x258001 x258002 x258003)) else (some (x258000, x258001, x258002, x258003, (⟨#[53, 48, 51, 32, 111, 114, 100, 101, 114]⟩ : ByteArray), (⟨#[]⟩ : ByteArray), x10)))) else (if x13.toList = ([100, 97, 116, 97] : List UInt8) then (if x231000 = 3 then (spec_StepBring.j1 k x10 x12 x13 x231000 x231001 x231002 x231003 x232000 x258000 x258001 x258002 x258003) else (some (x258000, x258001, x258002, x258003, (⟨#[53, 48, 51, 32, 111, 114, 100, 101, 114]⟩ : ByteArray), (⟨#[]⟩ : ByteArray), x10))) else (spec_StepBring.j1 k x10 x12 x13 x231000 x231001 x231002 x231003 x232000 x258000 x258001 x258002 x258003))) else (some (x258000, x258001, x258002, x258003, (⟨#[53, 48, 51, 32, 111, 114, 100, 101, 114]⟩ : ByteArray), (⟨#[]⟩ : ByteArray), x10))) else (if x13.toList = ([114, 99, 112, 116] : List UInt8) then (if x231000 = 2 then (if x13.toList = ([100, 97, 116, 97] : List UInt8) then (if x231000 = 3 then (spec_StepBring.j1 k x10 x12 x13 x231000 x231001 x231002 x231003 x232000 x258000 x258001 x258002 x258003) else (some (x258000, x258001, x258002, x258003, (⟨#[53, 48, 51, 32, 111, 114, 100, 101, 114]⟩ : ByteArray), (⟨#[]⟩ : ByteArray), x10))) else (spec_StepBring.j1 k x10 x12 x13 x231000 x231001 x231002 x231003 x232000 x258000 x258001 x258002 x258003)) else (if x231000 = 3 then (if x13.toList = ([100, 97, 116, 97] : List UInt8) then (spec_StepBring.j1 k x10 x12 x13 x231000 x231001 x231002 x231003 x232000 x258000 x258001 x258002 x258003) else (spec_StepBring.j1 k x10 x12 x13 x231000 x231001 x231002 x231003 x232000 x258000 x258001 x258002 x258003)) else (some (x258000, x258001, x258002, x258003, (⟨#[53, 48, 51, 32, 111, 114, 100, 101, 114]⟩ : ByteArray), (⟨#[]⟩ : ByteArray), x10)))) else (if x13.toList = ([100, 97, 116, 97] : List UInt8) then (if x231000 = 3 then (spec_StepBring.j1 k x10 x12 x13 x231000 x231001 x231002 x231003 x232000 x258000 x258001 x258002 x258003) else (some (x258000, x258001, x258002, x258003, (⟨#[53, 48, 51, 32, 111, 114, 100, 101, 114]⟩ : ByteArray), (⟨#[]⟩ : ByteArray), x10))) else (spec_StepBring.j1 k x10 x12 x13 x231000 x231001 x231002 x231003 x232000 x258000 x258001 x258002 x258003))))
end
def spec_StepBring.f (k : Nat) (a0_0 : Int) (a0_1 : ByteArray) (l0_2 : List ByteArray) (l0_3 : List ByteArray) (l1_0 : List (S84)) (a2 : ByteArray) : Option (Int × ByteArray × List ByteArray × List ByteArray × ByteArray × ByteArray × (List (S65))) := (some (([] : List (S65)) : List (S65))).bind fun y233 => (if a0_0 = 4 then ((spec_l19Data.f k a0_0 a0_1 l0_2 l0_3 a2).bind fun bt236 => (some (bt236.1, bt236.2.1, bt236.2.2.1, bt236.2.2.2.1, bt236.2.2.2.2.1, bt236.2.2.2.2.2.1, bt236.2.2.2.2.2.2))) else ((spec_l19Copy.f a0_0 a0_1 l0_2 l0_3).bind fun bt249 => ((spec_WordsOf.f k a2).bind fun t258 => (if (t258.length : Int) = 0 then (some (bt249.1, bt249.2.1, bt249.2.2.1, bt249.2.2.2, (⟨#[53, 48, 48, 32, 119, 104, 97, 116]⟩ : ByteArray), (⟨#[]⟩ : ByteArray), y233)) else (if 0 < (t258.length : Int) then ((spec_LowWord.f (rdOf ByteArray.empty t258 0)).bind fun t262 => ((spec_l19Size.f k t262).bind fun t263 => (if t263 = 0 then (some (bt249.1, bt249.2.1, bt249.2.2.1, bt249.2.2.2, (⟨#[53, 48, 48, 32, 119, 104, 97, 116]⟩ : ByteArray), (⟨#[]⟩ : ByteArray), y233)) else (if (t258.length : Int) = t263 then (if t263 = 2 then (if 1 < (t258.length : Int) then ((spec_WordOk.f k (rdOf ByteArray.empty t258 1)).bind fun t265 => (spec_StepBring.j0 k y233 t258 t262 (!t265) a0_0 a0_1 l0_2 l0_3 l1_0 bt249.1 bt249.2.1 bt249.2.2.1 bt249.2.2.2)) else (none)) else (spec_StepBring.j0 k y233 t258 t262 false a0_0 a0_1 l0_2 l0_3 l1_0 bt249.1 bt249.2.1 bt249.2.2.1 bt249.2.2.2)) else (spec_StepBring.j0 k y233 t258 t262 true a0_0 a0_1 l0_2 l0_3 l1_0 bt249.1 bt249.2.1 bt249.2.2.1 bt249.2.2.2))))) else (none))))))
theorem spec_StepBring.mono_l : ∀ k, (∀ y0 y1 y2 y3 y4 y5 y6 y7 y8 y9 y10 y11, LeO (spec_StepBring.j1 k y0 y1 y2 y3 y4 y5 y6 y7 y8 y9 y10 y11) (spec_StepBring.j1 (k + 1) y0 y1 y2 y3 y4 y5 y6 y7 y8 y9 y10 y11)) ∧ (∀ y0 y1 y2 y3 y4 y5 y6 y7 y8 y9 y10 y11 y12, LeO (spec_StepBring.j0 k y0 y1 y2 y3 y4 y5 y6 y7 y8 y9 y10 y11 y12) (spec_StepBring.j0 (k + 1) y0 y1 y2 y3 y4 y5 y6 y7 y8 y9 y10 y11 y12))
 | 0 => ⟨fun _ _ _ _ _ _ _ _ _ _ _ _ r h => by simp [spec_StepBring.j1] at h, fun _ _ _ _ _ _ _ _ _ _ _ _ _ r h => by simp [spec_StepBring.j0] at h⟩
 | k + 1 => by
  obtain ⟨ih0, ih1⟩ := spec_StepBring.mono_l k
  refine ⟨?_, ?_⟩
  ·intro y0 y1 y2 y3 y4 y5 y6 y7 y8 y9 y10 y11
   unfold spec_StepBring.j1
   repeat' first
   | (with_reducible exact ih0 _ _ _ _ _ _ _ _ _ _ _ _)
   | (with_reducible exact ih1 _ _ _ _ _ _ _ _ _ _ _ _ _)
   | (with_reducible exact spec_WordOk.mono _ _)
   | (with_reducible exact spec_WordsOf.mono _ _)
   | (with_reducible exact spec_l19Data.mono _ _ _ _ _ _)
   | (with_reducible exact spec_l19Rcpt.mono _ _ _ _ _ _ _)
   | (with_reducible exact spec_l19Size.mono _ _)
   | (with_reducible first | exact LeO.refl _ | exact LeO.none _ | refine LeO.ite ?_ ?_ | refine LeO.bind ?_ (fun _ => ?_))
   | refine LeO.ite ?_ ?_
   | refine LeO.bind ?_ (fun _ => ?_)
  ·intro y0 y1 y2 y3 y4 y5 y6 y7 y8 y9 y10 y11 y12
   unfold spec_StepBring.j0
   repeat' first
   | (with_reducible exact ih0 _ _ _ _ _ _ _ _ _ _ _ _)
   | (with_reducible exact ih1 _ _ _ _ _ _ _ _ _ _ _ _ _)
   | (with_reducible exact spec_WordOk.mono _ _)
   | (with_reducible exact spec_WordsOf.mono _ _)
   | (with_reducible exact spec_l19Data.mono _ _ _ _ _ _)
   | (with_reducible exact spec_l19Rcpt.mono _ _ _ _ _ _ _)
   | (with_reducible exact spec_l19Size.mono _ _)
   | (with_reducible first | exact LeO.refl _ | exact LeO.none _ | refine LeO.ite ?_ ?_ | refine LeO.bind ?_ (fun _ => ?_))
   | refine LeO.ite ?_ ?_
   | refine LeO.bind ?_ (fun _ => ?_)
theorem spec_StepBring.mono : ∀ a0 a1 a2 a3 a4 a5 k, LeO (spec_StepBring.f k a0 a1 a2 a3 a4 a5) (spec_StepBring.f (k + 1) a0 a1 a2 a3 a4 a5) := by
 intro a0 a1 a2 a3 a4 a5 k
 obtain ⟨ih0, ih1⟩ := spec_StepBring.mono_l k
 unfold spec_StepBring.f
 repeat' first
   | (with_reducible exact ih0 _ _ _ _ _ _ _ _ _ _ _ _)
   | (with_reducible exact ih1 _ _ _ _ _ _ _ _ _ _ _ _ _)
   | (with_reducible exact spec_WordOk.mono _ _)
   | (with_reducible exact spec_WordsOf.mono _ _)
   | (with_reducible exact spec_l19Data.mono _ _ _ _ _ _)
   | (with_reducible exact spec_l19Rcpt.mono _ _ _ _ _ _ _)
   | (with_reducible exact spec_l19Size.mono _ _)
   | (with_reducible first | exact LeO.refl _ | exact LeO.none _ | refine LeO.ite ?_ ?_ | refine LeO.bind ?_ (fun _ => ?_))
   | refine LeO.ite ?_ ?_
   | refine LeO.bind ?_ (fun _ => ?_)
def spec_StepBring.T23 : Bool × List (List Nat × List Nat) := (true, [([], []), ([], []), ([], []), ([2], [2]), ([3], [3]), ([0, 1, 4], [0, 1, 4]), ([5], [5]), ([6], [6]), ([6], [6]), ([], []), ([9, 7, 5, 0, 1, 2, 3, 4, 5, 6, 7, 9], [7, 9]), ([8, 10, 0, 1, 2, 3, 4, 5, 6, 7, 8, 9, 10], [8])])
def spec_StepBring.B23 : List Nat := [0, 0, 0, 4, 12, 31, 63, 127, 127, 0, 767, 2047]
theorem spec_StepBring.tab23 : rtab .any (opsOf Tryd.f6 23) = spec_StepBring.T23 := by kernel_rfl
theorem spec_StepBring.bits23 : waitsOk spec_StepBring.T23.2 spec_StepBring.B23 = true := by kernel_rfl
theorem spec_StepBring.calls (k : Nat) (a0_0 : Int) (a0_1 : ByteArray) (A0_2 : Option Addr) (c0_2 : Nat) (l0_2 : List ByteArray) (A0_3 : Option Addr) (c0_3 : Nat) (l0_3 : List ByteArray) (A1_0 : Option Addr) (c1_0 : Nat) (l1_0 : List (S84)) (a2 : ByteArray) (r1 : Int) (r2 : ByteArray) (r3 : List ByteArray) (r4 : List ByteArray) (r5 : ByteArray) (r6 : ByteArray) (r7 : List (S65)) (w : World) (hr0_2 : Kd.C Kd.string w A0_2 l0_2.length l0_2) (hc0_2 : l0_2.length ≤ c0_2) (hr0_3 : Kd.C Kd.string w A0_3 l0_3.length l0_3) (hc0_3 : l0_3.length ≤ c0_3) (hr1_0 : Kd.C k84 w A1_0 l1_0.length l1_0) (hc1_0 : l1_0.length ≤ c1_0) (h : spec_StepBring.f k a0_0 a0_1 l0_2 l0_3 l1_0 a2 = some (r1, r2, r3, r4, r5, r6, r7)) :
  Calls Tryd.prog 6 #[.agg #[.int .i64 a0_0, .string a0_1, .slice A0_2 l0_2.length c0_2, .slice A0_3 l0_3.length c0_3], .agg #[.slice A1_0 l1_0.length c1_0], .string a2] w fun e w' => ∃ v2_ v3_ v6_ : Value, e = .returned (.tuple #[.agg #[.int .i64 r1, .string r2, v2_, v3_], .string r5, .string r6, v6_]) ∧ Kd.R Kd.string 9 w' w.heap.size (fun k_ => some k_ ≠ (v3_ : Value).ownBlock) v2_ r3 ∧ Kd.R Kd.string 9 w' w.heap.size (fun k_ => some k_ ≠ (v2_ : Value).ownBlock) v3_ r4 ∧ Kd.S k65 65 w' w.heap.size (fun _ => True) v6_ r7 ∧ Below w.heap.size w w' := by
 have hu30 := Tryd.underlying30
 have hu37 := Tryd.underlying37
 have HR0_2 := Aside0.mk hr0_2
 have HC0_2 := Aside0.mk hc0_2
 clear hr0_2 hc0_2
 have HR0_3 := Aside0.mk hr0_3
 have HC0_3 := Aside0.mk hc0_3
 clear hr0_3 hc0_3
 have HR1_0 := Aside0.mk hr1_0
 have HC1_0 := Aside0.mk hc1_0
 clear hr1_0 hc1_0
 have HB := Aside0.mk (Below.refl w.heap.size w)
 have H := h; unfold spec_StepBring.f at H
 clear h
 obtain ⟨y233, hy233⟩ : ∃ y_ : List (S65), y_ = (([] : List (S65))) := ⟨_, rfl⟩
 replace H : (if a0_0 = 4 then ((spec_l19Data.f k a0_0 a0_1 l0_2 l0_3 a2).bind fun bt236 => (some (bt236.1, bt236.2.1, bt236.2.2.1, bt236.2.2.2.1, bt236.2.2.2.2.1, bt236.2.2.2.2.2.1, bt236.2.2.2.2.2.2))) else ((spec_l19Copy.f a0_0 a0_1 l0_2 l0_3).bind fun bt249 => ((spec_WordsOf.f k a2).bind fun t258 => (if (t258.length : Int) = 0 then (some (bt249.1, bt249.2.1, bt249.2.2.1, bt249.2.2.2, (⟨#[53, 48, 48, 32, 119, 104, 97, 116]⟩ : ByteArray), (⟨#[]⟩ : ByteArray), y233)) else (if 0 < (t258.length : Int) then ((spec_LowWord.f (rdOf ByteArray.empty t258 0)).bind fun t262 => ((spec_l19Size.f k t262).bind fun t263 => (if t263 = 0 then (some (bt249.1, bt249.2.1, bt249.2.2.1, bt249.2.2.2, (⟨#[53, 48, 48, 32, 119, 104, 97, 116]⟩ : ByteArray), (⟨#[]⟩ : ByteArray), y233)) else (if (t258.length : Int) = t263 then (if t263 = 2 then (if 1 < (t258.length : Int) then ((spec_WordOk.f k (rdOf ByteArray.empty t258 1)).bind fun t265 => (spec_StepBring.j0 k y233 t258 t262 (!t265) a0_0 a0_1 l0_2 l0_3 l1_0 bt249.1 bt249.2.1 bt249.2.2.1 bt249.2.2.2)) else (none)) else (spec_StepBring.j0 k y233 t258 t262 false a0_0 a0_1 l0_2 l0_3 l1_0 bt249.1 bt249.2.1 bt249.2.2.1 bt249.2.2.2)) else (spec_StepBring.j0 k y233 t258 t262 true a0_0 a0_1 l0_2 l0_3 l1_0 bt249.1 bt249.2.1 bt249.2.2.1 bt249.2.2.2))))) else (none)))))) = some (r1, r2, r3, r4, r5, r6, r7) := by subst hy233; first | with_reducible exact H | with_reducible exact (Option.bind_some _ _).symm.trans H | exact H
 have Ny233 := Aside0.mk hy233
 clear hy233
 by_cases c4 : a0_0 = 4
 ·rw [if_pos c4] at H
  have c4b0 := beq_iff_eq.mpr c4
  have c4b1 := bne_eq_false_iff_eq.mpr c4
  clear c4
  obtain ⟨⟨t236, t237, t238, t241, t244, t245, t246⟩, A5, H⟩ := bs_ H
  (try set_option simprocs false in dsimp only at H)
  simp only [Option.some.injEq, Prod.mk.injEq] at H
  obtain ⟨rfl, rfl, rfl, rfl, rfl, rfl, rfl⟩ := H
  go_enter Tryd.func6, Tryd.ntmps6
  go_wp2_with (first | (refine lr_ 30 3 BK230 hu30 ?_) | (refine lr_ 37 4 BK231 hu37 ?_) | ((with_reducible refine gd_ 3 ?_); refine bx_ 3 30 #[.int .i64 a0_0, .string a0_1, .slice A0_2 l0_2.length c0_2, .slice A0_3 l0_3.length c0_3] ?_; intro gb230 hg w6 hbox hb; have BK230 := Aside0.mk (hbox); have GE230 := ge_ hg HB; replace HB := hb_ HB hb; clear hb hbox hg) | ((with_reducible refine gd_ 4 ?_); refine bx_ 4 37 #[.slice A1_0 l1_0.length c1_0] ?_; intro gb231 hg w7 hbox hb; have BK231 := Aside0.mk (hbox); have GE231 := ge_ hg HB; replace HB := hb_ HB hb; have NB230_231 := nl_ hg BK230; have NB231_230 := ng_ hg BK230; replace BK230 := bb_ BK230 hb; clear hb hbox hg) | ((with_reducible refine gd_ 6 ?_); refine bx_ 6 30 #[.int .i64 0, .string (⟨#[]⟩ : ByteArray), .slice none 0 0, .slice none 0 0] ?_; intro gb232 hg w8 hbox hb; have BK232 := Aside0.mk (hbox); have GE232 := ge_ hg HB; replace HB := hb_ HB hb; have NB230_232 := nl_ hg BK230; have NB232_230 := ng_ hg BK230; replace BK230 := bb_ BK230 hb; have NB231_232 := nl_ hg BK231; replace BK231 := bb_ BK231 hb; clear hb hbox hg) | ((with_reducible refine gd_ 17 ?_); refine Kd.S_lit k65 _ 65 ?hg (N := 17) ?hd (xs := ([] : List (S65))) (inner := []) (ok := fun _ => True) (okp := fun _ => True) ?hr ?hp (fun _ hk => hk) trivial (Below.refl _ _) (Nat.le_refl _) (by simp) ?_; (case hd => rfl); (case hg => rfl); (case hr => first | (go_simp; done) | (go_simp; rfl)); (case hp => exact (Reps.none _ _)); intro v234 w9 ho10 hb hg_ hnew_; clear hg_ hnew_; (first | rw [← Ny233.out] at ho10 | (simp only [Int.reduceToNat] at ho10; rw [← Ny233.out] at ho10)); have HO235 := Aside0.mk (Kd.S_lower ho10 (below_size HB.out)); replace BK230 := bb_ BK230 hb; replace BK231 := bb_ BK231 hb; replace BK232 := bb_ BK232 hb; replace HB := hb_ HB hb; clear hb ho10; have hnb11 := NB230_231.out; have hnc11 := NB231_230.out; have hnb12 := NB230_232.out; have hnc12 := NB232_230.out; have hcz13 := blk_cell BK230.out; have hfz13 := blk_frozen BK230.out) | ((with_reducible refine gc_ 20 ?_); refine gl_ (some 23) Tryd.func20 #[.agg #[.int .i64 a0_0, .string a0_1, .slice A0_2 l0_2.length c0_2, .slice A0_3 l0_3.length c0_3], .string a2] ?_; (with_reducible refine (spec_l19Data.calls k a0_0 a0_1 _ _ l0_2 _ _ l0_3 a2 t236 t237 t238 t241 t244 t245 t246 _ ?side1 ?side2 ?side3 ?side4 A5.out).mono ?_); (case side1 => exact (Kd.C_below HR0_2.out HB.out)); (case side2 => exact HC0_2.out); (case side3 => exact (Kd.C_below HR0_3.out HB.out)); (case side4 => exact HC0_3.out); rintro e w14 ⟨v239, v242, v247, rfl, ho0, ho1, ho2, hb⟩; refine ⟨_, rfl, ?_⟩; have HO240 := Aside0.mk (Kd.R_lower ho0 (below_size HB.out)); have HO243 := Aside0.mk (Kd.R_lower ho1 (below_size HB.out)); have HO248 := Aside0.mk (Kd.S_lower (Kd.S_new' ho2 (Kd.S_lt HO235.out)) (below_size HB.out)); replace BK230 := bb_ BK230 hb; replace BK231 := bb_ BK231 hb; replace BK232 := bb_ BK232 hb; replace HB := hb_ HB hb; try clear hb; try clear ho0; try clear ho1; try clear ho2; obtain ⟨Ao15, co15, rfl⟩ := Kd.R_slice HO240.out; obtain ⟨Ao16, co16, rfl⟩ := Kd.R_slice HO243.out) | ((with_reducible refine gs_ 30 6 ?_); refine sp_ 30 6 gb232 0 (.agg #[.int .i64 t236, .string t237, .slice Ao15 t238.length co15, .slice Ao16 t241.length co16]) #[.int .i64 t236, .string t237, .slice Ao15 t238.length co15, .slice Ao16 t241.length co16] BK232 ?_; intro w17 hbox hbut; replace HO240 := rs_ hbut HO240 BK232; replace HO243 := rs_ hbut HO243 BK232; replace HO248 := ss_ hbut HO248 BK232; replace BK230 := bo_ hbut NB230_232 BK230; replace BK231 := bo_ hbut NB231_232 BK231; replace BK232 := Aside0.mk (hbox); replace HB := hs_ HB hbut GE232; clear hbox hbut))
  refine bodyPost_ret (results_list (rs := [.cell 6 30, .tmp 7, .tmp 8, .tmp 9]) rfl (by simp) (.cell gb232 30 #[.int .i64 t236, .string t237, .slice Ao15 t238.length co15, .slice Ao16 t241.length co16] (0, 0) _ rfl (kl_ BK232) Tryd.underlying30 rfl (by kernel_rfl) (.tmp (.tmp (.tmp .nil))))) rfl ?_
  exact ⟨_, _, _, re_, rl_ HO240, rl_ HO243, by (with_reducible repeat (first | apply Kd.S_alloc | apply Kd.S_drewN | apply Kd.S_drew)); exact Kd.S_mono HO248.out (fun _ hk => trivial), bl_⟩
 ·rw [if_neg c4] at H
  have c4b0 := beq_eq_false_iff_ne.mpr c4
  have c4b1 := bne_iff_ne.mpr c4
  obtain ⟨⟨t249, t250, t251, t254⟩, A18, H⟩ := bs_ H
  (try set_option simprocs false in dsimp only at H)
  obtain ⟨t258, A19, H⟩ := bs_ H
  by_cases c20 : (t258.length : Int) = 0
  ·rw [if_pos c20] at H
   have c20b0 := beq_iff_eq.mpr c20
   have c20b1 := bne_eq_false_iff_eq.mpr c20
   clear c20
   simp only [Option.some.injEq, Prod.mk.injEq] at H
   obtain ⟨rfl, rfl, rfl, rfl, rfl, rfl, rfl⟩ := H
   go_enter Tryd.func6, Tryd.ntmps6
   go_wp2_with (first | (refine lr_ 30 3 BK230 hu30 ?_) | (refine lr_ 30 11 BK257 hu30 ?_) | (refine lr_ 37 4 BK231 hu37 ?_) | ((with_reducible refine gd_ 3 ?_); refine bx_ 3 30 #[.int .i64 a0_0, .string a0_1, .slice A0_2 l0_2.length c0_2, .slice A0_3 l0_3.length c0_3] ?_; intro gb230 hg w21 hbox hb; have BK230 := Aside0.mk (hbox); have GE230 := ge_ hg HB; replace HB := hb_ HB hb; clear hb hbox hg) | ((with_reducible refine gd_ 4 ?_); refine bx_ 4 37 #[.slice A1_0 l1_0.length c1_0] ?_; intro gb231 hg w22 hbox hb; have BK231 := Aside0.mk (hbox); have GE231 := ge_ hg HB; replace HB := hb_ HB hb; have NB230_231 := nl_ hg BK230; have NB231_230 := ng_ hg BK230; replace BK230 := bb_ BK230 hb; clear hb hbox hg) | ((with_reducible refine gd_ 6 ?_); refine bx_ 6 30 #[.int .i64 0, .string (⟨#[]⟩ : ByteArray), .slice none 0 0, .slice none 0 0] ?_; intro gb232 hg w23 hbox hb; have BK232 := Aside0.mk (hbox); have GE232 := ge_ hg HB; replace HB := hb_ HB hb; have NB230_232 := nl_ hg BK230; have NB232_230 := ng_ hg BK230; replace BK230 := bb_ BK230 hb; have NB231_232 := nl_ hg BK231; replace BK231 := bb_ BK231 hb; clear hb hbox hg) | ((with_reducible refine gd_ 17 ?_); refine Kd.S_lit k65 _ 65 ?hg (N := 17) ?hd (xs := ([] : List (S65))) (inner := []) (ok := fun _ => True) (okp := fun _ => True) ?hr ?hp (fun _ hk => hk) trivial (Below.refl _ _) (Nat.le_refl _) (by simp) ?_; (case hd => rfl); (case hg => rfl); (case hr => first | (go_simp; done) | (go_simp; rfl)); (case hp => exact (Reps.none _ _)); intro v234 w24 ho25 hb hg_ hnew_; clear hg_ hnew_; (first | rw [← Ny233.out] at ho25 | (simp only [Int.reduceToNat] at ho25; rw [← Ny233.out] at ho25)); have HO235 := Aside0.mk (Kd.S_lower ho25 (below_size HB.out)); replace BK230 := bb_ BK230 hb; replace BK231 := bb_ BK231 hb; replace BK232 := bb_ BK232 hb; replace HB := hb_ HB hb; clear hb ho25; have hnb26 := NB230_231.out; have hnc26 := NB231_230.out; have hnb27 := NB230_232.out; have hnc27 := NB232_230.out; have hcz28 := blk_cell BK230.out; have hfz28 := blk_frozen BK230.out) | ((with_reducible refine gc_ 21 ?_); refine gl_ (some 29) Tryd.func21 #[.agg #[.int .i64 a0_0, .string a0_1, .slice A0_2 l0_2.length c0_2, .slice A0_3 l0_3.length c0_3]] ?_; (with_reducible refine (spec_l19Copy.calls a0_0 a0_1 _ _ l0_2 _ _ l0_3 t249 t250 t251 t254 _ ?side1 ?side2 ?side3 ?side4 A18.out).mono ?_); (case side1 => exact (Kd.C_below HR0_2.out HB.out)); (case side2 => exact HC0_2.out); (case side3 => exact (Kd.C_below HR0_3.out HB.out)); (case side4 => exact HC0_3.out); rintro e w29 ⟨v252, v255, rfl, ho0, ho1, hb⟩; refine ⟨_, rfl, ?_⟩; replace HO235 := sb_ HO235 hb; have HO253 := Aside0.mk (Kd.R_lower ho0 (below_size HB.out)); have HO256 := Aside0.mk (Kd.R_lower ho1 (below_size HB.out)); replace BK230 := bb_ BK230 hb; replace BK231 := bb_ BK231 hb; replace BK232 := bb_ BK232 hb; replace HB := hb_ HB hb; try clear hb; try clear ho0; try clear ho1; obtain ⟨Ao30, co30, rfl⟩ := Kd.R_slice HO253.out; obtain ⟨Ao31, co31, rfl⟩ := Kd.R_slice HO256.out) | ((with_reducible refine gd_ 11 ?_); refine bf_ 11 30 #[.int .i64 0, .string (⟨#[]⟩ : ByteArray), .slice none 0 0, .slice none 0 0] #[.int .i64 t249, .string t250, .slice Ao30 t251.length co30, .slice Ao31 t254.length co31] ?_; intro gb257 hg w32 hbox hb; replace HO235 := sb_ HO235 hb; replace HO253 := rb_ HO253 hb; replace HO256 := rb_ HO256 hb; have BK257 := Aside0.mk (hbox); have GE257 := ge_ hg HB; replace HB := hb_ HB hb; have NB230_257 := nl_ hg BK230; have NB257_230 := ng_ hg BK230; replace BK230 := bb_ BK230 hb; have NB231_257 := nl_ hg BK231; have NB257_231 := ng_ hg BK231; replace BK231 := bb_ BK231 hb; have NB232_257 := nl_ hg BK232; have NB257_232 := ng_ hg BK232; replace BK232 := bb_ BK232 hb; clear hb hbox hg) | ((with_reducible refine gc_ 22 ?_); refine gl_ (some 31) Tryd.func22 #[.string a2] ?_; (with_reducible refine (spec_WordsOf.calls k a2 t258 _ A19.out).mono ?_); rintro e w33 ⟨v259, rfl, ho0, hb⟩; refine ⟨_, rfl, ?_⟩; replace HO235 := sb_ HO235 hb; have HO260 := Aside0.mk (Kd.R_lower (Kd.R_new' (Kd.R_new' ho0 (Kd.R_lt HO253.out)) (Kd.R_lt HO256.out)) (below_size HB.out)); replace HO253 := Aside0.mk (Kd.R_elder' HO253.out (Kd.R_base ho0) hb); replace HO256 := Aside0.mk (Kd.R_elder' HO256.out (Kd.R_base ho0) hb); replace BK230 := bb_ BK230 hb; replace BK231 := bb_ BK231 hb; replace BK232 := bb_ BK232 hb; replace BK257 := bb_ BK257 hb; replace HB := hb_ HB hb; try clear hb; try clear ho0; obtain ⟨Ao34, co34, rfl⟩ := Kd.R_slice HO260.out; have hnb35 := NB257_230.out; have hnc35 := NB230_257.out; have hnb36 := NB257_231.out; have hnc36 := NB231_257.out; have hnb37 := NB257_232.out; have hnc37 := NB232_257.out) | ((with_reducible refine gs_ 30 6 ?_); refine sp_ 30 6 gb232 0 (.agg #[.int .i64 t249, .string t250, .slice Ao30 t251.length co30, .slice Ao31 t254.length co31]) #[.int .i64 t249, .string t250, .slice Ao30 t251.length co30, .slice Ao31 t254.length co31] BK232 ?_; intro w39 hbox hbut; replace HO235 := ss_ hbut HO235 BK232; replace HO253 := rs_ hbut HO253 BK232; replace HO256 := rs_ hbut HO256 BK232; replace BK230 := bo_ hbut NB230_232 BK230; replace BK231 := bo_ hbut NB231_232 BK231; replace BK232 := Aside0.mk (hbox); replace BK257 := bo_ hbut NB257_232 BK257; replace HB := hs_ HB hbut GE232; clear hbox hbut))
   refine bodyPost_ret (results_list (rs := [.cell 6 30, .tmp 7, .tmp 8, .tmp 9]) rfl (by simp) (.cell gb232 30 #[.int .i64 t249, .string t250, .slice Ao30 t251.length co30, .slice Ao31 t254.length co31] (0, 0) _ rfl (kl_ BK232) Tryd.underlying30 rfl (by kernel_rfl) (.tmp (.tmp (.tmp .nil))))) rfl ?_
   exact ⟨_, _, _, re_, rm_ HO253, rm_ HO256, sl_ HO235, bl_⟩
  ·rw [if_neg c20] at H
   have c20b0 := beq_eq_false_iff_ne.mpr c20
   have c20b1 := bne_iff_ne.mpr c20
   have c20b2 : ¬ (t258 = []) := fun h_ => c20 (by rw [h_]; rfl)
   by_cases c40 : 0 < (t258.length : Int)
   ·rw [if_pos c40] at H
    have c40b0 := decide_eq_true c40
    have c40b1 : decide (0 < t258.length) = true := decide_eq_true (by omega)
    clear c40
    obtain ⟨t262, A41, H⟩ := bs_ H
    obtain ⟨t263, A42, H⟩ := bs_ H
    have HC43 := Aside0.mk H
    clear H
    go_enter Tryd.func6, Tryd.ntmps6
    go_upto_block 0 with (first | ((with_reducible refine gd_ 3 ?_); refine bx_ 3 30 #[.int .i64 a0_0, .string a0_1, .slice A0_2 l0_2.length c0_2, .slice A0_3 l0_3.length c0_3] ?_; intro gb230 hg w44 hbox hb; have BK230 := Aside0.mk (hbox); have GE230 := ge_ hg HB; replace HB := hb_ HB hb; clear hb hbox hg) | ((with_reducible refine gd_ 4 ?_); refine bx_ 4 37 #[.slice A1_0 l1_0.length c1_0] ?_; intro gb231 hg w45 hbox hb; have BK231 := Aside0.mk (hbox); have GE231 := ge_ hg HB; replace HB := hb_ HB hb; have NB230_231 := nl_ hg BK230; have NB231_230 := ng_ hg BK230; replace BK230 := bb_ BK230 hb; clear hb hbox hg) | ((with_reducible refine gd_ 6 ?_); refine bx_ 6 30 #[.int .i64 0, .string (⟨#[]⟩ : ByteArray), .slice none 0 0, .slice none 0 0] ?_; intro gb232 hg w46 hbox hb; have BK232 := Aside0.mk (hbox); have GE232 := ge_ hg HB; replace HB := hb_ HB hb; have NB230_232 := nl_ hg BK230; have NB232_230 := ng_ hg BK230; replace BK230 := bb_ BK230 hb; have NB231_232 := nl_ hg BK231; have NB232_231 := ng_ hg BK231; replace BK231 := bb_ BK231 hb; clear hb hbox hg) | ((with_reducible refine gd_ 17 ?_); refine Kd.S_lit k65 _ 65 ?hg (N := 17) ?hd (xs := ([] : List (S65))) (inner := []) (ok := fun _ => True) (okp := fun _ => True) ?hr ?hp (fun _ hk => hk) trivial (Below.refl _ _) (Nat.le_refl _) (by simp) ?_; (case hd => rfl); (case hg => rfl); (case hr => first | (go_simp; done) | (go_simp; rfl)); (case hp => exact (Reps.none _ _)); intro v234 w47 ho48 hb hg_ hnew_; clear hg_ hnew_; (first | rw [← Ny233.out] at ho48 | (simp only [Int.reduceToNat] at ho48; rw [← Ny233.out] at ho48)); have HO235 := Aside0.mk (Kd.S_lower ho48 (below_size HB.out)); replace BK230 := bb_ BK230 hb; replace BK231 := bb_ BK231 hb; replace BK232 := bb_ BK232 hb; replace HB := hb_ HB hb; clear hb ho48; have hnb49 := NB230_231.out; have hnc49 := NB231_230.out; have hnb50 := NB230_232.out; have hnc50 := NB232_230.out; have hcz51 := blk_cell BK230.out; have hfz51 := blk_frozen BK230.out) | ((with_reducible refine gc_ 21 ?_); refine gl_ (some 29) Tryd.func21 #[.agg #[.int .i64 a0_0, .string a0_1, .slice A0_2 l0_2.length c0_2, .slice A0_3 l0_3.length c0_3]] ?_; (with_reducible refine (spec_l19Copy.calls a0_0 a0_1 _ _ l0_2 _ _ l0_3 t249 t250 t251 t254 _ ?side1 ?side2 ?side3 ?side4 A18.out).mono ?_); (case side1 => exact (Kd.C_below HR0_2.out HB.out)); (case side2 => exact HC0_2.out); (case side3 => exact (Kd.C_below HR0_3.out HB.out)); (case side4 => exact HC0_3.out); rintro e w52 ⟨v252, v255, rfl, ho0, ho1, hb⟩; refine ⟨_, rfl, ?_⟩; replace HO235 := sb_ HO235 hb; have HO253 := Aside0.mk (Kd.R_lower ho0 (below_size HB.out)); have HO256 := Aside0.mk (Kd.R_lower ho1 (below_size HB.out)); replace BK230 := bb_ BK230 hb; replace BK231 := bb_ BK231 hb; replace BK232 := bb_ BK232 hb; replace HB := hb_ HB hb; try clear hb; try clear ho0; try clear ho1; obtain ⟨Ao53, co53, rfl⟩ := Kd.R_slice HO253.out; obtain ⟨Ao54, co54, rfl⟩ := Kd.R_slice HO256.out) | ((with_reducible refine gd_ 11 ?_); refine bf_ 11 30 #[.int .i64 0, .string (⟨#[]⟩ : ByteArray), .slice none 0 0, .slice none 0 0] #[.int .i64 t249, .string t250, .slice Ao53 t251.length co53, .slice Ao54 t254.length co54] ?_; intro gb257 hg w55 hbox hb; replace HO235 := sb_ HO235 hb; replace HO253 := rb_ HO253 hb; replace HO256 := rb_ HO256 hb; have BK257 := Aside0.mk (hbox); have GE257 := ge_ hg HB; replace HB := hb_ HB hb; have NB230_257 := nl_ hg BK230; have NB257_230 := ng_ hg BK230; replace BK230 := bb_ BK230 hb; have NB231_257 := nl_ hg BK231; have NB257_231 := ng_ hg BK231; replace BK231 := bb_ BK231 hb; have NB232_257 := nl_ hg BK232; have NB257_232 := ng_ hg BK232; replace BK232 := bb_ BK232 hb; clear hb hbox hg) | ((with_reducible refine gc_ 22 ?_); refine gl_ (some 31) Tryd.func22 #[.string a2] ?_; (with_reducible refine (spec_WordsOf.calls k a2 t258 _ A19.out).mono ?_); rintro e w56 ⟨v259, rfl, ho0, hb⟩; refine ⟨_, rfl, ?_⟩; replace HO235 := sb_ HO235 hb; have HO260 := Aside0.mk (Kd.R_lower (Kd.R_new' (Kd.R_new' ho0 (Kd.R_lt HO253.out)) (Kd.R_lt HO256.out)) (below_size HB.out)); replace HO253 := Aside0.mk (Kd.R_elder' HO253.out (Kd.R_base ho0) hb); replace HO256 := Aside0.mk (Kd.R_elder' HO256.out (Kd.R_base ho0) hb); replace BK230 := bb_ BK230 hb; replace BK231 := bb_ BK231 hb; replace BK232 := bb_ BK232 hb; replace BK257 := bb_ BK257 hb; replace HB := hb_ HB hb; try clear hb; try clear ho0; obtain ⟨Ao57, co57, rfl⟩ := Kd.R_slice HO260.out; have p261 : 0 ≤ (0 : Int) := (by omega); have q261 : 0 < (t258.length : Int) := od_; obtain ⟨ad261, e261, hx261_0⟩ := Kd.at_string (Kd.R_reads' HO260.out).2.2 0 p261 q261; cases e261; have qi261 : (0 < t258.length) = True := eq_true (by omega); (try rw [show ((0 : Int)).toNat = 0 from rfl] at hx261_0); (try rw [Addr.add_zero'] at hx261_0); replace p261 := eq_true p261; replace q261 := eq_true q261) | ((with_reducible refine gc_ 23 ?_); refine gl_ (some 40) Tryd.func23 #[.string (rdOf ByteArray.empty t258 0)] ?_; (with_reducible refine (spec_LowWord.calls (rdOf ByteArray.empty t258 0) t262 _ A41.out).mono ?_); rintro e w58 ⟨rfl, hb⟩; refine ⟨_, rfl, ?_⟩; replace HO235 := sb_ HO235 hb; replace HO253 := rb_ HO253 hb; replace HO256 := rb_ HO256 hb; replace HO260 := rb_ HO260 hb; replace BK230 := bb_ BK230 hb; replace BK231 := bb_ BK231 hb; replace BK232 := bb_ BK232 hb; replace BK257 := bb_ BK257 hb; replace HB := hb_ HB hb; try clear hb; try clear hi) | ((with_reducible refine gc_ 24 ?_); refine gl_ (some 42) Tryd.func24 #[.string t262] ?_; (with_reducible refine (spec_l19Size.calls k t262 t263 _ A42.out).mono ?_); rintro e w' ⟨rfl, ⟨nd, rfl⟩⟩; refine ⟨_, rfl, ?_⟩))
    (try simp only [Act.put, List.setIfInBounds_toArray, List.set_cons_zero, List.set_cons_succ])
    go_cut [] (fun wc => ∃ (kq : Nat) (x233000_42 : Int) (x233001_42 : ByteArray), Aside0 (spec_StepBring.j1 kq y233 t258 t262 a0_0 a0_1 l0_2 l0_3 l1_0 t249 t250 t251 t254 = some (r1, r2, r3, r4, r5, r6, r7)) ∧ Aside0 (kq ≤ k) ∧ Aside0 (Kd.S k65 65 wc w.heap.size (fun _ => True) v234 y233) ∧ Aside0 (Kd.R Kd.string 9 wc w.heap.size (fun k_ => some k_ ≠ ((.slice Ao53 t251.length co53) : Value).ownBlock ∧ some k_ ≠ ((.slice Ao54 t254.length co54) : Value).ownBlock) (.slice (some ad261) t258.length co57) t258) ∧ Aside0 (Kd.R Kd.string 9 wc w.heap.size (fun k_ => some k_ ≠ ((.slice (some ad261) t258.length co57) : Value).ownBlock ∧ some k_ ≠ ((.slice Ao54 t254.length co54) : Value).ownBlock) (.slice Ao53 t251.length co53) t251) ∧ Aside0 (Kd.R Kd.string 9 wc w.heap.size (fun k_ => some k_ ≠ ((.slice (some ad261) t258.length co57) : Value).ownBlock ∧ some k_ ≠ ((.slice Ao53 t251.length co53) : Value).ownBlock) (.slice Ao54 t254.length co54) t254) ∧ Aside0 (wc.heap[gb230]? = some (.cells #[.int .i64 a0_0, .string a0_1, (.slice A0_2 l0_2.length c0_2), (.slice A0_3 l0_3.length c0_3)] 30 (0, 0))) ∧ Aside0 (wc.heap[gb231]? = some (.cells #[(.slice A1_0 l1_0.length c1_0)] 37 (0, 0))) ∧ Aside0 (wc.heap[gb232]? = some (.cells #[.int .i64 x233000_42, .string x233001_42, (.slice none 0 0), (.slice none 0 0)] 30 (0, 0))) ∧ Aside0 (wc.heap[gb257]? = some (.cells #[.int .i64 t249, .string t250, (.slice Ao53 t251.length co53), (.slice Ao54 t254.length co54)] 30 (0, 0))) ∧ Aside0 (Below w.heap.size w wc))
    case first =>
     have H := HC43.out
     clear HC43
     by_cases c59 : t263 = 0
     ·rw [if_pos c59] at H
      have c59b0 := beq_iff_eq.mpr c59
      have c59b1 := bne_eq_false_iff_eq.mpr c59
      clear c59
      (first | rw [c59b0] | (simp only [i64_w, i32_w]; rw [c59b0]) | skip)
      simp only [Option.some.injEq, Prod.mk.injEq] at H
      obtain ⟨rfl, rfl, rfl, rfl, rfl, rfl, rfl⟩ := H
      have hnb60 := NB257_230.out
      have hnc60 := NB230_257.out
      have hnb61 := NB257_231.out
      have hnc61 := NB231_257.out
      have hnb62 := NB257_232.out
      have hnc62 := NB232_257.out
      (try (rw [drewN_self w58]; generalize hq_ : World.drewN w58 _ = w58; replace HO235 := sa_ hq_ HO235; replace HO253 := ra_ hq_ HO253; replace HO256 := ra_ hq_ HO256; replace BK230 := ba_ hq_ BK230; replace BK231 := ba_ hq_ BK231; replace BK232 := ba_ hq_ BK232; replace BK257 := ba_ hq_ BK257; replace HB := ha_ hq_ HB; clear hq_))
      go_wp2_with (first | (refine lr_ 30 11 BK257 hu30 ?_) | (refine lr_ 30 3 BK230 hu30 ?_) | (refine lr_ 37 4 BK231 hu37 ?_) | ((with_reducible refine gs_ 30 6 ?_); refine sp_ 30 6 gb232 0 (.agg #[.int .i64 t249, .string t250, .slice Ao53 t251.length co53, .slice Ao54 t254.length co54]) #[.int .i64 t249, .string t250, .slice Ao53 t251.length co53, .slice Ao54 t254.length co54] BK232 ?_; intro w64 hbox hbut; replace HO235 := ss_ hbut HO235 BK232; replace HO253 := rs_ hbut HO253 BK232; replace HO256 := rs_ hbut HO256 BK232; replace BK230 := bo_ hbut NB230_232 BK230; replace BK231 := bo_ hbut NB231_232 BK231; replace BK232 := Aside0.mk (hbox); replace BK257 := bo_ hbut NB257_232 BK257; replace HB := hs_ HB hbut GE232; clear hbox hbut))
      refine bodyPost_ret (results_list (rs := [.cell 6 30, .tmp 7, .tmp 8, .tmp 9]) rfl (by simp) (.cell gb232 30 #[.int .i64 t249, .string t250, .slice Ao53 t251.length co53, .slice Ao54 t254.length co54] (0, 0) _ rfl (kl_ BK232) Tryd.underlying30 rfl (by kernel_rfl) (.tmp (.tmp (.tmp .nil))))) rfl ?_
      exact ⟨_, _, _, re_, rm_ HO253, rm_ HO256, sl_ HO235, bl_⟩
     ·rw [if_neg c59] at H
      have c59b0 := beq_eq_false_iff_ne.mpr c59
      have c59b1 := bne_iff_ne.mpr c59
      (first | rw [c59b0] | (simp only [i64_w, i32_w]; rw [c59b0]) | skip)
      have HC65 := Aside0.mk H
      clear H
      go_upto_region 12 with (fail)
      go_cut [48] (fun v48 wc => ∃ (kq : Nat) (x48_64 : Bool), v48 = .bool x48_64 ∧ Aside0 (spec_StepBring.j0 kq y233 t258 t262 x48_64 a0_0 a0_1 l0_2 l0_3 l1_0 t249 t250 t251 t254 = some (r1, r2, r3, r4, r5, r6, r7)) ∧ Aside0 (kq ≤ k) ∧ Aside0 (Kd.S k65 65 wc w.heap.size (fun _ => True) v234 y233) ∧ Aside0 (Kd.R Kd.string 9 wc w.heap.size (fun k_ => some k_ ≠ ((.slice Ao53 t251.length co53) : Value).ownBlock ∧ some k_ ≠ ((.slice Ao54 t254.length co54) : Value).ownBlock) (.slice (some ad261) t258.length co57) t258) ∧ Aside0 (Kd.R Kd.string 9 wc w.heap.size (fun k_ => some k_ ≠ ((.slice (some ad261) t258.length co57) : Value).ownBlock ∧ some k_ ≠ ((.slice Ao54 t254.length co54) : Value).ownBlock) (.slice Ao53 t251.length co53) t251) ∧ Aside0 (Kd.R Kd.string 9 wc w.heap.size (fun k_ => some k_ ≠ ((.slice (some ad261) t258.length co57) : Value).ownBlock ∧ some k_ ≠ ((.slice Ao53 t251.length co53) : Value).ownBlock) (.slice Ao54 t254.length co54) t254) ∧ Aside0 (wc.heap[gb230]? = some (.cells #[.int .i64 a0_0, .string a0_1, (.slice A0_2 l0_2.length c0_2), (.slice A0_3 l0_3.length c0_3)] 30 (0, 0))) ∧ Aside0 (wc.heap[gb231]? = some (.cells #[(.slice A1_0 l1_0.length c1_0)] 37 (0, 0))) ∧ Aside0 (wc.heap[gb232]? = some (.cells #[.int .i64 0, .string (⟨#[]⟩ : ByteArray), (.slice none 0 0), (.slice none 0 0)] 30 (0, 0))) ∧ Aside0 (wc.heap[gb257]? = some (.cells #[.int .i64 t249, .string t250, (.slice Ao53 t251.length co53), (.slice Ao54 t254.length co54)] 30 (0, 0))) ∧ Aside0 (Below w.heap.size w wc))
      case first =>
       have H := HC65.out
       clear HC65
       by_cases c66 : (t258.length : Int) = t263
       ·rw [if_pos c66] at H
        have c66b0 := beq_iff_eq.mpr c66
        have c66b1 := bne_eq_false_iff_eq.mpr c66
        clear c66
        (first | rw [c66b0] | (simp only [i64_w, i32_w]; rw [c66b0]) | skip)
        by_cases c67 : t263 = 2
        ·rw [if_pos c67] at H
         have c67b0 := beq_iff_eq.mpr c67
         have c67b1 := bne_eq_false_iff_eq.mpr c67
         clear c67
         by_cases c68 : 1 < (t258.length : Int)
         ·rw [if_pos c68] at H
          have c68b0 := decide_eq_true c68
          have c68b1 : decide (1 < t258.length) = true := decide_eq_true (by omega)
          clear c68
          obtain ⟨t265, A69, H⟩ := bs_ H
          have H' := Aside0.mk H
          clear H
          have p264 : 0 ≤ (1 : Int) := (by omega)
          have q264 : 1 < (t258.length : Int) := od_
          obtain ⟨ad264, e264, hx264_0⟩ := Kd.at_string (Kd.R_reads' HO260.out).2.2 1 p264 q264
          obtain rfl : ad261 = ad264 := (by injection e264)
          (try simp only [show (1 : Int).toNat = 1 from rfl, Nat.reduceMul, Nat.reduceEqDiff, Go.Addr.add, ↓reduceIte] at hx264_0)
          have qi264 : (1 < t258.length) = True := eq_true (by omega)
          (try rw [show ((1 : Int)).toNat = 1 from rfl] at hx264_0)
          replace p264 := eq_true p264
          replace q264 := eq_true q264
          go_wp2_with (first | (refine lr_ 30 11 BK257 hu30 ?_) | (refine lr_ 30 3 BK230 hu30 ?_) | (refine lr_ 37 4 BK231 hu37 ?_) | (go_at_call 25; (with_reducible refine (spec_WordOk.calls k (rdOf ByteArray.empty t258 1) t265 _ A69.out).mono ?_); rintro e w' ⟨rfl, ⟨nd, rfl⟩⟩))
          go_meet
          case rel => exact ⟨_, (!t265), rf_, H', ⟨by first | omega | exact Nat.le_refl _⟩, ⟨sl_ HO235⟩, ⟨rm_ HO260⟩, ⟨rm_ HO253⟩, ⟨rm_ HO256⟩, ⟨kl_ BK230⟩, ⟨kl_ BK231⟩, ⟨kl_ BK232⟩, ⟨kl_ BK257⟩, ⟨bl_⟩⟩
         ·rw [if_neg c68] at H
          exact absurd H (by simp)
        ·rw [if_neg c67] at H
         have c67b0 := beq_eq_false_iff_ne.mpr c67
         have c67b1 := bne_iff_ne.mpr c67
         have H' := Aside0.mk H
         clear H
         go_wp2
         go_meet
         case rel => exact ⟨_, (false), rf_, H', ⟨by first | omega | exact Nat.le_refl _⟩, ⟨sl_ HO235⟩, ⟨rm_ HO260⟩, ⟨rm_ HO253⟩, ⟨rm_ HO256⟩, ⟨kl_ BK230⟩, ⟨kl_ BK231⟩, ⟨kl_ BK232⟩, ⟨kl_ BK257⟩, ⟨bl_⟩⟩
       ·rw [if_neg c66] at H
        have c66b0 := beq_eq_false_iff_ne.mpr c66
        have c66b1 := bne_iff_ne.mpr c66
        (first | rw [c66b0] | (simp only [i64_w, i32_w]; rw [c66b0]) | skip)
        have H' := Aside0.mk H
        clear H
        go_wp2
        go_meet
        case rel => exact ⟨_, (true), rf_, H', ⟨by first | omega | exact Nat.le_refl _⟩, ⟨sl_ HO235⟩, ⟨rm_ HO260⟩, ⟨rm_ HO253⟩, ⟨rm_ HO256⟩, ⟨kl_ BK230⟩, ⟨kl_ BK231⟩, ⟨kl_ BK232⟩, ⟨kl_ BK257⟩, ⟨bl_⟩⟩
      case rest =>
       clear HC65
       try clear c1
       try clear c2
       try clear p2
       try clear q2
       try clear hx2
       try clear qi2
       try clear c3
       try clear c4
       try clear c4b0
       try clear c4b1
       try clear c5
       try clear c6
       try clear c11
       try clear c12
       try clear c20
       try clear c20b0
       try clear c20b1
       try clear c20b2
       try clear c21
       try clear c22
       try clear c23
       try clear c24
       try clear c26
       try clear p26
       try clear q26
       try clear hx26
       try clear qi26
       try clear c27
       try clear c35
       try clear c36
       try clear c37
       try clear c40
       try clear c40b0
       try clear c40b1
       try clear c49
       try clear c50
       try clear c59
       try clear c59b0
       try clear c59b1
       try clear c60
       try clear c61
       try clear c62
       try clear c66
       try clear c66b0
       try clear c66b1
       try clear c67
       try clear c67b0
       try clear c67b1
       try clear c68
       try clear c68b0
       try clear c68b1
       try clear hcz13_0 hcz13_1 hcz13_2 hcz13_3
       try clear hcz28_0 hcz28_1 hcz28_2 hcz28_3
       try clear hcz38_0 hcz38_1 hcz38_2 hcz38_3
       try clear hcz51_0 hcz51_1 hcz51_2 hcz51_3
       try clear hcz63_0 hcz63_1 hcz63_2 hcz63_3
       try clear hfz13_0 hfz13_1 hfz13_2 hfz13_3
       try clear hfz28_0 hfz28_1 hfz28_2 hfz28_3
       try clear hfz38_0 hfz38_1 hfz38_2 hfz38_3
       try clear hfz51_0 hfz51_1 hfz51_2 hfz51_3
       try clear hfz63_0 hfz63_1 hfz63_2 hfz63_3
       try clear hx261_0
       try clear hx264_0
       try clear p261
       try clear p264
       try clear q261
       try clear q264
       obtain ⟨kq, x48_64, rfl, HA, HJ64, HO_10, HO_12, HO_258002, HO_258003, BK230, BK231, BK232, BK257, HB⟩ := hcut
       cases kq with
       | zero => exact absurd HA.out (by simp [spec_StepBring.j0])
       | succ kj64 =>
        have H := HA.out
        clear HA
        simp only [spec_StepBring.j0] at H
        by_cases c70 : x48_64 = true
        ·subst c70
         (try rw [if_pos rfl] at H)
         simp only [Option.some.injEq, Prod.mk.injEq] at H
         obtain ⟨rfl, rfl, rfl, rfl, rfl, rfl, rfl⟩ := H
         have hnb71 := NB257_230.out
         have hnc71 := NB230_257.out
         have hnb72 := NB257_231.out
         have hnc72 := NB231_257.out
         have hnb73 := NB257_232.out
         have hnc73 := NB232_257.out
         go_wp2_with (first | (refine lr_ 30 11 BK257 hu30 ?_) | (refine lr_ 30 3 BK230 hu30 ?_) | (refine lr_ 37 4 BK231 hu37 ?_) | ((with_reducible refine gs_ 30 6 ?_); refine sp_ 30 6 gb232 0 (.agg #[.int .i64 t249, .string t250, .slice Ao53 t251.length co53, .slice Ao54 t254.length co54]) #[.int .i64 t249, .string t250, .slice Ao53 t251.length co53, .slice Ao54 t254.length co54] BK232 ?_; intro w75 hbox hbut; replace HO_10 := ss_ hbut HO_10 BK232; replace HO_258002 := rs_ hbut HO_258002 BK232; replace HO_258003 := rs_ hbut HO_258003 BK232; replace BK230 := bo_ hbut NB230_232 BK230; replace BK231 := bo_ hbut NB231_232 BK231; replace BK232 := Aside0.mk (hbox); replace BK257 := bo_ hbut NB257_232 BK257; replace HB := hs_ HB hbut GE232; clear hbox hbut))
         refine bodyPost_ret (results_list (rs := [.cell 6 30, .tmp 7, .tmp 8, .tmp 9]) rfl (by simp) (.cell gb232 30 #[.int .i64 t249, .string t250, .slice Ao53 t251.length co53, .slice Ao54 t254.length co54] (0, 0) _ rfl (kl_ BK232) Tryd.underlying30 rfl (by kernel_rfl) (.tmp (.tmp (.tmp .nil))))) rfl ?_
         exact ⟨_, _, _, re_, rm_ HO_258002, rm_ HO_258003, sl_ HO_10, bl_⟩
        ·replace c70 := Bool.eq_false_iff.mpr c70
         subst c70
         (try rw [if_neg (show ¬ (false = true) by decide)] at H)
         by_cases c76 : t262.toList = ([109, 97, 105, 108] : List UInt8)
         ·rw [if_pos c76] at H
          have c76b0 := beq_iff_eq.mpr c76
          have c76b1 := bne_eq_false_iff_eq.mpr c76
          clear c76
          have hnb82 := NB230_231.out
          have hnc82 := NB231_230.out
          have hnb83 := NB230_232.out
          have hnc83 := NB232_230.out
          have hnb84 := NB230_257.out
          have hnc84 := NB257_230.out
          have hcz85 := blk_cell BK230.out
          have hfz85 := blk_frozen BK230.out
          by_cases c77 : a0_0 = 1
          ·rw [if_pos c77] at H
           have c77b0 := beq_iff_eq.mpr c77
           have c77b1 := bne_eq_false_iff_eq.mpr c77
           clear c77
           by_cases c78 : t262.toList = ([114, 99, 112, 116] : List UInt8)
           ·rw [if_pos c78] at H
            have c78b0 := beq_iff_eq.mpr c78
            have c78b1 := bne_eq_false_iff_eq.mpr c78
            clear c78
            by_cases c79 : a0_0 = 2
            ·rw [if_pos c79] at H
             have c79b0 := beq_iff_eq.mpr c79
             have c79b1 := bne_eq_false_iff_eq.mpr c79
             clear c79
             by_cases c80 : t262.toList = ([100, 97, 116, 97] : List UInt8)
             ·rw [if_pos c80] at H
              have c80b0 := beq_iff_eq.mpr c80
              have c80b1 := bne_eq_false_iff_eq.mpr c80
              clear c80
              by_cases c81 : a0_0 = 3
              ·rw [if_pos c81] at H
               have c81b0 := beq_iff_eq.mpr c81
               have c81b1 := bne_eq_false_iff_eq.mpr c81
               clear c81
               have H' := Aside0.mk H
               clear H
               try simp only [c77b0, c77b1, c78b0, c78b1, c79b0, c79b1, c80b0, c80b1, c81b0, c81b1, Bool.not_true, Bool.not_false]
               go_wp2
               go_meet
               case rel => exact ⟨_, (0), ((⟨#[]⟩ : ByteArray)), H', ⟨by have := HJ64.out; first | omega | exact Nat.le_refl _⟩, ⟨sl_ HO_10⟩, ⟨rl_ HO_12⟩, ⟨rl_ HO_258002⟩, ⟨rl_ HO_258003⟩, ⟨kl_ BK230⟩, ⟨kl_ BK231⟩, ⟨kl_ BK232⟩, ⟨kl_ BK257⟩, ⟨bl_⟩⟩
              ·rw [if_neg c81] at H
               have c81b0 := beq_eq_false_iff_ne.mpr c81
               have c81b1 := bne_iff_ne.mpr c81
               simp only [Option.some.injEq, Prod.mk.injEq] at H
               obtain ⟨rfl, rfl, rfl, rfl, rfl, rfl, rfl⟩ := H
               try simp only [c77b0, c77b1, c78b0, c78b1, c79b0, c79b1, c80b0, c80b1, c81b0, c81b1, Bool.not_true, Bool.not_false]
               have hnb90 := NB257_231.out
               have hnc90 := NB231_257.out
               have hnb91 := NB257_232.out
               have hnc91 := NB232_257.out
               go_wp2_with (first | (refine lr_ 30 11 BK257 hu30 ?_) | (refine lr_ 30 3 BK230 hu30 ?_) | (refine lr_ 37 4 BK231 hu37 ?_) | ((with_reducible refine gs_ 30 6 ?_); refine sp_ 30 6 gb232 0 (.agg #[.int .i64 t249, .string t250, .slice Ao53 t251.length co53, .slice Ao54 t254.length co54]) #[.int .i64 t249, .string t250, .slice Ao53 t251.length co53, .slice Ao54 t254.length co54] BK232 ?_; intro w93 hbox hbut; replace HO_10 := ss_ hbut HO_10 BK232; replace HO_258002 := rs_ hbut HO_258002 BK232; replace HO_258003 := rs_ hbut HO_258003 BK232; replace BK230 := bo_ hbut NB230_232 BK230; replace BK231 := bo_ hbut NB231_232 BK231; replace BK232 := Aside0.mk (hbox); replace BK257 := bo_ hbut NB257_232 BK257; replace HB := hs_ HB hbut GE232; clear hbox hbut))
               refine bodyPost_ret (results_list (rs := [.cell 6 30, .tmp 7, .tmp 8, .tmp 9]) rfl (by simp) (.cell gb232 30 #[.int .i64 t249, .string t250, .slice Ao53 t251.length co53, .slice Ao54 t254.length co54] (0, 0) _ rfl (kl_ BK232) Tryd.underlying30 rfl (by kernel_rfl) (.tmp (.tmp (.tmp .nil))))) rfl ?_
               exact ⟨_, _, _, re_, rm_ HO_258002, rm_ HO_258003, sl_ HO_10, bl_⟩
             ·rw [if_neg c80] at H
              have c80b0 := beq_eq_false_iff_ne.mpr c80
              have c80b1 := bne_iff_ne.mpr c80
              have H' := Aside0.mk H
              clear H
              try simp only [c77b0, c77b1, c78b0, c78b1, c79b0, c79b1, c80b0, c80b1, Bool.not_true, Bool.not_false]
              go_wp2
              go_meet
              case rel => exact ⟨_, (0), ((⟨#[]⟩ : ByteArray)), H', ⟨by have := HJ64.out; first | omega | exact Nat.le_refl _⟩, ⟨sl_ HO_10⟩, ⟨rl_ HO_12⟩, ⟨rl_ HO_258002⟩, ⟨rl_ HO_258003⟩, ⟨kl_ BK230⟩, ⟨kl_ BK231⟩, ⟨kl_ BK232⟩, ⟨kl_ BK257⟩, ⟨bl_⟩⟩
            ·rw [if_neg c79] at H
             have c79b0 := beq_eq_false_iff_ne.mpr c79
             have c79b1 := bne_iff_ne.mpr c79
             by_cases c98 : a0_0 = 3
             ·rw [if_pos c98] at H
              have c98b0 := beq_iff_eq.mpr c98
              have c98b1 := bne_eq_false_iff_eq.mpr c98
              clear c98
              by_cases c99 : t262.toList = ([100, 97, 116, 97] : List UInt8)
              ·rw [if_pos c99] at H
               have c99b0 := beq_iff_eq.mpr c99
               have c99b1 := bne_eq_false_iff_eq.mpr c99
               clear c99
               have H' := Aside0.mk H
               clear H
               try simp only [c77b0, c77b1, c78b0, c78b1, c79b0, c79b1, c98b0, c98b1, c99b0, c99b1, Bool.not_true, Bool.not_false]
               go_wp2
               go_meet
               case rel => exact ⟨_, (0), ((⟨#[]⟩ : ByteArray)), H', ⟨by have := HJ64.out; first | omega | exact Nat.le_refl _⟩, ⟨sl_ HO_10⟩, ⟨rl_ HO_12⟩, ⟨rl_ HO_258002⟩, ⟨rl_ HO_258003⟩, ⟨kl_ BK230⟩, ⟨kl_ BK231⟩, ⟨kl_ BK232⟩, ⟨kl_ BK257⟩, ⟨bl_⟩⟩
              ·rw [if_neg c99] at H
               have c99b0 := beq_eq_false_iff_ne.mpr c99
               have c99b1 := bne_iff_ne.mpr c99
               have H' := Aside0.mk H
               clear H
               try simp only [c77b0, c77b1, c78b0, c78b1, c79b0, c79b1, c98b0, c98b1, c99b0, c99b1, Bool.not_true, Bool.not_false]
               go_wp2
               go_meet
               case rel => exact ⟨_, (0), ((⟨#[]⟩ : ByteArray)), H', ⟨by have := HJ64.out; first | omega | exact Nat.le_refl _⟩, ⟨sl_ HO_10⟩, ⟨rl_ HO_12⟩, ⟨rl_ HO_258002⟩, ⟨rl_ HO_258003⟩, ⟨kl_ BK230⟩, ⟨kl_ BK231⟩, ⟨kl_ BK232⟩, ⟨kl_ BK257⟩, ⟨bl_⟩⟩
             ·rw [if_neg c98] at H
              have c98b0 := beq_eq_false_iff_ne.mpr c98
              have c98b1 := bne_iff_ne.mpr c98
              simp only [Option.some.injEq, Prod.mk.injEq] at H
              obtain ⟨rfl, rfl, rfl, rfl, rfl, rfl, rfl⟩ := H
              try simp only [c77b0, c77b1, c78b0, c78b1, c79b0, c79b1, c98b0, c98b1, Bool.not_true, Bool.not_false]
              have hnb112 := NB257_231.out
              have hnc112 := NB231_257.out
              have hnb113 := NB257_232.out
              have hnc113 := NB232_257.out
              go_wp2_with (first | (refine lr_ 30 11 BK257 hu30 ?_) | (refine lr_ 30 3 BK230 hu30 ?_) | (refine lr_ 37 4 BK231 hu37 ?_) | ((with_reducible refine gs_ 30 6 ?_); refine sp_ 30 6 gb232 0 (.agg #[.int .i64 t249, .string t250, .slice Ao53 t251.length co53, .slice Ao54 t254.length co54]) #[.int .i64 t249, .string t250, .slice Ao53 t251.length co53, .slice Ao54 t254.length co54] BK232 ?_; intro w115 hbox hbut; replace HO_10 := ss_ hbut HO_10 BK232; replace HO_258002 := rs_ hbut HO_258002 BK232; replace HO_258003 := rs_ hbut HO_258003 BK232; replace BK230 := bo_ hbut NB230_232 BK230; replace BK231 := bo_ hbut NB231_232 BK231; replace BK232 := Aside0.mk (hbox); replace BK257 := bo_ hbut NB257_232 BK257; replace HB := hs_ HB hbut GE232; clear hbox hbut))
              refine bodyPost_ret (results_list (rs := [.cell 6 30, .tmp 7, .tmp 8, .tmp 9]) rfl (by simp) (.cell gb232 30 #[.int .i64 t249, .string t250, .slice Ao53 t251.length co53, .slice Ao54 t254.length co54] (0, 0) _ rfl (kl_ BK232) Tryd.underlying30 rfl (by kernel_rfl) (.tmp (.tmp (.tmp .nil))))) rfl ?_
              exact ⟨_, _, _, re_, rm_ HO_258002, rm_ HO_258003, sl_ HO_10, bl_⟩
           ·rw [if_neg c78] at H
            have c78b0 := beq_eq_false_iff_ne.mpr c78
            have c78b1 := bne_iff_ne.mpr c78
            by_cases c116 : t262.toList = ([100, 97, 116, 97] : List UInt8)
            ·rw [if_pos c116] at H
             have c116b0 := beq_iff_eq.mpr c116
             have c116b1 := bne_eq_false_iff_eq.mpr c116
             clear c116
             by_cases c117 : a0_0 = 3
             ·rw [if_pos c117] at H
              have c117b0 := beq_iff_eq.mpr c117
              have c117b1 := bne_eq_false_iff_eq.mpr c117
              clear c117
              have H' := Aside0.mk H
              clear H
              try simp only [c77b0, c77b1, c78b0, c78b1, c116b0, c116b1, c117b0, c117b1, Bool.not_true, Bool.not_false]
              go_wp2
              go_meet
              case rel => exact ⟨_, (0), ((⟨#[]⟩ : ByteArray)), H', ⟨by have := HJ64.out; first | omega | exact Nat.le_refl _⟩, ⟨sl_ HO_10⟩, ⟨rl_ HO_12⟩, ⟨rl_ HO_258002⟩, ⟨rl_ HO_258003⟩, ⟨kl_ BK230⟩, ⟨kl_ BK231⟩, ⟨kl_ BK232⟩, ⟨kl_ BK257⟩, ⟨bl_⟩⟩
             ·rw [if_neg c117] at H
              have c117b0 := beq_eq_false_iff_ne.mpr c117
              have c117b1 := bne_iff_ne.mpr c117
              simp only [Option.some.injEq, Prod.mk.injEq] at H
              obtain ⟨rfl, rfl, rfl, rfl, rfl, rfl, rfl⟩ := H
              try simp only [c77b0, c77b1, c78b0, c78b1, c116b0, c116b1, c117b0, c117b1, Bool.not_true, Bool.not_false]
              have hnb126 := NB257_231.out
              have hnc126 := NB231_257.out
              have hnb127 := NB257_232.out
              have hnc127 := NB232_257.out
              go_wp2_with (first | (refine lr_ 30 11 BK257 hu30 ?_) | (refine lr_ 30 3 BK230 hu30 ?_) | (refine lr_ 37 4 BK231 hu37 ?_) | ((with_reducible refine gs_ 30 6 ?_); refine sp_ 30 6 gb232 0 (.agg #[.int .i64 t249, .string t250, .slice Ao53 t251.length co53, .slice Ao54 t254.length co54]) #[.int .i64 t249, .string t250, .slice Ao53 t251.length co53, .slice Ao54 t254.length co54] BK232 ?_; intro w129 hbox hbut; replace HO_10 := ss_ hbut HO_10 BK232; replace HO_258002 := rs_ hbut HO_258002 BK232; replace HO_258003 := rs_ hbut HO_258003 BK232; replace BK230 := bo_ hbut NB230_232 BK230; replace BK231 := bo_ hbut NB231_232 BK231; replace BK232 := Aside0.mk (hbox); replace BK257 := bo_ hbut NB257_232 BK257; replace HB := hs_ HB hbut GE232; clear hbox hbut))
              refine bodyPost_ret (results_list (rs := [.cell 6 30, .tmp 7, .tmp 8, .tmp 9]) rfl (by simp) (.cell gb232 30 #[.int .i64 t249, .string t250, .slice Ao53 t251.length co53, .slice Ao54 t254.length co54] (0, 0) _ rfl (kl_ BK232) Tryd.underlying30 rfl (by kernel_rfl) (.tmp (.tmp (.tmp .nil))))) rfl ?_
              exact ⟨_, _, _, re_, rm_ HO_258002, rm_ HO_258003, sl_ HO_10, bl_⟩
            ·rw [if_neg c116] at H
             have c116b0 := beq_eq_false_iff_ne.mpr c116
             have c116b1 := bne_iff_ne.mpr c116
             have H' := Aside0.mk H
             clear H
             try simp only [c77b0, c77b1, c78b0, c78b1, c116b0, c116b1, Bool.not_true, Bool.not_false]
             go_wp2
             go_meet
             case rel => exact ⟨_, (0), ((⟨#[]⟩ : ByteArray)), H', ⟨by have := HJ64.out; first | omega | exact Nat.le_refl _⟩, ⟨sl_ HO_10⟩, ⟨rl_ HO_12⟩, ⟨rl_ HO_258002⟩, ⟨rl_ HO_258003⟩, ⟨kl_ BK230⟩, ⟨kl_ BK231⟩, ⟨kl_ BK232⟩, ⟨kl_ BK257⟩, ⟨bl_⟩⟩
          ·rw [if_neg c77] at H
           have c77b0 := beq_eq_false_iff_ne.mpr c77
           have c77b1 := bne_iff_ne.mpr c77
           simp only [Option.some.injEq, Prod.mk.injEq] at H
           obtain ⟨rfl, rfl, rfl, rfl, rfl, rfl, rfl⟩ := H
           try simp only [c77b0, c77b1, Bool.not_true, Bool.not_false]
           have hnb138 := NB257_231.out
           have hnc138 := NB231_257.out
           have hnb139 := NB257_232.out
           have hnc139 := NB232_257.out
           go_wp2_with (first | (refine lr_ 30 11 BK257 hu30 ?_) | (refine lr_ 30 3 BK230 hu30 ?_) | (refine lr_ 37 4 BK231 hu37 ?_) | ((with_reducible refine gs_ 30 6 ?_); refine sp_ 30 6 gb232 0 (.agg #[.int .i64 t249, .string t250, .slice Ao53 t251.length co53, .slice Ao54 t254.length co54]) #[.int .i64 t249, .string t250, .slice Ao53 t251.length co53, .slice Ao54 t254.length co54] BK232 ?_; intro w141 hbox hbut; replace HO_10 := ss_ hbut HO_10 BK232; replace HO_258002 := rs_ hbut HO_258002 BK232; replace HO_258003 := rs_ hbut HO_258003 BK232; replace BK230 := bo_ hbut NB230_232 BK230; replace BK231 := bo_ hbut NB231_232 BK231; replace BK232 := Aside0.mk (hbox); replace BK257 := bo_ hbut NB257_232 BK257; replace HB := hs_ HB hbut GE232; clear hbox hbut))
           refine bodyPost_ret (results_list (rs := [.cell 6 30, .tmp 7, .tmp 8, .tmp 9]) rfl (by simp) (.cell gb232 30 #[.int .i64 t249, .string t250, .slice Ao53 t251.length co53, .slice Ao54 t254.length co54] (0, 0) _ rfl (kl_ BK232) Tryd.underlying30 rfl (by kernel_rfl) (.tmp (.tmp (.tmp .nil))))) rfl ?_
           exact ⟨_, _, _, re_, rm_ HO_258002, rm_ HO_258003, sl_ HO_10, bl_⟩
         ·rw [if_neg c76] at H
          have c76b0 := beq_eq_false_iff_ne.mpr c76
          have c76b1 := bne_iff_ne.mpr c76
          by_cases c142 : t262.toList = ([114, 99, 112, 116] : List UInt8)
          ·rw [if_pos c142] at H
           have c142b0 := beq_iff_eq.mpr c142
           have c142b1 := bne_eq_false_iff_eq.mpr c142
           clear c142
           have hnb146 := NB230_231.out
           have hnc146 := NB231_230.out
           have hnb147 := NB230_232.out
           have hnc147 := NB232_230.out
           have hnb148 := NB230_257.out
           have hnc148 := NB257_230.out
           have hcz149 := blk_cell BK230.out
           have hfz149 := blk_frozen BK230.out
           by_cases c143 : a0_0 = 2
           ·rw [if_pos c143] at H
            have c143b0 := beq_iff_eq.mpr c143
            have c143b1 := bne_eq_false_iff_eq.mpr c143
            clear c143
            by_cases c144 : t262.toList = ([100, 97, 116, 97] : List UInt8)
            ·rw [if_pos c144] at H
             have c144b0 := beq_iff_eq.mpr c144
             have c144b1 := bne_eq_false_iff_eq.mpr c144
             clear c144
             by_cases c145 : a0_0 = 3
             ·rw [if_pos c145] at H
              have c145b0 := beq_iff_eq.mpr c145
              have c145b1 := bne_eq_false_iff_eq.mpr c145
              clear c145
              have H' := Aside0.mk H
              clear H
              try simp only [c143b0, c143b1, c144b0, c144b1, c145b0, c145b1, Bool.not_true, Bool.not_false]
              go_wp2
              go_meet
              case rel => exact ⟨_, (0), ((⟨#[]⟩ : ByteArray)), H', ⟨by have := HJ64.out; first | omega | exact Nat.le_refl _⟩, ⟨sl_ HO_10⟩, ⟨rl_ HO_12⟩, ⟨rl_ HO_258002⟩, ⟨rl_ HO_258003⟩, ⟨kl_ BK230⟩, ⟨kl_ BK231⟩, ⟨kl_ BK232⟩, ⟨kl_ BK257⟩, ⟨bl_⟩⟩
             ·rw [if_neg c145] at H
              have c145b0 := beq_eq_false_iff_ne.mpr c145
              have c145b1 := bne_iff_ne.mpr c145
              simp only [Option.some.injEq, Prod.mk.injEq] at H
              obtain ⟨rfl, rfl, rfl, rfl, rfl, rfl, rfl⟩ := H
              try simp only [c143b0, c143b1, c144b0, c144b1, c145b0, c145b1, Bool.not_true, Bool.not_false]
              have hnb154 := NB257_231.out
              have hnc154 := NB231_257.out
              have hnb155 := NB257_232.out
              have hnc155 := NB232_257.out
              go_wp2_with (first | (refine lr_ 30 11 BK257 hu30 ?_) | (refine lr_ 30 3 BK230 hu30 ?_) | (refine lr_ 37 4 BK231 hu37 ?_) | ((with_reducible refine gs_ 30 6 ?_); refine sp_ 30 6 gb232 0 (.agg #[.int .i64 t249, .string t250, .slice Ao53 t251.length co53, .slice Ao54 t254.length co54]) #[.int .i64 t249, .string t250, .slice Ao53 t251.length co53, .slice Ao54 t254.length co54] BK232 ?_; intro w157 hbox hbut; replace HO_10 := ss_ hbut HO_10 BK232; replace HO_258002 := rs_ hbut HO_258002 BK232; replace HO_258003 := rs_ hbut HO_258003 BK232; replace BK230 := bo_ hbut NB230_232 BK230; replace BK231 := bo_ hbut NB231_232 BK231; replace BK232 := Aside0.mk (hbox); replace BK257 := bo_ hbut NB257_232 BK257; replace HB := hs_ HB hbut GE232; clear hbox hbut))
              refine bodyPost_ret (results_list (rs := [.cell 6 30, .tmp 7, .tmp 8, .tmp 9]) rfl (by simp) (.cell gb232 30 #[.int .i64 t249, .string t250, .slice Ao53 t251.length co53, .slice Ao54 t254.length co54] (0, 0) _ rfl (kl_ BK232) Tryd.underlying30 rfl (by kernel_rfl) (.tmp (.tmp (.tmp .nil))))) rfl ?_
              exact ⟨_, _, _, re_, rm_ HO_258002, rm_ HO_258003, sl_ HO_10, bl_⟩
            ·rw [if_neg c144] at H
             have c144b0 := beq_eq_false_iff_ne.mpr c144
             have c144b1 := bne_iff_ne.mpr c144
             have H' := Aside0.mk H
             clear H
             try simp only [c143b0, c143b1, c144b0, c144b1, Bool.not_true, Bool.not_false]
             go_wp2
             go_meet
             case rel => exact ⟨_, (0), ((⟨#[]⟩ : ByteArray)), H', ⟨by have := HJ64.out; first | omega | exact Nat.le_refl _⟩, ⟨sl_ HO_10⟩, ⟨rl_ HO_12⟩, ⟨rl_ HO_258002⟩, ⟨rl_ HO_258003⟩, ⟨kl_ BK230⟩, ⟨kl_ BK231⟩, ⟨kl_ BK232⟩, ⟨kl_ BK257⟩, ⟨bl_⟩⟩
           ·rw [if_neg c143] at H
            have c143b0 := beq_eq_false_iff_ne.mpr c143
            have c143b1 := bne_iff_ne.mpr c143
            by_cases c162 : a0_0 = 3
            ·rw [if_pos c162] at H
             have c162b0 := beq_iff_eq.mpr c162
             have c162b1 := bne_eq_false_iff_eq.mpr c162
             clear c162
             by_cases c163 : t262.toList = ([100, 97, 116, 97] : List UInt8)
             ·rw [if_pos c163] at H
              have c163b0 := beq_iff_eq.mpr c163
              have c163b1 := bne_eq_false_iff_eq.mpr c163
              clear c163
              have H' := Aside0.mk H
              clear H
              try simp only [c143b0, c143b1, c162b0, c162b1, c163b0, c163b1, Bool.not_true, Bool.not_false]
              go_wp2
              go_meet
              case rel => exact ⟨_, (0), ((⟨#[]⟩ : ByteArray)), H', ⟨by have := HJ64.out; first | omega | exact Nat.le_refl _⟩, ⟨sl_ HO_10⟩, ⟨rl_ HO_12⟩, ⟨rl_ HO_258002⟩, ⟨rl_ HO_258003⟩, ⟨kl_ BK230⟩, ⟨kl_ BK231⟩, ⟨kl_ BK232⟩, ⟨kl_ BK257⟩, ⟨bl_⟩⟩
             ·rw [if_neg c163] at H
              have c163b0 := beq_eq_false_iff_ne.mpr c163
              have c163b1 := bne_iff_ne.mpr c163
              have H' := Aside0.mk H
              clear H
              try simp only [c143b0, c143b1, c162b0, c162b1, c163b0, c163b1, Bool.not_true, Bool.not_false]
              go_wp2
              go_meet
              case rel => exact ⟨_, (0), ((⟨#[]⟩ : ByteArray)), H', ⟨by have := HJ64.out; first | omega | exact Nat.le_refl _⟩, ⟨sl_ HO_10⟩, ⟨rl_ HO_12⟩, ⟨rl_ HO_258002⟩, ⟨rl_ HO_258003⟩, ⟨kl_ BK230⟩, ⟨kl_ BK231⟩, ⟨kl_ BK232⟩, ⟨kl_ BK257⟩, ⟨bl_⟩⟩
            ·rw [if_neg c162] at H
             have c162b0 := beq_eq_false_iff_ne.mpr c162
             have c162b1 := bne_iff_ne.mpr c162
             simp only [Option.some.injEq, Prod.mk.injEq] at H
             obtain ⟨rfl, rfl, rfl, rfl, rfl, rfl, rfl⟩ := H
             try simp only [c143b0, c143b1, c162b0, c162b1, Bool.not_true, Bool.not_false]
             have hnb176 := NB257_231.out
             have hnc176 := NB231_257.out
             have hnb177 := NB257_232.out
             have hnc177 := NB232_257.out
             go_wp2_with (first | (refine lr_ 30 11 BK257 hu30 ?_) | (refine lr_ 30 3 BK230 hu30 ?_) | (refine lr_ 37 4 BK231 hu37 ?_) | ((with_reducible refine gs_ 30 6 ?_); refine sp_ 30 6 gb232 0 (.agg #[.int .i64 t249, .string t250, .slice Ao53 t251.length co53, .slice Ao54 t254.length co54]) #[.int .i64 t249, .string t250, .slice Ao53 t251.length co53, .slice Ao54 t254.length co54] BK232 ?_; intro w179 hbox hbut; replace HO_10 := ss_ hbut HO_10 BK232; replace HO_258002 := rs_ hbut HO_258002 BK232; replace HO_258003 := rs_ hbut HO_258003 BK232; replace BK230 := bo_ hbut NB230_232 BK230; replace BK231 := bo_ hbut NB231_232 BK231; replace BK232 := Aside0.mk (hbox); replace BK257 := bo_ hbut NB257_232 BK257; replace HB := hs_ HB hbut GE232; clear hbox hbut))
             refine bodyPost_ret (results_list (rs := [.cell 6 30, .tmp 7, .tmp 8, .tmp 9]) rfl (by simp) (.cell gb232 30 #[.int .i64 t249, .string t250, .slice Ao53 t251.length co53, .slice Ao54 t254.length co54] (0, 0) _ rfl (kl_ BK232) Tryd.underlying30 rfl (by kernel_rfl) (.tmp (.tmp (.tmp .nil))))) rfl ?_
             exact ⟨_, _, _, re_, rm_ HO_258002, rm_ HO_258003, sl_ HO_10, bl_⟩
          ·rw [if_neg c142] at H
           have c142b0 := beq_eq_false_iff_ne.mpr c142
           have c142b1 := bne_iff_ne.mpr c142
           by_cases c180 : t262.toList = ([100, 97, 116, 97] : List UInt8)
           ·rw [if_pos c180] at H
            have c180b0 := beq_iff_eq.mpr c180
            have c180b1 := bne_eq_false_iff_eq.mpr c180
            clear c180
            have hnb182 := NB230_231.out
            have hnc182 := NB231_230.out
            have hnb183 := NB230_232.out
            have hnc183 := NB232_230.out
            have hnb184 := NB230_257.out
            have hnc184 := NB257_230.out
            have hcz185 := blk_cell BK230.out
            have hfz185 := blk_frozen BK230.out
            by_cases c181 : a0_0 = 3
            ·rw [if_pos c181] at H
             have c181b0 := beq_iff_eq.mpr c181
             have c181b1 := bne_eq_false_iff_eq.mpr c181
             clear c181
             have H' := Aside0.mk H
             clear H
             try simp only [c181b0, c181b1, Bool.not_true, Bool.not_false]
             go_wp2
             go_meet
             case rel => exact ⟨_, (0), ((⟨#[]⟩ : ByteArray)), H', ⟨by have := HJ64.out; first | omega | exact Nat.le_refl _⟩, ⟨sl_ HO_10⟩, ⟨rl_ HO_12⟩, ⟨rl_ HO_258002⟩, ⟨rl_ HO_258003⟩, ⟨kl_ BK230⟩, ⟨kl_ BK231⟩, ⟨kl_ BK232⟩, ⟨kl_ BK257⟩, ⟨bl_⟩⟩
            ·rw [if_neg c181] at H
             have c181b0 := beq_eq_false_iff_ne.mpr c181
             have c181b1 := bne_iff_ne.mpr c181
             simp only [Option.some.injEq, Prod.mk.injEq] at H
             obtain ⟨rfl, rfl, rfl, rfl, rfl, rfl, rfl⟩ := H
             try simp only [c181b0, c181b1, Bool.not_true, Bool.not_false]
             have hnb190 := NB257_231.out
             have hnc190 := NB231_257.out
             have hnb191 := NB257_232.out
             have hnc191 := NB232_257.out
             go_wp2_with (first | (refine lr_ 30 11 BK257 hu30 ?_) | (refine lr_ 30 3 BK230 hu30 ?_) | (refine lr_ 37 4 BK231 hu37 ?_) | ((with_reducible refine gs_ 30 6 ?_); refine sp_ 30 6 gb232 0 (.agg #[.int .i64 t249, .string t250, .slice Ao53 t251.length co53, .slice Ao54 t254.length co54]) #[.int .i64 t249, .string t250, .slice Ao53 t251.length co53, .slice Ao54 t254.length co54] BK232 ?_; intro w193 hbox hbut; replace HO_10 := ss_ hbut HO_10 BK232; replace HO_258002 := rs_ hbut HO_258002 BK232; replace HO_258003 := rs_ hbut HO_258003 BK232; replace BK230 := bo_ hbut NB230_232 BK230; replace BK231 := bo_ hbut NB231_232 BK231; replace BK232 := Aside0.mk (hbox); replace BK257 := bo_ hbut NB257_232 BK257; replace HB := hs_ HB hbut GE232; clear hbox hbut))
             refine bodyPost_ret (results_list (rs := [.cell 6 30, .tmp 7, .tmp 8, .tmp 9]) rfl (by simp) (.cell gb232 30 #[.int .i64 t249, .string t250, .slice Ao53 t251.length co53, .slice Ao54 t254.length co54] (0, 0) _ rfl (kl_ BK232) Tryd.underlying30 rfl (by kernel_rfl) (.tmp (.tmp (.tmp .nil))))) rfl ?_
             exact ⟨_, _, _, re_, rm_ HO_258002, rm_ HO_258003, sl_ HO_10, bl_⟩
           ·rw [if_neg c180] at H
            have c180b0 := beq_eq_false_iff_ne.mpr c180
            have c180b1 := bne_iff_ne.mpr c180
            have H' := Aside0.mk H
            clear H
            go_wp2
            go_meet
            case rel => exact ⟨_, (0), ((⟨#[]⟩ : ByteArray)), H', ⟨by have := HJ64.out; first | omega | exact Nat.le_refl _⟩, ⟨sl_ HO_10⟩, ⟨rl_ HO_12⟩, ⟨rl_ HO_258002⟩, ⟨rl_ HO_258003⟩, ⟨kl_ BK230⟩, ⟨kl_ BK231⟩, ⟨kl_ BK232⟩, ⟨kl_ BK257⟩, ⟨bl_⟩⟩
    case rest =>
     clear HC43
     try clear c1
     try clear p2
     try clear c7
     try clear c8
     try clear c9
     try clear c10
     try clear c11
     try clear c12
     try clear c13
     try clear c14
     try clear c15
     try clear c16
     try clear c17
     try clear c18
     try clear c19
     try clear c70
     try clear c71
     try clear c72
     try clear c73
     try clear c76
     try clear c76b0
     try clear c76b1
     try clear c77
     try clear c77b0
     try clear c77b1
     try clear c78
     try clear c78b0
     try clear c78b1
     try clear c79
     try clear c79b0
     try clear c79b1
     try clear c80
     try clear c80b0
     try clear c80b1
     try clear c81
     try clear c81b0
     try clear c81b1
     try clear c82
     try clear c83
     try clear c84
     try clear c86
     try clear c87
     try clear c88
     try clear c90
     try clear c91
     try clear c94
     try clear c95
     try clear c96
     try clear c98
     try clear c98b0
     try clear c98b1
     try clear c99
     try clear c99b0
     try clear c99b1
     try clear c100
     try clear c101
     try clear c102
     try clear c104
     try clear c105
     try clear c106
     try clear c108
     try clear c109
     try clear c110
     try clear c112
     try clear c113
     try clear c116
     try clear c116b0
     try clear c116b1
     try clear c117
     try clear c117b0
     try clear c117b1
     try clear c118
     try clear c119
     try clear c120
     try clear c122
     try clear c123
     try clear c124
     try clear c126
     try clear c127
     try clear c130
     try clear c131
     try clear c132
     try clear c134
     try clear c135
     try clear c136
     try clear c138
     try clear c139
     try clear c142
     try clear c142b0
     try clear c142b1
     try clear c143
     try clear c143b0
     try clear c143b1
     try clear c144
     try clear c144b0
     try clear c144b1
     try clear c145
     try clear c145b0
     try clear c145b1
     try clear c146
     try clear c147
     try clear c148
     try clear c150
     try clear c151
     try clear c152
     try clear c154
     try clear c155
     try clear c158
     try clear c159
     try clear c160
     try clear c162
     try clear c162b0
     try clear c162b1
     try clear c163
     try clear c163b0
     try clear c163b1
     try clear c164
     try clear c165
     try clear c166
     try clear c168
     try clear c169
     try clear c170
     try clear c172
     try clear c173
     try clear c174
     try clear c176
     try clear c177
     try clear c180
     try clear c180b0
     try clear c180b1
     try clear c181
     try clear c181b0
     try clear c181b1
     try clear c182
     try clear c183
     try clear c184
     try clear c186
     try clear c187
     try clear c188
     try clear c190
     try clear c191
     try clear hcz103
     try clear hcz107
     try clear hcz111
     try clear hcz114_0 hcz114_1 hcz114_2 hcz114_3
     try clear hcz121
     try clear hcz125
     try clear hcz128_0 hcz128_1 hcz128_2 hcz128_3
     try clear hcz133
     try clear hcz137
     try clear hcz140_0 hcz140_1 hcz140_2 hcz140_3
     try clear hcz149
     try clear hcz153
     try clear hcz156_0 hcz156_1 hcz156_2 hcz156_3
     try clear hcz161
     try clear hcz167
     try clear hcz171
     try clear hcz175
     try clear hcz178_0 hcz178_1 hcz178_2 hcz178_3
     try clear hcz185
     try clear hcz189
     try clear hcz192_0 hcz192_1 hcz192_2 hcz192_3
     try clear hcz74_0 hcz74_1 hcz74_2 hcz74_3
     try clear hcz85
     try clear hcz89
     try clear hcz92_0 hcz92_1 hcz92_2 hcz92_3
     try clear hcz97
     try clear hfz103
     try clear hfz107
     try clear hfz111
     try clear hfz114_0 hfz114_1 hfz114_2 hfz114_3
     try clear hfz121
     try clear hfz125
     try clear hfz128_0 hfz128_1 hfz128_2 hfz128_3
     try clear hfz133
     try clear hfz137
     try clear hfz140_0 hfz140_1 hfz140_2 hfz140_3
     try clear hfz149
     try clear hfz153
     try clear hfz156_0 hfz156_1 hfz156_2 hfz156_3
     try clear hfz161
     try clear hfz167
     try clear hfz171
     try clear hfz175
     try clear hfz178_0 hfz178_1 hfz178_2 hfz178_3
     try clear hfz185
     try clear hfz189
     try clear hfz192_0 hfz192_1 hfz192_2 hfz192_3
     try clear hfz74_0 hfz74_1 hfz74_2 hfz74_3
     try clear hfz85
     try clear hfz89
     try clear hfz92_0 hfz92_1 hfz92_2 hfz92_3
     try clear hfz97
     obtain ⟨kq, x233000_42, x233001_42, HA, HJ42, HO_10, HO_12, HO_258002, HO_258003, BK230, BK231, BK232, BK257, HB⟩ := hcut
     cases kq with
     | zero => exact absurd HA.out (by simp [spec_StepBring.j1])
     | succ kj42 =>
      have H := HA.out
      clear HA
      simp only [spec_StepBring.j1] at H
      by_cases c194 : t262.toList = ([104, 101, 108, 111] : List UInt8)
      ·rw [if_pos c194] at H
       have c194b0 := beq_iff_eq.mpr c194
       have c194b1 := bne_eq_false_iff_eq.mpr c194
       clear c194
       simp only [Option.some.injEq, Prod.mk.injEq] at H
       obtain ⟨rfl, rfl, rfl, rfl, rfl, rfl, rfl⟩ := H
       go_wp2_with (first | (refine lr_ 30 11 BK257 hu30 ?_) | (refine lr_ 30 3 BK230 hu30 ?_) | (refine lr_ 37 4 BK231 hu37 ?_) | ((with_reducible refine gs_ 30 6 ?_); refine sp_ 30 6 gb232 0 (.agg #[.int .i64 1, .string (⟨#[]⟩ : ByteArray), .slice none 0 0, .slice none 0 0]) #[.int .i64 1, .string (⟨#[]⟩ : ByteArray), .slice none 0 0, .slice none 0 0] BK232 ?_; intro w195 hbox hbut; replace HO_10 := ss_ hbut HO_10 BK232; replace BK230 := bo_ hbut NB230_232 BK230; replace BK231 := bo_ hbut NB231_232 BK231; replace BK232 := Aside0.mk (hbox); replace BK257 := bo_ hbut NB257_232 BK257; replace HB := hs_ HB hbut GE232; clear hbox hbut))
       refine bodyPost_ret (results_list (rs := [.cell 6 30, .tmp 7, .tmp 8, .tmp 9]) rfl (by simp) (.cell gb232 30 #[.int .i64 1, .string (⟨#[]⟩ : ByteArray), .slice none 0 0, .slice none 0 0] (0, 0) _ rfl (kl_ BK232) Tryd.underlying30 rfl (by kernel_rfl) (.tmp (.tmp (.tmp .nil))))) rfl ?_
       exact ⟨_, _, _, re_, ni_, ni_, sl_ HO_10, bl_⟩
      ·rw [if_neg c194] at H
       have c194b0 := beq_eq_false_iff_ne.mpr c194
       have c194b1 := bne_iff_ne.mpr c194
       by_cases c196 : t262.toList = ([109, 97, 105, 108] : List UInt8)
       ·rw [if_pos c196] at H
        have c196b0 := beq_iff_eq.mpr c196
        have c196b1 := bne_eq_false_iff_eq.mpr c196
        clear c196
        by_cases c197 : 1 < (t258.length : Int)
        ·rw [if_pos c197] at H
         have c197b0 := decide_eq_true c197
         have c197b1 : decide (1 < t258.length) = true := decide_eq_true (by omega)
         clear c197
         simp only [Option.some.injEq, Prod.mk.injEq] at H
         obtain ⟨rfl, rfl, rfl, rfl, rfl, rfl, rfl⟩ := H
         go_wp2_with (first | (refine lr_ 30 11 BK257 hu30 ?_) | (refine lr_ 30 3 BK230 hu30 ?_) | (refine lr_ 37 4 BK231 hu37 ?_) | ((with_reducible refine gs_ 3 106 ?_); refine sp_ 3 106 gb257 0 (.int .i64 2) #[.int .i64 2, .string t250, .slice Ao53 t251.length co53, .slice Ao54 t254.length co54] BK257 ?_; intro w198 hbox hbut; replace HO_10 := ss_ hbut HO_10 BK257; replace HO_12 := rs_ hbut HO_12 BK257; replace HO_258002 := rs_ hbut HO_258002 BK257; replace HO_258003 := rs_ hbut HO_258003 BK257; replace BK230 := bo_ hbut NB230_257 BK230; replace BK231 := bo_ hbut NB231_257 BK231; replace BK232 := bo_ hbut NB232_257 BK232; replace BK257 := Aside0.mk (hbox); replace HB := hs_ HB hbut GE257; clear hbox hbut; have p266 : 0 ≤ (1 : Int) := (by omega); have q266 : 1 < (t258.length : Int) := od_; obtain ⟨ad266, e266, hx266_0⟩ := Kd.at_string (Kd.R_reads' HO_12.out).2.2 1 p266 q266; obtain rfl : ad261 = ad266 := (by injection e266); (try simp only [show (1 : Int).toNat = 1 from rfl, Nat.reduceMul, Nat.reduceEqDiff, Go.Addr.add, ↓reduceIte] at hx266_0); have qi266 : (1 < t258.length) = True := eq_true (by omega); (try rw [show ((1 : Int)).toNat = 1 from rfl] at hx266_0); replace p266 := eq_true p266; replace q266 := eq_true q266) | ((with_reducible refine gs_ 9 110 ?_); refine sp_ 9 110 gb257 1 (.string (rdOf ByteArray.empty t258 1)) #[.int .i64 2, .string (rdOf ByteArray.empty t258 1), .slice Ao53 t251.length co53, .slice Ao54 t254.length co54] BK257 ?_; intro w199 hbox hbut; replace HO_10 := ss_ hbut HO_10 BK257; replace HO_258002 := rs_ hbut HO_258002 BK257; replace HO_258003 := rs_ hbut HO_258003 BK257; replace BK230 := bo_ hbut NB230_257 BK230; replace BK231 := bo_ hbut NB231_257 BK231; replace BK232 := bo_ hbut NB232_257 BK232; replace BK257 := Aside0.mk (hbox); replace HB := hs_ HB hbut GE257; clear hbox hbut; have hnb200 := NB257_230.out; have hnc200 := NB230_257.out; have hnb201 := NB257_231.out; have hnc201 := NB231_257.out; have hnb202 := NB257_232.out; have hnc202 := NB232_257.out) | ((with_reducible refine gs_ 30 6 ?_); refine sp_ 30 6 gb232 0 (.agg #[.int .i64 2, .string (rdOf ByteArray.empty t258 1), .slice Ao53 t251.length co53, .slice Ao54 t254.length co54]) #[.int .i64 2, .string (rdOf ByteArray.empty t258 1), .slice Ao53 t251.length co53, .slice Ao54 t254.length co54] BK232 ?_; intro w204 hbox hbut; replace HO_10 := ss_ hbut HO_10 BK232; replace HO_258002 := rs_ hbut HO_258002 BK232; replace HO_258003 := rs_ hbut HO_258003 BK232; replace BK230 := bo_ hbut NB230_232 BK230; replace BK231 := bo_ hbut NB231_232 BK231; replace BK232 := Aside0.mk (hbox); replace BK257 := bo_ hbut NB257_232 BK257; replace HB := hs_ HB hbut GE232; clear hbox hbut))
         refine bodyPost_ret (results_list (rs := [.cell 6 30, .tmp 7, .tmp 8, .tmp 9]) rfl (by simp) (.cell gb232 30 #[.int .i64 2, .string (rdOf ByteArray.empty t258 1), .slice Ao53 t251.length co53, .slice Ao54 t254.length co54] (0, 0) _ rfl (kl_ BK232) Tryd.underlying30 rfl (by kernel_rfl) (.tmp (.tmp (.tmp .nil))))) rfl ?_
         exact ⟨_, _, _, re_, rm_ HO_258002, rm_ HO_258003, sl_ HO_10, bl_⟩
        ·rw [if_neg c197] at H
         exact absurd H (by simp)
       ·rw [if_neg c196] at H
        have c196b0 := beq_eq_false_iff_ne.mpr c196
        have c196b1 := bne_iff_ne.mpr c196
        by_cases c205 : t262.toList = ([114, 99, 112, 116] : List UInt8)
        ·rw [if_pos c205] at H
         have c205b0 := beq_iff_eq.mpr c205
         have c205b1 := bne_eq_false_iff_eq.mpr c205
         clear c205
         by_cases c206 : 1 < (t258.length : Int)
         ·rw [if_pos c206] at H
          have c206b0 := decide_eq_true c206
          have c206b1 : decide (1 < t258.length) = true := decide_eq_true (by omega)
          clear c206
          obtain ⟨⟨t268, t269, t270, t273, t276⟩, A207, H⟩ := bs_ H
          (try set_option simprocs false in dsimp only at H)
          simp only [Option.some.injEq, Prod.mk.injEq] at H
          obtain ⟨rfl, rfl, rfl, rfl, rfl, rfl, rfl⟩ := H
          try go_wp2
          replace HO_10 := Aside0.mk (Kd.S_drew HO_10.out)
          replace HO_12 := Aside0.mk (Kd.R_drew HO_12.out)
          replace HO_258002 := Aside0.mk (Kd.R_drew HO_258002.out)
          replace HO_258003 := Aside0.mk (Kd.R_drew HO_258003.out)
          replace BK230 := Aside0.mk (blk_drew BK230.out)
          replace BK231 := Aside0.mk (blk_drew BK231.out)
          replace BK232 := Aside0.mk (blk_drew BK232.out)
          replace BK257 := Aside0.mk (blk_drew BK257.out)
          replace HB := hd_ HB
          have p267 : 0 ≤ (1 : Int) := (by omega)
          have q267 : 1 < (t258.length : Int) := od_
          obtain ⟨ad267, e267, hx267_0⟩ := Kd.at_string (Kd.R_reads' HO_12.out).2.2 1 p267 q267
          obtain rfl : ad261 = ad267 := (by injection e267)
          (try simp only [show (1 : Int).toNat = 1 from rfl, Nat.reduceMul, Nat.reduceEqDiff, Go.Addr.add, ↓reduceIte] at hx267_0)
          have qi267 : (1 < t258.length) = True := eq_true (by omega)
          (try rw [show ((1 : Int)).toNat = 1 from rfl] at hx267_0)
          replace p267 := eq_true p267
          replace q267 := eq_true q267
          refine start_ (n := 12) (S := fun w' => w'.cell? ⟨gb230, 0, none⟩ = some (.int .i64 a0_0) ∧ w'.cell? ⟨gb230, 1, none⟩ = some (.string a0_1) ∧ w'.cell? ⟨gb230, 2, none⟩ = some (.slice A0_2 l0_2.length c0_2) ∧ w'.cell? ⟨gb230, 3, none⟩ = some (.slice A0_3 l0_3.length c0_3) ∧ w'.cell? ⟨gb231, 0, none⟩ = some (.slice A1_0 l1_0.length c1_0) ∧ w'.cell? ⟨ad261.block, ad261.off + 1, none⟩ = some (.string (rdOf ByteArray.empty t258 1))) (ds := []) (fl 12 0) (by kernel_rfl) rfl rfl ⟨bc_ BK230 0, bc_ BK230 1, bc_ BK230 2, bc_ BK230 3, bc_ BK231 0, hx267_0⟩ (fun hHeld => ?_); refine with_tabW spec_StepBring.tab23 spec_StepBring.bits23 (fun HT_ HW_ => ?_)
          generalize wc.drew = w208 at HO_10 HO_12 HO_258002 HO_258003 BK230 BK231 BK232 BK257 HB hx267_0 hHeld ⊢
          refine pq_ 2 116 (fl 12 4) HT_.out ?_
          refine pq_ 3 117 (fl 12 12) HT_.out ?_
          refine tq_ 0 114 (fl 12 13) HT_.out HW_.out hHeld ?_
          refine tq_ 1 115 (fl 12 15) HT_.out HW_.out hHeld ?_
          refine tq_ 4 118 (fl 12 31) HT_.out HW_.out hHeld ?_
          refine join_ (σ := Value × Value × Nat) 2 (fl 12 1023) (fun s_ => [(119, .tuple #[.agg #[.int .i64 t268, .string t269, s_.1, s_.2.1], .string t276]), (15, .pointer (some ⟨s_.2.2, 0, none⟩)), (113, .tuple #[.agg #[.int .i64 t268, .string t269, s_.1, s_.2.1], .string t276]), (120, .agg #[.int .i64 t268, .string t269, s_.1, s_.2.1]), (121, .string t276)]) (fun s_ w' => (w'.cell? ⟨gb230, 0, none⟩ = some (.int .i64 a0_0) ∧ w'.cell? ⟨gb230, 1, none⟩ = some (.string a0_1) ∧ w'.cell? ⟨gb230, 2, none⟩ = some (.slice A0_2 l0_2.length c0_2) ∧ w'.cell? ⟨gb230, 3, none⟩ = some (.slice A0_3 l0_3.length c0_3) ∧ w'.cell? ⟨gb231, 0, none⟩ = some (.slice A1_0 l1_0.length c1_0) ∧ w'.cell? ⟨ad261.block, ad261.off + 1, none⟩ = some (.string (rdOf ByteArray.empty t258 1))) ∧ (Kd.R Kd.string 9 w' w.heap.size (fun k_ => some k_ ≠ (s_.2.1 : Value).ownBlock ∧ some k_ ≠ (.slice (some ad261) t258.length co57 : Value).ownBlock ∧ some k_ ≠ (.slice Ao53 t251.length co53 : Value).ownBlock ∧ some k_ ≠ (.slice Ao54 t254.length co54 : Value).ownBlock) s_.1 t270) ∧ (Kd.R Kd.string 9 w' w.heap.size (fun k_ => some k_ ≠ (s_.1 : Value).ownBlock ∧ some k_ ≠ (.slice (some ad261) t258.length co57 : Value).ownBlock ∧ some k_ ≠ (.slice Ao53 t251.length co53 : Value).ownBlock ∧ some k_ ≠ (.slice Ao54 t254.length co54 : Value).ownBlock) s_.2.1 t273) ∧ (Kd.S k65 65 w' w.heap.size (fun _ => True) v234 y233) ∧ (Kd.R Kd.string 9 w' w.heap.size (fun k_ => some k_ ≠ (s_.1 : Value).ownBlock ∧ some k_ ≠ (s_.2.1 : Value).ownBlock ∧ some k_ ≠ (.slice Ao53 t251.length co53 : Value).ownBlock ∧ some k_ ≠ (.slice Ao54 t254.length co54 : Value).ownBlock) (.slice (some ad261) t258.length co57) t258) ∧ (Kd.R Kd.string 9 w' w.heap.size (fun k_ => some k_ ≠ (s_.1 : Value).ownBlock ∧ some k_ ≠ (s_.2.1 : Value).ownBlock ∧ some k_ ≠ (.slice (some ad261) t258.length co57 : Value).ownBlock ∧ some k_ ≠ (.slice Ao54 t254.length co54 : Value).ownBlock) (.slice Ao53 t251.length co53) t251) ∧ (Kd.R Kd.string 9 w' w.heap.size (fun k_ => some k_ ≠ (s_.1 : Value).ownBlock ∧ some k_ ≠ (s_.2.1 : Value).ownBlock ∧ some k_ ≠ (.slice (some ad261) t258.length co57 : Value).ownBlock ∧ some k_ ≠ (.slice Ao53 t251.length co53 : Value).ownBlock) (.slice Ao54 t254.length co54) t254) ∧ (w'.heap[gb230]? = some (.cells #[.int .i64 a0_0, .string a0_1, .slice A0_2 l0_2.length c0_2, .slice A0_3 l0_3.length c0_3] 30 (0, 0))) ∧ (w'.heap[gb231]? = some (.cells #[.slice A1_0 l1_0.length c1_0] 37 (0, 0))) ∧ (w'.heap[gb232]? = some (.cells #[.int .i64 x233000_42, .string x233001_42, .slice none 0 0, .slice none 0 0] 30 (0, 0))) ∧ (w'.heap[gb257]? = some (.cells #[.int .i64 t249, .string t250, .slice Ao53 t251.length co53, .slice Ao54 t254.length co54] 30 (0, 0))) ∧ (w'.heap[s_.2.2]? = some (.cells #[.int .i64 0, .string (⟨#[]⟩ : ByteArray), .slice none 0 0, .slice none 0 0] 30 (0, 0))) ∧ (w.heap.size ≤ s_.2.2) ∧ (w.heap.size ≤ s_.2.2) ∧ (gb230 ≠ s_.2.2) ∧ (s_.2.2 ≠ gb230) ∧ (gb231 ≠ s_.2.2) ∧ (s_.2.2 ≠ gb231) ∧ (gb232 ≠ s_.2.2) ∧ (s_.2.2 ≠ gb232) ∧ (gb257 ≠ s_.2.2) ∧ (s_.2.2 ≠ gb257) ∧ (Below w.heap.size w w')) ?_ ?_
          rotate_left
          ·intro hCont
           refine two_ (i := 5) (j := 9) (Ni := some 119) (Nj := some 15) (fl 12 63) (fl 12 543) rfl rfl rfl rfl (two_of HT_.out (by kernel_rfl)) (by decide) (by decide) (fun K hK => ?_) (fun K hK => ?_)
           ·skip
            refine go_ Tryd.func26 #[.agg #[.int .i64 a0_0, .string a0_1, .slice A0_2 l0_2.length c0_2, .slice A0_3 l0_3.length c0_3], .agg #[.slice A1_0 l1_0.length c1_0], .string (rdOf ByteArray.empty t258 1)] ?_
            with_reducible refine (spec_l19Rcpt.calls kj42 a0_0 a0_1 _ _ l0_2 _ _ l0_3 _ _ l1_0 (rdOf ByteArray.empty t258 1) t268 t269 t270 t273 t276 _ ?side1 ?side2 ?side3 ?side4 ?side5 ?side6 A207.out).mono ?_
            (case side1 => exact (Kd.C_below HR0_2.out HB.out))
            (case side2 => exact HC0_2.out)
            (case side3 => exact (Kd.C_below HR0_3.out HB.out))
            (case side4 => exact HC0_3.out)
            (case side5 => exact (Kd.C_below HR1_0.out HB.out))
            (case side6 => exact HC1_0.out)
            rintro e w209 ⟨v271, v274, rfl, ho0, ho1, hb⟩
            have HS5_ := (hb.cell (World.block_lt_of_cell? _ _ (hHeld.2.2.2.2.2))).trans (hHeld.2.2.2.2.2)
            refine ⟨_, rfl, ?_⟩
            replace HO_10 := sb_ HO_10 hb
            have HO272 := Aside0.mk (Kd.R_lower (Kd.R_new' (Kd.R_new' (Kd.R_new' ho0 (Kd.R_lt HO_12.out)) (Kd.R_lt HO_258002.out)) (Kd.R_lt HO_258003.out)) (below_size HB.out))
            have HO275 := Aside0.mk (Kd.R_lower (Kd.R_new' (Kd.R_new' (Kd.R_new' ho1 (Kd.R_lt HO_12.out)) (Kd.R_lt HO_258002.out)) (Kd.R_lt HO_258003.out)) (below_size HB.out))
            replace HO_12 := rt2_ HO_12 hb ho0 ho1
            replace HO_258002 := rt2_ HO_258002 hb ho0 ho1
            replace HO_258003 := rt2_ HO_258003 hb ho0 ho1
            replace BK230 := bb_ BK230 hb
            replace BK231 := bb_ BK231 hb
            replace BK232 := bb_ BK232 hb
            replace BK257 := bb_ BK257 hb
            replace HB := hb_ HB hb
            try clear hb
            try clear ho0
            try clear ho1
            refine hK.out _ _ ⟨bc_ BK230 0, bc_ BK230 1, bc_ BK230 2, bc_ BK230 3, bc_ BK231 0, HS5_⟩ (fun hHeld => ?_)
            clear hK K
            refine nq_ ?_
            refine pq_ 6 113 (fl 12 127) HT_.out ?_
            refine pq_ 7 120 (fl 12 255) HT_.out ?_
            refine pq_ 8 121 (fl 12 511) HT_.out ?_
            refine one_ (i := 9) (N := some 15) (fl 12 1023) rfl rfl (one_of HT_.out (by kernel_rfl)) (by decide) (fun K hK => ?_)
            refine box_step ?hg (N := 15) ?hd (cs := #[.int .i64 0, .string (⟨#[]⟩ : ByteArray), .slice none 0 0, .slice none 0 0]) (t := 30) ?hr ?_; (case hd => rfl); (case hg => rfl); (case hr => first | (go_simp; done) | (go_simp; rfl))
            intro gb277 hg w210 hbox hb
            have HS5_ := (hb.cell (World.block_lt_of_cell? _ _ (hHeld.2.2.2.2.2))).trans (hHeld.2.2.2.2.2)
            replace HO_10 := sb_ HO_10 hb
            replace HO_12 := rb_ HO_12 hb
            replace HO_258002 := rb_ HO_258002 hb
            replace HO_258003 := rb_ HO_258003 hb
            replace HO272 := rb_ HO272 hb
            replace HO275 := rb_ HO275 hb
            have BK277 := Aside0.mk (hbox)
            have GW277 := ge_ hg HB
            have GE277 := ge_ hg HB
            replace HB := hb_ HB hb
            have NB230_277 := nl_ hg BK230
            have NB277_230 := ng_ hg BK230
            replace BK230 := bb_ BK230 hb
            have NB231_277 := nl_ hg BK231
            have NB277_231 := ng_ hg BK231
            replace BK231 := bb_ BK231 hb
            have NB232_277 := nl_ hg BK232
            have NB277_232 := ng_ hg BK232
            replace BK232 := bb_ BK232 hb
            have NB257_277 := nl_ hg BK257
            have NB277_257 := ng_ hg BK257
            replace BK257 := bb_ BK257 hb
            clear hb hbox hg
            refine hK.out _ _ ⟨bc_ BK230 0, bc_ BK230 1, bc_ BK230 2, bc_ BK230 3, bc_ BK231 0, HS5_⟩ (fun hHeld => ?_)
            clear hK K
            refine nq_ ?_
            exact norm_ (by simp only [putAll, Act.put, List.setIfInBounds_toArray, List.set_cons_zero, List.set_cons_succ]) (hCont (v271, v274, gb277) _ ⟨hHeld, (rm_ HO272), (rm_ HO275), HO_10.out, (rm_ HO_12), (rm_ HO_258002), (rm_ HO_258003), (kl_ BK230), (kl_ BK231), (kl_ BK232), (kl_ BK257), (kl_ BK277), GW277.out, GE277.out, NB230_277.out, NB277_230.out, NB231_277.out, NB277_231.out, NB232_277.out, NB277_232.out, NB257_277.out, NB277_257.out, HB.out⟩)
           ·skip
            refine box_step ?hg (N := 15) ?hd (cs := #[.int .i64 0, .string (⟨#[]⟩ : ByteArray), .slice none 0 0, .slice none 0 0]) (t := 30) ?hr ?_; (case hd => rfl); (case hg => rfl); (case hr => first | (go_simp; done) | (go_simp; rfl))
            intro gb277 hg w209 hbox hb
            have HS5_ := (hb.cell (World.block_lt_of_cell? _ _ (hHeld.2.2.2.2.2))).trans (hHeld.2.2.2.2.2)
            replace HO_10 := sb_ HO_10 hb
            replace HO_12 := rb_ HO_12 hb
            replace HO_258002 := rb_ HO_258002 hb
            replace HO_258003 := rb_ HO_258003 hb
            have BK277 := Aside0.mk (hbox)
            have GW277 := ge_ hg HB
            have GE277 := ge_ hg HB
            replace HB := hb_ HB hb
            have NB230_277 := nl_ hg BK230
            have NB277_230 := ng_ hg BK230
            replace BK230 := bb_ BK230 hb
            have NB231_277 := nl_ hg BK231
            have NB277_231 := ng_ hg BK231
            replace BK231 := bb_ BK231 hb
            have NB232_277 := nl_ hg BK232
            have NB277_232 := ng_ hg BK232
            replace BK232 := bb_ BK232 hb
            have NB257_277 := nl_ hg BK257
            have NB277_257 := ng_ hg BK257
            replace BK257 := bb_ BK257 hb
            clear hb hbox hg
            refine hK.out _ _ ⟨bc_ BK230 0, bc_ BK230 1, bc_ BK230 2, bc_ BK230 3, bc_ BK231 0, HS5_⟩ (fun hHeld => ?_)
            clear hK K
            refine nq_ ?_
            refine one_ (i := 5) (N := some 119) (fl 12 575) rfl rfl (one_of HT_.out (by kernel_rfl)) (by decide) (fun K hK => ?_)
            refine go_ Tryd.func26 #[.agg #[.int .i64 a0_0, .string a0_1, .slice A0_2 l0_2.length c0_2, .slice A0_3 l0_3.length c0_3], .agg #[.slice A1_0 l1_0.length c1_0], .string (rdOf ByteArray.empty t258 1)] ?_
            with_reducible refine (spec_l19Rcpt.calls kj42 a0_0 a0_1 _ _ l0_2 _ _ l0_3 _ _ l1_0 (rdOf ByteArray.empty t258 1) t268 t269 t270 t273 t276 _ ?side1 ?side2 ?side3 ?side4 ?side5 ?side6 A207.out).mono ?_
            (case side1 => exact (Kd.C_below HR0_2.out HB.out))
            (case side2 => exact HC0_2.out)
            (case side3 => exact (Kd.C_below HR0_3.out HB.out))
            (case side4 => exact HC0_3.out)
            (case side5 => exact (Kd.C_below HR1_0.out HB.out))
            (case side6 => exact HC1_0.out)
            rintro e w210 ⟨v271, v274, rfl, ho0, ho1, hb⟩
            have HS5_ := (hb.cell (World.block_lt_of_cell? _ _ (hHeld.2.2.2.2.2))).trans (hHeld.2.2.2.2.2)
            refine ⟨_, rfl, ?_⟩
            replace HO_10 := sb_ HO_10 hb
            have HO272 := Aside0.mk (Kd.R_lower (Kd.R_new' (Kd.R_new' (Kd.R_new' ho0 (Kd.R_lt HO_12.out)) (Kd.R_lt HO_258002.out)) (Kd.R_lt HO_258003.out)) (below_size HB.out))
            have HO275 := Aside0.mk (Kd.R_lower (Kd.R_new' (Kd.R_new' (Kd.R_new' ho1 (Kd.R_lt HO_12.out)) (Kd.R_lt HO_258002.out)) (Kd.R_lt HO_258003.out)) (below_size HB.out))
            replace HO_12 := rt2_ HO_12 hb ho0 ho1
            replace HO_258002 := rt2_ HO_258002 hb ho0 ho1
            replace HO_258003 := rt2_ HO_258003 hb ho0 ho1
            replace BK230 := bb_ BK230 hb
            replace BK231 := bb_ BK231 hb
            replace BK232 := bb_ BK232 hb
            replace BK257 := bb_ BK257 hb
            replace BK277 := bb_ BK277 hb
            replace HB := hb_ HB hb
            try clear hb
            try clear ho0
            try clear ho1
            refine hK.out _ _ ⟨bc_ BK230 0, bc_ BK230 1, bc_ BK230 2, bc_ BK230 3, bc_ BK231 0, HS5_⟩ (fun hHeld => ?_)
            clear hK K
            refine nq_ ?_
            refine pq_ 6 113 (fl 12 639) HT_.out ?_
            refine pq_ 7 120 (fl 12 767) HT_.out ?_
            refine pq_ 8 121 (fl 12 1023) HT_.out ?_
            exact norm_ (by simp only [putAll, Act.put, List.setIfInBounds_toArray, List.set_cons_zero, List.set_cons_succ]) (hCont (v271, v274, gb277) _ ⟨hHeld, (rm_ HO272), (rm_ HO275), HO_10.out, (rm_ HO_12), (rm_ HO_258002), (rm_ HO_258003), (kl_ BK230), (kl_ BK231), (kl_ BK232), (kl_ BK257), (kl_ BK277), GW277.out, GE277.out, NB230_277.out, NB277_230.out, NB231_277.out, NB277_231.out, NB232_277.out, NB277_232.out, NB257_277.out, NB277_257.out, HB.out⟩)
          rintro ⟨v271, v274, gb277⟩ w211 ⟨hS_, h0_, h1_, h2_, h3_, h4_, h5_, h6_, h7_, h8_, h9_, h10_, h11_, h12_, h13_, h14_, h15_, h16_, h17_, h18_, h19_, h20_, h21_⟩
          have n0_ : Aside0 (Kd.R Kd.string 9 w211 w.heap.size (fun k_ => some k_ ≠ (v274 : Value).ownBlock ∧ some k_ ≠ (.slice (some ad261) t258.length co57 : Value).ownBlock ∧ some k_ ≠ (.slice Ao53 t251.length co53 : Value).ownBlock ∧ some k_ ≠ (.slice Ao54 t254.length co54 : Value).ownBlock) v271 t270) := ⟨h0_⟩
          have n1_ : Aside0 (Kd.R Kd.string 9 w211 w.heap.size (fun k_ => some k_ ≠ (v271 : Value).ownBlock ∧ some k_ ≠ (.slice (some ad261) t258.length co57 : Value).ownBlock ∧ some k_ ≠ (.slice Ao53 t251.length co53 : Value).ownBlock ∧ some k_ ≠ (.slice Ao54 t254.length co54 : Value).ownBlock) v274 t273) := ⟨h1_⟩
          have n2_ : Aside0 (Kd.S k65 65 w211 w.heap.size (fun _ => True) v234 y233) := ⟨h2_⟩
          have n3_ : Aside0 (Kd.R Kd.string 9 w211 w.heap.size (fun k_ => some k_ ≠ (v271 : Value).ownBlock ∧ some k_ ≠ (v274 : Value).ownBlock ∧ some k_ ≠ (.slice Ao53 t251.length co53 : Value).ownBlock ∧ some k_ ≠ (.slice Ao54 t254.length co54 : Value).ownBlock) (.slice (some ad261) t258.length co57) t258) := ⟨h3_⟩
          have n8_ : Aside0 (w211.heap[gb232]? = some (.cells #[.int .i64 x233000_42, .string x233001_42, .slice none 0 0, .slice none 0 0] 30 (0, 0))) := ⟨h8_⟩
          have n10_ : Aside0 (w211.heap[gb277]? = some (.cells #[.int .i64 0, .string (⟨#[]⟩ : ByteArray), .slice none 0 0, .slice none 0 0] 30 (0, 0))) := ⟨h10_⟩
          have n12_ : Aside0 (w.heap.size ≤ gb277) := ⟨h12_⟩
          have n13_ : Aside0 (gb230 ≠ gb277) := ⟨h13_⟩
          have n14_ : Aside0 (gb277 ≠ gb230) := ⟨h14_⟩
          have n15_ : Aside0 (gb231 ≠ gb277) := ⟨h15_⟩
          have n16_ : Aside0 (gb277 ≠ gb231) := ⟨h16_⟩
          have n17_ : Aside0 (gb232 ≠ gb277) := ⟨h17_⟩
          have n18_ : Aside0 (gb277 ≠ gb232) := ⟨h18_⟩
          have n19_ : Aside0 (gb257 ≠ gb277) := ⟨h19_⟩
          have n20_ : Aside0 (gb277 ≠ gb257) := ⟨h20_⟩
          have n21_ : Aside0 (Below w.heap.size w w211) := ⟨h21_⟩
          clear HO_10
          clear HO_12
          clear HO_258002
          clear HO_258003
          clear BK230
          clear BK231
          clear BK232
          clear BK257
          clear HB
          clear h0_ h1_ h2_ h3_ h4_ h5_ h6_ h7_ h8_ h9_ h10_ h11_ h12_ h13_ h14_ h15_ h16_ h17_ h18_ h19_ h20_ h21_
          have HO272 := n0_
          have HO275 := n1_
          have HO_10 := n2_
          have HO_12 := n3_
          have BK232 := n8_
          have BK277 := n10_
          have GE277 := n12_
          have NB230_277 := n13_
          have NB277_230 := n14_
          have NB231_277 := n15_
          have NB277_231 := n16_
          have NB232_277 := n17_
          have NB277_232 := n18_
          have NB257_277 := n19_
          have NB277_257 := n20_
          have HB := n21_
          clear n0_ n1_ n2_ n3_ n8_ n10_ n12_ n13_ n14_ n15_ n16_ n17_ n18_ n19_ n20_ n21_
          have hHeld : w211.cell? ⟨gb230, 0, none⟩ = some (.int .i64 a0_0) ∧ w211.cell? ⟨gb230, 1, none⟩ = some (.string a0_1) ∧ w211.cell? ⟨gb230, 2, none⟩ = some (.slice A0_2 l0_2.length c0_2) ∧ w211.cell? ⟨gb230, 3, none⟩ = some (.slice A0_3 l0_3.length c0_3) ∧ w211.cell? ⟨gb231, 0, none⟩ = some (.slice A1_0 l1_0.length c1_0) ∧ w211.cell? ⟨ad261.block, ad261.off + 1, none⟩ = some (.string (rdOf ByteArray.empty t258 1)) := hS_
          obtain ⟨Ao214, co214, eo214⟩ := Kd.R_slice HO272.out
          (first | subst eo214 | (injection eo214 with f1_ f2_ f3_; have f4_ := f1_.symm; have f5_ := f3_.symm; clear f1_ f2_ f3_; subst f4_; subst f5_))
          obtain ⟨Ao216, co216, eo216⟩ := Kd.R_slice HO275.out
          (first | subst eo216 | (injection eo216 with f1_ f2_ f3_; have f4_ := f1_.symm; have f5_ := f3_.symm; clear f1_ f2_ f3_; subst f4_; subst f5_))
          refine norm_ (a' := ?_) ?_ ?_
          rotate_left
          ·simp only [putAll, Act.put, List.setIfInBounds_toArray, List.set_cons_zero, List.set_cons_succ]
           rfl
          refine one_ (i := 10) (N := none) (fl 12 2047) rfl rfl (one_of HT_.out (by kernel_rfl)) (by decide) (fun K hK => ?_)
          have hs212 : w211.cell? ⟨gb277, 0, none⟩ = some (.int .i64 0) := bc_ BK277 0
          have hfs212 := blk_frozen BK277.out 0
          have hns212_0 := NB230_277.out
          have hns212_1 := NB231_277.out
          have hns212_2 := NB232_277.out
          have hns212_3 := NB257_277.out
          have hms212_0 := NB277_230.out
          have hms212_1 := NB277_231.out
          have hms212_2 := NB277_232.out
          have hms212_3 := NB277_257.out
          have hs213 : w211.cell? ⟨gb277, 1, none⟩ = some (.string (⟨#[]⟩ : ByteArray)) := bc_ BK277 1
          have hfs213 := blk_frozen BK277.out 1
          have hns213_0 := NB230_277.out
          have hns213_1 := NB231_277.out
          have hns213_2 := NB232_277.out
          have hns213_3 := NB257_277.out
          have hms213_0 := NB277_230.out
          have hms213_1 := NB277_231.out
          have hms213_2 := NB277_232.out
          have hms213_3 := NB277_257.out
          have hs215 : w211.cell? ⟨gb277, 2, none⟩ = some (.slice none 0 0) := bc_ BK277 2
          have hfs215 := blk_frozen BK277.out 2
          have hns215_0 := NB230_277.out
          have hns215_1 := NB231_277.out
          have hns215_2 := NB232_277.out
          have hns215_3 := NB257_277.out
          have hms215_0 := NB277_230.out
          have hms215_1 := NB277_231.out
          have hms215_2 := NB277_232.out
          have hms215_3 := NB277_257.out
          have hs217 : w211.cell? ⟨gb277, 3, none⟩ = some (.slice none 0 0) := bc_ BK277 3
          have hfs217 := blk_frozen BK277.out 3
          have hns217_0 := NB230_277.out
          have hns217_1 := NB231_277.out
          have hns217_2 := NB232_277.out
          have hns217_3 := NB257_277.out
          have hms217_0 := NB277_230.out
          have hms217_1 := NB277_231.out
          have hms217_2 := NB277_232.out
          have hms217_3 := NB277_257.out
          refine skip_ (w1 := ?_) (by rfl) rfl ?_ ?_
          rotate_left
          ·go_simp
           rfl
          refine hK.out _ _ ⟨((cell_far (p := ⟨gb277, _, none⟩) NB230_277.out _).trans (((cell_far (p := ⟨gb277, _, none⟩) NB230_277.out _).trans (((cell_far (p := ⟨gb277, _, none⟩) NB230_277.out _).trans (((cell_far (p := ⟨gb277, _, none⟩) NB230_277.out _).trans (hHeld.1)))))))), ((cell_far (p := ⟨gb277, _, none⟩) NB230_277.out _).trans (((cell_far (p := ⟨gb277, _, none⟩) NB230_277.out _).trans (((cell_far (p := ⟨gb277, _, none⟩) NB230_277.out _).trans (((cell_far (p := ⟨gb277, _, none⟩) NB230_277.out _).trans (hHeld.2.1)))))))), ((cell_far (p := ⟨gb277, _, none⟩) NB230_277.out _).trans (((cell_far (p := ⟨gb277, _, none⟩) NB230_277.out _).trans (((cell_far (p := ⟨gb277, _, none⟩) NB230_277.out _).trans (((cell_far (p := ⟨gb277, _, none⟩) NB230_277.out _).trans (hHeld.2.2.1)))))))), ((cell_far (p := ⟨gb277, _, none⟩) NB230_277.out _).trans (((cell_far (p := ⟨gb277, _, none⟩) NB230_277.out _).trans (((cell_far (p := ⟨gb277, _, none⟩) NB230_277.out _).trans (((cell_far (p := ⟨gb277, _, none⟩) NB230_277.out _).trans (hHeld.2.2.2.1)))))))), ((cell_far (p := ⟨gb277, _, none⟩) NB231_277.out _).trans (((cell_far (p := ⟨gb277, _, none⟩) NB231_277.out _).trans (((cell_far (p := ⟨gb277, _, none⟩) NB231_277.out _).trans (((cell_far (p := ⟨gb277, _, none⟩) NB231_277.out _).trans (hHeld.2.2.2.2.1)))))))), ((cell_far (p := ⟨gb277, _, none⟩) (by first | exact Kd.own_blk (Kd.R_ne HO_12.out BK277.out (by decide)) | (rw [add_block]; exact Kd.own_blk (Kd.R_ne HO_12.out BK277.out (by decide))) | (show (Addr.add _ _).block ≠ _; rw [add_block]; exact Kd.own_blk (Kd.R_ne HO_12.out BK277.out (by decide))) | (dsimp only; exact Kd.own_blk (Kd.R_ne HO_12.out BK277.out (by decide)))) _).trans (((cell_far (p := ⟨gb277, _, none⟩) (by first | exact Kd.own_blk (Kd.R_ne HO_12.out BK277.out (by decide)) | (rw [add_block]; exact Kd.own_blk (Kd.R_ne HO_12.out BK277.out (by decide))) | (show (Addr.add _ _).block ≠ _; rw [add_block]; exact Kd.own_blk (Kd.R_ne HO_12.out BK277.out (by decide))) | (dsimp only; exact Kd.own_blk (Kd.R_ne HO_12.out BK277.out (by decide)))) _).trans (((cell_far (p := ⟨gb277, _, none⟩) (by first | exact Kd.own_blk (Kd.R_ne HO_12.out BK277.out (by decide)) | (rw [add_block]; exact Kd.own_blk (Kd.R_ne HO_12.out BK277.out (by decide))) | (show (Addr.add _ _).block ≠ _; rw [add_block]; exact Kd.own_blk (Kd.R_ne HO_12.out BK277.out (by decide))) | (dsimp only; exact Kd.own_blk (Kd.R_ne HO_12.out BK277.out (by decide)))) _).trans (((cell_far (p := ⟨gb277, _, none⟩) (by first | exact Kd.own_blk (Kd.R_ne HO_12.out BK277.out (by decide)) | (rw [add_block]; exact Kd.own_blk (Kd.R_ne HO_12.out BK277.out (by decide))) | (show (Addr.add _ _).block ≠ _; rw [add_block]; exact Kd.own_blk (Kd.R_ne HO_12.out BK277.out (by decide))) | (dsimp only; exact Kd.own_blk (Kd.R_ne HO_12.out BK277.out (by decide)))) _).trans (hHeld.2.2.2.2.2))))))))⟩ (fun hHeld => ?_)
          clear hK K
          refine pq_ 11 16 (fl 12 4095) HT_.out ?_
          refine done_ (done_of HT_.out (by kernel_rfl)) ?_
          have hnb218 := NB277_230.out
          have hnc218 := NB230_277.out
          have hnb219 := NB277_231.out
          have hnc219 := NB231_277.out
          have hnb220 := NB277_232.out
          have hnc220 := NB232_277.out
          have hnb221 := NB277_257.out
          have hnc221 := NB257_277.out
          have hcz222 := blk_cell BK277.out
          have hfz222 := blk_frozen BK277.out
          have hnb223 := NB232_230.out
          have hnc223 := NB230_232.out
          have hnb224 := NB232_231.out
          have hnc224 := NB231_232.out
          have hnb225 := NB232_257.out
          have hnc225 := NB257_232.out
          have hcz226 := blk_cell BK232.out
          have hfz226 := blk_frozen BK232.out
          try go_wp2
          refine bodyPost_ret (results_list (rs := [.cell 6 30, .tmp 7, .tmp 8, .tmp 9]) rfl (by simp) (.cell gb232 30 #[.int .i64 t268, .string t269, .slice Ao214 t270.length co214, .slice Ao216 t273.length co216] (0, 0) _ rfl (by (with_reducible repeat (first | refine blk_drewN ?_ _ | refine blk_drew ?_ | refine blk_alloc ?_ _)); refine blk_put (cs := #[.int .i64 t268, .string t269, .slice Ao214 t270.length co214, .slice none 0 0]) ?_ 3 _ rfl; (with_reducible repeat (first | refine blk_drewN ?_ _ | refine blk_drew ?_ | refine blk_alloc ?_ _)); refine blk_put (cs := #[.int .i64 t268, .string t269, .slice none 0 0, .slice none 0 0]) ?_ 2 _ rfl; (with_reducible repeat (first | refine blk_drewN ?_ _ | refine blk_drew ?_ | refine blk_alloc ?_ _)); refine blk_put (cs := #[.int .i64 t268, .string x233001_42, .slice none 0 0, .slice none 0 0]) ?_ 1 _ rfl; (with_reducible repeat (first | refine blk_drewN ?_ _ | refine blk_drew ?_ | refine blk_alloc ?_ _)); refine blk_put (cs := #[.int .i64 x233000_42, .string x233001_42, .slice none 0 0, .slice none 0 0]) ?_ 0 _ rfl; (with_reducible repeat (first | refine blk_drewN ?_ _ | refine blk_drew ?_ | refine blk_alloc ?_ _)); refine blk_far ?_ NB232_277.out _; (with_reducible repeat (first | refine blk_drewN ?_ _ | refine blk_drew ?_ | refine blk_alloc ?_ _)); refine blk_far ?_ NB232_277.out _; (with_reducible repeat (first | refine blk_drewN ?_ _ | refine blk_drew ?_ | refine blk_alloc ?_ _)); refine blk_far ?_ NB232_277.out _; (with_reducible repeat (first | refine blk_drewN ?_ _ | refine blk_drew ?_ | refine blk_alloc ?_ _)); refine blk_far ?_ NB232_277.out _; (with_reducible repeat (first | refine blk_drewN ?_ _ | refine blk_drew ?_ | refine blk_alloc ?_ _)); exact BK232.out) Tryd.underlying30 rfl (by kernel_rfl) (.tmp (.tmp (.tmp .nil))))) rfl ?_
          exact ⟨_, _, _, re_, by (with_reducible repeat (first | apply Kd.R_alloc | apply Kd.R_drewN | apply Kd.R_drew)); exact Kd.R_mono (Kd.R_far (p := ⟨gb232, 3, none⟩) (Kd.R_far (p := ⟨gb232, 2, none⟩) (Kd.R_far (p := ⟨gb232, 1, none⟩) (Kd.R_far (p := ⟨gb232, 0, none⟩) (Kd.R_far (p := ⟨gb277, 3, none⟩) (Kd.R_far (p := ⟨gb277, 2, none⟩) (Kd.R_far (p := ⟨gb277, 1, none⟩) (Kd.R_far (p := ⟨gb277, 0, none⟩) (Kd.R_types (Kd.R_types HO272.out BK277.out (by decide)) BK232.out (by decide)) (fun _ hk => hk.1.2) (.int .i64 t268)) (fun _ hk => hk.1.2) (.string t269)) (fun _ hk => hk.1.2) (.slice Ao214 t270.length co214)) (fun _ hk => hk.1.2) (.slice Ao216 t273.length co216)) (fun _ hk => hk.2) (.int .i64 t268)) (fun _ hk => hk.2) (.string t269)) (fun _ hk => hk.2) (.slice Ao214 t270.length co214)) (fun _ hk => hk.2) (.slice Ao216 t273.length co216)) (fun _ hk => hk.1.1.1), by (with_reducible repeat (first | apply Kd.R_alloc | apply Kd.R_drewN | apply Kd.R_drew)); exact Kd.R_mono (Kd.R_far (p := ⟨gb232, 3, none⟩) (Kd.R_far (p := ⟨gb232, 2, none⟩) (Kd.R_far (p := ⟨gb232, 1, none⟩) (Kd.R_far (p := ⟨gb232, 0, none⟩) (Kd.R_far (p := ⟨gb277, 3, none⟩) (Kd.R_far (p := ⟨gb277, 2, none⟩) (Kd.R_far (p := ⟨gb277, 1, none⟩) (Kd.R_far (p := ⟨gb277, 0, none⟩) (Kd.R_types (Kd.R_types HO275.out BK277.out (by decide)) BK232.out (by decide)) (fun _ hk => hk.1.2) (.int .i64 t268)) (fun _ hk => hk.1.2) (.string t269)) (fun _ hk => hk.1.2) (.slice Ao214 t270.length co214)) (fun _ hk => hk.1.2) (.slice Ao216 t273.length co216)) (fun _ hk => hk.2) (.int .i64 t268)) (fun _ hk => hk.2) (.string t269)) (fun _ hk => hk.2) (.slice Ao214 t270.length co214)) (fun _ hk => hk.2) (.slice Ao216 t273.length co216)) (fun _ hk => hk.1.1.1), by (with_reducible repeat (first | apply Kd.S_alloc | apply Kd.S_drewN | apply Kd.S_drew)); exact Kd.S_mono (Kd.S_far (p := ⟨gb232, 3, none⟩) (Kd.S_far (p := ⟨gb232, 2, none⟩) (Kd.S_far (p := ⟨gb232, 1, none⟩) (Kd.S_far (p := ⟨gb232, 0, none⟩) (Kd.S_far (p := ⟨gb277, 3, none⟩) (Kd.S_far (p := ⟨gb277, 2, none⟩) (Kd.S_far (p := ⟨gb277, 1, none⟩) (Kd.S_far (p := ⟨gb277, 0, none⟩) (Kd.S_types (Kd.S_types HO_10.out BK277.out (by decide)) BK232.out (by decide)) (fun _ hk => hk.1.2) (.int .i64 t268)) (fun _ hk => hk.1.2) (.string t269)) (fun _ hk => hk.1.2) (.slice Ao214 t270.length co214)) (fun _ hk => hk.1.2) (.slice Ao216 t273.length co216)) (fun _ hk => hk.2) (.int .i64 t268)) (fun _ hk => hk.2) (.string t269)) (fun _ hk => hk.2) (.slice Ao214 t270.length co214)) (fun _ hk => hk.2) (.slice Ao216 t273.length co216)) (fun _ hk => trivial), bl_⟩
         ·rw [if_neg c206] at H
          exact absurd H (by simp)
        ·rw [if_neg c205] at H
         have c205b0 := beq_eq_false_iff_ne.mpr c205
         have c205b1 := bne_iff_ne.mpr c205
         by_cases c227 : t262.toList = ([100, 97, 116, 97] : List UInt8)
         ·rw [if_pos c227] at H
          have c227b0 := beq_iff_eq.mpr c227
          have c227b1 := bne_eq_false_iff_eq.mpr c227
          clear c227
          simp only [Option.some.injEq, Prod.mk.injEq] at H
          obtain ⟨rfl, rfl, rfl, rfl, rfl, rfl, rfl⟩ := H
          go_wp2_with (first | (refine lr_ 30 11 BK257 hu30 ?_) | (refine lr_ 30 3 BK230 hu30 ?_) | (refine lr_ 37 4 BK231 hu37 ?_) | ((with_reducible refine gs_ 3 127 ?_); refine sp_ 3 127 gb257 0 (.int .i64 4) #[.int .i64 4, .string t250, .slice Ao53 t251.length co53, .slice Ao54 t254.length co54] BK257 ?_; intro w228 hbox hbut; replace HO_10 := ss_ hbut HO_10 BK257; replace HO_258002 := rs_ hbut HO_258002 BK257; replace HO_258003 := rs_ hbut HO_258003 BK257; replace BK230 := bo_ hbut NB230_257 BK230; replace BK231 := bo_ hbut NB231_257 BK231; replace BK232 := bo_ hbut NB232_257 BK232; replace BK257 := Aside0.mk (hbox); replace HB := hs_ HB hbut GE257; clear hbox hbut; have hnb229 := NB257_230.out; have hnc229 := NB230_257.out; have hnb230 := NB257_231.out; have hnc230 := NB231_257.out; have hnb231 := NB257_232.out; have hnc231 := NB232_257.out) | ((with_reducible refine gs_ 30 6 ?_); refine sp_ 30 6 gb232 0 (.agg #[.int .i64 4, .string t250, .slice Ao53 t251.length co53, .slice Ao54 t254.length co54]) #[.int .i64 4, .string t250, .slice Ao53 t251.length co53, .slice Ao54 t254.length co54] BK232 ?_; intro w233 hbox hbut; replace HO_10 := ss_ hbut HO_10 BK232; replace HO_258002 := rs_ hbut HO_258002 BK232; replace HO_258003 := rs_ hbut HO_258003 BK232; replace BK230 := bo_ hbut NB230_232 BK230; replace BK231 := bo_ hbut NB231_232 BK231; replace BK232 := Aside0.mk (hbox); replace BK257 := bo_ hbut NB257_232 BK257; replace HB := hs_ HB hbut GE232; clear hbox hbut))
          refine bodyPost_ret (results_list (rs := [.cell 6 30, .tmp 7, .tmp 8, .tmp 9]) rfl (by simp) (.cell gb232 30 #[.int .i64 4, .string t250, .slice Ao53 t251.length co53, .slice Ao54 t254.length co54] (0, 0) _ rfl (kl_ BK232) Tryd.underlying30 rfl (by kernel_rfl) (.tmp (.tmp (.tmp .nil))))) rfl ?_
          exact ⟨_, _, _, re_, rm_ HO_258002, rm_ HO_258003, sl_ HO_10, bl_⟩
         ·rw [if_neg c227] at H
          have c227b0 := beq_eq_false_iff_ne.mpr c227
          have c227b1 := bne_iff_ne.mpr c227
          by_cases c234 : t262.toList = ([114, 115, 101, 116] : List UInt8)
          ·rw [if_pos c234] at H
           have c234b0 := beq_iff_eq.mpr c234
           have c234b1 := bne_eq_false_iff_eq.mpr c234
           clear c234
           have hnb236 := NB230_231.out
           have hnc236 := NB231_230.out
           have hnb237 := NB230_232.out
           have hnc237 := NB232_230.out
           have hnb238 := NB230_257.out
           have hnc238 := NB257_230.out
           have hcz239 := blk_cell BK230.out
           have hfz239 := blk_frozen BK230.out
           by_cases c235 : a0_0 = 0
           ·rw [if_pos c235] at H
            have c235b0 := beq_iff_eq.mpr c235
            have c235b1 := bne_eq_false_iff_eq.mpr c235
            clear c235
            simp only [Option.some.injEq, Prod.mk.injEq] at H
            obtain ⟨rfl, rfl, rfl, rfl, rfl, rfl, rfl⟩ := H
            try simp only [c235b0, c235b1, Bool.not_true, Bool.not_false]
            go_wp2_with (first | (refine lr_ 30 11 BK257 hu30 ?_) | (refine lr_ 30 3 BK230 hu30 ?_) | (refine lr_ 37 4 BK231 hu37 ?_) | ((with_reducible refine gs_ 30 6 ?_); refine sp_ 30 6 gb232 0 (.agg #[.int .i64 0, .string (⟨#[]⟩ : ByteArray), .slice none 0 0, .slice none 0 0]) #[.int .i64 0, .string (⟨#[]⟩ : ByteArray), .slice none 0 0, .slice none 0 0] BK232 ?_; intro w240 hbox hbut; replace HO_10 := ss_ hbut HO_10 BK232; replace BK230 := bo_ hbut NB230_232 BK230; replace BK231 := bo_ hbut NB231_232 BK231; replace BK232 := Aside0.mk (hbox); replace BK257 := bo_ hbut NB257_232 BK257; replace HB := hs_ HB hbut GE232; clear hbox hbut))
            refine bodyPost_ret (results_list (rs := [.cell 6 30, .tmp 7, .tmp 8, .tmp 9]) rfl (by simp) (.cell gb232 30 #[.int .i64 0, .string (⟨#[]⟩ : ByteArray), .slice none 0 0, .slice none 0 0] (0, 0) _ rfl (kl_ BK232) Tryd.underlying30 rfl (by kernel_rfl) (.tmp (.tmp (.tmp .nil))))) rfl ?_
            exact ⟨_, _, _, re_, ni_, ni_, sl_ HO_10, bl_⟩
           ·rw [if_neg c235] at H
            have c235b0 := beq_eq_false_iff_ne.mpr c235
            have c235b1 := bne_iff_ne.mpr c235
            simp only [Option.some.injEq, Prod.mk.injEq] at H
            obtain ⟨rfl, rfl, rfl, rfl, rfl, rfl, rfl⟩ := H
            try simp only [c235b0, c235b1, Bool.not_true, Bool.not_false]
            go_wp2_with (first | (refine lr_ 30 11 BK257 hu30 ?_) | (refine lr_ 30 3 BK230 hu30 ?_) | (refine lr_ 37 4 BK231 hu37 ?_) | ((with_reducible refine gs_ 30 6 ?_); refine sp_ 30 6 gb232 0 (.agg #[.int .i64 1, .string (⟨#[]⟩ : ByteArray), .slice none 0 0, .slice none 0 0]) #[.int .i64 1, .string (⟨#[]⟩ : ByteArray), .slice none 0 0, .slice none 0 0] BK232 ?_; intro w245 hbox hbut; replace HO_10 := ss_ hbut HO_10 BK232; replace BK230 := bo_ hbut NB230_232 BK230; replace BK231 := bo_ hbut NB231_232 BK231; replace BK232 := Aside0.mk (hbox); replace BK257 := bo_ hbut NB257_232 BK257; replace HB := hs_ HB hbut GE232; clear hbox hbut))
            refine bodyPost_ret (results_list (rs := [.cell 6 30, .tmp 7, .tmp 8, .tmp 9]) rfl (by simp) (.cell gb232 30 #[.int .i64 1, .string (⟨#[]⟩ : ByteArray), .slice none 0 0, .slice none 0 0] (0, 0) _ rfl (kl_ BK232) Tryd.underlying30 rfl (by kernel_rfl) (.tmp (.tmp (.tmp .nil))))) rfl ?_
            exact ⟨_, _, _, re_, ni_, ni_, sl_ HO_10, bl_⟩
          ·rw [if_neg c234] at H
           have c234b0 := beq_eq_false_iff_ne.mpr c234
           have c234b1 := bne_iff_ne.mpr c234
           have hnb247 := NB257_230.out
           have hnc247 := NB230_257.out
           have hnb248 := NB257_231.out
           have hnc248 := NB231_257.out
           have hnb249 := NB257_232.out
           have hnc249 := NB232_257.out
           by_cases c246 : t262.toList = ([113, 117, 105, 116] : List UInt8)
           ·rw [if_pos c246] at H
            have c246b0 := beq_iff_eq.mpr c246
            have c246b1 := bne_eq_false_iff_eq.mpr c246
            clear c246
            simp only [Option.some.injEq, Prod.mk.injEq] at H
            obtain ⟨rfl, rfl, rfl, rfl, rfl, rfl, rfl⟩ := H
            try simp only [c246b0, c246b1, Bool.not_true, Bool.not_false]
            go_wp2_with (first | (refine lr_ 30 11 BK257 hu30 ?_) | (refine lr_ 30 3 BK230 hu30 ?_) | (refine lr_ 37 4 BK231 hu37 ?_) | ((with_reducible refine gs_ 30 6 ?_); refine sp_ 30 6 gb232 0 (.agg #[.int .i64 t249, .string t250, .slice Ao53 t251.length co53, .slice Ao54 t254.length co54]) #[.int .i64 t249, .string t250, .slice Ao53 t251.length co53, .slice Ao54 t254.length co54] BK232 ?_; intro w251 hbox hbut; replace HO_10 := ss_ hbut HO_10 BK232; replace HO_258002 := rs_ hbut HO_258002 BK232; replace HO_258003 := rs_ hbut HO_258003 BK232; replace BK230 := bo_ hbut NB230_232 BK230; replace BK231 := bo_ hbut NB231_232 BK231; replace BK232 := Aside0.mk (hbox); replace BK257 := bo_ hbut NB257_232 BK257; replace HB := hs_ HB hbut GE232; clear hbox hbut))
            refine bodyPost_ret (results_list (rs := [.cell 6 30, .tmp 7, .tmp 8, .tmp 9]) rfl (by simp) (.cell gb232 30 #[.int .i64 t249, .string t250, .slice Ao53 t251.length co53, .slice Ao54 t254.length co54] (0, 0) _ rfl (kl_ BK232) Tryd.underlying30 rfl (by kernel_rfl) (.tmp (.tmp (.tmp .nil))))) rfl ?_
            exact ⟨_, _, _, re_, rm_ HO_258002, rm_ HO_258003, sl_ HO_10, bl_⟩
           ·rw [if_neg c246] at H
            have c246b0 := beq_eq_false_iff_ne.mpr c246
            have c246b1 := bne_iff_ne.mpr c246
            simp only [Option.some.injEq, Prod.mk.injEq] at H
            obtain ⟨rfl, rfl, rfl, rfl, rfl, rfl, rfl⟩ := H
            try simp only [c246b0, c246b1, Bool.not_true, Bool.not_false]
            go_wp2_with (first | (refine lr_ 30 11 BK257 hu30 ?_) | (refine lr_ 30 3 BK230 hu30 ?_) | (refine lr_ 37 4 BK231 hu37 ?_) | ((with_reducible refine gs_ 30 6 ?_); refine sp_ 30 6 gb232 0 (.agg #[.int .i64 t249, .string t250, .slice Ao53 t251.length co53, .slice Ao54 t254.length co54]) #[.int .i64 t249, .string t250, .slice Ao53 t251.length co53, .slice Ao54 t254.length co54] BK232 ?_; intro w256 hbox hbut; replace HO_10 := ss_ hbut HO_10 BK232; replace HO_258002 := rs_ hbut HO_258002 BK232; replace HO_258003 := rs_ hbut HO_258003 BK232; replace BK230 := bo_ hbut NB230_232 BK230; replace BK231 := bo_ hbut NB231_232 BK231; replace BK232 := Aside0.mk (hbox); replace BK257 := bo_ hbut NB257_232 BK257; replace HB := hs_ HB hbut GE232; clear hbox hbut))
            refine bodyPost_ret (results_list (rs := [.cell 6 30, .tmp 7, .tmp 8, .tmp 9]) rfl (by simp) (.cell gb232 30 #[.int .i64 t249, .string t250, .slice Ao53 t251.length co53, .slice Ao54 t254.length co54] (0, 0) _ rfl (kl_ BK232) Tryd.underlying30 rfl (by kernel_rfl) (.tmp (.tmp (.tmp .nil))))) rfl ?_
            exact ⟨_, _, _, re_, rm_ HO_258002, rm_ HO_258003, sl_ HO_10, bl_⟩
   ·rw [if_neg c40] at H
    exact absurd H (by simp)

end Go.Proofs.YtdokcckgnamnfaaDoor.QFnExactStepBring
