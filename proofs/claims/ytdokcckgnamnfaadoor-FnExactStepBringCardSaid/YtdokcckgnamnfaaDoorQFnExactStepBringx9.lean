-- Written by a program of this session (myprint) out of Lean's own print of the translation. Lean checks it.
import Derived.Test.YtdokcckgnamnfaaDoorShorter
import Derived.Test.YtdokcckgnamnfaaDoorSteps
import Derived.Test.YtdokcckgnamnfaaDoorQFnExactStepBringx0
import Derived.Test.YtdokcckgnamnfaaDoorQFnExactStepBringx6
import Derived.Test.YtdokcckgnamnfaaDoorQFnExactStepBringx7
import Derived.Test.YtdokcckgnamnfaaDoorQFnExactStepBringx8
namespace Go.Proofs.YtdokcckgnamnfaaDoor.QFnExactStepBring
open Go.Proofs.YtdokcckgnamnfaaDoorF
open Go.RowKit Go.Proofs.YtdokcckgnamnfaaDoorW.PrintWords Go.Proofs.YtdokcckgnamnfaaDoorW.PrintLast Go.Proofs.YtdokcckgnamnfaaDoorW.PrintMore
attribute [local go_sem] max2_int min2_int max_two min_two max_three min_three max_four min_four   -- for this text's walks alone
set_option maxHeartbeats 8000000
set_option maxRecDepth 100000
set_option linter.unusedVariables false
set_option linter.unusedSimpArgs false

/-! ### impl_StepBring: function 9 -/
def impl_StepBring.j0 : Nat → List ByteArray → ByteArray → Bool → Bool → Int → ByteArray → List ByteArray → List ByteArray → List (S84) → Option (Int × ByteArray × List ByteArray × List ByteArray × ByteArray × ByteArray × (List (S65)))
 | 0, _, _, _, _, _, _, _, _, _ => none
 | k + 1, x10, x11, x13, x48, x425000, x425001, x425002, x425003, x426000 => if x48 = true then (some (x425000, x425001, x425002, x425003, (⟨#[53, 48, 49, 32, 119, 111, 114, 100, 115]⟩ : ByteArray), (⟨#[]⟩ : ByteArray), ([] : List (S65)))) else (if x13 = true then (if x11.toList = ([104, 101, 108, 111] : List UInt8) then ((impl_hello.f).bind fun bt457 => (some (bt457.1, bt457.2.1, bt457.2.2.1, bt457.2.2.2, (⟨#[50, 53, 48, 32, 111, 107]⟩ : ByteArray), (⟨#[]⟩ : ByteArray), ([] : List (S65))))) else (if x11.toList = ([109, 97, 105, 108] : List UInt8) then (if 1 < (x10.length : Int) then (some (2, rdOf ByteArray.empty x10 1, x425002, x425003, (⟨#[50, 53, 48, 32, 111, 107]⟩ : ByteArray), (⟨#[]⟩ : ByteArray), ([] : List (S65)))) else (none)) else (if x11.toList = ([114, 99, 112, 116] : List UInt8) then (if 1 < (x10.length : Int) then ((impl_rcpt.f k x425000 x425001 x425002 x425003 x426000 (rdOf ByteArray.empty x10 1)).bind fun bt467 => (some (bt467.1, bt467.2.1, bt467.2.2.1, bt467.2.2.2.1, bt467.2.2.2.2, (⟨#[]⟩ : ByteArray), ([] : List (S65))))) else (none)) else (if x11.toList = ([100, 97, 116, 97] : List UInt8) then (some (4, x425001, x425002, x425003, (⟨#[51, 53, 52, 32, 103, 111]⟩ : ByteArray), (⟨#[]⟩ : ByteArray), ([] : List (S65)))) else (if x11.toList = ([114, 115, 101, 116] : List UInt8) then (if x425000 = 0 then (some (0, (⟨#[]⟩ : ByteArray), ([] : List ByteArray), ([] : List ByteArray), (⟨#[50, 53, 48, 32, 111, 107]⟩ : ByteArray), (⟨#[]⟩ : ByteArray), ([] : List (S65)))) else ((impl_hello.f).bind fun bt476 => (some (bt476.1, bt476.2.1, bt476.2.2.1, bt476.2.2.2, (⟨#[50, 53, 48, 32, 111, 107]⟩ : ByteArray), (⟨#[]⟩ : ByteArray), ([] : List (S65)))))) else (if x11.toList = ([113, 117, 105, 116] : List UInt8) then (some (x425000, x425001, x425002, x425003, (⟨#[50, 50, 49, 32, 98, 121, 101]⟩ : ByteArray), (⟨#[]⟩ : ByteArray), ([] : List (S65)))) else (some (x425000, x425001, x425002, x425003, (⟨#[50, 53, 48, 32, 111, 107]⟩ : ByteArray), (⟨#[]⟩ : ByteArray), ([] : List (S65)))))))))) else (some (x425000, x425001, x425002, x425003, (⟨#[53, 48, 51, 32, 111, 114, 100, 101, 114]⟩ : ByteArray), (⟨#[]⟩ : ByteArray), ([] : List (S65)))))
def impl_StepBring.f (k : Nat) (a0_0 : Int) (a0_1 : ByteArray) (l0_2 : List ByteArray) (l0_3 : List ByteArray) (l1_0 : List (S84)) (a2 : ByteArray) : Option (Int × ByteArray × List ByteArray × List ByteArray × ByteArray × ByteArray × (List (S65))) := (impl_cloneBring.f a0_0 a0_1 l0_2 l0_3).bind fun bt427 => (if bt427.1 = 4 then ((impl_stepData.f k bt427.1 bt427.2.1 bt427.2.2.1 bt427.2.2.2 a2).bind fun bt435 => (some (bt435.1, bt435.2.1, bt435.2.2.1, bt435.2.2.2.1, bt435.2.2.2.2.1, bt435.2.2.2.2.2.1, bt435.2.2.2.2.2.2))) else ((impl_WordsOf.f k a2).bind fun t448 => (if (t448.length : Int) = 0 then (some (bt427.1, bt427.2.1, bt427.2.2.1, bt427.2.2.2, (⟨#[53, 48, 48, 32, 119, 104, 97, 116]⟩ : ByteArray), (⟨#[]⟩ : ByteArray), ([] : List (S65)))) else (if 0 < (t448.length : Int) then ((impl_LowWord.f (rdOf ByteArray.empty t448 0)).bind fun t452 => ((impl_bringWords.f t452 bt427.1).bind fun bt453 => (if bt453.1 = 0 then (some (bt427.1, bt427.2.1, bt427.2.2.1, bt427.2.2.2, (⟨#[53, 48, 48, 32, 119, 104, 97, 116]⟩ : ByteArray), (⟨#[]⟩ : ByteArray), ([] : List (S65)))) else (if (t448.length : Int) = bt453.1 then (if bt453.1 = 2 then (if 1 < (t448.length : Int) then ((impl_WordOk.f k (rdOf ByteArray.empty t448 1)).bind fun t456 => (impl_StepBring.j0 k t448 t452 bt453.2 (!t456) bt427.1 bt427.2.1 bt427.2.2.1 bt427.2.2.2 l1_0)) else (none)) else (impl_StepBring.j0 k t448 t452 bt453.2 false bt427.1 bt427.2.1 bt427.2.2.1 bt427.2.2.2 l1_0)) else (impl_StepBring.j0 k t448 t452 bt453.2 true bt427.1 bt427.2.1 bt427.2.2.1 bt427.2.2.2 l1_0))))) else (none)))))
theorem impl_StepBring.mono_l : ∀ k, (∀ y0 y1 y2 y3 y4 y5 y6 y7 y8, LeO (impl_StepBring.j0 k y0 y1 y2 y3 y4 y5 y6 y7 y8) (impl_StepBring.j0 (k + 1) y0 y1 y2 y3 y4 y5 y6 y7 y8))
 | 0 => fun _ _ _ _ _ _ _ _ _ r h => by simp [impl_StepBring.j0] at h
 | k + 1 => by
  have ih0 := impl_StepBring.mono_l k
  ·intro y0 y1 y2 y3 y4 y5 y6 y7 y8
   unfold impl_StepBring.j0
   repeat' first
   | (with_reducible exact ih0 _ _ _ _ _ _ _ _ _)
   | (with_reducible exact impl_WordOk.mono _ _)
   | (with_reducible exact impl_WordsOf.mono _ _)
   | (with_reducible exact impl_rcpt.mono _ _ _ _ _ _ _)
   | (with_reducible exact impl_stepData.mono _ _ _ _ _ _)
   | (with_reducible first | exact LeO.refl _ | exact LeO.none _ | refine LeO.ite ?_ ?_ | refine LeO.bind ?_ (fun _ => ?_))
   | refine LeO.ite ?_ ?_
   | refine LeO.bind ?_ (fun _ => ?_)
theorem impl_StepBring.mono : ∀ a0 a1 a2 a3 a4 a5 k, LeO (impl_StepBring.f k a0 a1 a2 a3 a4 a5) (impl_StepBring.f (k + 1) a0 a1 a2 a3 a4 a5) := by
 intro a0 a1 a2 a3 a4 a5 k
 have ih0 := impl_StepBring.mono_l k
 unfold impl_StepBring.f
 repeat' first
   | (with_reducible exact ih0 _ _ _ _ _ _ _ _ _)
   | (with_reducible exact impl_WordOk.mono _ _)
   | (with_reducible exact impl_WordsOf.mono _ _)
   | (with_reducible exact impl_rcpt.mono _ _ _ _ _ _ _)
   | (with_reducible exact impl_stepData.mono _ _ _ _ _ _)
   | (with_reducible first | exact LeO.refl _ | exact LeO.none _ | refine LeO.ite ?_ ?_ | refine LeO.bind ?_ (fun _ => ?_))
   | refine LeO.ite ?_ ?_
   | refine LeO.bind ?_ (fun _ => ?_)
def impl_StepBring.T22 : Bool × List (List Nat × List Nat) := (true, [([], []), ([], []), ([], []), ([2], [2]), ([3], [3]), ([0, 1, 4], [0, 1, 4]), ([5], [5]), ([6], [6]), ([6], [6]), ([7, 5, 0, 1, 2, 3, 4, 5, 6, 7], [7]), ([8, 9, 0, 1, 2, 3, 4, 5, 6, 7, 8, 9], [8])])
def impl_StepBring.B22 : List Nat := [0, 0, 0, 4, 12, 31, 63, 127, 127, 255, 1023]
theorem impl_StepBring.tab22 : rtab .any (opsOf Tryd.f9 22) = impl_StepBring.T22 := by kernel_rfl
theorem impl_StepBring.bits22 : waitsOk impl_StepBring.T22.2 impl_StepBring.B22 = true := by kernel_rfl
theorem impl_StepBring.calls (k : Nat) (a0_0 : Int) (a0_1 : ByteArray) (A0_2 : Option Addr) (c0_2 : Nat) (l0_2 : List ByteArray) (A0_3 : Option Addr) (c0_3 : Nat) (l0_3 : List ByteArray) (A1_0 : Option Addr) (c1_0 : Nat) (l1_0 : List (S84)) (a2 : ByteArray) (r1 : Int) (r2 : ByteArray) (r3 : List ByteArray) (r4 : List ByteArray) (r5 : ByteArray) (r6 : ByteArray) (r7 : List (S65)) (w : World) (hr0_2 : Kd.C Kd.string w A0_2 l0_2.length l0_2) (hc0_2 : l0_2.length ≤ c0_2) (hr0_3 : Kd.C Kd.string w A0_3 l0_3.length l0_3) (hc0_3 : l0_3.length ≤ c0_3) (hr1_0 : Kd.C k84 w A1_0 l1_0.length l1_0) (hc1_0 : l1_0.length ≤ c1_0) (hG : GInt w) (h : impl_StepBring.f k a0_0 a0_1 l0_2 l0_3 l1_0 a2 = some (r1, r2, r3, r4, r5, r6, r7)) :
  Calls Tryd.prog 9 #[.agg #[.int .i64 a0_0, .string a0_1, .slice A0_2 l0_2.length c0_2, .slice A0_3 l0_3.length c0_3], .agg #[.slice A1_0 l1_0.length c1_0], .string a2] w fun e w' => ∃ v2_ v3_ v6_ : Value, e = .returned (.tuple #[.agg #[.int .i64 r1, .string r2, v2_, v3_], .string r5, .string r6, v6_]) ∧ Kd.R Kd.string 9 w' w.heap.size (fun k_ => some k_ ≠ (v3_ : Value).ownBlock) v2_ r3 ∧ Kd.R Kd.string 9 w' w.heap.size (fun k_ => some k_ ≠ (v2_ : Value).ownBlock) v3_ r4 ∧ Kd.S k65 65 w' w.heap.size (fun _ => True) v6_ r7 ∧ Below w.heap.size w w' := by
 have hu30 := Tryd.underlying30
 have hu37 := Tryd.underlying37
 have HG := Aside0.mk hG
 clear hG
 have HR0_2 := Aside0.mk hr0_2
 have HC0_2 := Aside0.mk hc0_2
 clear hr0_2 hc0_2
 have HR0_3 := Aside0.mk hr0_3
 have HC0_3 := Aside0.mk hc0_3
 clear hr0_3 hc0_3
 have HR1_0 := Aside0.mk hr1_0
 have HC1_0 := Aside0.mk hc1_0
 clear hr1_0 hc1_0
 have HB := Aside0.mk (Below.refl w.heap.size w)
 have H := h; unfold impl_StepBring.f at H
 clear h
 obtain ⟨⟨t427, t428, t429, t432⟩, A4, H⟩ := bs_ H
 (try set_option simprocs false in dsimp only at H)
 by_cases c5 : t427 = 4
 ·rw [if_pos c5] at H
  have c5b0 := beq_iff_eq.mpr c5
  have c5b1 := bne_eq_false_iff_eq.mpr c5
  clear c5
  obtain ⟨⟨t435, t436, t437, t440, t443, t444, t445⟩, A6, H⟩ := bs_ H
  (try set_option simprocs false in dsimp only at H)
  simp only [Option.some.injEq, Prod.mk.injEq] at H
  obtain ⟨rfl, rfl, rfl, rfl, rfl, rfl, rfl⟩ := H
  go_enter Tryd.func9, Tryd.ntmps9
  go_wp2_with (first | (refine lr_ 30 3 BK424 hu30 ?_) | (refine lr_ 37 4 BK425 hu37 ?_) | ((with_reducible refine gd_ 3 ?_); refine bx_ 3 30 #[.int .i64 a0_0, .string a0_1, .slice A0_2 l0_2.length c0_2, .slice A0_3 l0_3.length c0_3] ?_; intro gb424 hg w7 hbox hb; have BK424 := Aside0.mk (hbox); have GE424 := ge_ hg HB; replace HB := hb_ HB hb; clear hb hbox hg) | ((with_reducible refine gd_ 4 ?_); refine bx_ 4 37 #[.slice A1_0 l1_0.length c1_0] ?_; intro gb425 hg w8 hbox hb; have BK425 := Aside0.mk (hbox); have GE425 := ge_ hg HB; replace HB := hb_ HB hb; have NB424_425 := nl_ hg BK424; have NB425_424 := ng_ hg BK424; replace BK424 := bb_ BK424 hb; clear hb hbox hg) | ((with_reducible refine gd_ 6 ?_); refine bx_ 6 30 #[.int .i64 0, .string (⟨#[]⟩ : ByteArray), .slice none 0 0, .slice none 0 0] ?_; intro gb426 hg w9 hbox hb; have BK426 := Aside0.mk (hbox); have GE426 := ge_ hg HB; replace HB := hb_ HB hb; have NB424_426 := nl_ hg BK424; have NB426_424 := ng_ hg BK424; replace BK424 := bb_ BK424 hb; have NB425_426 := nl_ hg BK425; replace BK425 := bb_ BK425 hb; clear hb hbox hg; have hnb10 := NB424_425.out; have hnc10 := NB425_424.out; have hnb11 := NB424_426.out; have hnc11 := NB426_424.out; have hcz12 := blk_cell BK424.out; have hfz12 := blk_frozen BK424.out) | ((with_reducible refine gc_ 29 ?_); refine gl_ (some 16) Tryd.func29 #[.agg #[.int .i64 a0_0, .string a0_1, .slice A0_2 l0_2.length c0_2, .slice A0_3 l0_3.length c0_3]] ?_; (with_reducible refine (impl_cloneBring.calls a0_0 a0_1 _ _ l0_2 _ _ l0_3 t427 t428 t429 t432 _ ?side1 ?side2 ?side3 ?side4 A4.out).mono ?_); (case side1 => exact (Kd.C_below HR0_2.out HB.out)); (case side2 => exact HC0_2.out); (case side3 => exact (Kd.C_below HR0_3.out HB.out)); (case side4 => exact HC0_3.out); rintro e w13 ⟨v430, v433, rfl, ho0, ho1, hb⟩; refine ⟨_, rfl, ?_⟩; have HO431 := Aside0.mk (Kd.R_lower ho0 (below_size HB.out)); have HO434 := Aside0.mk (Kd.R_lower ho1 (below_size HB.out)); replace BK424 := bb_ BK424 hb; replace BK425 := bb_ BK425 hb; replace BK426 := bb_ BK426 hb; replace HB := hb_ HB hb; try clear hb; try clear ho0; try clear ho1; obtain ⟨Ao14, co14, rfl⟩ := Kd.R_slice HO431.out; obtain ⟨Ao15, co15, rfl⟩ := Kd.R_slice HO434.out) | ((with_reducible refine gs_ 30 3 ?_); refine sp_ 30 3 gb424 0 (.agg #[.int .i64 t427, .string t428, .slice Ao14 t429.length co14, .slice Ao15 t432.length co15]) #[.int .i64 t427, .string t428, .slice Ao14 t429.length co14, .slice Ao15 t432.length co15] BK424 ?_; intro w16 hbox hbut; replace HO431 := rs_ hbut HO431 BK424; replace HO434 := rs_ hbut HO434 BK424; replace BK424 := Aside0.mk (hbox); replace BK425 := bo_ hbut NB425_424 BK425; replace BK426 := bo_ hbut NB426_424 BK426; replace HB := hs_ HB hbut GE424; clear hbox hbut; have hcz17 := blk_cell BK424.out; have hfz17 := blk_frozen BK424.out) | ((with_reducible refine gc_ 30 ?_); refine gl_ (some 22) Tryd.func30 #[.agg #[.int .i64 t427, .string t428, .slice Ao14 t429.length co14, .slice Ao15 t432.length co15], .string a2] ?_; (with_reducible refine (impl_stepData.calls k t427 t428 (fun k_ => some k_ = (.slice Ao14 t429.length co14 : Value).ownBlock) (.slice Ao14 t429.length co14) t429 (fun k_ => some k_ = (.slice Ao15 t432.length co15 : Value).ownBlock) (.slice Ao15 t432.length co15) t432 a2 t435 t436 t437 t440 t443 t444 t445 w _ ?side1 ?side2 ?side3 ?side4 ?side5 A6.out).mono ?_); (case side1 => repeat (first | (with_reducible first | exact HB.out | apply below_alloc | apply pw_below_drewN | apply below_drew1 | refine below_set ?_ GE424.out | refine below_set ?_ GE425.out | refine below_set ?_ GE426.out) | exact HB.out)); (case side2 => exact Kd.R_tight rfl HO431.out); (case side3 => exact fun k_ e_ => (HO431.out.1 k_ e_.symm)); (case side4 => exact Kd.R_tight rfl HO434.out); (case side5 => exact fun k_ e_ => (HO434.out.1 k_ e_.symm)); rintro e w18 ⟨v438, v441, v446, rfl, ho0, ho1, ho2, hb, hkp⟩; refine ⟨_, rfl, ?_⟩; replace BK424 := Aside0.mk (blk_kept (kl_ BK424) hkp (fun hs_ => Or.elim hs_ (fun e_ => (fun e_ => (Kd.R_ne HO431.out BK424.out (by decide)) e_) e_) (fun e_ => (fun e_ => (Kd.R_ne HO434.out BK424.out (by decide)) e_) e_))); replace BK425 := Aside0.mk (blk_kept (kl_ BK425) hkp (fun hs_ => Or.elim hs_ (fun e_ => (fun e_ => (Kd.R_ne HO431.out BK425.out (by decide)) e_) e_) (fun e_ => (fun e_ => (Kd.R_ne HO434.out BK425.out (by decide)) e_) e_))); replace BK426 := Aside0.mk (blk_kept (kl_ BK426) hkp (fun hs_ => Or.elim hs_ (fun e_ => (fun e_ => (Kd.R_ne HO431.out BK426.out (by decide)) e_) e_) (fun e_ => (fun e_ => (Kd.R_ne HO434.out BK426.out (by decide)) e_) e_))); have HO439 := Aside0.mk (Kd.R_mono (ok' := fun k_ => some k_ ≠ (v441 : Value).ownBlock) ho0 (fun k_ hk_ => hk_.2)); have HO442 := Aside0.mk (Kd.R_mono (ok' := fun k_ => some k_ ≠ (v438 : Value).ownBlock) ho1 (fun k_ hk_ => hk_.2)); have HO447 := Aside0.mk (Kd.S_mono (ok' := fun k_ => True) ho2 (fun k_ hk_ => trivial)); replace HB := Aside0.mk (hb); clear HO431 HO434; try clear hb; (try clear hkp); try clear ho0; try clear ho1; try clear ho2; obtain ⟨Ao19, co19, rfl⟩ := Kd.R_slice HO439.out; obtain ⟨Ao20, co20, rfl⟩ := Kd.R_slice HO442.out) | ((with_reducible refine gs_ 30 6 ?_); refine sp_ 30 6 gb426 0 (.agg #[.int .i64 t435, .string t436, .slice Ao19 t437.length co19, .slice Ao20 t440.length co20]) #[.int .i64 t435, .string t436, .slice Ao19 t437.length co19, .slice Ao20 t440.length co20] BK426 ?_; intro w21 hbox hbut; replace HO439 := rs_ hbut HO439 BK426; replace HO442 := rs_ hbut HO442 BK426; replace HO447 := ss_ hbut HO447 BK426; replace BK424 := bo_ hbut NB424_426 BK424; replace BK425 := bo_ hbut NB425_426 BK425; replace BK426 := Aside0.mk (hbox); replace HB := hs_ HB hbut GE426; clear hbox hbut))
  refine bodyPost_ret (results_list (rs := [.cell 6 30, .tmp 7, .tmp 8, .tmp 9]) rfl (by simp) (.cell gb426 30 #[.int .i64 t435, .string t436, .slice Ao19 t437.length co19, .slice Ao20 t440.length co20] (0, 0) _ rfl (kl_ BK426) Tryd.underlying30 rfl (by kernel_rfl) (.tmp (.tmp (.tmp .nil))))) rfl ?_
  exact ⟨_, _, _, re_, rl_ HO439, rl_ HO442, sl_ HO447, bl_⟩
 ·rw [if_neg c5] at H
  have c5b0 := beq_eq_false_iff_ne.mpr c5
  have c5b1 := bne_iff_ne.mpr c5
  obtain ⟨t448, A22, H⟩ := bs_ H
  by_cases c23 : (t448.length : Int) = 0
  ·rw [if_pos c23] at H
   have c23b0 := beq_iff_eq.mpr c23
   have c23b1 := bne_eq_false_iff_eq.mpr c23
   clear c23
   simp only [Option.some.injEq, Prod.mk.injEq] at H
   obtain ⟨rfl, rfl, rfl, rfl, rfl, rfl, rfl⟩ := H
   go_enter Tryd.func9, Tryd.ntmps9
   go_wp2_with (first | (refine lr_ 30 3 BK424 hu30 ?_) | (refine lr_ 37 4 BK425 hu37 ?_) | ((with_reducible refine gd_ 3 ?_); refine bx_ 3 30 #[.int .i64 a0_0, .string a0_1, .slice A0_2 l0_2.length c0_2, .slice A0_3 l0_3.length c0_3] ?_; intro gb424 hg w24 hbox hb; have BK424 := Aside0.mk (hbox); have GE424 := ge_ hg HB; replace HB := hb_ HB hb; clear hb hbox hg) | ((with_reducible refine gd_ 4 ?_); refine bx_ 4 37 #[.slice A1_0 l1_0.length c1_0] ?_; intro gb425 hg w25 hbox hb; have BK425 := Aside0.mk (hbox); have GE425 := ge_ hg HB; replace HB := hb_ HB hb; have NB424_425 := nl_ hg BK424; have NB425_424 := ng_ hg BK424; replace BK424 := bb_ BK424 hb; clear hb hbox hg) | ((with_reducible refine gd_ 6 ?_); refine bx_ 6 30 #[.int .i64 0, .string (⟨#[]⟩ : ByteArray), .slice none 0 0, .slice none 0 0] ?_; intro gb426 hg w26 hbox hb; have BK426 := Aside0.mk (hbox); have GE426 := ge_ hg HB; replace HB := hb_ HB hb; have NB424_426 := nl_ hg BK424; have NB426_424 := ng_ hg BK424; replace BK424 := bb_ BK424 hb; have NB425_426 := nl_ hg BK425; replace BK425 := bb_ BK425 hb; clear hb hbox hg; have hnb27 := NB424_425.out; have hnc27 := NB425_424.out; have hnb28 := NB424_426.out; have hnc28 := NB426_424.out; have hcz29 := blk_cell BK424.out; have hfz29 := blk_frozen BK424.out) | ((with_reducible refine gc_ 29 ?_); refine gl_ (some 16) Tryd.func29 #[.agg #[.int .i64 a0_0, .string a0_1, .slice A0_2 l0_2.length c0_2, .slice A0_3 l0_3.length c0_3]] ?_; (with_reducible refine (impl_cloneBring.calls a0_0 a0_1 _ _ l0_2 _ _ l0_3 t427 t428 t429 t432 _ ?side1 ?side2 ?side3 ?side4 A4.out).mono ?_); (case side1 => exact (Kd.C_below HR0_2.out HB.out)); (case side2 => exact HC0_2.out); (case side3 => exact (Kd.C_below HR0_3.out HB.out)); (case side4 => exact HC0_3.out); rintro e w30 ⟨v430, v433, rfl, ho0, ho1, hb⟩; refine ⟨_, rfl, ?_⟩; have HO431 := Aside0.mk (Kd.R_lower ho0 (below_size HB.out)); have HO434 := Aside0.mk (Kd.R_lower ho1 (below_size HB.out)); replace BK424 := bb_ BK424 hb; replace BK425 := bb_ BK425 hb; replace BK426 := bb_ BK426 hb; replace HB := hb_ HB hb; try clear hb; try clear ho0; try clear ho1; obtain ⟨Ao31, co31, rfl⟩ := Kd.R_slice HO431.out; obtain ⟨Ao32, co32, rfl⟩ := Kd.R_slice HO434.out) | ((with_reducible refine gs_ 30 3 ?_); refine sp_ 30 3 gb424 0 (.agg #[.int .i64 t427, .string t428, .slice Ao31 t429.length co31, .slice Ao32 t432.length co32]) #[.int .i64 t427, .string t428, .slice Ao31 t429.length co31, .slice Ao32 t432.length co32] BK424 ?_; intro w33 hbox hbut; replace HO431 := rs_ hbut HO431 BK424; replace HO434 := rs_ hbut HO434 BK424; replace BK424 := Aside0.mk (hbox); replace BK425 := bo_ hbut NB425_424 BK425; replace BK426 := bo_ hbut NB426_424 BK426; replace HB := hs_ HB hbut GE424; clear hbox hbut; have hcz34 := blk_cell BK424.out; have hfz34 := blk_frozen BK424.out) | ((with_reducible refine gc_ 31 ?_); refine gl_ (some 28) Tryd.func31 #[.string a2] ?_; (with_reducible refine (impl_WordsOf.calls k a2 t448 _ ?side1 A22.out).mono ?_); (case side1 => exact gint_below HB.out HG.out); rintro e w35 ⟨v449, rfl, ho0, hb⟩; refine ⟨_, rfl, ?_⟩; have HO450 := Aside0.mk (Kd.R_lower (Kd.R_new' (Kd.R_new' ho0 (Kd.R_lt HO431.out)) (Kd.R_lt HO434.out)) (below_size HB.out)); replace HO431 := Aside0.mk (Kd.R_elder' HO431.out (Kd.R_base ho0) hb); replace HO434 := Aside0.mk (Kd.R_elder' HO434.out (Kd.R_base ho0) hb); replace BK424 := bb_ BK424 hb; replace BK425 := bb_ BK425 hb; replace BK426 := bb_ BK426 hb; replace HB := hb_ HB hb; try clear hb; try clear ho0; obtain ⟨Ao36, co36, rfl⟩ := Kd.R_slice HO450.out; have hcz37 := blk_cell BK424.out; have hfz37 := blk_frozen BK424.out) | ((with_reducible refine gs_ 30 6 ?_); refine sp_ 30 6 gb426 0 (.agg #[.int .i64 t427, .string t428, .slice Ao31 t429.length co31, .slice Ao32 t432.length co32]) #[.int .i64 t427, .string t428, .slice Ao31 t429.length co31, .slice Ao32 t432.length co32] BK426 ?_; intro w38 hbox hbut; replace HO431 := rs_ hbut HO431 BK426; replace HO434 := rs_ hbut HO434 BK426; replace BK424 := bo_ hbut NB424_426 BK424; replace BK425 := bo_ hbut NB425_426 BK425; replace BK426 := Aside0.mk (hbox); replace HB := hs_ HB hbut GE426; clear hbox hbut))
   refine bodyPost_ret (results_list (rs := [.cell 6 30, .tmp 7, .tmp 8, .tmp 9]) rfl (by simp) (.cell gb426 30 #[.int .i64 t427, .string t428, .slice Ao31 t429.length co31, .slice Ao32 t432.length co32] (0, 0) _ rfl (kl_ BK426) Tryd.underlying30 rfl (by kernel_rfl) (.tmp (.tmp (.tmp .nil))))) rfl ?_
   exact ⟨_, _, _, re_, rm_ HO431, rm_ HO434, ni_, bl_⟩
  ·rw [if_neg c23] at H
   have c23b0 := beq_eq_false_iff_ne.mpr c23
   have c23b1 := bne_iff_ne.mpr c23
   have c23b2 : ¬ (t448 = []) := fun h_ => c23 (by rw [h_]; rfl)
   by_cases c39 : 0 < (t448.length : Int)
   ·rw [if_pos c39] at H
    have c39b0 := decide_eq_true c39
    have c39b1 : decide (0 < t448.length) = true := decide_eq_true (by omega)
    clear c39
    obtain ⟨t452, A40, H⟩ := bs_ H
    obtain ⟨⟨t453, t454⟩, A41, H⟩ := bs_ H
    (try set_option simprocs false in dsimp only at H)
    by_cases c42 : t453 = 0
    ·rw [if_pos c42] at H
     have c42b0 := beq_iff_eq.mpr c42
     have c42b1 := bne_eq_false_iff_eq.mpr c42
     clear c42
     simp only [Option.some.injEq, Prod.mk.injEq] at H
     obtain ⟨rfl, rfl, rfl, rfl, rfl, rfl, rfl⟩ := H
     go_enter Tryd.func9, Tryd.ntmps9
     go_wp2_with (first | (refine lr_ 30 3 BK424 hu30 ?_) | (refine lr_ 37 4 BK425 hu37 ?_) | ((with_reducible refine gd_ 3 ?_); refine bx_ 3 30 #[.int .i64 a0_0, .string a0_1, .slice A0_2 l0_2.length c0_2, .slice A0_3 l0_3.length c0_3] ?_; intro gb424 hg w43 hbox hb; have BK424 := Aside0.mk (hbox); have GE424 := ge_ hg HB; replace HB := hb_ HB hb; clear hb hbox hg) | ((with_reducible refine gd_ 4 ?_); refine bx_ 4 37 #[.slice A1_0 l1_0.length c1_0] ?_; intro gb425 hg w44 hbox hb; have BK425 := Aside0.mk (hbox); have GE425 := ge_ hg HB; replace HB := hb_ HB hb; have NB424_425 := nl_ hg BK424; have NB425_424 := ng_ hg BK424; replace BK424 := bb_ BK424 hb; clear hb hbox hg) | ((with_reducible refine gd_ 6 ?_); refine bx_ 6 30 #[.int .i64 0, .string (⟨#[]⟩ : ByteArray), .slice none 0 0, .slice none 0 0] ?_; intro gb426 hg w45 hbox hb; have BK426 := Aside0.mk (hbox); have GE426 := ge_ hg HB; replace HB := hb_ HB hb; have NB424_426 := nl_ hg BK424; have NB426_424 := ng_ hg BK424; replace BK424 := bb_ BK424 hb; have NB425_426 := nl_ hg BK425; replace BK425 := bb_ BK425 hb; clear hb hbox hg; have hnb46 := NB424_425.out; have hnc46 := NB425_424.out; have hnb47 := NB424_426.out; have hnc47 := NB426_424.out; have hcz48 := blk_cell BK424.out; have hfz48 := blk_frozen BK424.out) | ((with_reducible refine gc_ 29 ?_); refine gl_ (some 16) Tryd.func29 #[.agg #[.int .i64 a0_0, .string a0_1, .slice A0_2 l0_2.length c0_2, .slice A0_3 l0_3.length c0_3]] ?_; (with_reducible refine (impl_cloneBring.calls a0_0 a0_1 _ _ l0_2 _ _ l0_3 t427 t428 t429 t432 _ ?side1 ?side2 ?side3 ?side4 A4.out).mono ?_); (case side1 => exact (Kd.C_below HR0_2.out HB.out)); (case side2 => exact HC0_2.out); (case side3 => exact (Kd.C_below HR0_3.out HB.out)); (case side4 => exact HC0_3.out); rintro e w49 ⟨v430, v433, rfl, ho0, ho1, hb⟩; refine ⟨_, rfl, ?_⟩; have HO431 := Aside0.mk (Kd.R_lower ho0 (below_size HB.out)); have HO434 := Aside0.mk (Kd.R_lower ho1 (below_size HB.out)); replace BK424 := bb_ BK424 hb; replace BK425 := bb_ BK425 hb; replace BK426 := bb_ BK426 hb; replace HB := hb_ HB hb; try clear hb; try clear ho0; try clear ho1; obtain ⟨Ao50, co50, rfl⟩ := Kd.R_slice HO431.out; obtain ⟨Ao51, co51, rfl⟩ := Kd.R_slice HO434.out) | ((with_reducible refine gs_ 30 3 ?_); refine sp_ 30 3 gb424 0 (.agg #[.int .i64 t427, .string t428, .slice Ao50 t429.length co50, .slice Ao51 t432.length co51]) #[.int .i64 t427, .string t428, .slice Ao50 t429.length co50, .slice Ao51 t432.length co51] BK424 ?_; intro w52 hbox hbut; replace HO431 := rs_ hbut HO431 BK424; replace HO434 := rs_ hbut HO434 BK424; replace BK424 := Aside0.mk (hbox); replace BK425 := bo_ hbut NB425_424 BK425; replace BK426 := bo_ hbut NB426_424 BK426; replace HB := hs_ HB hbut GE424; clear hbox hbut; have hcz53 := blk_cell BK424.out; have hfz53 := blk_frozen BK424.out) | ((with_reducible refine gc_ 31 ?_); refine gl_ (some 28) Tryd.func31 #[.string a2] ?_; (with_reducible refine (impl_WordsOf.calls k a2 t448 _ ?side1 A22.out).mono ?_); (case side1 => exact gint_below HB.out HG.out); rintro e w54 ⟨v449, rfl, ho0, hb⟩; refine ⟨_, rfl, ?_⟩; have HO450 := Aside0.mk (Kd.R_lower (Kd.R_new' (Kd.R_new' ho0 (Kd.R_lt HO431.out)) (Kd.R_lt HO434.out)) (below_size HB.out)); replace HO431 := Aside0.mk (Kd.R_elder' HO431.out (Kd.R_base ho0) hb); replace HO434 := Aside0.mk (Kd.R_elder' HO434.out (Kd.R_base ho0) hb); replace BK424 := bb_ BK424 hb; replace BK425 := bb_ BK425 hb; replace BK426 := bb_ BK426 hb; replace HB := hb_ HB hb; try clear hb; try clear ho0; obtain ⟨Ao55, co55, rfl⟩ := Kd.R_slice HO450.out; have p451 : 0 ≤ (0 : Int) := (by omega); have q451 : 0 < (t448.length : Int) := od_; obtain ⟨ad451, e451, hx451_0⟩ := Kd.at_string (Kd.R_reads' HO450.out).2.2 0 p451 q451; cases e451; have qi451 : (0 < t448.length) = True := eq_true (by omega); (try rw [show ((0 : Int)).toNat = 0 from rfl] at hx451_0); (try rw [Addr.add_zero'] at hx451_0); replace p451 := eq_true p451; replace q451 := eq_true q451) | ((with_reducible refine gc_ 32 ?_); refine gl_ (some 36) Tryd.func32 #[.string (rdOf ByteArray.empty t448 0)] ?_; (with_reducible refine (impl_LowWord.calls (rdOf ByteArray.empty t448 0) t452 _ A40.out).mono ?_); rintro e w56 ⟨rfl, hb⟩; refine ⟨_, rfl, ?_⟩; replace HO431 := rb_ HO431 hb; replace HO434 := rb_ HO434 hb; replace BK424 := bb_ BK424 hb; replace BK425 := bb_ BK425 hb; replace BK426 := bb_ BK426 hb; replace HB := hb_ HB hb; try clear hb; have hcz57 := blk_cell BK424.out; have hfz57 := blk_frozen BK424.out) | ((with_reducible refine gc_ 33 ?_); refine gl_ (some 41) Tryd.func33 #[.string t452, .int .i64 t427] ?_; (with_reducible refine (impl_bringWords.calls t452 t427 t453 t454 _ A41.out).mono ?_); rintro e w' ⟨rfl, ⟨nd, rfl⟩⟩; refine ⟨_, rfl, ?_⟩; (try (rw [drewN_self w56]; generalize hq_ : World.drewN w56 _ = w56; replace HO431 := ra_ hq_ HO431; replace HO434 := ra_ hq_ HO434; replace BK424 := ba_ hq_ BK424; replace BK425 := ba_ hq_ BK425; replace BK426 := ba_ hq_ BK426; replace HB := ha_ hq_ HB; clear hq_)); have hcz424q := blk_cell BK424.out; have hfz424q := blk_frozen BK424.out) | ((with_reducible refine gs_ 30 6 ?_); refine sp_ 30 6 gb426 0 (.agg #[.int .i64 t427, .string t428, .slice Ao50 t429.length co50, .slice Ao51 t432.length co51]) #[.int .i64 t427, .string t428, .slice Ao50 t429.length co50, .slice Ao51 t432.length co51] BK426 ?_; intro w58 hbox hbut; replace HO431 := rs_ hbut HO431 BK426; replace HO434 := rs_ hbut HO434 BK426; replace BK424 := bo_ hbut NB424_426 BK424; replace BK425 := bo_ hbut NB425_426 BK425; replace BK426 := Aside0.mk (hbox); replace HB := hs_ HB hbut GE426; clear hbox hbut))
     refine bodyPost_ret (results_list (rs := [.cell 6 30, .tmp 7, .tmp 8, .tmp 9]) rfl (by simp) (.cell gb426 30 #[.int .i64 t427, .string t428, .slice Ao50 t429.length co50, .slice Ao51 t432.length co51] (0, 0) _ rfl (kl_ BK426) Tryd.underlying30 rfl (by kernel_rfl) (.tmp (.tmp (.tmp .nil))))) rfl ?_
     exact ⟨_, _, _, re_, rm_ HO431, rm_ HO434, ni_, bl_⟩
    ·rw [if_neg c42] at H
     have c42b0 := beq_eq_false_iff_ne.mpr c42
     have c42b1 := bne_iff_ne.mpr c42
     have HC59 := Aside0.mk H
     clear H
     go_enter Tryd.func9, Tryd.ntmps9
     go_upto_region 11 with (first | ((with_reducible refine gd_ 3 ?_); refine bx_ 3 30 #[.int .i64 a0_0, .string a0_1, .slice A0_2 l0_2.length c0_2, .slice A0_3 l0_3.length c0_3] ?_; intro gb424 hg w60 hbox hb; have BK424 := Aside0.mk (hbox); have GE424 := ge_ hg HB; replace HB := hb_ HB hb; clear hb hbox hg) | ((with_reducible refine gd_ 4 ?_); refine bx_ 4 37 #[.slice A1_0 l1_0.length c1_0] ?_; intro gb425 hg w61 hbox hb; have BK425 := Aside0.mk (hbox); have GE425 := ge_ hg HB; replace HB := hb_ HB hb; have NB424_425 := nl_ hg BK424; have NB425_424 := ng_ hg BK424; replace BK424 := bb_ BK424 hb; clear hb hbox hg) | ((with_reducible refine gd_ 6 ?_); refine bx_ 6 30 #[.int .i64 0, .string (⟨#[]⟩ : ByteArray), .slice none 0 0, .slice none 0 0] ?_; intro gb426 hg w62 hbox hb; have BK426 := Aside0.mk (hbox); have GE426 := ge_ hg HB; replace HB := hb_ HB hb; have NB424_426 := nl_ hg BK424; have NB426_424 := ng_ hg BK424; replace BK424 := bb_ BK424 hb; have NB425_426 := nl_ hg BK425; have NB426_425 := ng_ hg BK425; replace BK425 := bb_ BK425 hb; clear hb hbox hg; have hnb63 := NB424_425.out; have hnc63 := NB425_424.out; have hnb64 := NB424_426.out; have hnc64 := NB426_424.out; have hcz65 := blk_cell BK424.out; have hfz65 := blk_frozen BK424.out) | ((with_reducible refine gc_ 29 ?_); refine gl_ (some 16) Tryd.func29 #[.agg #[.int .i64 a0_0, .string a0_1, .slice A0_2 l0_2.length c0_2, .slice A0_3 l0_3.length c0_3]] ?_; (with_reducible refine (impl_cloneBring.calls a0_0 a0_1 _ _ l0_2 _ _ l0_3 t427 t428 t429 t432 _ ?side1 ?side2 ?side3 ?side4 A4.out).mono ?_); (case side1 => exact (Kd.C_below HR0_2.out HB.out)); (case side2 => exact HC0_2.out); (case side3 => exact (Kd.C_below HR0_3.out HB.out)); (case side4 => exact HC0_3.out); rintro e w66 ⟨v430, v433, rfl, ho0, ho1, hb⟩; refine ⟨_, rfl, ?_⟩; have HO431 := Aside0.mk (Kd.R_lower ho0 (below_size HB.out)); have HO434 := Aside0.mk (Kd.R_lower ho1 (below_size HB.out)); replace BK424 := bb_ BK424 hb; replace BK425 := bb_ BK425 hb; replace BK426 := bb_ BK426 hb; replace HB := hb_ HB hb; try clear hb; try clear ho0; try clear ho1; obtain ⟨Ao67, co67, rfl⟩ := Kd.R_slice HO431.out; obtain ⟨Ao68, co68, rfl⟩ := Kd.R_slice HO434.out) | ((with_reducible refine gs_ 30 3 ?_); refine sp_ 30 3 gb424 0 (.agg #[.int .i64 t427, .string t428, .slice Ao67 t429.length co67, .slice Ao68 t432.length co68]) #[.int .i64 t427, .string t428, .slice Ao67 t429.length co67, .slice Ao68 t432.length co68] BK424 ?_; intro w69 hbox hbut; replace HO431 := rs_ hbut HO431 BK424; replace HO434 := rs_ hbut HO434 BK424; replace BK424 := Aside0.mk (hbox); replace BK425 := bo_ hbut NB425_424 BK425; replace BK426 := bo_ hbut NB426_424 BK426; replace HB := hs_ HB hbut GE424; clear hbox hbut; have hcz70 := blk_cell BK424.out; have hfz70 := blk_frozen BK424.out) | ((with_reducible refine gc_ 31 ?_); refine gl_ (some 28) Tryd.func31 #[.string a2] ?_; (with_reducible refine (impl_WordsOf.calls k a2 t448 _ ?side1 A22.out).mono ?_); (case side1 => exact gint_below HB.out HG.out); rintro e w71 ⟨v449, rfl, ho0, hb⟩; refine ⟨_, rfl, ?_⟩; have HO450 := Aside0.mk (Kd.R_lower (Kd.R_new' (Kd.R_new' ho0 (Kd.R_lt HO431.out)) (Kd.R_lt HO434.out)) (below_size HB.out)); replace HO431 := Aside0.mk (Kd.R_elder' HO431.out (Kd.R_base ho0) hb); replace HO434 := Aside0.mk (Kd.R_elder' HO434.out (Kd.R_base ho0) hb); replace BK424 := bb_ BK424 hb; replace BK425 := bb_ BK425 hb; replace BK426 := bb_ BK426 hb; replace HB := hb_ HB hb; try clear hb; try clear ho0; obtain ⟨Ao72, co72, rfl⟩ := Kd.R_slice HO450.out; have p451 : 0 ≤ (0 : Int) := (by omega); have q451 : 0 < (t448.length : Int) := od_; obtain ⟨ad451, e451, hx451_0⟩ := Kd.at_string (Kd.R_reads' HO450.out).2.2 0 p451 q451; cases e451; have qi451 : (0 < t448.length) = True := eq_true (by omega); (try rw [show ((0 : Int)).toNat = 0 from rfl] at hx451_0); (try rw [Addr.add_zero'] at hx451_0); replace p451 := eq_true p451; replace q451 := eq_true q451) | ((with_reducible refine gc_ 32 ?_); refine gl_ (some 36) Tryd.func32 #[.string (rdOf ByteArray.empty t448 0)] ?_; (with_reducible refine (impl_LowWord.calls (rdOf ByteArray.empty t448 0) t452 _ A40.out).mono ?_); rintro e w73 ⟨rfl, hb⟩; refine ⟨_, rfl, ?_⟩; replace HO431 := rb_ HO431 hb; replace HO434 := rb_ HO434 hb; replace HO450 := rb_ HO450 hb; replace BK424 := bb_ BK424 hb; replace BK425 := bb_ BK425 hb; replace BK426 := bb_ BK426 hb; replace HB := hb_ HB hb; try clear hb; have hcz74 := blk_cell BK424.out; have hfz74 := blk_frozen BK424.out) | ((with_reducible refine gc_ 33 ?_); refine gl_ (some 41) Tryd.func33 #[.string t452, .int .i64 t427] ?_; (with_reducible refine (impl_bringWords.calls t452 t427 t453 t454 _ A41.out).mono ?_); rintro e w' ⟨rfl, ⟨nd, rfl⟩⟩; refine ⟨_, rfl, ?_⟩))
     (try simp only [Act.put, List.setIfInBounds_toArray, List.set_cons_zero, List.set_cons_succ])
     go_cut [48] (fun v48 wc => ∃ (kq : Nat) (x48_58 : Bool), v48 = .bool x48_58 ∧ Aside0 (impl_StepBring.j0 kq t448 t452 t454 x48_58 t427 t428 t429 t432 l1_0 = some (r1, r2, r3, r4, r5, r6, r7)) ∧ Aside0 (kq ≤ k) ∧ Aside0 (Kd.R Kd.string 9 wc w.heap.size (fun k_ => some k_ ≠ ((.slice Ao67 t429.length co67) : Value).ownBlock ∧ some k_ ≠ ((.slice Ao68 t432.length co68) : Value).ownBlock) (.slice (some ad451) t448.length co72) t448) ∧ Aside0 (Kd.R Kd.string 9 wc w.heap.size (fun k_ => some k_ ≠ ((.slice (some ad451) t448.length co72) : Value).ownBlock ∧ some k_ ≠ ((.slice Ao68 t432.length co68) : Value).ownBlock) (.slice Ao67 t429.length co67) t429) ∧ Aside0 (Kd.R Kd.string 9 wc w.heap.size (fun k_ => some k_ ≠ ((.slice (some ad451) t448.length co72) : Value).ownBlock ∧ some k_ ≠ ((.slice Ao67 t429.length co67) : Value).ownBlock) (.slice Ao68 t432.length co68) t432) ∧ Aside0 (wc.heap[gb424]? = some (.cells #[.int .i64 t427, .string t428, (.slice Ao67 t429.length co67), (.slice Ao68 t432.length co68)] 30 (0, 0))) ∧ Aside0 (wc.heap[gb425]? = some (.cells #[(.slice A1_0 l1_0.length c1_0)] 37 (0, 0))) ∧ Aside0 (wc.heap[gb426]? = some (.cells #[.int .i64 0, .string (⟨#[]⟩ : ByteArray), (.slice none 0 0), (.slice none 0 0)] 30 (0, 0))) ∧ Aside0 (Below w.heap.size w wc))
     case first =>
      have H := HC59.out
      clear HC59
      by_cases c75 : (t448.length : Int) = t453
      ·rw [if_pos c75] at H
       have c75b0 := beq_iff_eq.mpr c75
       have c75b1 := bne_eq_false_iff_eq.mpr c75
       clear c75
       (first | rw [c75b0] | (simp only [i64_w, i32_w]; rw [c75b0]) | skip)
       by_cases c76 : t453 = 2
       ·rw [if_pos c76] at H
        have c76b0 := beq_iff_eq.mpr c76
        have c76b1 := bne_eq_false_iff_eq.mpr c76
        clear c76
        by_cases c77 : 1 < (t448.length : Int)
        ·rw [if_pos c77] at H
         have c77b0 := decide_eq_true c77
         have c77b1 : decide (1 < t448.length) = true := decide_eq_true (by omega)
         clear c77
         obtain ⟨t456, A78, H⟩ := bs_ H
         have H' := Aside0.mk H
         clear H
         have p455 : 0 ≤ (1 : Int) := (by omega)
         have q455 : 1 < (t448.length : Int) := od_
         obtain ⟨ad455, e455, hx455_0⟩ := Kd.at_string (Kd.R_reads' HO450.out).2.2 1 p455 q455
         obtain rfl : ad451 = ad455 := (by injection e455)
         (try simp only [show (1 : Int).toNat = 1 from rfl, Nat.reduceMul, Nat.reduceEqDiff, Go.Addr.add, ↓reduceIte] at hx455_0)
         have qi455 : (1 < t448.length) = True := eq_true (by omega)
         (try rw [show ((1 : Int)).toNat = 1 from rfl] at hx455_0)
         replace p455 := eq_true p455
         replace q455 := eq_true q455
         go_wp2_with (first | (refine lr_ 30 3 BK424 hu30 ?_) | (refine lr_ 37 4 BK425 hu37 ?_) | (go_at_call 34; (with_reducible refine (impl_WordOk.calls k (rdOf ByteArray.empty t448 1) t456 _ A78.out).mono ?_); rintro e w' ⟨rfl, ⟨nd, rfl⟩⟩))
         go_meet
         case rel => exact ⟨_, (!t456), rf_, H', ⟨by first | omega | exact Nat.le_refl _⟩, ⟨rm_ HO450⟩, ⟨rm_ HO431⟩, ⟨rm_ HO434⟩, ⟨kl_ BK424⟩, ⟨kl_ BK425⟩, ⟨kl_ BK426⟩, ⟨bl_⟩⟩
        ·rw [if_neg c77] at H
         exact absurd H (by simp)
       ·rw [if_neg c76] at H
        have c76b0 := beq_eq_false_iff_ne.mpr c76
        have c76b1 := bne_iff_ne.mpr c76
        have H' := Aside0.mk H
        clear H
        go_wp2
        go_meet
        case rel => exact ⟨_, (false), rf_, H', ⟨by first | omega | exact Nat.le_refl _⟩, ⟨rm_ HO450⟩, ⟨rm_ HO431⟩, ⟨rm_ HO434⟩, ⟨kl_ BK424⟩, ⟨kl_ BK425⟩, ⟨kl_ BK426⟩, ⟨bl_⟩⟩
      ·rw [if_neg c75] at H
       have c75b0 := beq_eq_false_iff_ne.mpr c75
       have c75b1 := bne_iff_ne.mpr c75
       (first | rw [c75b0] | (simp only [i64_w, i32_w]; rw [c75b0]) | skip)
       have H' := Aside0.mk H
       clear H
       go_wp2
       go_meet
       case rel => exact ⟨_, (true), rf_, H', ⟨by first | omega | exact Nat.le_refl _⟩, ⟨rm_ HO450⟩, ⟨rm_ HO431⟩, ⟨rm_ HO434⟩, ⟨kl_ BK424⟩, ⟨kl_ BK425⟩, ⟨kl_ BK426⟩, ⟨bl_⟩⟩
     case rest =>
      clear HC59
      try clear c1
      try clear c2
      try clear p2
      try clear c3
      try clear c4
      try clear p4
      try clear q4
      try clear hx4
      try clear qi4
      try clear c5
      try clear c5b0
      try clear c5b1
      try clear c6
      try clear c7
      try clear c9
      try clear c10
      try clear c11
      try clear c23
      try clear c23b0
      try clear c23b1
      try clear c23b2
      try clear c27
      try clear c28
      try clear c29
      try clear c30
      try clear c31
      try clear c32
      try clear c33
      try clear c39
      try clear c39b0
      try clear c39b1
      try clear c42
      try clear c42b0
      try clear c42b1
      try clear p45
      try clear q45
      try clear hx45
      try clear qi45
      try clear c46
      try clear c47
      try clear c63
      try clear c64
      try clear c75
      try clear c75b0
      try clear c75b1
      try clear c76
      try clear c76b0
      try clear c76b1
      try clear c77
      try clear c77b0
      try clear c77b1
      try clear hcz12_0 hcz12_1 hcz12_2 hcz12_3
      try clear hcz17_0 hcz17_1 hcz17_2 hcz17_3
      try clear hcz29_0 hcz29_1 hcz29_2 hcz29_3
      try clear hcz34_0 hcz34_1 hcz34_2 hcz34_3
      try clear hcz37_0 hcz37_1 hcz37_2 hcz37_3
      try clear hcz48_0 hcz48_1 hcz48_2 hcz48_3
      try clear hcz53_0 hcz53_1 hcz53_2 hcz53_3
      try clear hcz57_0 hcz57_1 hcz57_2 hcz57_3
      try clear hcz65_0 hcz65_1 hcz65_2 hcz65_3
      try clear hcz70_0 hcz70_1 hcz70_2 hcz70_3
      try clear hcz74_0 hcz74_1 hcz74_2 hcz74_3
      try clear hfz12_0 hfz12_1 hfz12_2 hfz12_3
      try clear hfz17_0 hfz17_1 hfz17_2 hfz17_3
      try clear hfz29_0 hfz29_1 hfz29_2 hfz29_3
      try clear hfz34_0 hfz34_1 hfz34_2 hfz34_3
      try clear hfz37_0 hfz37_1 hfz37_2 hfz37_3
      try clear hfz48_0 hfz48_1 hfz48_2 hfz48_3
      try clear hfz53_0 hfz53_1 hfz53_2 hfz53_3
      try clear hfz57_0 hfz57_1 hfz57_2 hfz57_3
      try clear hfz65_0 hfz65_1 hfz65_2 hfz65_3
      try clear hfz70_0 hfz70_1 hfz70_2 hfz70_3
      try clear hfz74_0 hfz74_1 hfz74_2 hfz74_3
      try clear hx451_0
      try clear hx455_0
      try clear p451
      try clear p455
      try clear q451
      try clear q455
      obtain ⟨kq, x48_58, rfl, HA, HJ58, HO_10, HO_425002, HO_425003, BK424, BK425, BK426, HB⟩ := hcut
      cases kq with
      | zero => exact absurd HA.out (by simp [impl_StepBring.j0])
      | succ kj58 =>
       have H := HA.out
       clear HA
       simp only [impl_StepBring.j0] at H
       by_cases c79 : x48_58 = true
       ·subst c79
        (try rw [if_pos rfl] at H)
        simp only [Option.some.injEq, Prod.mk.injEq] at H
        obtain ⟨rfl, rfl, rfl, rfl, rfl, rfl, rfl⟩ := H
        have hnb80 := NB424_425.out
        have hnc80 := NB425_424.out
        have hnb81 := NB424_426.out
        have hnc81 := NB426_424.out
        have hcz82 := blk_cell BK424.out
        have hfz82 := blk_frozen BK424.out
        go_wp2_with (first | (refine lr_ 30 3 BK424 hu30 ?_) | (refine lr_ 37 4 BK425 hu37 ?_) | ((with_reducible refine gs_ 30 6 ?_); refine sp_ 30 6 gb426 0 (.agg #[.int .i64 t427, .string t428, .slice Ao67 t429.length co67, .slice Ao68 t432.length co68]) #[.int .i64 t427, .string t428, .slice Ao67 t429.length co67, .slice Ao68 t432.length co68] BK426 ?_; intro w83 hbox hbut; replace HO_425002 := rs_ hbut HO_425002 BK426; replace HO_425003 := rs_ hbut HO_425003 BK426; replace BK424 := bo_ hbut NB424_426 BK424; replace BK425 := bo_ hbut NB425_426 BK425; replace BK426 := Aside0.mk (hbox); replace HB := hs_ HB hbut GE426; clear hbox hbut))
        refine bodyPost_ret (results_list (rs := [.cell 6 30, .tmp 7, .tmp 8, .tmp 9]) rfl (by simp) (.cell gb426 30 #[.int .i64 t427, .string t428, .slice Ao67 t429.length co67, .slice Ao68 t432.length co68] (0, 0) _ rfl (kl_ BK426) Tryd.underlying30 rfl (by kernel_rfl) (.tmp (.tmp (.tmp .nil))))) rfl ?_
        exact ⟨_, _, _, re_, rm_ HO_425002, rm_ HO_425003, ni_, bl_⟩
       ·replace c79 := Bool.eq_false_iff.mpr c79
        subst c79
        (try rw [if_neg (show ¬ (false = true) by decide)] at H)
        by_cases c84 : t454 = true
        ·subst c84
         (try rw [if_pos rfl] at H)
         by_cases c85 : t452.toList = ([104, 101, 108, 111] : List UInt8)
         ·rw [if_pos c85] at H
          have c85b0 := beq_iff_eq.mpr c85
          have c85b1 := bne_eq_false_iff_eq.mpr c85
          clear c85
          obtain ⟨⟨t457, t458, t459, t462⟩, A86, H⟩ := bs_ H
          (try set_option simprocs false in dsimp only at H)
          simp only [Option.some.injEq, Prod.mk.injEq] at H
          obtain ⟨rfl, rfl, rfl, rfl, rfl, rfl, rfl⟩ := H
          go_wp2_with (first | (refine lr_ 30 3 BK424 hu30 ?_) | (refine lr_ 37 4 BK425 hu37 ?_) | ((with_reducible refine gc_ 35 ?_); refine gl_ (some 72) Tryd.func35 #[] ?_; (with_reducible refine (impl_hello.calls  t457 t458 t459 t462 _ A86.out).mono ?_); rintro e w87 ⟨v460, v463, rfl, ho0, ho1, hb⟩; refine ⟨_, rfl, ?_⟩; have HO461 := Aside0.mk (Kd.R_lower (Kd.R_new' (Kd.R_new' (Kd.R_new' ho0 (Kd.R_lt HO_10.out)) (Kd.R_lt HO_425002.out)) (Kd.R_lt HO_425003.out)) (below_size HB.out)); have HO464 := Aside0.mk (Kd.R_lower (Kd.R_new' (Kd.R_new' (Kd.R_new' ho1 (Kd.R_lt HO_10.out)) (Kd.R_lt HO_425002.out)) (Kd.R_lt HO_425003.out)) (below_size HB.out)); replace BK424 := bb_ BK424 hb; replace BK425 := bb_ BK425 hb; replace BK426 := bb_ BK426 hb; replace HB := hb_ HB hb; try clear hb; try clear ho0; try clear ho1; obtain ⟨Ao88, co88, rfl⟩ := Kd.R_slice HO461.out; obtain ⟨Ao89, co89, rfl⟩ := Kd.R_slice HO464.out) | ((with_reducible refine gs_ 30 3 ?_); refine sp_ 30 3 gb424 0 (.agg #[.int .i64 t457, .string t458, .slice Ao88 t459.length co88, .slice Ao89 t462.length co89]) #[.int .i64 t457, .string t458, .slice Ao88 t459.length co88, .slice Ao89 t462.length co89] BK424 ?_; intro w90 hbox hbut; replace HO461 := rs_ hbut HO461 BK424; replace HO464 := rs_ hbut HO464 BK424; replace BK424 := Aside0.mk (hbox); replace BK425 := bo_ hbut NB425_424 BK425; replace BK426 := bo_ hbut NB426_424 BK426; replace HB := hs_ HB hbut GE424; clear hbox hbut; have hnb91 := NB424_425.out; have hnc91 := NB425_424.out; have hnb92 := NB424_426.out; have hnc92 := NB426_424.out; have hcz93 := blk_cell BK424.out; have hfz93 := blk_frozen BK424.out) | ((with_reducible refine gs_ 30 6 ?_); refine sp_ 30 6 gb426 0 (.agg #[.int .i64 t457, .string t458, .slice Ao88 t459.length co88, .slice Ao89 t462.length co89]) #[.int .i64 t457, .string t458, .slice Ao88 t459.length co88, .slice Ao89 t462.length co89] BK426 ?_; intro w94 hbox hbut; replace HO461 := rs_ hbut HO461 BK426; replace HO464 := rs_ hbut HO464 BK426; replace BK424 := bo_ hbut NB424_426 BK424; replace BK425 := bo_ hbut NB425_426 BK425; replace BK426 := Aside0.mk (hbox); replace HB := hs_ HB hbut GE426; clear hbox hbut))
          refine bodyPost_ret (results_list (rs := [.cell 6 30, .tmp 7, .tmp 8, .tmp 9]) rfl (by simp) (.cell gb426 30 #[.int .i64 t457, .string t458, .slice Ao88 t459.length co88, .slice Ao89 t462.length co89] (0, 0) _ rfl (kl_ BK426) Tryd.underlying30 rfl (by kernel_rfl) (.tmp (.tmp (.tmp .nil))))) rfl ?_
          exact ⟨_, _, _, re_, rm_ HO461, rm_ HO464, ni_, bl_⟩
         ·rw [if_neg c85] at H
          have c85b0 := beq_eq_false_iff_ne.mpr c85
          have c85b1 := bne_iff_ne.mpr c85
          by_cases c95 : t452.toList = ([109, 97, 105, 108] : List UInt8)
          ·rw [if_pos c95] at H
           have c95b0 := beq_iff_eq.mpr c95
           have c95b1 := bne_eq_false_iff_eq.mpr c95
           clear c95
           by_cases c96 : 1 < (t448.length : Int)
           ·rw [if_pos c96] at H
            have c96b0 := decide_eq_true c96
            have c96b1 : decide (1 < t448.length) = true := decide_eq_true (by omega)
            clear c96
            simp only [Option.some.injEq, Prod.mk.injEq] at H
            obtain ⟨rfl, rfl, rfl, rfl, rfl, rfl, rfl⟩ := H
            try go_wp2
            replace HO_10 := Aside0.mk (Kd.R_drew HO_10.out)
            replace HO_425002 := Aside0.mk (Kd.R_drew HO_425002.out)
            replace HO_425003 := Aside0.mk (Kd.R_drew HO_425003.out)
            replace BK424 := Aside0.mk (blk_drew BK424.out)
            replace BK426 := Aside0.mk (blk_drew BK426.out)
            replace HB := hd_ HB
            have p465 : 0 ≤ (1 : Int) := (by omega)
            have q465 : 1 < (t448.length : Int) := od_
            obtain ⟨ad465, e465, hx465_0⟩ := Kd.at_string (Kd.R_reads' HO_10.out).2.2 1 p465 q465
            obtain rfl : ad451 = ad465 := (by injection e465)
            (try simp only [show (1 : Int).toNat = 1 from rfl, Nat.reduceMul, Nat.reduceEqDiff, Go.Addr.add, ↓reduceIte] at hx465_0)
            have qi465 : (1 < t448.length) = True := eq_true (by omega)
            (try rw [show ((1 : Int)).toNat = 1 from rfl] at hx465_0)
            replace p465 := eq_true p465
            replace q465 := eq_true q465
            refine start_ (n := 7) (S := fun w' => w'.cell? ⟨ad451.block, ad451.off + 1, none⟩ = some (.string (rdOf ByteArray.empty t448 1))) (ds := []) (fl 7 0) (by kernel_rfl) rfl rfl (hx465_0) (fun hHeld => ?_)
            generalize wc.drew = w97 at HO_10 HO_425002 HO_425003 BK424 BK426 HB hx465_0 hHeld ⊢
            refine pure_ (i := 0) (N := some 75) (v := ?_) (a' := ?_) (fl 7 1) rfl rfl (by kernel_rfl) (fun _ _ _ h => h) (Or.inl ⟨by rfl, ?_⟩) ?_ ?_
            rotate_left
            ·intro w'
             go_simp
             with_reducible rfl
            rotate_left
            ·simp only [Act.put, List.setIfInBounds_toArray, List.set_cons_zero, List.set_cons_succ, i64_w, i32_w]
             rfl
            refine pure_ (i := 1) (N := some 76) (v := ?_) (a' := ?_) (fl 7 3) rfl rfl (by kernel_rfl) (fun _ _ _ h => h) (Or.inl ⟨by rfl, ?_⟩) ?_ ?_
            rotate_left
            ·intro w'
             go_simp
             with_reducible rfl
            rotate_left
            ·simp only [Act.put, List.setIfInBounds_toArray, List.set_cons_zero, List.set_cons_succ, i64_w, i32_w]
             rfl
            refine pure_ (i := 3) (N := some 78) (v := ?_) (a' := ?_) (fl 7 11) rfl rfl (by kernel_rfl) (fun _ _ _ h => h) (Or.inl ⟨by rfl, ?_⟩) ?_ ?_
            rotate_left
            ·intro w'
             go_simp
             with_reducible rfl
            rotate_left
            ·simp only [Act.put, List.setIfInBounds_toArray, List.set_cons_zero, List.set_cons_succ, i64_w, i32_w]
             rfl
            refine take_ (i := 2) (N := some 77) (v := ?_) (a' := ?_) (fl 7 15) rfl rfl (by kernel_rfl) (fun _ _ _ h => h) (Or.inl ⟨by rfl, ?_⟩) hHeld ?_ ?_
            rotate_left
            ·intro w' s0
             go_simp
             with_reducible rfl
            rotate_left
            ·simp only [Act.put, List.setIfInBounds_toArray, List.set_cons_zero, List.set_cons_succ, i64_w, i32_w]
             rfl
            refine one_ (i := 4) (N := none) (fl 7 31) rfl rfl (by kernel_rfl) (by decide) (fun K hK => ?_)
            have hs98 : w97.cell? ⟨gb424, 0, none⟩ = some (.int .i64 t427) := bc_ BK424 0
            have hfs98 := blk_frozen BK424.out 0
            have hns98_1 := NB425_424.out
            have hns98_2 := NB426_424.out
            have hms98_1 := NB424_425.out
            have hms98_2 := NB424_426.out
            refine skip_ (w1 := ?_) (by rfl) rfl ?_ ?_
            rotate_left
            ·go_simp
             rfl
            refine hK.out _ _ (((cell_far (p := ⟨gb424, _, none⟩) (by first | exact Kd.own_blk (Kd.R_ne HO_10.out BK424.out (by decide)) | (rw [add_block]; exact Kd.own_blk (Kd.R_ne HO_10.out BK424.out (by decide))) | (show (Addr.add _ _).block ≠ _; rw [add_block]; exact Kd.own_blk (Kd.R_ne HO_10.out BK424.out (by decide))) | (dsimp only; exact Kd.own_blk (Kd.R_ne HO_10.out BK424.out (by decide)))) _).trans (hHeld))) (fun hHeld => ?_)
            clear hK K
            refine pure_ (i := 5) (N := some 79) (v := ?_) (a' := ?_) (fl 7 63) rfl rfl (by kernel_rfl) (fun _ _ _ h => h) (Or.inl ⟨by rfl, ?_⟩) ?_ ?_
            rotate_left
            ·intro w'
             go_simp
             with_reducible rfl
            rotate_left
            ·simp only [Act.put, List.setIfInBounds_toArray, List.set_cons_zero, List.set_cons_succ, i64_w, i32_w]
             rfl
            refine one_ (i := 6) (N := none) (fl 7 127) rfl rfl (by kernel_rfl) (by decide) (fun K hK => ?_)
            have hs99 : w97.cell? ⟨gb424, 1, none⟩ = some (.string t428) := bc_ BK424 1
            have hfs99 := blk_frozen BK424.out 1
            have hns99_1 := NB425_424.out
            have hns99_2 := NB426_424.out
            have hms99_1 := NB424_425.out
            have hms99_2 := NB424_426.out
            refine skip_ (w1 := ?_) (by rfl) rfl ?_ ?_
            rotate_left
            ·go_simp
             rfl
            refine hK.out _ _ (((cell_far (p := ⟨gb424, _, none⟩) (by first | exact Kd.own_blk (Kd.R_ne HO_10.out BK424.out (by decide)) | (rw [add_block]; exact Kd.own_blk (Kd.R_ne HO_10.out BK424.out (by decide))) | (show (Addr.add _ _).block ≠ _; rw [add_block]; exact Kd.own_blk (Kd.R_ne HO_10.out BK424.out (by decide))) | (dsimp only; exact Kd.own_blk (Kd.R_ne HO_10.out BK424.out (by decide)))) _).trans (hHeld))) (fun hHeld => ?_)
            clear hK K
            refine done_ (by kernel_rfl) ?_
            have hnb100 := NB424_425.out
            have hnc100 := NB425_424.out
            have hnb101 := NB424_426.out
            have hnc101 := NB426_424.out
            have hcz102 := blk_cell BK424.out
            have hfz102 := blk_frozen BK424.out
            have hnb103 := NB426_425.out
            have hnc103 := NB425_426.out
            have hcz104 := blk_cell BK426.out
            have hfz104 := blk_frozen BK426.out
            try go_wp2
            refine bodyPost_ret (results_list (rs := [.cell 6 30, .tmp 7, .tmp 8, .tmp 9]) rfl (by simp) (.cell gb426 30 #[.int .i64 2, .string (rdOf ByteArray.empty t448 1), .slice Ao67 t429.length co67, .slice Ao68 t432.length co68] (0, 0) _ rfl (by (with_reducible repeat (first | refine blk_drewN ?_ _ | refine blk_drew ?_ | refine blk_alloc ?_ _)); refine blk_put (cs := #[.int .i64 2, .string (rdOf ByteArray.empty t448 1), .slice Ao67 t429.length co67, .slice none 0 0]) ?_ 3 _ rfl; (with_reducible repeat (first | refine blk_drewN ?_ _ | refine blk_drew ?_ | refine blk_alloc ?_ _)); refine blk_put (cs := #[.int .i64 2, .string (rdOf ByteArray.empty t448 1), .slice none 0 0, .slice none 0 0]) ?_ 2 _ rfl; (with_reducible repeat (first | refine blk_drewN ?_ _ | refine blk_drew ?_ | refine blk_alloc ?_ _)); refine blk_put (cs := #[.int .i64 2, .string (⟨#[]⟩ : ByteArray), .slice none 0 0, .slice none 0 0]) ?_ 1 _ rfl; (with_reducible repeat (first | refine blk_drewN ?_ _ | refine blk_drew ?_ | refine blk_alloc ?_ _)); refine blk_put (cs := #[.int .i64 0, .string (⟨#[]⟩ : ByteArray), .slice none 0 0, .slice none 0 0]) ?_ 0 _ rfl; (with_reducible repeat (first | refine blk_drewN ?_ _ | refine blk_drew ?_ | refine blk_alloc ?_ _)); refine blk_far ?_ NB426_424.out _; (with_reducible repeat (first | refine blk_drewN ?_ _ | refine blk_drew ?_ | refine blk_alloc ?_ _)); refine blk_far ?_ NB426_424.out _; (with_reducible repeat (first | refine blk_drewN ?_ _ | refine blk_drew ?_ | refine blk_alloc ?_ _)); exact BK426.out) Tryd.underlying30 rfl (by kernel_rfl) (.tmp (.tmp (.tmp .nil))))) rfl ?_
            exact ⟨_, _, _, re_, by (with_reducible repeat (first | apply Kd.R_alloc | apply Kd.R_drewN | apply Kd.R_drew)); exact Kd.R_mono (Kd.R_far (p := ⟨gb426, 3, none⟩) (Kd.R_far (p := ⟨gb426, 2, none⟩) (Kd.R_far (p := ⟨gb426, 1, none⟩) (Kd.R_far (p := ⟨gb426, 0, none⟩) (Kd.R_far (p := ⟨gb424, 1, none⟩) (Kd.R_far (p := ⟨gb424, 0, none⟩) (Kd.R_types (Kd.R_types HO_425002.out BK424.out (by decide)) BK426.out (by decide)) (fun _ hk => hk.1.2) (.int .i64 2)) (fun _ hk => hk.1.2) (.string (rdOf ByteArray.empty t448 1))) (fun _ hk => hk.2) (.int .i64 2)) (fun _ hk => hk.2) (.string (rdOf ByteArray.empty t448 1))) (fun _ hk => hk.2) (.slice Ao67 t429.length co67)) (fun _ hk => hk.2) (.slice Ao68 t432.length co68)) (fun _ hk => hk.1.1.2), by (with_reducible repeat (first | apply Kd.R_alloc | apply Kd.R_drewN | apply Kd.R_drew)); exact Kd.R_mono (Kd.R_far (p := ⟨gb426, 3, none⟩) (Kd.R_far (p := ⟨gb426, 2, none⟩) (Kd.R_far (p := ⟨gb426, 1, none⟩) (Kd.R_far (p := ⟨gb426, 0, none⟩) (Kd.R_far (p := ⟨gb424, 1, none⟩) (Kd.R_far (p := ⟨gb424, 0, none⟩) (Kd.R_types (Kd.R_types HO_425003.out BK424.out (by decide)) BK426.out (by decide)) (fun _ hk => hk.1.2) (.int .i64 2)) (fun _ hk => hk.1.2) (.string (rdOf ByteArray.empty t448 1))) (fun _ hk => hk.2) (.int .i64 2)) (fun _ hk => hk.2) (.string (rdOf ByteArray.empty t448 1))) (fun _ hk => hk.2) (.slice Ao67 t429.length co67)) (fun _ hk => hk.2) (.slice Ao68 t432.length co68)) (fun _ hk => hk.1.1.2), ni_, bl_⟩
           ·rw [if_neg c96] at H
            exact absurd H (by simp)
          ·rw [if_neg c95] at H
           have c95b0 := beq_eq_false_iff_ne.mpr c95
           have c95b1 := bne_iff_ne.mpr c95
           by_cases c105 : t452.toList = ([114, 99, 112, 116] : List UInt8)
           ·rw [if_pos c105] at H
            have c105b0 := beq_iff_eq.mpr c105
            have c105b1 := bne_eq_false_iff_eq.mpr c105
            clear c105
            by_cases c106 : 1 < (t448.length : Int)
            ·rw [if_pos c106] at H
             have c106b0 := decide_eq_true c106
             have c106b1 : decide (1 < t448.length) = true := decide_eq_true (by omega)
             clear c106
             obtain ⟨⟨t467, t468, t469, t472, t475⟩, A107, H⟩ := bs_ H
             (try set_option simprocs false in dsimp only at H)
             simp only [Option.some.injEq, Prod.mk.injEq] at H
             obtain ⟨rfl, rfl, rfl, rfl, rfl, rfl, rfl⟩ := H
             try go_wp2
             replace HO_10 := Aside0.mk (Kd.R_drew HO_10.out)
             replace HO_425002 := Aside0.mk (Kd.R_drew HO_425002.out)
             replace HO_425003 := Aside0.mk (Kd.R_drew HO_425003.out)
             replace BK424 := Aside0.mk (blk_drew BK424.out)
             replace BK425 := Aside0.mk (blk_drew BK425.out)
             replace BK426 := Aside0.mk (blk_drew BK426.out)
             replace HB := hd_ HB
             have p466 : 0 ≤ (1 : Int) := (by omega)
             have q466 : 1 < (t448.length : Int) := od_
             obtain ⟨ad466, e466, hx466_0⟩ := Kd.at_string (Kd.R_reads' HO_10.out).2.2 1 p466 q466
             obtain rfl : ad451 = ad466 := (by injection e466)
             (try simp only [show (1 : Int).toNat = 1 from rfl, Nat.reduceMul, Nat.reduceEqDiff, Go.Addr.add, ↓reduceIte] at hx466_0)
             have qi466 : (1 < t448.length) = True := eq_true (by omega)
             (try rw [show ((1 : Int)).toNat = 1 from rfl] at hx466_0)
             replace p466 := eq_true p466
             replace q466 := eq_true q466
             refine start_ (n := 11) (S := fun w' => w'.cell? ⟨gb424, 0, none⟩ = some (.int .i64 t427) ∧ w'.cell? ⟨gb424, 1, none⟩ = some (.string t428) ∧ w'.cell? ⟨gb424, 2, none⟩ = some (.slice Ao67 t429.length co67) ∧ w'.cell? ⟨gb424, 3, none⟩ = some (.slice Ao68 t432.length co68) ∧ w'.cell? ⟨gb425, 0, none⟩ = some (.slice A1_0 l1_0.length c1_0) ∧ w'.cell? ⟨ad451.block, ad451.off + 1, none⟩ = some (.string (rdOf ByteArray.empty t448 1))) (ds := [9]) (fl 11 0) (by kernel_rfl) rfl rfl ⟨bc_ BK424 0, bc_ BK424 1, bc_ BK424 2, bc_ BK424 3, bc_ BK425 0, hx466_0⟩ (fun hHeld => ?_); refine with_tabW impl_StepBring.tab22 impl_StepBring.bits22 (fun HT_ HW_ => ?_)
             generalize wc.drew = w108 at HO_10 HO_425002 HO_425003 BK424 BK425 BK426 HB hx466_0 hHeld ⊢
             refine pq_ 2 85 (fl 11 4) HT_.out ?_
             refine pq_ 3 86 (fl 11 12) HT_.out ?_
             refine tq_ 0 83 (fl 11 13) HT_.out HW_.out hHeld ?_
             refine tq_ 1 84 (fl 11 15) HT_.out HW_.out hHeld ?_
             refine tq_ 4 87 (fl 11 31) HT_.out HW_.out hHeld ?_
             refine one_ (i := 5) (N := some 88) (fl 11 63) rfl rfl (one_of HT_.out (by kernel_rfl)) (by decide) (fun K hK => ?_)
             refine go_ Tryd.func36 #[.agg #[.int .i64 t427, .string t428, .slice Ao67 t429.length co67, .slice Ao68 t432.length co68], .agg #[.slice A1_0 l1_0.length c1_0], .string (rdOf ByteArray.empty t448 1)] ?_
             with_reducible refine (impl_rcpt.calls kj58 t427 t428 (fun k_ => some k_ = (.slice Ao67 t429.length co67 : Value).ownBlock) (.slice Ao67 t429.length co67) t429 (fun k_ => some k_ = (.slice Ao68 t432.length co68 : Value).ownBlock) (.slice Ao68 t432.length co68) t432 _ _ l1_0 (rdOf ByteArray.empty t448 1) t467 t468 t469 t472 t475 w _ ?side1 ?side2 ?side3 ?side4 ?side5 ?side6 ?side7 A107.out).mono ?_
             (case side1 => repeat (first | (with_reducible first | exact HB.out | apply below_alloc | apply pw_below_drewN | apply below_drew1 | refine below_set ?_ GE424.out | refine below_set ?_ GE425.out | refine below_set ?_ GE426.out) | exact HB.out))
             (case side2 => exact Kd.R_tight rfl HO_425002.out)
             (case side3 => exact fun k_ e_ => (HO_425002.out.1 k_ e_.symm).2)
             (case side4 => exact Kd.R_tight rfl HO_425003.out)
             (case side5 => exact fun k_ e_ => (HO_425003.out.1 k_ e_.symm).2)
             (case side6 => exact Kd.C_kept_came k84_heap HR1_0.out HB.out (fun k_ hs_ => Or.elim hs_ (fun e_ => (fun e_ => Kd.R_base HO_425002.out k_ e_.symm) e_) (fun e_ => (fun e_ => Kd.R_base HO_425003.out k_ e_.symm) e_)))
             (case side7 => exact HC1_0.out)
             rintro e w109 ⟨v470, v473, rfl, ho0, ho1, hb, hkp⟩
             have HS5_ := cell_kept (hHeld.2.2.2.2.2) hkp (by first | (rw [add_block]; exact (fun hs_ => Or.elim hs_ (fun e_ => (((HO_10.out).1 _ rfl).1) e_) (fun e_ => (((HO_10.out).1 _ rfl).2) e_))) | (show ¬ _; simp only [add_block]; exact (fun hs_ => Or.elim hs_ (fun e_ => (((HO_10.out).1 _ rfl).1) e_) (fun e_ => (((HO_10.out).1 _ rfl).2) e_))) | exact (fun hs_ => Or.elim hs_ (fun e_ => (((HO_10.out).1 _ rfl).1) e_) (fun e_ => (((HO_10.out).1 _ rfl).2) e_)))
             refine ⟨_, rfl, ?_⟩
             replace BK424 := Aside0.mk (blk_kept (kl_ BK424) hkp (fun hs_ => Or.elim hs_ (fun e_ => (fun e_ => (Kd.R_ne HO_425002.out BK424.out (by decide)) e_) e_) (fun e_ => (fun e_ => (Kd.R_ne HO_425003.out BK424.out (by decide)) e_) e_)))
             replace BK425 := Aside0.mk (blk_kept (kl_ BK425) hkp (fun hs_ => Or.elim hs_ (fun e_ => (fun e_ => (Kd.R_ne HO_425002.out BK425.out (by decide)) e_) e_) (fun e_ => (fun e_ => (Kd.R_ne HO_425003.out BK425.out (by decide)) e_) e_)))
             replace BK426 := Aside0.mk (blk_kept (kl_ BK426) hkp (fun hs_ => Or.elim hs_ (fun e_ => (fun e_ => (Kd.R_ne HO_425002.out BK426.out (by decide)) e_) e_) (fun e_ => (fun e_ => (Kd.R_ne HO_425003.out BK426.out (by decide)) e_) e_)))
             have HO471 := Aside0.mk (Kd.R_mono (ok' := fun k_ => some k_ ≠ (v473 : Value).ownBlock ∧ some k_ ≠ (.slice (some ad451) t448.length co72 : Value).ownBlock) ho0 (fun k_ hk_ => ⟨hk_.2, Or.elim hk_.1 (fun hs_ => Or.elim hs_ (fun hs_ => fun e_ => (((HO_10.out).1 k_ e_.symm).1) hs_) (fun hs_ => fun e_ => (((HO_10.out).1 k_ e_.symm).2) hs_)) (fun hn_ => (Kd.fresh' (Kd.R_lt HO_10.out) k_ hn_))⟩))
             have HO474 := Aside0.mk (Kd.R_mono (ok' := fun k_ => some k_ ≠ (v470 : Value).ownBlock ∧ some k_ ≠ (.slice (some ad451) t448.length co72 : Value).ownBlock) ho1 (fun k_ hk_ => ⟨hk_.2, Or.elim hk_.1 (fun hs_ => Or.elim hs_ (fun hs_ => fun e_ => (((HO_10.out).1 k_ e_.symm).1) hs_) (fun hs_ => fun e_ => (((HO_10.out).1 k_ e_.symm).2) hs_)) (fun hn_ => (Kd.fresh' (Kd.R_lt HO_10.out) k_ hn_))⟩))
             replace HB := Aside0.mk (hb)
             clear HO_425002 HO_425003
             try clear hb
             (try clear hkp)
             try clear ho0
             try clear ho1
             obtain ⟨Ao112, co112, eo112⟩ := Kd.R_slice HO471.out
             (first | subst eo112 | (injection eo112 with f1_ f2_ f3_; have f4_ := f1_.symm; have f5_ := f3_.symm; clear f1_ f2_ f3_; subst f4_; subst f5_))
             obtain ⟨Ao114, co114, eo114⟩ := Kd.R_slice HO474.out
             (first | subst eo114 | (injection eo114 with f1_ f2_ f3_; have f4_ := f1_.symm; have f5_ := f3_.symm; clear f1_ f2_ f3_; subst f4_; subst f5_))
             refine hK.out _ _ ⟨bc_ BK424 0, bc_ BK424 1, bc_ BK424 2, bc_ BK424 3, bc_ BK425 0, HS5_⟩ (fun hHeld => ?_)
             clear hK K
             refine nq_ ?_
             refine pq_ 6 82 (fl 11 127) HT_.out ?_
             refine pq_ 7 89 (fl 11 255) HT_.out ?_
             refine pq_ 8 90 (fl 11 511) HT_.out ?_
             refine last_ (i := 9) (N := none) (fl 11 1023) rfl rfl (one_of HT_.out (by kernel_rfl)) (by decide) (fun K hK => ?_)
             have hs110 : w109.cell? ⟨gb424, 0, none⟩ = some (.int .i64 t427) := bc_ BK424 0
             have hfs110 := blk_frozen BK424.out 0
             have hns110_1 := NB425_424.out
             have hns110_2 := NB426_424.out
             have hms110_1 := NB424_425.out
             have hms110_2 := NB424_426.out
             have hs111 : w109.cell? ⟨gb424, 1, none⟩ = some (.string t428) := bc_ BK424 1
             have hfs111 := blk_frozen BK424.out 1
             have hns111_1 := NB425_424.out
             have hns111_2 := NB426_424.out
             have hms111_1 := NB424_425.out
             have hms111_2 := NB424_426.out
             have hs113 : w109.cell? ⟨gb424, 2, none⟩ = some (.slice Ao67 t429.length co67) := bc_ BK424 2
             have hfs113 := blk_frozen BK424.out 2
             have hns113_1 := NB425_424.out
             have hns113_2 := NB426_424.out
             have hms113_1 := NB424_425.out
             have hms113_2 := NB424_426.out
             have hs115 : w109.cell? ⟨gb424, 3, none⟩ = some (.slice Ao68 t432.length co68) := bc_ BK424 3
             have hfs115 := blk_frozen BK424.out 3
             have hns115_1 := NB425_424.out
             have hns115_2 := NB426_424.out
             have hms115_1 := NB424_425.out
             have hms115_2 := NB424_426.out
             refine skip_ (w1 := ?_) (by rfl) rfl ?_ ?_
             rotate_left
             ·go_simp
              rfl
             refine hK.out _ _ ?_
             clear hK K
             refine pq_ 10 14 (fl 11 2047) HT_.out ?_
             refine done_ (done_of HT_.out (by kernel_rfl)) ?_
             have hnb116 := NB424_425.out
             have hnc116 := NB425_424.out
             have hnb117 := NB424_426.out
             have hnc117 := NB426_424.out
             have hcz118 := blk_cell BK424.out
             have hfz118 := blk_frozen BK424.out
             have hnb119 := NB426_425.out
             have hnc119 := NB425_426.out
             have hcz120 := blk_cell BK426.out
             have hfz120 := blk_frozen BK426.out
             try go_wp2
             refine bodyPost_ret (results_list (rs := [.cell 6 30, .tmp 7, .tmp 8, .tmp 9]) rfl (by simp) (.cell gb426 30 #[.int .i64 t467, .string t468, .slice Ao112 t469.length co112, .slice Ao114 t472.length co114] (0, 0) _ rfl (by (with_reducible repeat (first | refine blk_drewN ?_ _ | refine blk_drew ?_ | refine blk_alloc ?_ _)); refine blk_put (cs := #[.int .i64 t467, .string t468, .slice Ao112 t469.length co112, .slice none 0 0]) ?_ 3 _ rfl; (with_reducible repeat (first | refine blk_drewN ?_ _ | refine blk_drew ?_ | refine blk_alloc ?_ _)); refine blk_put (cs := #[.int .i64 t467, .string t468, .slice none 0 0, .slice none 0 0]) ?_ 2 _ rfl; (with_reducible repeat (first | refine blk_drewN ?_ _ | refine blk_drew ?_ | refine blk_alloc ?_ _)); refine blk_put (cs := #[.int .i64 t467, .string (⟨#[]⟩ : ByteArray), .slice none 0 0, .slice none 0 0]) ?_ 1 _ rfl; (with_reducible repeat (first | refine blk_drewN ?_ _ | refine blk_drew ?_ | refine blk_alloc ?_ _)); refine blk_put (cs := #[.int .i64 0, .string (⟨#[]⟩ : ByteArray), .slice none 0 0, .slice none 0 0]) ?_ 0 _ rfl; (with_reducible repeat (first | refine blk_drewN ?_ _ | refine blk_drew ?_ | refine blk_alloc ?_ _)); refine blk_far ?_ NB426_424.out _; (with_reducible repeat (first | refine blk_drewN ?_ _ | refine blk_drew ?_ | refine blk_alloc ?_ _)); refine blk_far ?_ NB426_424.out _; (with_reducible repeat (first | refine blk_drewN ?_ _ | refine blk_drew ?_ | refine blk_alloc ?_ _)); refine blk_far ?_ NB426_424.out _; (with_reducible repeat (first | refine blk_drewN ?_ _ | refine blk_drew ?_ | refine blk_alloc ?_ _)); refine blk_far ?_ NB426_424.out _; (with_reducible repeat (first | refine blk_drewN ?_ _ | refine blk_drew ?_ | refine blk_alloc ?_ _)); exact BK426.out) Tryd.underlying30 rfl (by kernel_rfl) (.tmp (.tmp (.tmp .nil))))) rfl ?_
             exact ⟨_, _, _, re_, by (with_reducible repeat (first | apply Kd.R_alloc | apply Kd.R_drewN | apply Kd.R_drew)); exact Kd.R_mono (Kd.R_far (p := ⟨gb426, 3, none⟩) (Kd.R_far (p := ⟨gb426, 2, none⟩) (Kd.R_far (p := ⟨gb426, 1, none⟩) (Kd.R_far (p := ⟨gb426, 0, none⟩) (Kd.R_far (p := ⟨gb424, 3, none⟩) (Kd.R_far (p := ⟨gb424, 2, none⟩) (Kd.R_far (p := ⟨gb424, 1, none⟩) (Kd.R_far (p := ⟨gb424, 0, none⟩) (Kd.R_types (Kd.R_types HO471.out BK424.out (by decide)) BK426.out (by decide)) (fun _ hk => hk.1.2) (.int .i64 t467)) (fun _ hk => hk.1.2) (.string t468)) (fun _ hk => hk.1.2) (.slice Ao112 t469.length co112)) (fun _ hk => hk.1.2) (.slice Ao114 t472.length co114)) (fun _ hk => hk.2) (.int .i64 t467)) (fun _ hk => hk.2) (.string t468)) (fun _ hk => hk.2) (.slice Ao112 t469.length co112)) (fun _ hk => hk.2) (.slice Ao114 t472.length co114)) (fun _ hk => hk.1.1.1), by (with_reducible repeat (first | apply Kd.R_alloc | apply Kd.R_drewN | apply Kd.R_drew)); exact Kd.R_mono (Kd.R_far (p := ⟨gb426, 3, none⟩) (Kd.R_far (p := ⟨gb426, 2, none⟩) (Kd.R_far (p := ⟨gb426, 1, none⟩) (Kd.R_far (p := ⟨gb426, 0, none⟩) (Kd.R_far (p := ⟨gb424, 3, none⟩) (Kd.R_far (p := ⟨gb424, 2, none⟩) (Kd.R_far (p := ⟨gb424, 1, none⟩) (Kd.R_far (p := ⟨gb424, 0, none⟩) (Kd.R_types (Kd.R_types HO474.out BK424.out (by decide)) BK426.out (by decide)) (fun _ hk => hk.1.2) (.int .i64 t467)) (fun _ hk => hk.1.2) (.string t468)) (fun _ hk => hk.1.2) (.slice Ao112 t469.length co112)) (fun _ hk => hk.1.2) (.slice Ao114 t472.length co114)) (fun _ hk => hk.2) (.int .i64 t467)) (fun _ hk => hk.2) (.string t468)) (fun _ hk => hk.2) (.slice Ao112 t469.length co112)) (fun _ hk => hk.2) (.slice Ao114 t472.length co114)) (fun _ hk => hk.1.1.1), ni_, bl_⟩
            ·rw [if_neg c106] at H
             exact absurd H (by simp)
           ·rw [if_neg c105] at H
            have c105b0 := beq_eq_false_iff_ne.mpr c105
            have c105b1 := bne_iff_ne.mpr c105
            by_cases c121 : t452.toList = ([100, 97, 116, 97] : List UInt8)
            ·rw [if_pos c121] at H
             have c121b0 := beq_iff_eq.mpr c121
             have c121b1 := bne_eq_false_iff_eq.mpr c121
             clear c121
             simp only [Option.some.injEq, Prod.mk.injEq] at H
             obtain ⟨rfl, rfl, rfl, rfl, rfl, rfl, rfl⟩ := H
             go_wp2_with (first | (refine lr_ 30 3 BK424 hu30 ?_) | (refine lr_ 37 4 BK425 hu37 ?_) | ((with_reducible refine gs_ 3 93 ?_); refine sp_ 3 93 gb424 0 (.int .i64 4) #[.int .i64 4, .string t428, .slice Ao67 t429.length co67, .slice Ao68 t432.length co68] BK424 ?_; intro w122 hbox hbut; replace HO_425002 := rs_ hbut HO_425002 BK424; replace HO_425003 := rs_ hbut HO_425003 BK424; replace BK424 := Aside0.mk (hbox); replace BK425 := bo_ hbut NB425_424 BK425; replace BK426 := bo_ hbut NB426_424 BK426; replace HB := hs_ HB hbut GE424; clear hbox hbut; have hnb123 := NB424_425.out; have hnc123 := NB425_424.out; have hnb124 := NB424_426.out; have hnc124 := NB426_424.out; have hcz125 := blk_cell BK424.out; have hfz125 := blk_frozen BK424.out) | ((with_reducible refine gs_ 30 6 ?_); refine sp_ 30 6 gb426 0 (.agg #[.int .i64 4, .string t428, .slice Ao67 t429.length co67, .slice Ao68 t432.length co68]) #[.int .i64 4, .string t428, .slice Ao67 t429.length co67, .slice Ao68 t432.length co68] BK426 ?_; intro w126 hbox hbut; replace HO_425002 := rs_ hbut HO_425002 BK426; replace HO_425003 := rs_ hbut HO_425003 BK426; replace BK424 := bo_ hbut NB424_426 BK424; replace BK425 := bo_ hbut NB425_426 BK425; replace BK426 := Aside0.mk (hbox); replace HB := hs_ HB hbut GE426; clear hbox hbut))
             refine bodyPost_ret (results_list (rs := [.cell 6 30, .tmp 7, .tmp 8, .tmp 9]) rfl (by simp) (.cell gb426 30 #[.int .i64 4, .string t428, .slice Ao67 t429.length co67, .slice Ao68 t432.length co68] (0, 0) _ rfl (kl_ BK426) Tryd.underlying30 rfl (by kernel_rfl) (.tmp (.tmp (.tmp .nil))))) rfl ?_
             exact ⟨_, _, _, re_, rm_ HO_425002, rm_ HO_425003, ni_, bl_⟩
            ·rw [if_neg c121] at H
             have c121b0 := beq_eq_false_iff_ne.mpr c121
             have c121b1 := bne_iff_ne.mpr c121
             have hnb129 := NB424_425.out
             have hnc129 := NB425_424.out
             have hnb130 := NB424_426.out
             have hnc130 := NB426_424.out
             have hcz131 := blk_cell BK424.out
             have hfz131 := blk_frozen BK424.out
             by_cases c127 : t452.toList = ([114, 115, 101, 116] : List UInt8)
             ·rw [if_pos c127] at H
              have c127b0 := beq_iff_eq.mpr c127
              have c127b1 := bne_eq_false_iff_eq.mpr c127
              clear c127
              by_cases c128 : t427 = 0
              ·rw [if_pos c128] at H
               have c128b0 := beq_iff_eq.mpr c128
               have c128b1 := bne_eq_false_iff_eq.mpr c128
               clear c128
               simp only [Option.some.injEq, Prod.mk.injEq] at H
               obtain ⟨rfl, rfl, rfl, rfl, rfl, rfl, rfl⟩ := H
               try simp only [c127b0, c127b1, c128b0, c128b1, Bool.not_true, Bool.not_false]
               go_wp2_with (first | (refine lr_ 30 3 BK424 hu30 ?_) | (refine lr_ 37 4 BK425 hu37 ?_) | ((with_reducible refine gs_ 30 3 ?_); refine sp_ 30 3 gb424 0 (.agg #[.int .i64 0, .string (⟨#[]⟩ : ByteArray), .slice none 0 0, .slice none 0 0]) #[.int .i64 0, .string (⟨#[]⟩ : ByteArray), .slice none 0 0, .slice none 0 0] BK424 ?_; intro w132 hbox hbut; replace BK424 := Aside0.mk (hbox); replace BK425 := bo_ hbut NB425_424 BK425; replace BK426 := bo_ hbut NB426_424 BK426; replace HB := hs_ HB hbut GE424; clear hbox hbut; have hcz133 := blk_cell BK424.out; have hfz133 := blk_frozen BK424.out) | ((with_reducible refine gs_ 30 6 ?_); refine sp_ 30 6 gb426 0 (.agg #[.int .i64 0, .string (⟨#[]⟩ : ByteArray), .slice none 0 0, .slice none 0 0]) #[.int .i64 0, .string (⟨#[]⟩ : ByteArray), .slice none 0 0, .slice none 0 0] BK426 ?_; intro w134 hbox hbut; replace BK424 := bo_ hbut NB424_426 BK424; replace BK425 := bo_ hbut NB425_426 BK425; replace BK426 := Aside0.mk (hbox); replace HB := hs_ HB hbut GE426; clear hbox hbut))
               refine bodyPost_ret (results_list (rs := [.cell 6 30, .tmp 7, .tmp 8, .tmp 9]) rfl (by simp) (.cell gb426 30 #[.int .i64 0, .string (⟨#[]⟩ : ByteArray), .slice none 0 0, .slice none 0 0] (0, 0) _ rfl (kl_ BK426) Tryd.underlying30 rfl (by kernel_rfl) (.tmp (.tmp (.tmp .nil))))) rfl ?_
               exact ⟨_, _, _, re_, ni_, ni_, ni_, bl_⟩
              ·rw [if_neg c128] at H
               have c128b0 := beq_eq_false_iff_ne.mpr c128
               have c128b1 := bne_iff_ne.mpr c128
               obtain ⟨⟨t476, t477, t478, t481⟩, A135, H⟩ := bs_ H
               (try set_option simprocs false in dsimp only at H)
               simp only [Option.some.injEq, Prod.mk.injEq] at H
               obtain ⟨rfl, rfl, rfl, rfl, rfl, rfl, rfl⟩ := H
               try simp only [c127b0, c127b1, c128b0, c128b1, Bool.not_true, Bool.not_false]
               go_wp2_with (first | (refine lr_ 30 3 BK424 hu30 ?_) | (refine lr_ 37 4 BK425 hu37 ?_) | ((with_reducible refine gc_ 35 ?_); refine gl_ (some 100) Tryd.func35 #[] ?_; (with_reducible refine (impl_hello.calls  t476 t477 t478 t481 _ A135.out).mono ?_); rintro e w139 ⟨v479, v482, rfl, ho0, ho1, hb⟩; refine ⟨_, rfl, ?_⟩; have HO480 := Aside0.mk (Kd.R_lower (Kd.R_new' (Kd.R_new' (Kd.R_new' ho0 (Kd.R_lt HO_10.out)) (Kd.R_lt HO_425002.out)) (Kd.R_lt HO_425003.out)) (below_size HB.out)); have HO483 := Aside0.mk (Kd.R_lower (Kd.R_new' (Kd.R_new' (Kd.R_new' ho1 (Kd.R_lt HO_10.out)) (Kd.R_lt HO_425002.out)) (Kd.R_lt HO_425003.out)) (below_size HB.out)); replace BK424 := bb_ BK424 hb; replace BK425 := bb_ BK425 hb; replace BK426 := bb_ BK426 hb; replace HB := hb_ HB hb; try clear hb; try clear ho0; try clear ho1; obtain ⟨Ao140, co140, rfl⟩ := Kd.R_slice HO480.out; obtain ⟨Ao141, co141, rfl⟩ := Kd.R_slice HO483.out) | ((with_reducible refine gs_ 30 3 ?_); refine sp_ 30 3 gb424 0 (.agg #[.int .i64 t476, .string t477, .slice Ao140 t478.length co140, .slice Ao141 t481.length co141]) #[.int .i64 t476, .string t477, .slice Ao140 t478.length co140, .slice Ao141 t481.length co141] BK424 ?_; intro w142 hbox hbut; replace HO480 := rs_ hbut HO480 BK424; replace HO483 := rs_ hbut HO483 BK424; replace BK424 := Aside0.mk (hbox); replace BK425 := bo_ hbut NB425_424 BK425; replace BK426 := bo_ hbut NB426_424 BK426; replace HB := hs_ HB hbut GE424; clear hbox hbut; have hcz143 := blk_cell BK424.out; have hfz143 := blk_frozen BK424.out) | ((with_reducible refine gs_ 30 6 ?_); refine sp_ 30 6 gb426 0 (.agg #[.int .i64 t476, .string t477, .slice Ao140 t478.length co140, .slice Ao141 t481.length co141]) #[.int .i64 t476, .string t477, .slice Ao140 t478.length co140, .slice Ao141 t481.length co141] BK426 ?_; intro w144 hbox hbut; replace HO480 := rs_ hbut HO480 BK426; replace HO483 := rs_ hbut HO483 BK426; replace BK424 := bo_ hbut NB424_426 BK424; replace BK425 := bo_ hbut NB425_426 BK425; replace BK426 := Aside0.mk (hbox); replace HB := hs_ HB hbut GE426; clear hbox hbut))
               refine bodyPost_ret (results_list (rs := [.cell 6 30, .tmp 7, .tmp 8, .tmp 9]) rfl (by simp) (.cell gb426 30 #[.int .i64 t476, .string t477, .slice Ao140 t478.length co140, .slice Ao141 t481.length co141] (0, 0) _ rfl (kl_ BK426) Tryd.underlying30 rfl (by kernel_rfl) (.tmp (.tmp (.tmp .nil))))) rfl ?_
               exact ⟨_, _, _, re_, rm_ HO480, rm_ HO483, ni_, bl_⟩
             ·rw [if_neg c127] at H
              have c127b0 := beq_eq_false_iff_ne.mpr c127
              have c127b1 := bne_iff_ne.mpr c127
              by_cases c145 : t452.toList = ([113, 117, 105, 116] : List UInt8)
              ·rw [if_pos c145] at H
               have c145b0 := beq_iff_eq.mpr c145
               have c145b1 := bne_eq_false_iff_eq.mpr c145
               clear c145
               simp only [Option.some.injEq, Prod.mk.injEq] at H
               obtain ⟨rfl, rfl, rfl, rfl, rfl, rfl, rfl⟩ := H
               try simp only [c127b0, c127b1, c145b0, c145b1, Bool.not_true, Bool.not_false]
               go_wp2_with (first | (refine lr_ 30 3 BK424 hu30 ?_) | (refine lr_ 37 4 BK425 hu37 ?_) | ((with_reducible refine gs_ 30 6 ?_); refine sp_ 30 6 gb426 0 (.agg #[.int .i64 t427, .string t428, .slice Ao67 t429.length co67, .slice Ao68 t432.length co68]) #[.int .i64 t427, .string t428, .slice Ao67 t429.length co67, .slice Ao68 t432.length co68] BK426 ?_; intro w149 hbox hbut; replace HO_425002 := rs_ hbut HO_425002 BK426; replace HO_425003 := rs_ hbut HO_425003 BK426; replace BK424 := bo_ hbut NB424_426 BK424; replace BK425 := bo_ hbut NB425_426 BK425; replace BK426 := Aside0.mk (hbox); replace HB := hs_ HB hbut GE426; clear hbox hbut))
               refine bodyPost_ret (results_list (rs := [.cell 6 30, .tmp 7, .tmp 8, .tmp 9]) rfl (by simp) (.cell gb426 30 #[.int .i64 t427, .string t428, .slice Ao67 t429.length co67, .slice Ao68 t432.length co68] (0, 0) _ rfl (kl_ BK426) Tryd.underlying30 rfl (by kernel_rfl) (.tmp (.tmp (.tmp .nil))))) rfl ?_
               exact ⟨_, _, _, re_, rm_ HO_425002, rm_ HO_425003, ni_, bl_⟩
              ·rw [if_neg c145] at H
               have c145b0 := beq_eq_false_iff_ne.mpr c145
               have c145b1 := bne_iff_ne.mpr c145
               simp only [Option.some.injEq, Prod.mk.injEq] at H
               obtain ⟨rfl, rfl, rfl, rfl, rfl, rfl, rfl⟩ := H
               try simp only [c127b0, c127b1, c145b0, c145b1, Bool.not_true, Bool.not_false]
               go_wp2_with (first | (refine lr_ 30 3 BK424 hu30 ?_) | (refine lr_ 37 4 BK425 hu37 ?_) | ((with_reducible refine gs_ 30 6 ?_); refine sp_ 30 6 gb426 0 (.agg #[.int .i64 t427, .string t428, .slice Ao67 t429.length co67, .slice Ao68 t432.length co68]) #[.int .i64 t427, .string t428, .slice Ao67 t429.length co67, .slice Ao68 t432.length co68] BK426 ?_; intro w153 hbox hbut; replace HO_425002 := rs_ hbut HO_425002 BK426; replace HO_425003 := rs_ hbut HO_425003 BK426; replace BK424 := bo_ hbut NB424_426 BK424; replace BK425 := bo_ hbut NB425_426 BK425; replace BK426 := Aside0.mk (hbox); replace HB := hs_ HB hbut GE426; clear hbox hbut))
               refine bodyPost_ret (results_list (rs := [.cell 6 30, .tmp 7, .tmp 8, .tmp 9]) rfl (by simp) (.cell gb426 30 #[.int .i64 t427, .string t428, .slice Ao67 t429.length co67, .slice Ao68 t432.length co68] (0, 0) _ rfl (kl_ BK426) Tryd.underlying30 rfl (by kernel_rfl) (.tmp (.tmp (.tmp .nil))))) rfl ?_
               exact ⟨_, _, _, re_, rm_ HO_425002, rm_ HO_425003, ni_, bl_⟩
        ·replace c84 := Bool.eq_false_iff.mpr c84
         subst c84
         (try rw [if_neg (show ¬ (false = true) by decide)] at H)
         simp only [Option.some.injEq, Prod.mk.injEq] at H
         obtain ⟨rfl, rfl, rfl, rfl, rfl, rfl, rfl⟩ := H
         have hnb154 := NB424_425.out
         have hnc154 := NB425_424.out
         have hnb155 := NB424_426.out
         have hnc155 := NB426_424.out
         have hcz156 := blk_cell BK424.out
         have hfz156 := blk_frozen BK424.out
         go_wp2_with (first | (refine lr_ 30 3 BK424 hu30 ?_) | (refine lr_ 37 4 BK425 hu37 ?_) | ((with_reducible refine gs_ 30 6 ?_); refine sp_ 30 6 gb426 0 (.agg #[.int .i64 t427, .string t428, .slice Ao67 t429.length co67, .slice Ao68 t432.length co68]) #[.int .i64 t427, .string t428, .slice Ao67 t429.length co67, .slice Ao68 t432.length co68] BK426 ?_; intro w157 hbox hbut; replace HO_425002 := rs_ hbut HO_425002 BK426; replace HO_425003 := rs_ hbut HO_425003 BK426; replace BK424 := bo_ hbut NB424_426 BK424; replace BK425 := bo_ hbut NB425_426 BK425; replace BK426 := Aside0.mk (hbox); replace HB := hs_ HB hbut GE426; clear hbox hbut))
         refine bodyPost_ret (results_list (rs := [.cell 6 30, .tmp 7, .tmp 8, .tmp 9]) rfl (by simp) (.cell gb426 30 #[.int .i64 t427, .string t428, .slice Ao67 t429.length co67, .slice Ao68 t432.length co68] (0, 0) _ rfl (kl_ BK426) Tryd.underlying30 rfl (by kernel_rfl) (.tmp (.tmp (.tmp .nil))))) rfl ?_
         exact ⟨_, _, _, re_, rm_ HO_425002, rm_ HO_425003, ni_, bl_⟩
   ·rw [if_neg c39] at H
    exact absurd H (by simp)

end Go.Proofs.YtdokcckgnamnfaaDoor.QFnExactStepBring
