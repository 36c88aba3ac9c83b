-- Written by a program of this session (myprint) out of Lean's own print of the translation. Lean checks it.
import Derived.Test.YtdokcckgnamnfaaDoorShorter
import Derived.Test.YtdokcckgnamnfaaDoorHold
import Derived.Test.YtdokcckgnamnfaaDoorSteps
import Derived.Test.YtdokcckgnamnfaaDoorQFnExactStepBringx0
import Derived.Test.YtdokcckgnamnfaaDoorQFnExactStepBringx11
import Derived.Test.YtdokcckgnamnfaaDoorQFnExactStepBringx13
namespace Go.Proofs.YtdokcckgnamnfaaDoor.QFnExactStepBring
open Go.Proofs.YtdokcckgnamnfaaDoorF
open Go.RowKit Go.Proofs.YtdokcckgnamnfaaDoorW.PrintWords Go.Proofs.YtdokcckgnamnfaaDoorW.PrintLast Go.Proofs.YtdokcckgnamnfaaDoorW.PrintMore
attribute [local go_sem] max2_int min2_int max_two min_two max_three min_three max_four min_four   -- for this text's walks alone
set_option maxHeartbeats 8000000
set_option maxRecDepth 100000
set_option linter.unusedVariables false
set_option linter.unusedSimpArgs false

/-! ### laws_heldCallS: function 17 -/
def laws_heldCallS.l0 : Nat → List (S65) → Int → Int → Option (Int)
 | 0, _, _, _ => none
 | k + 1, x0, x1, x5 => if x5 < (x0.length : Int) then (if 0 ≤ x5 then (if ((rd_T65 x0 x5).f0) = x1 then ((laws_markText.f k (wrap64 (x1 + 1))).bind fun t563 => (if ((rd_T65 x0 x5).f1).toList = t563.toList then ((laws_markText.f k (wrap64 ((wrap64 (x1 + 1)) + 1))).bind fun t565 => (if ((rd_T65 x0 x5).f2).toList = t565.toList then ((laws_markText.f k (wrap64 ((wrap64 ((wrap64 (x1 + 1)) + 1)) + 1))).bind fun t567 => (if ((rd_T65 x0 x5).f3).toList = t567.toList then (if ((rd_T65 x0 x5).f4) = (wrap64 ((wrap64 ((wrap64 ((wrap64 (x1 + 1)) + 1)) + 1)) + 1)) then ((laws_heldIntS.f k ((rd_T65 x0 x5).f5) (wrap64 ((wrap64 ((wrap64 ((wrap64 ((wrap64 (x1 + 1)) + 1)) + 1)) + 1)) + 1))).bind fun t570 => (if t570 < 0 then (some (-1)) else (if ((rd_T65 x0 x5).f6) = t570 then ((laws_markText.f k (wrap64 (t570 + 1))).bind fun t573 => (if ((rd_T65 x0 x5).f7).toList = t573.toList then (laws_heldCallS.l0 k x0 (wrap64 ((wrap64 (t570 + 1)) + 1)) (wrap64 (x5 + 1))) else (some (-1)))) else (some (-1))))) else (some (-1))) else (some (-1)))) else (some (-1)))) else (some (-1)))) else (some (-1))) else (none)) else (some x1)
def laws_heldCallS.f (k : Nat) (l0 : List (S65)) (a1 : Int) : Option (Int) := laws_heldCallS.l0 k l0 a1 0
theorem laws_heldCallS.mono_l : ∀ k, (∀ y0 y1 y2, LeO (laws_heldCallS.l0 k y0 y1 y2) (laws_heldCallS.l0 (k + 1) y0 y1 y2))
 | 0 => fun _ _ _ r h => by simp [laws_heldCallS.l0] at h
 | k + 1 => by
  have ih0 := laws_heldCallS.mono_l k
  ·intro y0 y1 y2
   unfold laws_heldCallS.l0
   repeat' first
   | (with_reducible exact ih0 _ _ _)
   | (with_reducible exact laws_heldIntS.mono _ _ _)
   | (with_reducible exact laws_markText.mono _ _)
   | (with_reducible first | exact LeO.refl _ | exact LeO.none _ | refine LeO.ite ?_ ?_ | refine LeO.bind ?_ (fun _ => ?_))
   | refine LeO.ite ?_ ?_
   | refine LeO.bind ?_ (fun _ => ?_)
theorem laws_heldCallS.mono : ∀ a0 a1 k, LeO (laws_heldCallS.f k a0 a1) (laws_heldCallS.f (k + 1) a0 a1) := by
 intro a0 a1 k
 have ih0 := laws_heldCallS.mono_l k
 unfold laws_heldCallS.f
 repeat' first
   | (with_reducible exact ih0 _ _ _)
   | (with_reducible exact laws_heldIntS.mono _ _ _)
   | (with_reducible exact laws_markText.mono _ _)
   | (with_reducible first | exact LeO.refl _ | exact LeO.none _ | refine LeO.ite ?_ ?_ | refine LeO.bind ?_ (fun _ => ?_))
   | refine LeO.ite ?_ ?_
   | refine LeO.bind ?_ (fun _ => ?_)
def laws_heldCallS.T7 : Bool × List (List Nat × List Nat) := (true, [([], []), ([], []), ([0, 1], [0, 1]), ([2], [2]), ([3], [3]), ([], []), ([5], [5]), ([4, 6], [4, 6])])
def laws_heldCallS.B7 : List Nat := [0, 0, 3, 7, 15, 0, 32, 127]
theorem laws_heldCallS.tab7 : rtab .any (opsOf Tryd.f17 7) = laws_heldCallS.T7 := by kernel_rfl
theorem laws_heldCallS.bits7 : waitsOk laws_heldCallS.T7.2 laws_heldCallS.B7 = true := by kernel_rfl
def laws_heldCallS.T10 : Bool × List (List Nat × List Nat) := (true, [([], []), ([], []), ([0, 1], [0, 1]), ([2], [2]), ([3], [3]), ([], []), ([5], [5]), ([4, 6], [4, 6])])
def laws_heldCallS.B10 : List Nat := [0, 0, 3, 7, 15, 0, 32, 127]
theorem laws_heldCallS.tab10 : rtab .any (opsOf Tryd.f17 10) = laws_heldCallS.T10 := by kernel_rfl
theorem laws_heldCallS.bits10 : waitsOk laws_heldCallS.T10.2 laws_heldCallS.B10 = true := by kernel_rfl
def laws_heldCallS.T13 : Bool × List (List Nat × List Nat) := (true, [([], []), ([], []), ([0, 1], [0, 1]), ([2], [2]), ([3], [3]), ([], []), ([5], [5]), ([4, 6], [4, 6])])
def laws_heldCallS.B13 : List Nat := [0, 0, 3, 7, 15, 0, 32, 127]
theorem laws_heldCallS.tab13 : rtab .any (opsOf Tryd.f17 13) = laws_heldCallS.T13 := by kernel_rfl
theorem laws_heldCallS.bits13 : waitsOk laws_heldCallS.T13.2 laws_heldCallS.B13 = true := by kernel_rfl
def laws_heldCallS.T25 : Bool × List (List Nat × List Nat) := (true, [([], []), ([], []), ([0, 1], [0, 1]), ([2], [2]), ([3], [3]), ([], []), ([5], [5]), ([4, 6], [4, 6])])
def laws_heldCallS.B25 : List Nat := [0, 0, 3, 7, 15, 0, 32, 127]
theorem laws_heldCallS.tab25 : rtab .any (opsOf Tryd.f17 25) = laws_heldCallS.T25 := by kernel_rfl
theorem laws_heldCallS.bits25 : waitsOk laws_heldCallS.T25.2 laws_heldCallS.B25 = true := by kernel_rfl
theorem laws_heldCallS.calls (k : Nat) (A0 : Option Addr) (c0 : Nat) (l0 : List (S65)) (a1 : Int) (r : Int) (w : World) (hr0 : Kd.C k65 w A0 l0.length l0) (hc0 : l0.length ≤ c0) (h : laws_heldCallS.f k l0 a1 = some r) :
  Calls Tryd.prog 17 #[.slice A0 l0.length c0, .int .i64 a1] w fun e w' => e = .returned (.int .i64 r) ∧ Below w.heap.size w w' := by
 have HR0 := Aside0.mk hr0
 have HC0 := Aside0.mk hc0
 clear hr0 hc0
 have HB := Aside0.mk (Below.refl w.heap.size w)
 have H := h; unfold laws_heldCallS.f at H
 clear h
 have H' := Aside0.mk H
 clear H
 go_enter Tryd.func17, Tryd.ntmps17
 go_wp2
 go_loopg [1, 5] k (fun kq v1 v5 w' => ∃ (x1_1 : Int) (x5_1 : Int), v1 = .int .i64 x1_1 ∧ v5 = .int .i64 x5_1 ∧ Aside0 (laws_heldCallS.l0 kq l0 x1_1 x5_1 = some r) ∧ Aside0 (kq ≤ k) ∧ Aside0 (Below w.heap.size w w'))
 case atStart => exact ⟨(a1), (0), rf_, rf_, H', ⟨Nat.le_refl _⟩, ⟨bl_⟩⟩
 case round =>
  clear H'
  try clear c1
  try clear p2
  obtain ⟨x1_1, x5_1, rfl, rfl, HA, HK1, HB⟩ := hrel
  cases gk with
  | zero => exact absurd HA.out (by simp [laws_heldCallS.l0])
  | succ k1 =>
   have H := HA.out
   clear HA
   simp only [laws_heldCallS.l0] at H
   by_cases c3 : x5_1 < (l0.length : Int)
   ·rw [if_pos c3] at H
    have c3b0 := decide_eq_true c3
    clear c3
    by_cases c4 : 0 ≤ x5_1
    ·rw [if_pos c4] at H
     have c4b0 := decide_eq_true c4
     clear c4
     have p561 : 0 ≤ (x5_1 : Int) := od_
     have q561 : x5_1 < (l0.length : Int) := od_
     obtain ⟨ad561, A561_5, c561_5, e561, hx561_0, hx561_1, hx561_2, hx561_3, hx561_4, hx561_5, hx561_6, hx561_7, hl561_5, hi561_5⟩ := at_T65 HR0.out x5_1 p561 q561
     cases e561
     replace hx561_0 := cu_ HB hx561_0
     replace hx561_1 := cu_ HB hx561_1
     replace hx561_2 := cu_ HB hx561_2
     replace hx561_3 := cu_ HB hx561_3
     replace hx561_4 := cu_ HB hx561_4
     replace hx561_5 := cu_ HB hx561_5
     replace hx561_6 := cu_ HB hx561_6
     replace hx561_7 := cu_ HB hx561_7
     have HR561_5 := Aside0.mk hi561_5
     have HC561_5 := Aside0.mk hl561_5
     clear hi561_5 hl561_5
     replace p561 := eq_true p561
     replace q561 := eq_true q561
     by_cases c5 : ((rd_T65 l0 x5_1).f0) = x1_1
     ·rw [if_pos c5] at H
      have c5b0 := beq_iff_eq.mpr c5
      have c5b1 := bne_eq_false_iff_eq.mpr c5
      clear c5
      obtain ⟨t563, A6, H⟩ := bs_ H
      try simp only [c5b0, c5b1, Bool.not_true, Bool.not_false]
      try go_wp2
      replace HB := hd_ HB
      have p562 : 0 ≤ (x5_1 : Int) := od_
      have q562 : x5_1 < (l0.length : Int) := od_
      obtain ⟨ad562, A562_5, c562_5, e562, hx562_0, hx562_1, hx562_2, hx562_3, hx562_4, hx562_5, hx562_6, hx562_7, hl562_5, hi562_5⟩ := at_T65 HR0.out x5_1 p562 q562
      have hw562_7 := hx562_7
      have hw562_6 := hx562_6
      have hw562_5 := hx562_5
      have hw562_4 := hx562_4
      have hw562_3 := hx562_3
      have hw562_2 := hx562_2
      have hw562_1 := hx562_1
      have hw562_0 := hx562_0
      obtain rfl : ad561 = ad562 := (by injection e562)
      replace hx562_0 := cu_ HB hx562_0
      replace hx562_1 := cu_ HB hx562_1
      replace hx562_2 := cu_ HB hx562_2
      replace hx562_3 := cu_ HB hx562_3
      replace hx562_4 := cu_ HB hx562_4
      replace hx562_5 := cu_ HB hx562_5
      replace hx562_6 := cu_ HB hx562_6
      replace hx562_7 := cu_ HB hx562_7
      have HR562_5 := Aside0.mk hi562_5
      have HC562_5 := Aside0.mk hl562_5
      clear hi562_5 hl562_5
      replace p562 := eq_true p562
      replace q562 := eq_true q562
      refine start_ (n := 8) (S := fun w' => w'.cell? (ad561.add ((x5_1).toNat * 8)) = some (.int .i64 ((rd_T65 l0 x5_1).f0)) ∧ w'.cell? ⟨(ad561.add ((x5_1).toNat * 8)).block, (ad561.add ((x5_1).toNat * 8)).off + 1, none⟩ = some (.string ((rd_T65 l0 x5_1).f1)) ∧ w'.cell? ⟨(ad561.add ((x5_1).toNat * 8)).block, (ad561.add ((x5_1).toNat * 8)).off + 2, none⟩ = some (.string ((rd_T65 l0 x5_1).f2)) ∧ w'.cell? ⟨(ad561.add ((x5_1).toNat * 8)).block, (ad561.add ((x5_1).toNat * 8)).off + 3, none⟩ = some (.string ((rd_T65 l0 x5_1).f3)) ∧ w'.cell? ⟨(ad561.add ((x5_1).toNat * 8)).block, (ad561.add ((x5_1).toNat * 8)).off + 4, none⟩ = some (.int .i64 ((rd_T65 l0 x5_1).f4)) ∧ w'.cell? ⟨(ad561.add ((x5_1).toNat * 8)).block, (ad561.add ((x5_1).toNat * 8)).off + 5, none⟩ = some (.slice A562_5 ((rd_T65 l0 x5_1).f5).length c562_5) ∧ w'.cell? ⟨(ad561.add ((x5_1).toNat * 8)).block, (ad561.add ((x5_1).toNat * 8)).off + 6, none⟩ = some (.int .i64 ((rd_T65 l0 x5_1).f6)) ∧ w'.cell? ⟨(ad561.add ((x5_1).toNat * 8)).block, (ad561.add ((x5_1).toNat * 8)).off + 7, none⟩ = some (.string ((rd_T65 l0 x5_1).f7))) (ds := []) (fl 8 0) (by kernel_rfl) rfl rfl ⟨(cu_ HB hw562_0), (cu_ HB hw562_1), (cu_ HB hw562_2), (cu_ HB hw562_3), (cu_ HB hw562_4), (cu_ HB hw562_5), (cu_ HB hw562_6), (cu_ HB hw562_7)⟩ (fun hHeld => ?_); refine with_tabW laws_heldCallS.tab7 laws_heldCallS.bits7 (fun HT_ HW_ => ?_)
      generalize wr.drew = w15 at HB HR562_5 hx562_0 hx562_1 hx562_2 hx562_3 hx562_4 hx562_5 hx562_6 hx562_7 hHeld ⊢
      refine pq_ 0 21 (fl 8 1) HT_.out ?_
      refine pq_ 1 22 (fl 8 3) HT_.out ?_
      refine pq_ 2 23 (fl 8 7) HT_.out ?_
      refine pq_ 3 24 (fl 8 15) HT_.out ?_
      refine pq_ 5 26 (fl 8 47) HT_.out ?_
      refine tq_ 4 25 (fl 8 63) HT_.out HW_.out hHeld ?_
      refine one_ (i := 6) (N := some 27) (fl 8 127) rfl rfl (one_of HT_.out (by kernel_rfl)) (by decide) (fun K hK => ?_)
      refine go_ Tryd.func42 #[.int .i64 (wrap64 (x1_1 + 1))] ?_
      with_reducible refine (laws_markText.calls k1 (wrap64 (x1_1 + 1)) t563 _ A6.out).mono ?_
      rintro e w16 ⟨rfl, hb⟩
      refine ⟨_, rfl, ?_⟩
      replace HB := hb_ HB hb
      try clear hb
      refine hK.out _ _ ⟨(cu_ HB hw562_0), (cu_ HB hw562_1), (cu_ HB hw562_2), (cu_ HB hw562_3), (cu_ HB hw562_4), (cu_ HB hw562_5), (cu_ HB hw562_6), (cu_ HB hw562_7)⟩ (fun hHeld => ?_)
      clear hK K
      refine nq_ ?_
      refine pq_ 7 28 (fl 8 255) HT_.out ?_
      refine done_ (done_of HT_.out (by kernel_rfl)) ?_
      by_cases c7 : ((rd_T65 l0 x5_1).f1).toList = t563.toList
      ·rw [if_pos c7] at H
       have c7b0 := beq_iff_eq.mpr c7
       have c7b1 := bne_eq_false_iff_eq.mpr c7
       clear c7
       obtain ⟨t565, A8, H⟩ := bs_ H
       try simp only [c7b0, c7b1, Bool.not_true, Bool.not_false]
       try go_wp2
       replace HB := hd_ HB
       have p564 : 0 ≤ (x5_1 : Int) := od_
       have q564 : x5_1 < (l0.length : Int) := od_
       obtain ⟨ad564, A564_5, c564_5, e564, hx564_0, hx564_1, hx564_2, hx564_3, hx564_4, hx564_5, hx564_6, hx564_7, hl564_5, hi564_5⟩ := at_T65 HR0.out x5_1 p564 q564
       have hw564_7 := hx564_7
       have hw564_6 := hx564_6
       have hw564_5 := hx564_5
       have hw564_4 := hx564_4
       have hw564_3 := hx564_3
       have hw564_2 := hx564_2
       have hw564_1 := hx564_1
       have hw564_0 := hx564_0
       obtain rfl : ad561 = ad564 := (by injection e564)
       replace hx564_0 := cu_ HB hx564_0
       replace hx564_1 := cu_ HB hx564_1
       replace hx564_2 := cu_ HB hx564_2
       replace hx564_3 := cu_ HB hx564_3
       replace hx564_4 := cu_ HB hx564_4
       replace hx564_5 := cu_ HB hx564_5
       replace hx564_6 := cu_ HB hx564_6
       replace hx564_7 := cu_ HB hx564_7
       have HR564_5 := Aside0.mk hi564_5
       have HC564_5 := Aside0.mk hl564_5
       clear hi564_5 hl564_5
       replace p564 := eq_true p564
       replace q564 := eq_true q564
       refine start_ (n := 8) (S := fun w' => w'.cell? (ad561.add ((x5_1).toNat * 8)) = some (.int .i64 ((rd_T65 l0 x5_1).f0)) ∧ w'.cell? ⟨(ad561.add ((x5_1).toNat * 8)).block, (ad561.add ((x5_1).toNat * 8)).off + 1, none⟩ = some (.string ((rd_T65 l0 x5_1).f1)) ∧ w'.cell? ⟨(ad561.add ((x5_1).toNat * 8)).block, (ad561.add ((x5_1).toNat * 8)).off + 2, none⟩ = some (.string ((rd_T65 l0 x5_1).f2)) ∧ w'.cell? ⟨(ad561.add ((x5_1).toNat * 8)).block, (ad561.add ((x5_1).toNat * 8)).off + 3, none⟩ = some (.string ((rd_T65 l0 x5_1).f3)) ∧ w'.cell? ⟨(ad561.add ((x5_1).toNat * 8)).block, (ad561.add ((x5_1).toNat * 8)).off + 4, none⟩ = some (.int .i64 ((rd_T65 l0 x5_1).f4)) ∧ w'.cell? ⟨(ad561.add ((x5_1).toNat * 8)).block, (ad561.add ((x5_1).toNat * 8)).off + 5, none⟩ = some (.slice A564_5 ((rd_T65 l0 x5_1).f5).length c564_5) ∧ w'.cell? ⟨(ad561.add ((x5_1).toNat * 8)).block, (ad561.add ((x5_1).toNat * 8)).off + 6, none⟩ = some (.int .i64 ((rd_T65 l0 x5_1).f6)) ∧ w'.cell? ⟨(ad561.add ((x5_1).toNat * 8)).block, (ad561.add ((x5_1).toNat * 8)).off + 7, none⟩ = some (.string ((rd_T65 l0 x5_1).f7))) (ds := []) (fl 8 0) (by kernel_rfl) rfl rfl ⟨(cu_ HB hw564_0), (cu_ HB hw564_1), (cu_ HB hw564_2), (cu_ HB hw564_3), (cu_ HB hw564_4), (cu_ HB hw564_5), (cu_ HB hw564_6), (cu_ HB hw564_7)⟩ (fun hHeld => ?_); refine with_tabW laws_heldCallS.tab10 laws_heldCallS.bits10 (fun HT_ HW_ => ?_)
       generalize w16.drew = w17 at HB HR564_5 hx564_0 hx564_1 hx564_2 hx564_3 hx564_4 hx564_5 hx564_6 hx564_7 hHeld ⊢
       refine pq_ 0 31 (fl 8 1) HT_.out ?_
       refine pq_ 1 32 (fl 8 3) HT_.out ?_
       refine pq_ 2 33 (fl 8 7) HT_.out ?_
       refine pq_ 3 34 (fl 8 15) HT_.out ?_
       refine pq_ 5 36 (fl 8 47) HT_.out ?_
       refine tq_ 4 35 (fl 8 63) HT_.out HW_.out hHeld ?_
       refine one_ (i := 6) (N := some 37) (fl 8 127) rfl rfl (one_of HT_.out (by kernel_rfl)) (by decide) (fun K hK => ?_)
       refine go_ Tryd.func42 #[.int .i64 (wrap64 ((wrap64 (x1_1 + 1)) + 1))] ?_
       with_reducible refine (laws_markText.calls k1 (wrap64 ((wrap64 (x1_1 + 1)) + 1)) t565 _ A8.out).mono ?_
       rintro e w18 ⟨rfl, hb⟩
       refine ⟨_, rfl, ?_⟩
       replace HB := hb_ HB hb
       try clear hb
       refine hK.out _ _ ⟨(cu_ HB hw564_0), (cu_ HB hw564_1), (cu_ HB hw564_2), (cu_ HB hw564_3), (cu_ HB hw564_4), (cu_ HB hw564_5), (cu_ HB hw564_6), (cu_ HB hw564_7)⟩ (fun hHeld => ?_)
       clear hK K
       refine nq_ ?_
       refine pq_ 7 38 (fl 8 255) HT_.out ?_
       refine done_ (done_of HT_.out (by kernel_rfl)) ?_
       by_cases c9 : ((rd_T65 l0 x5_1).f2).toList = t565.toList
       ·rw [if_pos c9] at H
        have c9b0 := beq_iff_eq.mpr c9
        have c9b1 := bne_eq_false_iff_eq.mpr c9
        clear c9
        obtain ⟨t567, A10, H⟩ := bs_ H
        try simp only [c9b0, c9b1, Bool.not_true, Bool.not_false]
        try go_wp2
        replace HB := hd_ HB
        have p566 : 0 ≤ (x5_1 : Int) := od_
        have q566 : x5_1 < (l0.length : Int) := od_
        obtain ⟨ad566, A566_5, c566_5, e566, hx566_0, hx566_1, hx566_2, hx566_3, hx566_4, hx566_5, hx566_6, hx566_7, hl566_5, hi566_5⟩ := at_T65 HR0.out x5_1 p566 q566
        have hw566_7 := hx566_7
        have hw566_6 := hx566_6
        have hw566_5 := hx566_5
        have hw566_4 := hx566_4
        have hw566_3 := hx566_3
        have hw566_2 := hx566_2
        have hw566_1 := hx566_1
        have hw566_0 := hx566_0
        obtain rfl : ad561 = ad566 := (by injection e566)
        replace hx566_0 := cu_ HB hx566_0
        replace hx566_1 := cu_ HB hx566_1
        replace hx566_2 := cu_ HB hx566_2
        replace hx566_3 := cu_ HB hx566_3
        replace hx566_4 := cu_ HB hx566_4
        replace hx566_5 := cu_ HB hx566_5
        replace hx566_6 := cu_ HB hx566_6
        replace hx566_7 := cu_ HB hx566_7
        have HR566_5 := Aside0.mk hi566_5
        have HC566_5 := Aside0.mk hl566_5
        clear hi566_5 hl566_5
        replace p566 := eq_true p566
        replace q566 := eq_true q566
        refine start_ (n := 8) (S := fun w' => w'.cell? (ad561.add ((x5_1).toNat * 8)) = some (.int .i64 ((rd_T65 l0 x5_1).f0)) ∧ w'.cell? ⟨(ad561.add ((x5_1).toNat * 8)).block, (ad561.add ((x5_1).toNat * 8)).off + 1, none⟩ = some (.string ((rd_T65 l0 x5_1).f1)) ∧ w'.cell? ⟨(ad561.add ((x5_1).toNat * 8)).block, (ad561.add ((x5_1).toNat * 8)).off + 2, none⟩ = some (.string ((rd_T65 l0 x5_1).f2)) ∧ w'.cell? ⟨(ad561.add ((x5_1).toNat * 8)).block, (ad561.add ((x5_1).toNat * 8)).off + 3, none⟩ = some (.string ((rd_T65 l0 x5_1).f3)) ∧ w'.cell? ⟨(ad561.add ((x5_1).toNat * 8)).block, (ad561.add ((x5_1).toNat * 8)).off + 4, none⟩ = some (.int .i64 ((rd_T65 l0 x5_1).f4)) ∧ w'.cell? ⟨(ad561.add ((x5_1).toNat * 8)).block, (ad561.add ((x5_1).toNat * 8)).off + 5, none⟩ = some (.slice A566_5 ((rd_T65 l0 x5_1).f5).length c566_5) ∧ w'.cell? ⟨(ad561.add ((x5_1).toNat * 8)).block, (ad561.add ((x5_1).toNat * 8)).off + 6, none⟩ = some (.int .i64 ((rd_T65 l0 x5_1).f6)) ∧ w'.cell? ⟨(ad561.add ((x5_1).toNat * 8)).block, (ad561.add ((x5_1).toNat * 8)).off + 7, none⟩ = some (.string ((rd_T65 l0 x5_1).f7))) (ds := []) (fl 8 0) (by kernel_rfl) rfl rfl ⟨(cu_ HB hw566_0), (cu_ HB hw566_1), (cu_ HB hw566_2), (cu_ HB hw566_3), (cu_ HB hw566_4), (cu_ HB hw566_5), (cu_ HB hw566_6), (cu_ HB hw566_7)⟩ (fun hHeld => ?_); refine with_tabW laws_heldCallS.tab13 laws_heldCallS.bits13 (fun HT_ HW_ => ?_)
        generalize w18.drew = w19 at HB HR566_5 hx566_0 hx566_1 hx566_2 hx566_3 hx566_4 hx566_5 hx566_6 hx566_7 hHeld ⊢
        refine pq_ 0 41 (fl 8 1) HT_.out ?_
        refine pq_ 1 42 (fl 8 3) HT_.out ?_
        refine pq_ 2 43 (fl 8 7) HT_.out ?_
        refine pq_ 3 44 (fl 8 15) HT_.out ?_
        refine pq_ 5 46 (fl 8 47) HT_.out ?_
        refine tq_ 4 45 (fl 8 63) HT_.out HW_.out hHeld ?_
        refine one_ (i := 6) (N := some 47) (fl 8 127) rfl rfl (one_of HT_.out (by kernel_rfl)) (by decide) (fun K hK => ?_)
        refine go_ Tryd.func42 #[.int .i64 (wrap64 ((wrap64 ((wrap64 (x1_1 + 1)) + 1)) + 1))] ?_
        with_reducible refine (laws_markText.calls k1 (wrap64 ((wrap64 ((wrap64 (x1_1 + 1)) + 1)) + 1)) t567 _ A10.out).mono ?_
        rintro e w20 ⟨rfl, hb⟩
        refine ⟨_, rfl, ?_⟩
        replace HB := hb_ HB hb
        try clear hb
        refine hK.out _ _ ⟨(cu_ HB hw566_0), (cu_ HB hw566_1), (cu_ HB hw566_2), (cu_ HB hw566_3), (cu_ HB hw566_4), (cu_ HB hw566_5), (cu_ HB hw566_6), (cu_ HB hw566_7)⟩ (fun hHeld => ?_)
        clear hK K
        refine nq_ ?_
        refine pq_ 7 48 (fl 8 255) HT_.out ?_
        refine done_ (done_of HT_.out (by kernel_rfl)) ?_
        by_cases c11 : ((rd_T65 l0 x5_1).f3).toList = t567.toList
        ·rw [if_pos c11] at H
         have c11b0 := beq_iff_eq.mpr c11
         have c11b1 := bne_eq_false_iff_eq.mpr c11
         clear c11
         try simp only [c11b0, c11b1, Bool.not_true, Bool.not_false]
         (try clear hHeld)
         have p568 : 0 ≤ (x5_1 : Int) := od_
         have q568 : x5_1 < (l0.length : Int) := od_
         obtain ⟨ad568, A568_5, c568_5, e568, hx568_0, hx568_1, hx568_2, hx568_3, hx568_4, hx568_5, hx568_6, hx568_7, hl568_5, hi568_5⟩ := at_T65 HR0.out x5_1 p568 q568
         obtain rfl : ad561 = ad568 := (by injection e568)
         replace hx568_0 := cu_ HB hx568_0
         replace hx568_1 := cu_ HB hx568_1
         replace hx568_2 := cu_ HB hx568_2
         replace hx568_3 := cu_ HB hx568_3
         replace hx568_4 := cu_ HB hx568_4
         replace hx568_5 := cu_ HB hx568_5
         replace hx568_6 := cu_ HB hx568_6
         replace hx568_7 := cu_ HB hx568_7
         have HR568_5 := Aside0.mk hi568_5
         have HC568_5 := Aside0.mk hl568_5
         clear hi568_5 hl568_5
         replace p568 := eq_true p568
         replace q568 := eq_true q568
         by_cases c12 : ((rd_T65 l0 x5_1).f4) = (wrap64 ((wrap64 ((wrap64 ((wrap64 (x1_1 + 1)) + 1)) + 1)) + 1))
         ·rw [if_pos c12] at H
          have c12b0 := beq_iff_eq.mpr c12
          have c12b1 := bne_eq_false_iff_eq.mpr c12
          clear c12
          obtain ⟨t570, A13, H⟩ := bs_ H
          try simp only [c12b0, c12b1, Bool.not_true, Bool.not_false]
          have p569 : 0 ≤ (x5_1 : Int) := od_
          have q569 : x5_1 < (l0.length : Int) := od_
          obtain ⟨ad569, A569_5, c569_5, e569, hx569_0, hx569_1, hx569_2, hx569_3, hx569_4, hx569_5, hx569_6, hx569_7, hl569_5, hi569_5⟩ := at_T65 HR0.out x5_1 p569 q569
          obtain rfl : ad561 = ad569 := (by injection e569)
          replace hx569_0 := cu_ HB hx569_0
          replace hx569_1 := cu_ HB hx569_1
          replace hx569_2 := cu_ HB hx569_2
          replace hx569_3 := cu_ HB hx569_3
          replace hx569_4 := cu_ HB hx569_4
          replace hx569_5 := cu_ HB hx569_5
          replace hx569_6 := cu_ HB hx569_6
          replace hx569_7 := cu_ HB hx569_7
          have HR569_5 := Aside0.mk hi569_5
          have HC569_5 := Aside0.mk hl569_5
          clear hi569_5 hl569_5
          replace p569 := eq_true p569
          replace q569 := eq_true q569
          have ea_ := Option.some.inj (hx568_5.symm.trans hx569_5)
          injection ea_ with ea_ en_ ec_
          subst ea_
          subst ec_
          clear en_
          by_cases c14 : t570 < 0
          ·rw [if_pos c14] at H
           have c14b0 := decide_eq_true c14
           clear c14
           obtain rfl := Option.some.inj H
           try simp only [c14b0, Bool.not_true, Bool.not_false]
           try go_wp2_with (first | ((with_reducible refine gc_ 45 ?_); refine gl_ (some 66) Tryd.func45 #[.slice A568_5 ((rd_T65 l0 x5_1).f5).length c568_5, .int .i64 (wrap64 ((wrap64 ((wrap64 ((wrap64 ((wrap64 (x1_1 + 1)) + 1)) + 1)) + 1)) + 1))] ?_; (with_reducible refine (laws_heldIntS.calls k1 _ _ ((rd_T65 l0 x5_1).f5) (wrap64 ((wrap64 ((wrap64 ((wrap64 ((wrap64 (x1_1 + 1)) + 1)) + 1)) + 1)) + 1)) t570 _ ?side1 ?side2 A13.out).mono ?_); (case side1 => exact (Kd.C_below HR569_5.out HB.out)); (case side2 => exact HC569_5.out); rintro e w' ⟨rfl, ⟨nd, rfl⟩⟩; refine ⟨_, rfl, ?_⟩))
           go_ret
           exact ⟨re_, bl_⟩
          ·rw [if_neg c14] at H
           have c14b0 := decide_eq_false c14
           clear c14
           try simp only [c14b0, Bool.not_true, Bool.not_false]
           try go_wp2_with (first | ((with_reducible refine gc_ 45 ?_); refine gl_ (some 66) Tryd.func45 #[.slice A568_5 ((rd_T65 l0 x5_1).f5).length c568_5, .int .i64 (wrap64 ((wrap64 ((wrap64 ((wrap64 ((wrap64 (x1_1 + 1)) + 1)) + 1)) + 1)) + 1))] ?_; (with_reducible refine (laws_heldIntS.calls k1 _ _ ((rd_T65 l0 x5_1).f5) (wrap64 ((wrap64 ((wrap64 ((wrap64 ((wrap64 (x1_1 + 1)) + 1)) + 1)) + 1)) + 1)) t570 _ ?side1 ?side2 A13.out).mono ?_); (case side1 => exact (Kd.C_below HR569_5.out HB.out)); (case side2 => exact HC569_5.out); rintro e w' ⟨rfl, ⟨nd, rfl⟩⟩; refine ⟨_, rfl, ?_⟩; have p571 : 0 ≤ (x5_1 : Int) := od_; have q571 : x5_1 < (l0.length : Int) := od_; obtain ⟨ad571, A571_5, c571_5, e571, hx571_0, hx571_1, hx571_2, hx571_3, hx571_4, hx571_5, hx571_6, hx571_7, hl571_5, hi571_5⟩ := at_T65 HR0.out x5_1 p571 q571; obtain rfl : ad561 = ad571 := (by injection e571); replace hx571_0 := cu_ HB hx571_0; replace hx571_1 := cu_ HB hx571_1; replace hx571_2 := cu_ HB hx571_2; replace hx571_3 := cu_ HB hx571_3; replace hx571_4 := cu_ HB hx571_4; replace hx571_5 := cu_ HB hx571_5; replace hx571_6 := cu_ HB hx571_6; replace hx571_7 := cu_ HB hx571_7; have HR571_5 := Aside0.mk hi571_5; have HC571_5 := Aside0.mk hl571_5; clear hi571_5 hl571_5; replace p571 := eq_true p571; replace q571 := eq_true q571; have ea_ := Option.some.inj (hx568_5.symm.trans hx571_5); injection ea_ with ea_ en_ ec_; subst ea_; subst ec_; clear en_; refine stop_ ?_; intro G_ HG_))
           by_cases c21 : ((rd_T65 l0 x5_1).f6) = t570
           ·rw [if_pos c21] at H
            have c21b0 := beq_iff_eq.mpr c21
            have c21b1 := bne_eq_false_iff_eq.mpr c21
            clear c21
            obtain ⟨t573, A22, H⟩ := bs_ H
            refine HG_.out ?_; clear HG_
            try simp only [c21b0, c21b1, Bool.not_true, Bool.not_false]
            go_wp2_with fail
            (try (rw [drewN_self w20]; generalize hq_ : World.drewN w20 _ = w20; replace HB := ha_ hq_ HB; clear hq_))
            replace HB := hd_ HB
            have p572 : 0 ≤ (x5_1 : Int) := od_
            have q572 : x5_1 < (l0.length : Int) := od_
            obtain ⟨ad572, A572_5, c572_5, e572, hx572_0, hx572_1, hx572_2, hx572_3, hx572_4, hx572_5, hx572_6, hx572_7, hl572_5, hi572_5⟩ := at_T65 HR0.out x5_1 p572 q572
            have hw572_7 := hx572_7
            have hw572_6 := hx572_6
            have hw572_5 := hx572_5
            have hw572_4 := hx572_4
            have hw572_3 := hx572_3
            have hw572_2 := hx572_2
            have hw572_1 := hx572_1
            have hw572_0 := hx572_0
            obtain rfl : ad561 = ad572 := (by injection e572)
            replace hx572_0 := cu_ HB hx572_0
            replace hx572_1 := cu_ HB hx572_1
            replace hx572_2 := cu_ HB hx572_2
            replace hx572_3 := cu_ HB hx572_3
            replace hx572_4 := cu_ HB hx572_4
            replace hx572_5 := cu_ HB hx572_5
            replace hx572_6 := cu_ HB hx572_6
            replace hx572_7 := cu_ HB hx572_7
            have HR572_5 := Aside0.mk hi572_5
            have HC572_5 := Aside0.mk hl572_5
            clear hi572_5 hl572_5
            replace p572 := eq_true p572
            replace q572 := eq_true q572
            refine start_ (n := 8) (S := fun w' => w'.cell? (ad561.add ((x5_1).toNat * 8)) = some (.int .i64 ((rd_T65 l0 x5_1).f0)) ∧ w'.cell? ⟨(ad561.add ((x5_1).toNat * 8)).block, (ad561.add ((x5_1).toNat * 8)).off + 1, none⟩ = some (.string ((rd_T65 l0 x5_1).f1)) ∧ w'.cell? ⟨(ad561.add ((x5_1).toNat * 8)).block, (ad561.add ((x5_1).toNat * 8)).off + 2, none⟩ = some (.string ((rd_T65 l0 x5_1).f2)) ∧ w'.cell? ⟨(ad561.add ((x5_1).toNat * 8)).block, (ad561.add ((x5_1).toNat * 8)).off + 3, none⟩ = some (.string ((rd_T65 l0 x5_1).f3)) ∧ w'.cell? ⟨(ad561.add ((x5_1).toNat * 8)).block, (ad561.add ((x5_1).toNat * 8)).off + 4, none⟩ = some (.int .i64 ((rd_T65 l0 x5_1).f4)) ∧ w'.cell? ⟨(ad561.add ((x5_1).toNat * 8)).block, (ad561.add ((x5_1).toNat * 8)).off + 5, none⟩ = some (.slice A572_5 ((rd_T65 l0 x5_1).f5).length c572_5) ∧ w'.cell? ⟨(ad561.add ((x5_1).toNat * 8)).block, (ad561.add ((x5_1).toNat * 8)).off + 6, none⟩ = some (.int .i64 ((rd_T65 l0 x5_1).f6)) ∧ w'.cell? ⟨(ad561.add ((x5_1).toNat * 8)).block, (ad561.add ((x5_1).toNat * 8)).off + 7, none⟩ = some (.string ((rd_T65 l0 x5_1).f7))) (ds := []) (fl 8 0) (by kernel_rfl) rfl rfl ⟨(cu_ HB hw572_0), (cu_ HB hw572_1), (cu_ HB hw572_2), (cu_ HB hw572_3), (cu_ HB hw572_4), (cu_ HB hw572_5), (cu_ HB hw572_6), (cu_ HB hw572_7)⟩ (fun hHeld => ?_); refine with_tabW laws_heldCallS.tab25 laws_heldCallS.bits25 (fun HT_ HW_ => ?_)
            generalize w20.drew = w30 at HB HR572_5 hx572_0 hx572_1 hx572_2 hx572_3 hx572_4 hx572_5 hx572_6 hx572_7 hHeld ⊢
            refine pq_ 0 78 (fl 8 1) HT_.out ?_
            refine pq_ 1 79 (fl 8 3) HT_.out ?_
            refine pq_ 2 80 (fl 8 7) HT_.out ?_
            refine pq_ 3 81 (fl 8 15) HT_.out ?_
            refine pq_ 5 83 (fl 8 47) HT_.out ?_
            refine tq_ 4 82 (fl 8 63) HT_.out HW_.out hHeld ?_
            refine one_ (i := 6) (N := some 84) (fl 8 127) rfl rfl (one_of HT_.out (by kernel_rfl)) (by decide) (fun K hK => ?_)
            refine go_ Tryd.func42 #[.int .i64 (wrap64 (t570 + 1))] ?_
            with_reducible refine (laws_markText.calls k1 (wrap64 (t570 + 1)) t573 _ A22.out).mono ?_
            rintro e w31 ⟨rfl, hb⟩
            refine ⟨_, rfl, ?_⟩
            replace HB := hb_ HB hb
            try clear hb
            refine hK.out _ _ ⟨(cu_ HB hw572_0), (cu_ HB hw572_1), (cu_ HB hw572_2), (cu_ HB hw572_3), (cu_ HB hw572_4), (cu_ HB hw572_5), (cu_ HB hw572_6), (cu_ HB hw572_7)⟩ (fun hHeld => ?_)
            clear hK K
            refine nq_ ?_
            refine pq_ 7 85 (fl 8 255) HT_.out ?_
            refine done_ (done_of HT_.out (by kernel_rfl)) ?_
            by_cases c23 : ((rd_T65 l0 x5_1).f7).toList = t573.toList
            ·rw [if_pos c23] at H
             have c23b0 := beq_iff_eq.mpr c23
             have c23b1 := bne_eq_false_iff_eq.mpr c23
             clear c23
             have H' := Aside0.mk H
             clear H
             try simp only [c23b0, c23b1, Bool.not_true, Bool.not_false]
             try go_wp2
             go_roundg k1
             case measure => have := HK1.out; omega
             case rel => exact ⟨(wrap64 ((wrap64 (t570 + 1)) + 1)), (wrap64 (x5_1 + 1)), rf_, rf_, H', ⟨by have := HK1.out; omega⟩, ⟨bl_⟩⟩
            ·rw [if_neg c23] at H
             have c23b0 := beq_eq_false_iff_ne.mpr c23
             have c23b1 := bne_iff_ne.mpr c23
             obtain rfl := Option.some.inj H
             try simp only [c23b0, c23b1, Bool.not_true, Bool.not_false]
             try go_wp2
             go_ret
             exact ⟨re_, bl_⟩
           ·rw [if_neg c21] at H
            have c21b0 := beq_eq_false_iff_ne.mpr c21
            have c21b1 := bne_iff_ne.mpr c21
            obtain rfl := Option.some.inj H
            refine HG_.out ?_; clear HG_
            try simp only [c21b0, c21b1, Bool.not_true, Bool.not_false]
            go_wp2_with fail
            go_ret
            exact ⟨re_, bl_⟩
         ·rw [if_neg c12] at H
          have c12b0 := beq_eq_false_iff_ne.mpr c12
          have c12b1 := bne_iff_ne.mpr c12
          obtain rfl := Option.some.inj H
          try simp only [c12b0, c12b1, Bool.not_true, Bool.not_false]
          try go_wp2
          go_ret
          exact ⟨re_, bl_⟩
        ·rw [if_neg c11] at H
         have c11b0 := beq_eq_false_iff_ne.mpr c11
         have c11b1 := bne_iff_ne.mpr c11
         obtain rfl := Option.some.inj H
         try simp only [c11b0, c11b1, Bool.not_true, Bool.not_false]
         try go_wp2
         go_ret
         exact ⟨re_, bl_⟩
       ·rw [if_neg c9] at H
        have c9b0 := beq_eq_false_iff_ne.mpr c9
        have c9b1 := bne_iff_ne.mpr c9
        obtain rfl := Option.some.inj H
        try simp only [c9b0, c9b1, Bool.not_true, Bool.not_false]
        try go_wp2
        go_ret
        exact ⟨re_, bl_⟩
      ·rw [if_neg c7] at H
       have c7b0 := beq_eq_false_iff_ne.mpr c7
       have c7b1 := bne_iff_ne.mpr c7
       obtain rfl := Option.some.inj H
       try simp only [c7b0, c7b1, Bool.not_true, Bool.not_false]
       try go_wp2
       go_ret
       exact ⟨re_, bl_⟩
     ·rw [if_neg c5] at H
      have c5b0 := beq_eq_false_iff_ne.mpr c5
      have c5b1 := bne_iff_ne.mpr c5
      obtain rfl := Option.some.inj H
      try simp only [c5b0, c5b1, Bool.not_true, Bool.not_false]
      go_wp2
      go_ret
      exact ⟨re_, bl_⟩
    ·rw [if_neg c4] at H
     exact absurd H (by simp)
   ·rw [if_neg c3] at H
    have c3b0 := decide_eq_false c3
    clear c3
    obtain rfl := Option.some.inj H
    go_wp2
    go_ret
    exact ⟨re_, bl_⟩

end Go.Proofs.YtdokcckgnamnfaaDoor.QFnExactStepBring
