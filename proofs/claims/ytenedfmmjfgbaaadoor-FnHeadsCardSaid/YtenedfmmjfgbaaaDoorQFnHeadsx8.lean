-- Written by a program of this session (myprint) out of Lean's own print of the translation. Lean checks it.
import Derived.Test.YtenedfmmjfgbaaaDoorQFnHeadsx0
namespace Go.Proofs.YtenedfmmjfgbaaaDoor.QFnHeads
open Go.RowKit Go.Proofs.YtenedfmmjfgbaaaDoorW.PrintWords Go.Proofs.YtenedfmmjfgbaaaDoorW.PrintLast Go.Proofs.YtenedfmmjfgbaaaDoorW.PrintMore
attribute [local go_sem] max2_int min2_int max_two min_two max_three min_three max_four min_four   -- for this text's walks alone
set_option linter.unusedVariables false
set_option linter.unusedSimpArgs false

/-! ### spec_l07Sorted: function 38 -/
mutual
def spec_l07Sorted.l0 : Nat → List Int → Int → List Int → Int → Option (List Int)
 | 0, _, _, _, _ => none
 | k + 1, x0, x1, x5, x6 => if x6 < (x0.length : Int) then (if 0 ≤ x6 then (if (rd x0 x6) < x1 then (if x5.length < 17592186044416 then (spec_l07Sorted.l0 k x0 x1 (x5 ++ [rd x0 x6]) (wrap64 (x6 + 1))) else (none)) else (spec_l07Sorted.l0 k x0 x1 x5 (wrap64 (x6 + 1)))) else (none)) else (if x5.length < 17592186044416 then (spec_l07Sorted.l1 k x0 x1 (x5 ++ [x1]) 0) else (none))
def spec_l07Sorted.l1 : Nat → List Int → Int → List Int → Int → Option (List Int)
 | 0, _, _, _, _ => none
 | k + 1, x0, x1, x5, x7 => if x7 < (x0.length : Int) then (if 0 ≤ x7 then (if (rd x0 x7) > x1 then (if x5.length < 17592186044416 then (spec_l07Sorted.l1 k x0 x1 (x5 ++ [rd x0 x7]) (wrap64 (x7 + 1))) else (none)) else (spec_l07Sorted.l1 k x0 x1 x5 (wrap64 (x7 + 1)))) else (none)) else (some x5)
end
def spec_l07Sorted.f (k : Nat) (l0 : List Int) (a1 : Int) : Option (List Int) := spec_l07Sorted.l0 k l0 a1 (([] : List Int)) 0
theorem spec_l07Sorted.mono_l : ∀ k, (∀ y0 y1 y2 y3, LeO (spec_l07Sorted.l0 k y0 y1 y2 y3) (spec_l07Sorted.l0 (k + 1) y0 y1 y2 y3)) ∧ (∀ y0 y1 y2 y3, LeO (spec_l07Sorted.l1 k y0 y1 y2 y3) (spec_l07Sorted.l1 (k + 1) y0 y1 y2 y3))
 | 0 => ⟨fun _ _ _ _ r h => by simp [spec_l07Sorted.l0] at h, fun _ _ _ _ r h => by simp [spec_l07Sorted.l1] at h⟩
 | k + 1 => by
  obtain ⟨ih0, ih1⟩ := spec_l07Sorted.mono_l k
  refine ⟨?_, ?_⟩
  ·intro y0 y1 y2 y3
   unfold spec_l07Sorted.l0
   repeat' first
   | (with_reducible exact ih0 _ _ _ _)
   | (with_reducible exact ih1 _ _ _ _)
   | (with_reducible exact LeO.refl _)
   | (with_reducible exact LeO.none _)
   | (with_reducible refine LeO.ite ?_ ?_)
   | (with_reducible refine LeO.bind ?_ (fun _ => ?_))
   | exact ih0 _ _ _ _
   | exact ih1 _ _ _ _
   | exact LeO.none _
   | refine LeO.ite ?_ ?_
   | refine LeO.bind ?_ (fun _ => ?_)
  ·intro y0 y1 y2 y3
   unfold spec_l07Sorted.l1
   repeat' first
   | (with_reducible exact ih0 _ _ _ _)
   | (with_reducible exact ih1 _ _ _ _)
   | (with_reducible exact LeO.refl _)
   | (with_reducible exact LeO.none _)
   | (with_reducible refine LeO.ite ?_ ?_)
   | (with_reducible refine LeO.bind ?_ (fun _ => ?_))
   | exact ih0 _ _ _ _
   | exact ih1 _ _ _ _
   | exact LeO.none _
   | refine LeO.ite ?_ ?_
   | refine LeO.bind ?_ (fun _ => ?_)
theorem spec_l07Sorted.mono : ∀ a0 a1 k, LeO (spec_l07Sorted.f k a0 a1) (spec_l07Sorted.f (k + 1) a0 a1) := by
 intro a0 a1 k
 obtain ⟨ih0, ih1⟩ := spec_l07Sorted.mono_l k
 unfold spec_l07Sorted.f
 repeat' first
   | (with_reducible exact ih0 _ _ _ _)
   | (with_reducible exact ih1 _ _ _ _)
   | (with_reducible exact LeO.refl _)
   | (with_reducible exact LeO.none _)
   | (with_reducible refine LeO.ite ?_ ?_)
   | (with_reducible refine LeO.bind ?_ (fun _ => ?_))
   | exact ih0 _ _ _ _
   | exact ih1 _ _ _ _
   | exact LeO.none _
   | refine LeO.ite ?_ ?_
   | refine LeO.bind ?_ (fun _ => ?_)
set_option maxHeartbeats 8000000 in
set_option maxRecDepth 100000 in
theorem spec_l07Sorted.calls (k : Nat) (A0 : Option Addr) (c0 : Nat) (l0 : List Int) (a1 : Int) (r : List Int) (w : World) (hr0 : Kd.C (Kd.int .i64) w A0 l0.length l0) (hc0 : l0.length ≤ c0) (h : spec_l07Sorted.f k l0 a1 = some r) :
  Calls Tryd.prog 38 #[.slice A0 l0.length c0, .int .i64 a1] w fun e w' => ∃ v0_ : Value, e = .returned (v0_) ∧ Kd.R (Kd.int .i64) 3 w' w.heap.size (fun _ => True) v0_ r ∧ Below w.heap.size w w' := by
 have HR0 := Aside0.mk hr0
 have HC0 := Aside0.mk hc0
 clear hr0 hc0
 have HB := Aside0.mk (Below.refl w.heap.size w)
 have H : (spec_l07Sorted.l0 k l0 a1 (([] : List Int)) 0) = some r := h
 clear h
 obtain ⟨y286, hy286⟩ : ∃ y_ : List Int, y_ = (([] : List Int)) := ⟨_, rfl⟩
 replace H : (spec_l07Sorted.l0 k l0 a1 y286 0) = some r := by first | (rw [hy286]; with_reducible exact H) | (have H2_ := (Option.bind_some _ _).symm.trans H; rw [hy286]; with_reducible exact H2_) | (have H2_ := (Option.bind_some _ _).symm.trans H; with_reducible exact H2_) | with_reducible exact H | (rw [hy286]; exact H) | exact H
 have Ny286 := Aside0.mk hy286
 clear hy286
 have H' := Aside0.mk H
 clear H
 go_enter Tryd.func38, Tryd.ntmps38
 go_wp2_with (first | ((with_reducible refine gate_dst (N := 8) rfl ?_); refine Kd.R_lit (Kd.int .i64) _ 3 ?hg (N := 8) ?hd (xs := ([] : List Int)) (inner := []) (ok := fun _ => True) (okp := fun _ => True) ?hr ?hp (fun _ hk => hk) trivial (Below.refl _ _) (Nat.le_refl _) (by simp) ?_; (case hd => rfl); (case hg => rfl); (case hr => first | (go_simp; done) | (go_simp; rfl)); (case hp => exact (Reps.none _ _)); intro v287 w3 ho4 hb hg_ hnew_; clear hg_ hnew_; (first | rw [← Ny286.out] at ho4 | (simp only [Int.reduceToNat] at ho4; rw [← Ny286.out] at ho4)); have n0_ := Aside0.mk (Kd.R_lower ho4 (below_size HB.out)); have n1_ := Aside0.mk (below_step HB.out hb); clear HB; have HO288 := n0_; have HB := n1_; clear n0_ n1_; clear hb ho4))
 go_loopg [5, 6] k (fun kq v5 v6 w' => ∃ (x5_1 : List Int) (x6_1 : Int), v6 = .int .i64 x6_1 ∧ Aside0 (spec_l07Sorted.l0 kq l0 a1 x5_1 x6_1 = some r) ∧ Aside0 (kq ≤ k) ∧ Aside0 (Kd.R (Kd.int .i64) 3 w' w.heap.size (fun _ => True) v5 x5_1) ∧ Aside0 (Below w.heap.size w w'))
 case atStart => exact ⟨(y286), (0), (by first | rfl | (simp; done) | (simp [*]; done) | (simp; exact (by intro l; cases l <;> rfl : ∀ l : List UInt8, l.isEmpty = !(l != [])) _)), H', ⟨Nat.le_refl _⟩, ⟨by (with_reducible repeat (first | apply Kd.R_alloc | apply Kd.R_drewN | apply Kd.R_drew)); exact HO288.out⟩, ⟨by repeat (first | (with_reducible first | exact HB.out | apply below_alloc | apply pw_below_drewN | apply below_drew1) | exact HB.out)⟩⟩
 case round =>
  clear H'
  try clear p2
  try clear c3
  obtain ⟨x5_1, x6_1, rfl, HA, HK1, HO_5, HB⟩ := hrel
  cases gk with
  | zero => exact absurd HA.out (by simp [spec_l07Sorted.l0])
  | succ k1 =>
   have H := HA.out
   clear HA
   simp only [spec_l07Sorted.l0] at H
   by_cases c5 : x6_1 < (l0.length : Int)
   ·rw [if_pos c5] at H
    have c5b0 : decide (x6_1 < (l0.length : Int)) = true := decide_eq_true c5
    clear c5
    by_cases c6 : 0 ≤ x6_1
    ·rw [if_pos c6] at H
     have c6b0 : decide (0 ≤ x6_1) = true := decide_eq_true c6
     clear c6
     by_cases c7 : (rd l0 x6_1) < a1
     ·rw [if_pos c7] at H
      have c7b0 : decide ((rd l0 x6_1) < a1) = true := decide_eq_true c7
      clear c7
      by_cases c8 : x5_1.length < 17592186044416
      ·rw [if_pos c8] at H
       have LMc8 := Aside0.mk c8
       clear c8
       obtain ⟨y291, hy291⟩ : ∃ y_ : List Int, y_ = (x5_1 ++ [rd l0 x6_1]) := ⟨_, rfl⟩
       replace H : (spec_l07Sorted.l0 k1 l0 a1 y291 (wrap64 (x6_1 + 1))) = some r := by first | (rw [hy291]; with_reducible exact H) | (have H2_ := (Option.bind_some _ _).symm.trans H; rw [hy291]; with_reducible exact H2_) | (have H2_ := (Option.bind_some _ _).symm.trans H; with_reducible exact H2_) | with_reducible exact H | (rw [hy291]; exact H) | exact H
       have Ny291 := Aside0.mk hy291
       clear hy291
       have H' := Aside0.mk H
       clear H
       have p289 : 0 ≤ (x6_1 : Int) := of_decide_eq_true (by first | (with_reducible assumption) | assumption)
       have q289 : x6_1 < (l0.length : Int) := of_decide_eq_true (by first | (with_reducible assumption) | assumption)
       obtain ⟨ad289, e289, hx289_0⟩ := Kd.at_int HR0.out x6_1 p289 q289
       cases e289
       replace hx289_0 := (HB.out.cell (World.block_lt_of_cell? w _ hx289_0)).trans hx289_0
       replace p289 := eq_true p289
       replace q289 := eq_true q289
       have p290 : 0 ≤ (x6_1 : Int) := of_decide_eq_true (by first | (with_reducible assumption) | assumption)
       have q290 : x6_1 < (l0.length : Int) := of_decide_eq_true (by first | (with_reducible assumption) | assumption)
       obtain ⟨ad290, e290, hx290_0⟩ := Kd.at_int HR0.out x6_1 p290 q290
       obtain rfl : ad289 = ad290 := (by injection e290)
       replace hx290_0 := (HB.out.cell (World.block_lt_of_cell? w _ hx290_0)).trans hx290_0
       replace p290 := eq_true p290
       replace q290 := eq_true q290
       go_wp2_with (first | ((with_reducible refine gate_builtin (b := .append) (xs := #[.tmp 21, .tmp 26]) rfl ?_); at_builtin; refine Kd.R_append (Kd.int .i64) (w0 := w) w.heap.size rfl (.tmp 21) (.tmp 26) 30 3 (.int .i64 0) 8 rfl Tryd.underlying30 info3 rfl (by decide) (by omega) u5 x5_1 (rd l0 x6_1) [.int .i64 (rd l0 x6_1)] (fun _ => True) (fun _ => False) rfl rfl ?aP (fun _ hk => hk.elim) ?aF ?aO ?aB ?aS ?aL ?_; (case aP => exact rfl); (case aB => exact HB.out); (case aF => exact (fun _ _ => trivial)); (case aO => exact HO_5.out); (case aS => exact (below_size HB.out)); (case aL => have := LMc8.out; omega); intro v292 w9 ho hb hg hat; rw [← Ny291.out] at ho; have n0_ := Aside0.mk (hb); have n1_ := Aside0.mk (ho); clear HB; clear HO_5; have HB := n0_; have HO293 := n1_; clear n0_ n1_; clear ho hb hg hat))
       go_roundg k1
       case measure => have := HK1.out; omega
       case rel => exact ⟨(y291), (wrap64 (x6_1 + 1)), (by first | rfl | (simp; done) | (simp [*]; done) | (simp; exact (by intro l; cases l <;> rfl : ∀ l : List UInt8, l.isEmpty = !(l != [])) _)), H', ⟨by have := HK1.out; omega⟩, ⟨by (with_reducible repeat (first | apply Kd.R_alloc | apply Kd.R_drewN | apply Kd.R_drew)); exact HO293.out⟩, ⟨by repeat (first | (with_reducible first | exact HB.out | apply below_alloc | apply pw_below_drewN | apply below_drew1) | exact HB.out)⟩⟩
      ·rw [if_neg c8] at H
       exact absurd H (by simp)
     ·rw [if_neg c7] at H
      have c7b0 : decide ((rd l0 x6_1) < a1) = false := decide_eq_false c7
      clear c7
      have H' := Aside0.mk H
      clear H
      have p289 : 0 ≤ (x6_1 : Int) := of_decide_eq_true (by first | (with_reducible assumption) | assumption)
      have q289 : x6_1 < (l0.length : Int) := of_decide_eq_true (by first | (with_reducible assumption) | assumption)
      obtain ⟨ad289, e289, hx289_0⟩ := Kd.at_int HR0.out x6_1 p289 q289
      cases e289
      replace hx289_0 := (HB.out.cell (World.block_lt_of_cell? w _ hx289_0)).trans hx289_0
      replace p289 := eq_true p289
      replace q289 := eq_true q289
      go_wp2
      go_roundg k1
      case measure => have := HK1.out; omega
      case rel => exact ⟨(x5_1), (wrap64 (x6_1 + 1)), (by first | rfl | (simp; done) | (simp [*]; done) | (simp; exact (by intro l; cases l <;> rfl : ∀ l : List UInt8, l.isEmpty = !(l != [])) _)), H', ⟨by have := HK1.out; omega⟩, ⟨by (with_reducible repeat (first | apply Kd.R_alloc | apply Kd.R_drewN | apply Kd.R_drew)); exact HO_5.out⟩, ⟨by repeat (first | (with_reducible first | exact HB.out | apply below_alloc | apply pw_below_drewN | apply below_drew1) | exact HB.out)⟩⟩
    ·rw [if_neg c6] at H
     exact absurd H (by simp)
   ·rw [if_neg c5] at H
    have c5b0 : decide (x6_1 < (l0.length : Int)) = false := decide_eq_false c5
    clear c5
    by_cases c10 : x5_1.length < 17592186044416
    ·rw [if_pos c10] at H
     have LMc10 := Aside0.mk c10
     clear c10
     obtain ⟨y294, hy294⟩ : ∃ y_ : List Int, y_ = (x5_1 ++ [a1]) := ⟨_, rfl⟩
     replace H : (spec_l07Sorted.l1 k1 l0 a1 y294 0) = some r := by first | (rw [hy294]; with_reducible exact H) | (have H2_ := (Option.bind_some _ _).symm.trans H; rw [hy294]; with_reducible exact H2_) | (have H2_ := (Option.bind_some _ _).symm.trans H; with_reducible exact H2_) | with_reducible exact H | (rw [hy294]; exact H) | exact H
     have Ny294 := Aside0.mk hy294
     clear hy294
     have H' := Aside0.mk H
     clear H
     go_wp2_with (first | ((with_reducible refine gate_builtin (b := .append) (xs := #[.tmp 28, .tmp 30]) rfl ?_); at_builtin; refine Kd.R_append (Kd.int .i64) (w0 := w) w.heap.size rfl (.tmp 28) (.tmp 30) 30 3 (.int .i64 0) 8 rfl Tryd.underlying30 info3 rfl (by decide) (by omega) u5 x5_1 a1 [.int .i64 a1] (fun _ => True) (fun _ => False) rfl rfl ?aP (fun _ hk => hk.elim) ?aF ?aO ?aB ?aS ?aL ?_; (case aP => exact rfl); (case aB => exact HB.out); (case aF => exact (fun _ _ => trivial)); (case aO => exact HO_5.out); (case aS => exact (below_size HB.out)); (case aL => have := LMc10.out; omega); intro v295 w11 ho hb hg hat; rw [← Ny294.out] at ho; have n0_ := Aside0.mk (hb); have n1_ := Aside0.mk (ho); clear HB; clear HO_5; have HB := n0_; have HO296 := n1_; clear n0_ n1_; clear ho hb hg hat))
     go_loopg [5, 7] k1 (fun kq v5 v7 w' => ∃ (x5_2 : List Int) (x7_2 : Int), v7 = .int .i64 x7_2 ∧ Aside0 (spec_l07Sorted.l1 kq l0 a1 x5_2 x7_2 = some r) ∧ Aside0 (kq ≤ k1) ∧ Aside0 (Kd.R (Kd.int .i64) 3 w' w.heap.size (fun _ => True) v5 x5_2) ∧ Aside0 (Below w.heap.size w w'))
     case atStart => exact ⟨(y294), (0), (by first | rfl | (simp; done) | (simp [*]; done) | (simp; exact (by intro l; cases l <;> rfl : ∀ l : List UInt8, l.isEmpty = !(l != [])) _)), H', ⟨Nat.le_refl _⟩, ⟨by (with_reducible repeat (first | apply Kd.R_alloc | apply Kd.R_drewN | apply Kd.R_drew)); exact HO296.out⟩, ⟨by repeat (first | (with_reducible first | exact HB.out | apply below_alloc | apply pw_below_drewN | apply below_drew1) | exact HB.out)⟩⟩
     case round =>
      clear H'
      try clear c1
      try clear p2
      try clear q2
      try clear hx2
      try clear c3
      try clear c5
      try clear c5b0
      try clear c6
      try clear c6b0
      try clear p6
      try clear c7
      try clear c7b0
      try clear c8
      try clear c10
      try clear hx289_0
      try clear hx290_0
      try clear p2
      try clear p289
      try clear p290
      try clear q289
      try clear q290
      obtain ⟨x5_2, x7_2, rfl, HA, HK2, HO_5, HB⟩ := hrel
      cases gk with
      | zero => exact absurd HA.out (by simp [spec_l07Sorted.l1])
      | succ k2 =>
       have H := HA.out
       clear HA
       simp only [spec_l07Sorted.l1] at H
       by_cases c12 : x7_2 < (l0.length : Int)
       ·rw [if_pos c12] at H
        have c12b0 : decide (x7_2 < (l0.length : Int)) = true := decide_eq_true c12
        clear c12
        by_cases c13 : 0 ≤ x7_2
        ·rw [if_pos c13] at H
         have c13b0 : decide (0 ≤ x7_2) = true := decide_eq_true c13
         clear c13
         by_cases c14 : (rd l0 x7_2) > a1
         ·rw [if_pos c14] at H
          have c14b0 : decide (a1 < (rd l0 x7_2)) = true := decide_eq_true c14
          clear c14
          by_cases c15 : x5_2.length < 17592186044416
          ·rw [if_pos c15] at H
           have LMc15 := Aside0.mk c15
           clear c15
           obtain ⟨y299, hy299⟩ : ∃ y_ : List Int, y_ = (x5_2 ++ [rd l0 x7_2]) := ⟨_, rfl⟩
           replace H : (spec_l07Sorted.l1 k2 l0 a1 y299 (wrap64 (x7_2 + 1))) = some r := by first | (rw [hy299]; with_reducible exact H) | (have H2_ := (Option.bind_some _ _).symm.trans H; rw [hy299]; with_reducible exact H2_) | (have H2_ := (Option.bind_some _ _).symm.trans H; with_reducible exact H2_) | with_reducible exact H | (rw [hy299]; exact H) | exact H
           have Ny299 := Aside0.mk hy299
           clear hy299
           have H' := Aside0.mk H
           clear H
           have p297 : 0 ≤ (x7_2 : Int) := of_decide_eq_true (by first | (with_reducible assumption) | assumption)
           have q297 : x7_2 < (l0.length : Int) := of_decide_eq_true (by first | (with_reducible assumption) | assumption)
           obtain ⟨ad297, e297, hx297_0⟩ := Kd.at_int HR0.out x7_2 p297 q297
           cases e297
           replace hx297_0 := (HB.out.cell (World.block_lt_of_cell? w _ hx297_0)).trans hx297_0
           replace p297 := eq_true p297
           replace q297 := eq_true q297
           have p298 : 0 ≤ (x7_2 : Int) := of_decide_eq_true (by first | (with_reducible assumption) | assumption)
           have q298 : x7_2 < (l0.length : Int) := of_decide_eq_true (by first | (with_reducible assumption) | assumption)
           obtain ⟨ad298, e298, hx298_0⟩ := Kd.at_int HR0.out x7_2 p298 q298
           obtain rfl : ad297 = ad298 := (by injection e298)
           replace hx298_0 := (HB.out.cell (World.block_lt_of_cell? w _ hx298_0)).trans hx298_0
           replace p298 := eq_true p298
           replace q298 := eq_true q298
           go_wp2_with (first | ((with_reducible refine gate_builtin (b := .append) (xs := #[.tmp 44, .tmp 49]) rfl ?_); at_builtin; refine Kd.R_append (Kd.int .i64) (w0 := w) w.heap.size rfl (.tmp 44) (.tmp 49) 30 3 (.int .i64 0) 8 rfl Tryd.underlying30 info3 rfl (by decide) (by omega) u5 x5_2 (rd l0 x7_2) [.int .i64 (rd l0 x7_2)] (fun _ => True) (fun _ => False) rfl rfl ?aP (fun _ hk => hk.elim) ?aF ?aO ?aB ?aS ?aL ?_; (case aP => exact rfl); (case aB => exact HB.out); (case aF => exact (fun _ _ => trivial)); (case aO => exact HO_5.out); (case aS => exact (below_size HB.out)); (case aL => have := LMc15.out; omega); intro v300 w16 ho hb hg hat; rw [← Ny299.out] at ho; have n0_ := Aside0.mk (hb); have n1_ := Aside0.mk (ho); clear HB; clear HO_5; have HB := n0_; have HO301 := n1_; clear n0_ n1_; clear ho hb hg hat))
           go_roundg k2
           case measure => have := HK1.out; have := HK2.out; omega
           case rel => exact ⟨(y299), (wrap64 (x7_2 + 1)), (by first | rfl | (simp; done) | (simp [*]; done) | (simp; exact (by intro l; cases l <;> rfl : ∀ l : List UInt8, l.isEmpty = !(l != [])) _)), H', ⟨by have := HK1.out; have := HK2.out; omega⟩, ⟨by (with_reducible repeat (first | apply Kd.R_alloc | apply Kd.R_drewN | apply Kd.R_drew)); exact HO301.out⟩, ⟨by repeat (first | (with_reducible first | exact HB.out | apply below_alloc | apply pw_below_drewN | apply below_drew1) | exact HB.out)⟩⟩
          ·rw [if_neg c15] at H
           exact absurd H (by simp)
         ·rw [if_neg c14] at H
          have c14b0 : decide (a1 < (rd l0 x7_2)) = false := decide_eq_false c14
          clear c14
          have H' := Aside0.mk H
          clear H
          have p297 : 0 ≤ (x7_2 : Int) := of_decide_eq_true (by first | (with_reducible assumption) | assumption)
          have q297 : x7_2 < (l0.length : Int) := of_decide_eq_true (by first | (with_reducible assumption) | assumption)
          obtain ⟨ad297, e297, hx297_0⟩ := Kd.at_int HR0.out x7_2 p297 q297
          cases e297
          replace hx297_0 := (HB.out.cell (World.block_lt_of_cell? w _ hx297_0)).trans hx297_0
          replace p297 := eq_true p297
          replace q297 := eq_true q297
          go_wp2
          go_roundg k2
          case measure => have := HK1.out; have := HK2.out; omega
          case rel => exact ⟨(x5_2), (wrap64 (x7_2 + 1)), (by first | rfl | (simp; done) | (simp [*]; done) | (simp; exact (by intro l; cases l <;> rfl : ∀ l : List UInt8, l.isEmpty = !(l != [])) _)), H', ⟨by have := HK1.out; have := HK2.out; omega⟩, ⟨by (with_reducible repeat (first | apply Kd.R_alloc | apply Kd.R_drewN | apply Kd.R_drew)); exact HO_5.out⟩, ⟨by repeat (first | (with_reducible first | exact HB.out | apply below_alloc | apply pw_below_drewN | apply below_drew1) | exact HB.out)⟩⟩
        ·rw [if_neg c13] at H
         exact absurd H (by simp)
       ·rw [if_neg c12] at H
        have c12b0 : decide (x7_2 < (l0.length : Int)) = false := decide_eq_false c12
        clear c12
        obtain rfl := Option.some.inj H
        go_wp2
        go_ret
        exact ⟨_, by first | rfl | (simp [errW_none, errW_some] <;> rfl) | (simp [*, errW_none, errW_some] <;> rfl), by (with_reducible repeat (first | apply Kd.R_alloc | apply Kd.R_drewN | apply Kd.R_drew)); exact HO_5.out, by repeat (first | (with_reducible first | exact HB.out | apply below_alloc | apply pw_below_drewN | apply below_drew1) | exact HB.out)⟩
    ·rw [if_neg c10] at H
     exact absurd H (by simp)

/-! ### spec_l07Tell: function 39 -/
mutual
def spec_l07Tell.l0 : Nat → List (S77) → Int → Int → Int → Int → Int → Int → Int → Int → ByteArray → ByteArray → ByteArray → Option (Int × Int × Int × Int × Int × Int × ByteArray × ByteArray × ByteArray)
 | 0, _, _, _, _, _, _, _, _, _, _, _, _ => none
 | k + 1, x0, x1, x6, x304000, x304001, x304002, x304003, x304004, x304005, x304006, x304007, x304008 => if x6 < (x0.length : Int) then (if 0 ≤ x6 then (if ((rd_T77 x0 x6).f1.f0) = 1 then (spec_l07Tell.j1 k x0 x1 x6 (((rd_T77 x0 x6).f1.f1) != x1) x304000 x304001 x304002 x304003 x304004 x304005 x304006 x304007 x304008 ((rd_T77 x0 x6).f0) ((rd_T77 x0 x6).f1.f0) ((rd_T77 x0 x6).f1.f1) ((rd_T77 x0 x6).f1.f2) ((rd_T77 x0 x6).f1.f3) ((rd_T77 x0 x6).f1.f4) ((rd_T77 x0 x6).f1.f5) ((rd_T77 x0 x6).f1.f6) ((rd_T77 x0 x6).f1.f7)) else (spec_l07Tell.j1 k x0 x1 x6 true x304000 x304001 x304002 x304003 x304004 x304005 x304006 x304007 x304008 ((rd_T77 x0 x6).f0) ((rd_T77 x0 x6).f1.f0) ((rd_T77 x0 x6).f1.f1) ((rd_T77 x0 x6).f1.f2) ((rd_T77 x0 x6).f1.f3) ((rd_T77 x0 x6).f1.f4) ((rd_T77 x0 x6).f1.f5) ((rd_T77 x0 x6).f1.f6) ((rd_T77 x0 x6).f1.f7))) else (none)) else (some (x304000, x304001, x304002, x304003, x304004, x304005, x304006, x304007, x304008))
def spec_l07Tell.j1 : Nat → List (S77) → Int → Int → Bool → Int → Int → Int → Int → Int → Int → ByteArray → ByteArray → ByteArray → Int → Int → Int → Int → Int → Int → ByteArray → ByteArray → ByteArray → Option (Int × Int × Int × Int × Int × Int × ByteArray × ByteArray × ByteArray)
 | 0, _, _, _, _, _, _, _, _, _, _, _, _, _, _, _, _, _, _, _, _, _, _ => none
 | k + 1, x0, x1, x6, x29, x304000, x304001, x304002, x304003, x304004, x304005, x304006, x304007, x304008, x306000, x306001, x306002, x306003, x306004, x306005, x306006, x306007, x306008 => if x29 = true then (spec_l07Tell.l0 k x0 x1 (wrap64 (x6 + 1)) x304000 x304001 x304002 x304003 x304004 x304005 x304006 x304007 x304008) else (if x304000 = 0 then (spec_l07Tell.l0 k x0 x1 (wrap64 (x6 + 1)) x306000 x306001 x306002 x306003 x306004 x306005 x306006 x306007 x306008) else (if x306004 > x304004 then (spec_l07Tell.l0 k x0 x1 (wrap64 (x6 + 1)) x306000 x306001 x306002 x306003 x306004 x306005 x306006 x306007 x306008) else (if x306004 = x304004 then (if x306000 > x304000 then (spec_l07Tell.l0 k x0 x1 (wrap64 (x6 + 1)) x306000 x306001 x306002 x306003 x306004 x306005 x306006 x306007 x306008) else (spec_l07Tell.l0 k x0 x1 (wrap64 (x6 + 1)) x304000 x304001 x304002 x304003 x304004 x304005 x304006 x304007 x304008)) else (spec_l07Tell.l0 k x0 x1 (wrap64 (x6 + 1)) x304000 x304001 x304002 x304003 x304004 x304005 x304006 x304007 x304008))))
end
def spec_l07Tell.f (k : Nat) (l0 : List (S77)) (a1 : Int) : Option (Int × Int × Int × Int × Int × Int × ByteArray × ByteArray × ByteArray) := spec_l07Tell.l0 k l0 a1 0 0 0 0 0 0 0 (⟨#[]⟩ : ByteArray) (⟨#[]⟩ : ByteArray) (⟨#[]⟩ : ByteArray)
theorem spec_l07Tell.mono_l : ∀ k, (∀ y0 y1 y2 y3 y4 y5 y6 y7 y8 y9 y10 y11, LeO (spec_l07Tell.l0 k y0 y1 y2 y3 y4 y5 y6 y7 y8 y9 y10 y11) (spec_l07Tell.l0 (k + 1) y0 y1 y2 y3 y4 y5 y6 y7 y8 y9 y10 y11)) ∧ (∀ y0 y1 y2 y3 y4 y5 y6 y7 y8 y9 y10 y11 y12 y13 y14 y15 y16 y17 y18 y19 y20 y21, LeO (spec_l07Tell.j1 k y0 y1 y2 y3 y4 y5 y6 y7 y8 y9 y10 y11 y12 y13 y14 y15 y16 y17 y18 y19 y20 y21) (spec_l07Tell.j1 (k + 1) y0 y1 y2 y3 y4 y5 y6 y7 y8 y9 y10 y11 y12 y13 y14 y15 y16 y17 y18 y19 y20 y21))
 | 0 => ⟨fun _ _ _ _ _ _ _ _ _ _ _ _ r h => by simp [spec_l07Tell.l0] at h, fun _ _ _ _ _ _ _ _ _ _ _ _ _ _ _ _ _ _ _ _ _ _ r h => by simp [spec_l07Tell.j1] at h⟩
 | k + 1 => by
  obtain ⟨ih0, ih1⟩ := spec_l07Tell.mono_l k
  refine ⟨?_, ?_⟩
  ·intro y0 y1 y2 y3 y4 y5 y6 y7 y8 y9 y10 y11
   unfold spec_l07Tell.l0
   repeat' first
   | (with_reducible exact ih0 _ _ _ _ _ _ _ _ _ _ _ _)
   | (with_reducible exact ih1 _ _ _ _ _ _ _ _ _ _ _ _ _ _ _ _ _ _ _ _ _ _)
   | (with_reducible exact LeO.refl _)
   | (with_reducible exact LeO.none _)
   | (with_reducible refine LeO.ite ?_ ?_)
   | (with_reducible refine LeO.bind ?_ (fun _ => ?_))
   | exact ih0 _ _ _ _ _ _ _ _ _ _ _ _
   | exact ih1 _ _ _ _ _ _ _ _ _ _ _ _ _ _ _ _ _ _ _ _ _ _
   | exact LeO.none _
   | refine LeO.ite ?_ ?_
   | refine LeO.bind ?_ (fun _ => ?_)
  ·intro y0 y1 y2 y3 y4 y5 y6 y7 y8 y9 y10 y11 y12 y13 y14 y15 y16 y17 y18 y19 y20 y21
   unfold spec_l07Tell.j1
   repeat' first
   | (with_reducible exact ih0 _ _ _ _ _ _ _ _ _ _ _ _)
   | (with_reducible exact ih1 _ _ _ _ _ _ _ _ _ _ _ _ _ _ _ _ _ _ _ _ _ _)
   | (with_reducible exact LeO.refl _)
   | (with_reducible exact LeO.none _)
   | (with_reducible refine LeO.ite ?_ ?_)
   | (with_reducible refine LeO.bind ?_ (fun _ => ?_))
   | exact ih0 _ _ _ _ _ _ _ _ _ _ _ _
   | exact ih1 _ _ _ _ _ _ _ _ _ _ _ _ _ _ _ _ _ _ _ _ _ _
   | exact LeO.none _
   | refine LeO.ite ?_ ?_
   | refine LeO.bind ?_ (fun _ => ?_)
theorem spec_l07Tell.mono : ∀ a0 a1 k, LeO (spec_l07Tell.f k a0 a1) (spec_l07Tell.f (k + 1) a0 a1) := by
 intro a0 a1 k
 obtain ⟨ih0, ih1⟩ := spec_l07Tell.mono_l k
 unfold spec_l07Tell.f
 repeat' first
   | (with_reducible exact ih0 _ _ _ _ _ _ _ _ _ _ _ _)
   | (with_reducible exact ih1 _ _ _ _ _ _ _ _ _ _ _ _ _ _ _ _ _ _ _ _ _ _)
   | (with_reducible exact LeO.refl _)
   | (with_reducible exact LeO.none _)
   | (with_reducible refine LeO.ite ?_ ?_)
   | (with_reducible refine LeO.bind ?_ (fun _ => ?_))
   | exact ih0 _ _ _ _ _ _ _ _ _ _ _ _
   | exact ih1 _ _ _ _ _ _ _ _ _ _ _ _ _ _ _ _ _ _ _ _ _ _
   | exact LeO.none _
   | refine LeO.ite ?_ ?_
   | refine LeO.bind ?_ (fun _ => ?_)
set_option maxHeartbeats 8000000 in
set_option maxRecDepth 100000 in
theorem spec_l07Tell.calls (k : Nat) (A0 : Option Addr) (c0 : Nat) (l0 : List (S77)) (a1 : Int) (r1 : Int) (r2 : Int) (r3 : Int) (r4 : Int) (r5 : Int) (r6 : Int) (r7 : ByteArray) (r8 : ByteArray) (r9 : ByteArray) (w : World) (hr0 : Kd.C k77 w A0 l0.length l0) (hc0 : l0.length ≤ c0) (h : spec_l07Tell.f k l0 a1 = some (r1, r2, r3, r4, r5, r6, r7, r8, r9)) :
  Calls Tryd.prog 39 #[.slice A0 l0.length c0, .int .i64 a1] w fun e w' => e = .returned (.agg #[.int .i64 r1, .int .i64 r2, .int .i64 r3, .int .i64 r4, .int .i64 r5, .int .i64 r6, .string r7, .string r8, .string r9]) ∧ Below w.heap.size w w' := by
 have hu77 := Tryd.underlying77
 have HR0 := Aside0.mk hr0
 have HC0 := Aside0.mk hc0
 clear hr0 hc0
 have HB := Aside0.mk (Below.refl w.heap.size w)
 have H : (spec_l07Tell.l0 k l0 a1 0 0 0 0 0 0 0 (⟨#[]⟩ : ByteArray) (⟨#[]⟩ : ByteArray) (⟨#[]⟩ : ByteArray)) = some (r1, r2, r3, r4, r5, r6, r7, r8, r9) := h
 clear h
 have H' := Aside0.mk H
 clear H
 go_enter Tryd.func39, Tryd.ntmps39
 go_wp2_with (first | ((with_reducible refine gate_dst (N := 59) rfl ?_); refine wpList_load_row rfl 77 (.tmp 5) rfl _ rfl 77 _ (0, 0) _ BK303.out hu77 rfl (by first | kernel_rfl) ?_) | ((with_reducible refine gate_dst (N := 4) rfl ?_); refine box_event ?hg (N := 4) ?hd (cs := #[.int .i64 0, .int .i64 0, .int .i64 0, .int .i64 0, .int .i64 0, .int .i64 0, .string (⟨#[]⟩ : ByteArray), .string (⟨#[]⟩ : ByteArray), .string (⟨#[]⟩ : ByteArray)]) (t := 77) ?hr ?_; (case hd => rfl); (case hg => rfl); (case hr => first | (go_simp; done) | (go_simp; rfl)); intro gb302 hg w3 hbox hb; have n0_ := Aside0.mk (below_step HB.out hb); have n1_ := Aside0.mk (hbox); have n2_ := Aside0.mk ((by rw [hg]; exact (below_size HB.out) : w.heap.size ≤ gb302)); have n3_ := Aside0.mk ((by rw [hg]; exact (below_size HB.out) : w.heap.size ≤ gb302)); clear HB; have HB := n0_; have BK302 := n1_; have GW302 := n2_; have GE302 := n3_; clear n0_ n1_ n2_ n3_; clear hb hbox hg) | ((with_reducible refine gate_dst (N := 5) rfl ?_); refine Go.Proofs.YtenedfmmjfgbaaaDoorR.box_full_event ?hg ?hg2 (N := 5) ?hd ?hd2 (t := 77) (v := ?vof5) ?ho (cs := #[.int .i64 0, .int .i64 0, .int .i64 0, .int .i64 0, .int .i64 0, .int .i64 0, .string (⟨#[]⟩ : ByteArray), .string (⟨#[]⟩ : ByteArray), .string (⟨#[]⟩ : ByteArray)]) (cells := #[.int .i64 0, .int .i64 0, .int .i64 0, .int .i64 0, .int .i64 0, .int .i64 0, .string (⟨#[]⟩ : ByteArray), .string (⟨#[]⟩ : ByteArray), .string (⟨#[]⟩ : ByteArray)]) ?hi ?hs ?h1 ?hr ?hx ?hv ?_; (case hd => rfl); (case hd2 => rfl); (case ho => rfl); (case hg => rfl); (case hg2 => rfl); (case hi => kernel_rfl); (case hs => rfl); (case h1 => first | kernel_rfl | rfl); (case hx => intro p_; first | rfl | (go_simp; done) | (go_simp; rfl)); (case hv => intro p_; first | rfl | (go_simp; done) | (go_simp; rfl)); (case hr => first | (go_simp; done) | (go_simp; rfl)); intro gb303 hg w4 hbox hb; have n0_ := Aside0.mk (blk_below BK302.out hb); have n1_ := Aside0.mk (below_step HB.out hb); have n2_ := Aside0.mk (hbox); have n3_ := Aside0.mk ((by rw [hg]; exact (below_size HB.out) : w.heap.size ≤ gb303)); have n4_ := Aside0.mk ((by rw [hg]; exact (below_size HB.out) : w.heap.size ≤ gb303)); have n5_ := Aside0.mk ((by rw [hg]; exact Nat.ne_of_lt (blk_lt (g := gb302) (o := .cells #[.int .i64 0, .int .i64 0, .int .i64 0, .int .i64 0, .int .i64 0, .int .i64 0, .string (⟨#[]⟩ : ByteArray), .string (⟨#[]⟩ : ByteArray), .string (⟨#[]⟩ : ByteArray)] 77 (0, 0)) (by (with_reducible repeat (first | refine blk_drewN ?_ _ | refine blk_drew ?_ | refine blk_alloc ?_ _)); exact BK302.out)) : gb302 ≠ gb303)); have n6_ := Aside0.mk ((by rw [hg]; exact Nat.ne_of_gt (blk_lt (g := gb302) (o := .cells #[.int .i64 0, .int .i64 0, .int .i64 0, .int .i64 0, .int .i64 0, .int .i64 0, .string (⟨#[]⟩ : ByteArray), .string (⟨#[]⟩ : ByteArray), .string (⟨#[]⟩ : ByteArray)] 77 (0, 0)) (by (with_reducible repeat (first | refine blk_drewN ?_ _ | refine blk_drew ?_ | refine blk_alloc ?_ _)); exact BK302.out)) : gb303 ≠ gb302)); clear BK302; clear HB; have BK302 := n0_; have HB := n1_; have BK303 := n2_; have GW303 := n3_; have GE303 := n4_; have NB302_303 := n5_; have NB303_302 := n6_; clear n0_ n1_ n2_ n3_ n4_ n5_ n6_; clear hb hbox hg))
 go_loopg [6] k (fun kq v6 w' => ∃ (x6_1 : Int) (x304000_1 : Int) (x304001_1 : Int) (x304002_1 : Int) (x304003_1 : Int) (x304004_1 : Int) (x304005_1 : Int) (x304006_1 : ByteArray) (x304007_1 : ByteArray) (x304008_1 : ByteArray), v6 = .int .i64 x6_1 ∧ Aside0 (spec_l07Tell.l0 kq l0 a1 x6_1 x304000_1 x304001_1 x304002_1 x304003_1 x304004_1 x304005_1 x304006_1 x304007_1 x304008_1 = some (r1, r2, r3, r4, r5, r6, r7, r8, r9)) ∧ Aside0 (kq ≤ k) ∧ Aside0 (w'.heap[gb302]? = some (.cells #[.int .i64 0, .int .i64 0, .int .i64 0, .int .i64 0, .int .i64 0, .int .i64 0, .string (⟨#[]⟩ : ByteArray), .string (⟨#[]⟩ : ByteArray), .string (⟨#[]⟩ : ByteArray)] 77 (0, 0))) ∧ Aside0 (w'.heap[gb303]? = some (.cells #[.int .i64 x304000_1, .int .i64 x304001_1, .int .i64 x304002_1, .int .i64 x304003_1, .int .i64 x304004_1, .int .i64 x304005_1, .string x304006_1, .string x304007_1, .string x304008_1] 77 (0, 0))) ∧ Aside0 (Below w.heap.size w w'))
 case atStart => exact ⟨(0), (0), (0), (0), (0), (0), (0), ((⟨#[]⟩ : ByteArray)), ((⟨#[]⟩ : ByteArray)), ((⟨#[]⟩ : ByteArray)), (by first | rfl | (simp; done) | (simp [*]; done) | (simp; exact (by intro l; cases l <;> rfl : ∀ l : List UInt8, l.isEmpty = !(l != [])) _)), H', ⟨Nat.le_refl _⟩, ⟨by (with_reducible repeat (first | refine blk_drewN ?_ _ | refine blk_drew ?_ | refine blk_alloc ?_ _)); exact BK302.out⟩, ⟨by (with_reducible repeat (first | refine blk_drewN ?_ _ | refine blk_drew ?_ | refine blk_alloc ?_ _)); exact BK303.out⟩, ⟨by repeat (first | (with_reducible first | exact HB.out | apply below_alloc | apply pw_below_drewN | apply below_drew1 | refine below_set ?_ GE302.out | refine below_set ?_ GE303.out) | exact HB.out)⟩⟩
 case round =>
  clear H'
  try clear p2
  try clear c3
  obtain ⟨x6_1, x304000_1, x304001_1, x304002_1, x304003_1, x304004_1, x304005_1, x304006_1, x304007_1, x304008_1, rfl, HA, HK1, BK302, BK303, HB⟩ := hrel
  cases gk with
  | zero => exact absurd HA.out (by simp [spec_l07Tell.l0])
  | succ k1 =>
   have H := HA.out
   clear HA
   simp only [spec_l07Tell.l0] at H
   by_cases c5 : x6_1 < (l0.length : Int)
   ·rw [if_pos c5] at H
    have c5b0 : decide (x6_1 < (l0.length : Int)) = true := decide_eq_true c5
    clear c5
    by_cases c6 : 0 ≤ x6_1
    ·rw [if_pos c6] at H
     have c6b0 : decide (0 ≤ x6_1) = true := decide_eq_true c6
     clear c6
     have HC7 := Aside0.mk H
     clear H
     have p304 : 0 ≤ (x6_1 : Int) := of_decide_eq_true (by first | (with_reducible assumption) | assumption)
     have q304 : x6_1 < (l0.length : Int) := of_decide_eq_true (by first | (with_reducible assumption) | assumption)
     obtain ⟨ad304, e304, hx304_0, hx304_1, hx304_2, hx304_3, hx304_4, hx304_5, hx304_6, hx304_7, hx304_8⟩ := at_T77 HR0.out x6_1 p304 q304
     cases e304
     replace hx304_0 := (HB.out.cell (World.block_lt_of_cell? w _ hx304_0)).trans hx304_0
     replace hx304_1 := (HB.out.cell (World.block_lt_of_cell? w _ hx304_1)).trans hx304_1
     replace hx304_2 := (HB.out.cell (World.block_lt_of_cell? w _ hx304_2)).trans hx304_2
     replace hx304_3 := (HB.out.cell (World.block_lt_of_cell? w _ hx304_3)).trans hx304_3
     replace hx304_4 := (HB.out.cell (World.block_lt_of_cell? w _ hx304_4)).trans hx304_4
     replace hx304_5 := (HB.out.cell (World.block_lt_of_cell? w _ hx304_5)).trans hx304_5
     replace hx304_6 := (HB.out.cell (World.block_lt_of_cell? w _ hx304_6)).trans hx304_6
     replace hx304_7 := (HB.out.cell (World.block_lt_of_cell? w _ hx304_7)).trans hx304_7
     replace hx304_8 := (HB.out.cell (World.block_lt_of_cell? w _ hx304_8)).trans hx304_8
     replace p304 := eq_true p304
     replace q304 := eq_true q304
     go_upto_region 6 with (first | ((with_reducible refine gate_dst (N := 7) rfl ?_); refine Go.Proofs.YtenedfmmjfgbaaaDoorR.box_full_event ?hg ?hg2 (N := 7) ?hd ?hd2 (t := 77) (v := ?vof7) ?ho (cs := #[.int .i64 0, .int .i64 0, .int .i64 0, .int .i64 0, .int .i64 0, .int .i64 0, .string (⟨#[]⟩ : ByteArray), .string (⟨#[]⟩ : ByteArray), .string (⟨#[]⟩ : ByteArray)]) (cells := #[.int .i64 ((rd_T77 l0 x6_1).f0), .int .i64 ((rd_T77 l0 x6_1).f1.f0), .int .i64 ((rd_T77 l0 x6_1).f1.f1), .int .i64 ((rd_T77 l0 x6_1).f1.f2), .int .i64 ((rd_T77 l0 x6_1).f1.f3), .int .i64 ((rd_T77 l0 x6_1).f1.f4), .string ((rd_T77 l0 x6_1).f1.f5), .string ((rd_T77 l0 x6_1).f1.f6), .string ((rd_T77 l0 x6_1).f1.f7)]) ?hi ?hs ?h1 ?hr ?hx ?hv ?_; (case hd => rfl); (case hd2 => rfl); (case ho => rfl); (case hg => rfl); (case hg2 => rfl); (case hi => kernel_rfl); (case hs => rfl); (case h1 => first | kernel_rfl | rfl); (case hx => intro p_; first | rfl | (go_simp; done) | (go_simp; rfl)); (case hv => intro p_; first | rfl | (go_simp; done) | (go_simp; rfl)); (case hr => first | (go_simp; done) | (go_simp; rfl)); intro gb305 hg w8 hbox hb; have n0_ := Aside0.mk (blk_below BK302.out hb); have n1_ := Aside0.mk (blk_below BK303.out hb); have n2_ := Aside0.mk (below_step HB.out hb); have n3_ := Aside0.mk (hbox); have n4_ := Aside0.mk ((by rw [hg]; exact (below_size HB.out) : w.heap.size ≤ gb305)); have n5_ := Aside0.mk ((by rw [hg]; exact (below_size HB.out) : w.heap.size ≤ gb305)); have n6_ := Aside0.mk ((by rw [hg]; exact Nat.ne_of_lt (blk_lt (g := gb302) (o := .cells #[.int .i64 0, .int .i64 0, .int .i64 0, .int .i64 0, .int .i64 0, .int .i64 0, .string (⟨#[]⟩ : ByteArray), .string (⟨#[]⟩ : ByteArray), .string (⟨#[]⟩ : ByteArray)] 77 (0, 0)) (by (with_reducible repeat (first | refine blk_drewN ?_ _ | refine blk_drew ?_ | refine blk_alloc ?_ _)); exact BK302.out)) : gb302 ≠ gb305)); have n7_ := Aside0.mk ((by rw [hg]; exact Nat.ne_of_gt (blk_lt (g := gb302) (o := .cells #[.int .i64 0, .int .i64 0, .int .i64 0, .int .i64 0, .int .i64 0, .int .i64 0, .string (⟨#[]⟩ : ByteArray), .string (⟨#[]⟩ : ByteArray), .string (⟨#[]⟩ : ByteArray)] 77 (0, 0)) (by (with_reducible repeat (first | refine blk_drewN ?_ _ | refine blk_drew ?_ | refine blk_alloc ?_ _)); exact BK302.out)) : gb305 ≠ gb302)); have n8_ := Aside0.mk ((by rw [hg]; exact Nat.ne_of_lt (blk_lt (g := gb303) (o := .cells #[.int .i64 x304000_1, .int .i64 x304001_1, .int .i64 x304002_1, .int .i64 x304003_1, .int .i64 x304004_1, .int .i64 x304005_1, .string x304006_1, .string x304007_1, .string x304008_1] 77 (0, 0)) (by (with_reducible repeat (first | refine blk_drewN ?_ _ | refine blk_drew ?_ | refine blk_alloc ?_ _)); exact BK303.out)) : gb303 ≠ gb305)); have n9_ := Aside0.mk ((by rw [hg]; exact Nat.ne_of_gt (blk_lt (g := gb303) (o := .cells #[.int .i64 x304000_1, .int .i64 x304001_1, .int .i64 x304002_1, .int .i64 x304003_1, .int .i64 x304004_1, .int .i64 x304005_1, .string x304006_1, .string x304007_1, .string x304008_1] 77 (0, 0)) (by (with_reducible repeat (first | refine blk_drewN ?_ _ | refine blk_drew ?_ | refine blk_alloc ?_ _)); exact BK303.out)) : gb305 ≠ gb303)); clear BK302; clear BK303; clear HB; have BK302 := n0_; have BK303 := n1_; have HB := n2_; have BK305 := n3_; have GW305 := n4_; have GE305 := n5_; have NB302_305 := n6_; have NB305_302 := n7_; have NB303_305 := n8_; have NB305_303 := n9_; clear n0_ n1_ n2_ n3_ n4_ n5_ n6_ n7_ n8_ n9_; clear hb hbox hg))
     (try simp only [Act.put, List.setIfInBounds_toArray, List.set_cons_zero, List.set_cons_succ])
     go_cut [29] (fun v29 wc => ∃ (kq : Nat) (x29_6 : Bool), v29 = .bool x29_6 ∧ Aside0 (spec_l07Tell.j1 kq l0 a1 x6_1 x29_6 x304000_1 x304001_1 x304002_1 x304003_1 x304004_1 x304005_1 x304006_1 x304007_1 x304008_1 ((rd_T77 l0 x6_1).f0) ((rd_T77 l0 x6_1).f1.f0) ((rd_T77 l0 x6_1).f1.f1) ((rd_T77 l0 x6_1).f1.f2) ((rd_T77 l0 x6_1).f1.f3) ((rd_T77 l0 x6_1).f1.f4) ((rd_T77 l0 x6_1).f1.f5) ((rd_T77 l0 x6_1).f1.f6) ((rd_T77 l0 x6_1).f1.f7) = some (r1, r2, r3, r4, r5, r6, r7, r8, r9)) ∧ Aside0 (kq ≤ k1) ∧ Aside0 (wc.heap[gb302]? = some (.cells #[.int .i64 0, .int .i64 0, .int .i64 0, .int .i64 0, .int .i64 0, .int .i64 0, .string (⟨#[]⟩ : ByteArray), .string (⟨#[]⟩ : ByteArray), .string (⟨#[]⟩ : ByteArray)] 77 (0, 0))) ∧ Aside0 (wc.heap[gb303]? = some (.cells #[.int .i64 x304000_1, .int .i64 x304001_1, .int .i64 x304002_1, .int .i64 x304003_1, .int .i64 x304004_1, .int .i64 x304005_1, .string x304006_1, .string x304007_1, .string x304008_1] 77 (0, 0))) ∧ Aside0 (wc.heap[gb305]? = some (.cells #[.int .i64 ((rd_T77 l0 x6_1).f0), .int .i64 ((rd_T77 l0 x6_1).f1.f0), .int .i64 ((rd_T77 l0 x6_1).f1.f1), .int .i64 ((rd_T77 l0 x6_1).f1.f2), .int .i64 ((rd_T77 l0 x6_1).f1.f3), .int .i64 ((rd_T77 l0 x6_1).f1.f4), .string ((rd_T77 l0 x6_1).f1.f5), .string ((rd_T77 l0 x6_1).f1.f6), .string ((rd_T77 l0 x6_1).f1.f7)] 77 (0, 0))) ∧ Aside0 (Below w.heap.size w wc))
     case first =>
      have H := HC7.out
      clear HC7
      by_cases c9 : ((rd_T77 l0 x6_1).f1.f0) = 1
      ·rw [if_pos c9] at H
       have c9b0 : (((rd_T77 l0 x6_1).f1.f0) == 1) = true := beq_iff_eq.mpr c9
       have c9b1 : (((rd_T77 l0 x6_1).f1.f0) != 1) = false := bne_eq_false_iff_eq.mpr c9
       clear c9
       (first | rw [c9b0] | (simp only [i64_w, i32_w]; rw [c9b0]) | skip)
       have H' := Aside0.mk H
       clear H
       have hnb10 := NB305_302.out
       have hnc10 := NB302_305.out
       have hnb11 := NB305_303.out
       have hnc11 := NB303_305.out
       have hcz12 := blk_cell BK305.out
       have hfz12 := blk_frozen BK305.out
       go_wp2
       go_meet
       case rel => exact ⟨_, ((((rd_T77 l0 x6_1).f1.f1) != a1)), (by first | rfl | (simp; done) | (simp [*]; done) | (simp; exact (by intro l; cases l <;> rfl : ∀ l : List UInt8, l.isEmpty = !(l != [])) _)), H', ⟨by have := HK1.out; first | omega | exact Nat.le_refl _⟩, ⟨by (with_reducible repeat (first | refine blk_drewN ?_ _ | refine blk_drew ?_ | refine blk_alloc ?_ _)); exact BK302.out⟩, ⟨by (with_reducible repeat (first | refine blk_drewN ?_ _ | refine blk_drew ?_ | refine blk_alloc ?_ _)); exact BK303.out⟩, ⟨by (with_reducible repeat (first | refine blk_drewN ?_ _ | refine blk_drew ?_ | refine blk_alloc ?_ _)); exact BK305.out⟩, ⟨by repeat (first | (with_reducible first | exact HB.out | apply below_alloc | apply pw_below_drewN | apply below_drew1 | refine below_set ?_ GE302.out | refine below_set ?_ GE303.out | refine below_set ?_ GE305.out) | exact HB.out)⟩⟩
      ·rw [if_neg c9] at H
       have c9b0 : (((rd_T77 l0 x6_1).f1.f0) == 1) = false := beq_eq_false_iff_ne.mpr c9
       have c9b1 : (((rd_T77 l0 x6_1).f1.f0) != 1) = true := bne_iff_ne.mpr c9
       (first | rw [c9b0] | (simp only [i64_w, i32_w]; rw [c9b0]) | skip)
       have H' := Aside0.mk H
       clear H
       have hnb13 := NB305_302.out
       have hnc13 := NB302_305.out
       have hnb14 := NB305_303.out
       have hnc14 := NB303_305.out
       have hcz15 := blk_cell BK305.out
       have hfz15 := blk_frozen BK305.out
       go_wp2
       go_meet
       case rel => exact ⟨_, (true), (by first | rfl | (simp; done) | (simp [*]; done) | (simp; exact (by intro l; cases l <;> rfl : ∀ l : List UInt8, l.isEmpty = !(l != [])) _)), H', ⟨by have := HK1.out; first | omega | exact Nat.le_refl _⟩, ⟨by (with_reducible repeat (first | refine blk_drewN ?_ _ | refine blk_drew ?_ | refine blk_alloc ?_ _)); exact BK302.out⟩, ⟨by (with_reducible repeat (first | refine blk_drewN ?_ _ | refine blk_drew ?_ | refine blk_alloc ?_ _)); exact BK303.out⟩, ⟨by (with_reducible repeat (first | refine blk_drewN ?_ _ | refine blk_drew ?_ | refine blk_alloc ?_ _)); exact BK305.out⟩, ⟨by repeat (first | (with_reducible first | exact HB.out | apply below_alloc | apply pw_below_drewN | apply below_drew1 | refine below_set ?_ GE302.out | refine below_set ?_ GE303.out | refine below_set ?_ GE305.out) | exact HB.out)⟩⟩
     case rest =>
      clear HC7
      try clear c1
      try clear p2
      try clear c3
      try clear p3
      try clear q3
      try clear hx3
      try clear c5
      try clear c5b0
      try clear c6
      try clear c6b0
      try clear c9
      try clear c9b0
      try clear c9b1
      try clear c10
      try clear c11
      try clear c13
      try clear c14
      try clear hcz12
      try clear hcz15
      try clear hfz12
      try clear hfz15
      try clear hx304_0
      try clear hx304_1
      try clear hx304_2
      try clear hx304_3
      try clear hx304_4
      try clear hx304_5
      try clear hx304_6
      try clear hx304_7
      try clear hx304_8
      try clear p2
      try clear p304
      try clear q304
      obtain ⟨kq, x29_6, rfl, HA, HJ6, BK302, BK303, BK305, HB⟩ := hcut
      cases kq with
      | zero => exact absurd HA.out (by simp [spec_l07Tell.j1])
      | succ kj6 =>
       have H := HA.out
       clear HA
       simp only [spec_l07Tell.j1] at H
       by_cases c16 : x29_6 = true
       ·subst c16
        (try rw [if_pos rfl] at H)
        have H' := Aside0.mk H
        clear H
        go_wp2
        go_roundg kj6
        case measure => have := HK1.out; have := HJ6.out; omega
        case rel => exact ⟨(wrap64 (x6_1 + 1)), (x304000_1), (x304001_1), (x304002_1), (x304003_1), (x304004_1), (x304005_1), (x304006_1), (x304007_1), (x304008_1), (by first | rfl | (simp; done) | (simp [*]; done) | (simp; exact (by intro l; cases l <;> rfl : ∀ l : List UInt8, l.isEmpty = !(l != [])) _)), H', ⟨by have := HK1.out; have := HJ6.out; omega⟩, ⟨by (with_reducible repeat (first | refine blk_drewN ?_ _ | refine blk_drew ?_ | refine blk_alloc ?_ _)); exact BK302.out⟩, ⟨by (with_reducible repeat (first | refine blk_drewN ?_ _ | refine blk_drew ?_ | refine blk_alloc ?_ _)); exact BK303.out⟩, ⟨by repeat (first | (with_reducible first | exact HB.out | apply below_alloc | apply pw_below_drewN | apply below_drew1 | refine below_set ?_ GE302.out | refine below_set ?_ GE303.out | refine below_set ?_ GE305.out) | exact HB.out)⟩⟩
       ·replace c16 := Bool.eq_false_iff.mpr c16
        subst c16
        (try rw [if_neg (show ¬ (false = true) by decide)] at H)
        by_cases c17 : x304000_1 = 0
        ·rw [if_pos c17] at H
         have c17b0 : (x304000_1 == 0) = true := beq_iff_eq.mpr c17
         have c17b1 : (x304000_1 != 0) = false := bne_eq_false_iff_eq.mpr c17
         clear c17
         have H' := Aside0.mk H
         clear H
         have hnb18 := NB303_302.out
         have hnc18 := NB302_303.out
         have hnb19 := NB303_305.out
         have hnc19 := NB305_303.out
         have hcz20 := blk_cell BK303.out
         have hfz20 := blk_frozen BK303.out
         have hnb21 := NB305_302.out
         have hnc21 := NB302_305.out
         have hcz22 := blk_cell BK305.out
         have hfz22 := blk_frozen BK305.out
         go_wp2_with (first | ((with_reducible refine gate_dst (N := 59) rfl ?_); refine wpList_load_row rfl 77 (.tmp 5) rfl _ rfl 77 _ (0, 0) _ BK303.out hu77 rfl (by first | kernel_rfl) ?_) | ((with_reducible refine gate_store (t := 77) (p := 5) rfl ?_); refine Go.Proofs.YtenedfmmjfgbaaaDoorR.store_part_event ?hg (t := 77) 5 (v := ?vo_w23) ?ho ?hn gb303 0 (.agg #[.int .i64 ((rd_T77 l0 x6_1).f0), .int .i64 ((rd_T77 l0 x6_1).f1.f0), .int .i64 ((rd_T77 l0 x6_1).f1.f1), .int .i64 ((rd_T77 l0 x6_1).f1.f2), .int .i64 ((rd_T77 l0 x6_1).f1.f3), .int .i64 ((rd_T77 l0 x6_1).f1.f4), .string ((rd_T77 l0 x6_1).f1.f5), .string ((rd_T77 l0 x6_1).f1.f6), .string ((rd_T77 l0 x6_1).f1.f7)]) #[.int .i64 ((rd_T77 l0 x6_1).f0), .int .i64 ((rd_T77 l0 x6_1).f1.f0), .int .i64 ((rd_T77 l0 x6_1).f1.f1), .int .i64 ((rd_T77 l0 x6_1).f1.f2), .int .i64 ((rd_T77 l0 x6_1).f1.f3), .int .i64 ((rd_T77 l0 x6_1).f1.f4), .string ((rd_T77 l0 x6_1).f1.f5), .string ((rd_T77 l0 x6_1).f1.f6), .string ((rd_T77 l0 x6_1).f1.f7)] #[.int .i64 x304000_1, .int .i64 x304001_1, .int .i64 x304002_1, .int .i64 x304003_1, .int .i64 x304004_1, .int .i64 x304005_1, .string x304006_1, .string x304007_1, .string x304008_1] #[.int .i64 ((rd_T77 l0 x6_1).f0), .int .i64 ((rd_T77 l0 x6_1).f1.f0), .int .i64 ((rd_T77 l0 x6_1).f1.f1), .int .i64 ((rd_T77 l0 x6_1).f1.f2), .int .i64 ((rd_T77 l0 x6_1).f1.f3), .int .i64 ((rd_T77 l0 x6_1).f1.f4), .string ((rd_T77 l0 x6_1).f1.f5), .string ((rd_T77 l0 x6_1).f1.f6), .string ((rd_T77 l0 x6_1).f1.f7)] 77 ?hx ?hy rfl BK303.out ?hi (Nat.le_of_ble_eq_true rfl) ?h1 ?hc ?_; (case ho => rfl); (case hg => rfl); (case hn => rfl); (case hi => kernel_rfl); (case h1 => first | kernel_rfl | rfl); (case hc => kernel_rfl); (case hx => first | rfl | (go_simp; done) | (go_simp; rfl)); (case hy => first | rfl | (go_simp; done) | (go_simp; rfl)); intro w23 hbox hbut; have n0_ := Aside0.mk ((hbut.other NB302_303.out).trans BK302.out); have n1_ := Aside0.mk (hbox); have n2_ := Aside0.mk ((hbut.other NB305_303.out).trans BK305.out); have n3_ := Aside0.mk (HB.out.trans (hbut.below GE303.out)); clear BK302; clear BK303; clear BK305; clear HB; have BK302 := n0_; have BK303 := n1_; have BK305 := n2_; have HB := n3_; clear n0_ n1_ n2_ n3_; clear hbox hbut))
         go_roundg kj6
         case measure => have := HK1.out; have := HJ6.out; omega
         case rel => exact ⟨(wrap64 (x6_1 + 1)), (((rd_T77 l0 x6_1).f0)), (((rd_T77 l0 x6_1).f1.f0)), (((rd_T77 l0 x6_1).f1.f1)), (((rd_T77 l0 x6_1).f1.f2)), (((rd_T77 l0 x6_1).f1.f3)), (((rd_T77 l0 x6_1).f1.f4)), (((rd_T77 l0 x6_1).f1.f5)), (((rd_T77 l0 x6_1).f1.f6)), (((rd_T77 l0 x6_1).f1.f7)), (by first | rfl | (simp; done) | (simp [*]; done) | (simp; exact (by intro l; cases l <;> rfl : ∀ l : List UInt8, l.isEmpty = !(l != [])) _)), H', ⟨by have := HK1.out; have := HJ6.out; omega⟩, ⟨by (with_reducible repeat (first | refine blk_drewN ?_ _ | refine blk_drew ?_ | refine blk_alloc ?_ _)); exact BK302.out⟩, ⟨by (with_reducible repeat (first | refine blk_drewN ?_ _ | refine blk_drew ?_ | refine blk_alloc ?_ _)); exact BK303.out⟩, ⟨by repeat (first | (with_reducible first | exact HB.out | apply below_alloc | apply pw_below_drewN | apply below_drew1 | refine below_set ?_ GE302.out | refine below_set ?_ GE303.out | refine below_set ?_ GE305.out) | exact HB.out)⟩⟩
        ·rw [if_neg c17] at H
         have c17b0 : (x304000_1 == 0) = false := beq_eq_false_iff_ne.mpr c17
         have c17b1 : (x304000_1 != 0) = true := bne_iff_ne.mpr c17
         by_cases c24 : ((rd_T77 l0 x6_1).f1.f3) > x304004_1
         ·rw [if_pos c24] at H
          have c24b0 : decide (x304004_1 < ((rd_T77 l0 x6_1).f1.f3)) = true := decide_eq_true c24
          clear c24
          have H' := Aside0.mk H
          clear H
          have hnb25 := NB303_302.out
          have hnc25 := NB302_303.out
          have hnb26 := NB303_305.out
          have hnc26 := NB305_303.out
          have hcz27 := blk_cell BK303.out
          have hfz27 := blk_frozen BK303.out
          have hnb28 := NB305_302.out
          have hnc28 := NB302_305.out
          have hcz29 := blk_cell BK305.out
          have hfz29 := blk_frozen BK305.out
          go_wp2_with (first | ((with_reducible refine gate_dst (N := 59) rfl ?_); refine wpList_load_row rfl 77 (.tmp 5) rfl _ rfl 77 _ (0, 0) _ BK303.out hu77 rfl (by first | kernel_rfl) ?_) | ((with_reducible refine gate_store (t := 77) (p := 5) rfl ?_); refine Go.Proofs.YtenedfmmjfgbaaaDoorR.store_part_event ?hg (t := 77) 5 (v := ?vo_w30) ?ho ?hn gb303 0 (.agg #[.int .i64 ((rd_T77 l0 x6_1).f0), .int .i64 ((rd_T77 l0 x6_1).f1.f0), .int .i64 ((rd_T77 l0 x6_1).f1.f1), .int .i64 ((rd_T77 l0 x6_1).f1.f2), .int .i64 ((rd_T77 l0 x6_1).f1.f3), .int .i64 ((rd_T77 l0 x6_1).f1.f4), .string ((rd_T77 l0 x6_1).f1.f5), .string ((rd_T77 l0 x6_1).f1.f6), .string ((rd_T77 l0 x6_1).f1.f7)]) #[.int .i64 ((rd_T77 l0 x6_1).f0), .int .i64 ((rd_T77 l0 x6_1).f1.f0), .int .i64 ((rd_T77 l0 x6_1).f1.f1), .int .i64 ((rd_T77 l0 x6_1).f1.f2), .int .i64 ((rd_T77 l0 x6_1).f1.f3), .int .i64 ((rd_T77 l0 x6_1).f1.f4), .string ((rd_T77 l0 x6_1).f1.f5), .string ((rd_T77 l0 x6_1).f1.f6), .string ((rd_T77 l0 x6_1).f1.f7)] #[.int .i64 x304000_1, .int .i64 x304001_1, .int .i64 x304002_1, .int .i64 x304003_1, .int .i64 x304004_1, .int .i64 x304005_1, .string x304006_1, .string x304007_1, .string x304008_1] #[.int .i64 ((rd_T77 l0 x6_1).f0), .int .i64 ((rd_T77 l0 x6_1).f1.f0), .int .i64 ((rd_T77 l0 x6_1).f1.f1), .int .i64 ((rd_T77 l0 x6_1).f1.f2), .int .i64 ((rd_T77 l0 x6_1).f1.f3), .int .i64 ((rd_T77 l0 x6_1).f1.f4), .string ((rd_T77 l0 x6_1).f1.f5), .string ((rd_T77 l0 x6_1).f1.f6), .string ((rd_T77 l0 x6_1).f1.f7)] 77 ?hx ?hy rfl BK303.out ?hi (Nat.le_of_ble_eq_true rfl) ?h1 ?hc ?_; (case ho => rfl); (case hg => rfl); (case hn => rfl); (case hi => kernel_rfl); (case h1 => first | kernel_rfl | rfl); (case hc => kernel_rfl); (case hx => first | rfl | (go_simp; done) | (go_simp; rfl)); (case hy => first | rfl | (go_simp; done) | (go_simp; rfl)); intro w30 hbox hbut; have n0_ := Aside0.mk ((hbut.other NB302_303.out).trans BK302.out); have n1_ := Aside0.mk (hbox); have n2_ := Aside0.mk ((hbut.other NB305_303.out).trans BK305.out); have n3_ := Aside0.mk (HB.out.trans (hbut.below GE303.out)); clear BK302; clear BK303; clear BK305; clear HB; have BK302 := n0_; have BK303 := n1_; have BK305 := n2_; have HB := n3_; clear n0_ n1_ n2_ n3_; clear hbox hbut))
          go_roundg kj6
          case measure => have := HK1.out; have := HJ6.out; omega
          case rel => exact ⟨(wrap64 (x6_1 + 1)), (((rd_T77 l0 x6_1).f0)), (((rd_T77 l0 x6_1).f1.f0)), (((rd_T77 l0 x6_1).f1.f1)), (((rd_T77 l0 x6_1).f1.f2)), (((rd_T77 l0 x6_1).f1.f3)), (((rd_T77 l0 x6_1).f1.f4)), (((rd_T77 l0 x6_1).f1.f5)), (((rd_T77 l0 x6_1).f1.f6)), (((rd_T77 l0 x6_1).f1.f7)), (by first | rfl | (simp; done) | (simp [*]; done) | (simp; exact (by intro l; cases l <;> rfl : ∀ l : List UInt8, l.isEmpty = !(l != [])) _)), H', ⟨by have := HK1.out; have := HJ6.out; omega⟩, ⟨by (with_reducible repeat (first | refine blk_drewN ?_ _ | refine blk_drew ?_ | refine blk_alloc ?_ _)); exact BK302.out⟩, ⟨by (with_reducible repeat (first | refine blk_drewN ?_ _ | refine blk_drew ?_ | refine blk_alloc ?_ _)); exact BK303.out⟩, ⟨by repeat (first | (with_reducible first | exact HB.out | apply below_alloc | apply pw_below_drewN | apply below_drew1 | refine below_set ?_ GE302.out | refine below_set ?_ GE303.out | refine below_set ?_ GE305.out) | exact HB.out)⟩⟩
         ·rw [if_neg c24] at H
          have c24b0 : decide (x304004_1 < ((rd_T77 l0 x6_1).f1.f3)) = false := decide_eq_false c24
          clear c24
          by_cases c31 : ((rd_T77 l0 x6_1).f1.f3) = x304004_1
          ·rw [if_pos c31] at H
           have c31b0 : (((rd_T77 l0 x6_1).f1.f3) == x304004_1) = true := beq_iff_eq.mpr c31
           have c31b1 : (((rd_T77 l0 x6_1).f1.f3) != x304004_1) = false := bne_eq_false_iff_eq.mpr c31
           clear c31
           by_cases c32 : ((rd_T77 l0 x6_1).f0) > x304000_1
           ·rw [if_pos c32] at H
            have c32b0 : decide (x304000_1 < ((rd_T77 l0 x6_1).f0)) = true := decide_eq_true c32
            clear c32
            have H' := Aside0.mk H
            clear H
            have hnb33 := NB303_302.out
            have hnc33 := NB302_303.out
            have hnb34 := NB303_305.out
            have hnc34 := NB305_303.out
            have hcz35 := blk_cell BK303.out
            have hfz35 := blk_frozen BK303.out
            have hnb36 := NB305_302.out
            have hnc36 := NB302_305.out
            have hcz37 := blk_cell BK305.out
            have hfz37 := blk_frozen BK305.out
            go_wp2_with (first | ((with_reducible refine gate_dst (N := 59) rfl ?_); refine wpList_load_row rfl 77 (.tmp 5) rfl _ rfl 77 _ (0, 0) _ BK303.out hu77 rfl (by first | kernel_rfl) ?_) | ((with_reducible refine gate_store (t := 77) (p := 5) rfl ?_); refine Go.Proofs.YtenedfmmjfgbaaaDoorR.store_part_event ?hg (t := 77) 5 (v := ?vo_w38) ?ho ?hn gb303 0 (.agg #[.int .i64 ((rd_T77 l0 x6_1).f0), .int .i64 ((rd_T77 l0 x6_1).f1.f0), .int .i64 ((rd_T77 l0 x6_1).f1.f1), .int .i64 ((rd_T77 l0 x6_1).f1.f2), .int .i64 ((rd_T77 l0 x6_1).f1.f3), .int .i64 ((rd_T77 l0 x6_1).f1.f4), .string ((rd_T77 l0 x6_1).f1.f5), .string ((rd_T77 l0 x6_1).f1.f6), .string ((rd_T77 l0 x6_1).f1.f7)]) #[.int .i64 ((rd_T77 l0 x6_1).f0), .int .i64 ((rd_T77 l0 x6_1).f1.f0), .int .i64 ((rd_T77 l0 x6_1).f1.f1), .int .i64 ((rd_T77 l0 x6_1).f1.f2), .int .i64 ((rd_T77 l0 x6_1).f1.f3), .int .i64 ((rd_T77 l0 x6_1).f1.f4), .string ((rd_T77 l0 x6_1).f1.f5), .string ((rd_T77 l0 x6_1).f1.f6), .string ((rd_T77 l0 x6_1).f1.f7)] #[.int .i64 x304000_1, .int .i64 x304001_1, .int .i64 x304002_1, .int .i64 x304003_1, .int .i64 x304004_1, .int .i64 x304005_1, .string x304006_1, .string x304007_1, .string x304008_1] #[.int .i64 ((rd_T77 l0 x6_1).f0), .int .i64 ((rd_T77 l0 x6_1).f1.f0), .int .i64 ((rd_T77 l0 x6_1).f1.f1), .int .i64 ((rd_T77 l0 x6_1).f1.f2), .int .i64 ((rd_T77 l0 x6_1).f1.f3), .int .i64 ((rd_T77 l0 x6_1).f1.f4), .string ((rd_T77 l0 x6_1).f1.f5), .string ((rd_T77 l0 x6_1).f1.f6), .string ((rd_T77 l0 x6_1).f1.f7)] 77 ?hx ?hy rfl BK303.out ?hi (Nat.le_of_ble_eq_true rfl) ?h1 ?hc ?_; (case ho => rfl); (case hg => rfl); (case hn => rfl); (case hi => kernel_rfl); (case h1 => first | kernel_rfl | rfl); (case hc => kernel_rfl); (case hx => first | rfl | (go_simp; done) | (go_simp; rfl)); (case hy => first | rfl | (go_simp; done) | (go_simp; rfl)); intro w38 hbox hbut; have n0_ := Aside0.mk ((hbut.other NB302_303.out).trans BK302.out); have n1_ := Aside0.mk (hbox); have n2_ := Aside0.mk ((hbut.other NB305_303.out).trans BK305.out); have n3_ := Aside0.mk (HB.out.trans (hbut.below GE303.out)); clear BK302; clear BK303; clear BK305; clear HB; have BK302 := n0_; have BK303 := n1_; have BK305 := n2_; have HB := n3_; clear n0_ n1_ n2_ n3_; clear hbox hbut))
            go_roundg kj6
            case measure => have := HK1.out; have := HJ6.out; omega
            case rel => exact ⟨(wrap64 (x6_1 + 1)), (((rd_T77 l0 x6_1).f0)), (((rd_T77 l0 x6_1).f1.f0)), (((rd_T77 l0 x6_1).f1.f1)), (((rd_T77 l0 x6_1).f1.f2)), (((rd_T77 l0 x6_1).f1.f3)), (((rd_T77 l0 x6_1).f1.f4)), (((rd_T77 l0 x6_1).f1.f5)), (((rd_T77 l0 x6_1).f1.f6)), (((rd_T77 l0 x6_1).f1.f7)), (by first | rfl | (simp; done) | (simp [*]; done) | (simp; exact (by intro l; cases l <;> rfl : ∀ l : List UInt8, l.isEmpty = !(l != [])) _)), H', ⟨by have := HK1.out; have := HJ6.out; omega⟩, ⟨by (with_reducible repeat (first | refine blk_drewN ?_ _ | refine blk_drew ?_ | refine blk_alloc ?_ _)); exact BK302.out⟩, ⟨by (with_reducible repeat (first | refine blk_drewN ?_ _ | refine blk_drew ?_ | refine blk_alloc ?_ _)); exact BK303.out⟩, ⟨by repeat (first | (with_reducible first | exact HB.out | apply below_alloc | apply pw_below_drewN | apply below_drew1 | refine below_set ?_ GE302.out | refine below_set ?_ GE303.out | refine below_set ?_ GE305.out) | exact HB.out)⟩⟩
           ·rw [if_neg c32] at H
            have c32b0 : decide (x304000_1 < ((rd_T77 l0 x6_1).f0)) = false := decide_eq_false c32
            clear c32
            have H' := Aside0.mk H
            clear H
            have hnb39 := NB303_302.out
            have hnc39 := NB302_303.out
            have hnb40 := NB303_305.out
            have hnc40 := NB305_303.out
            have hcz41 := blk_cell BK303.out
            have hfz41 := blk_frozen BK303.out
            have hnb42 := NB305_302.out
            have hnc42 := NB302_305.out
            have hcz43 := blk_cell BK305.out
            have hfz43 := blk_frozen BK305.out
            go_wp2
            go_roundg kj6
            case measure => have := HK1.out; have := HJ6.out; omega
            case rel => exact ⟨(wrap64 (x6_1 + 1)), (x304000_1), (x304001_1), (x304002_1), (x304003_1), (x304004_1), (x304005_1), (x304006_1), (x304007_1), (x304008_1), (by first | rfl | (simp; done) | (simp [*]; done) | (simp; exact (by intro l; cases l <;> rfl : ∀ l : List UInt8, l.isEmpty = !(l != [])) _)), H', ⟨by have := HK1.out; have := HJ6.out; omega⟩, ⟨by (with_reducible repeat (first | refine blk_drewN ?_ _ | refine blk_drew ?_ | refine blk_alloc ?_ _)); exact BK302.out⟩, ⟨by (with_reducible repeat (first | refine blk_drewN ?_ _ | refine blk_drew ?_ | refine blk_alloc ?_ _)); exact BK303.out⟩, ⟨by repeat (first | (with_reducible first | exact HB.out | apply below_alloc | apply pw_below_drewN | apply below_drew1 | refine below_set ?_ GE302.out | refine below_set ?_ GE303.out | refine below_set ?_ GE305.out) | exact HB.out)⟩⟩
          ·rw [if_neg c31] at H
           have c31b0 : (((rd_T77 l0 x6_1).f1.f3) == x304004_1) = false := beq_eq_false_iff_ne.mpr c31
           have c31b1 : (((rd_T77 l0 x6_1).f1.f3) != x304004_1) = true := bne_iff_ne.mpr c31
           have H' := Aside0.mk H
           clear H
           have hnb44 := NB303_302.out
           have hnc44 := NB302_303.out
           have hnb45 := NB303_305.out
           have hnc45 := NB305_303.out
           have hcz46 := blk_cell BK303.out
           have hfz46 := blk_frozen BK303.out
           have hnb47 := NB305_302.out
           have hnc47 := NB302_305.out
           have hcz48 := blk_cell BK305.out
           have hfz48 := blk_frozen BK305.out
           go_wp2
           go_roundg kj6
           case measure => have := HK1.out; have := HJ6.out; omega
           case rel => exact ⟨(wrap64 (x6_1 + 1)), (x304000_1), (x304001_1), (x304002_1), (x304003_1), (x304004_1), (x304005_1), (x304006_1), (x304007_1), (x304008_1), (by first | rfl | (simp; done) | (simp [*]; done) | (simp; exact (by intro l; cases l <;> rfl : ∀ l : List UInt8, l.isEmpty = !(l != [])) _)), H', ⟨by have := HK1.out; have := HJ6.out; omega⟩, ⟨by (with_reducible repeat (first | refine blk_drewN ?_ _ | refine blk_drew ?_ | refine blk_alloc ?_ _)); exact BK302.out⟩, ⟨by (with_reducible repeat (first | refine blk_drewN ?_ _ | refine blk_drew ?_ | refine blk_alloc ?_ _)); exact BK303.out⟩, ⟨by repeat (first | (with_reducible first | exact HB.out | apply below_alloc | apply pw_below_drewN | apply below_drew1 | refine below_set ?_ GE302.out | refine below_set ?_ GE303.out | refine below_set ?_ GE305.out) | exact HB.out)⟩⟩
    ·rw [if_neg c6] at H
     exact absurd H (by simp)
   ·rw [if_neg c5] at H
    have c5b0 : decide (x6_1 < (l0.length : Int)) = false := decide_eq_false c5
    clear c5
    simp only [Option.some.injEq, Prod.mk.injEq] at H
    obtain ⟨rfl, rfl, rfl, rfl, rfl, rfl, rfl, rfl, rfl⟩ := H
    have hnb49 := NB303_302.out
    have hnc49 := NB302_303.out
    have hcz50 := blk_cell BK303.out
    have hfz50 := blk_frozen BK303.out
    go_wp2_with (first | ((with_reducible refine gate_dst (N := 59) rfl ?_); refine wpList_load_row rfl 77 (.tmp 5) rfl _ rfl 77 _ (0, 0) _ BK303.out hu77 rfl (by first | kernel_rfl) ?_) | ((with_reducible refine gate_store (t := 77) (p := 4) rfl ?_); refine Go.Proofs.YtenedfmmjfgbaaaDoorR.store_part_event ?hg (t := 77) 4 (v := ?vo_w51) ?ho ?hn gb302 0 (.agg #[.int .i64 x304000_1, .int .i64 x304001_1, .int .i64 x304002_1, .int .i64 x304003_1, .int .i64 x304004_1, .int .i64 x304005_1, .string x304006_1, .string x304007_1, .string x304008_1]) #[.int .i64 x304000_1, .int .i64 x304001_1, .int .i64 x304002_1, .int .i64 x304003_1, .int .i64 x304004_1, .int .i64 x304005_1, .string x304006_1, .string x304007_1, .string x304008_1] #[.int .i64 0, .int .i64 0, .int .i64 0, .int .i64 0, .int .i64 0, .int .i64 0, .string (⟨#[]⟩ : ByteArray), .string (⟨#[]⟩ : ByteArray), .string (⟨#[]⟩ : ByteArray)] #[.int .i64 x304000_1, .int .i64 x304001_1, .int .i64 x304002_1, .int .i64 x304003_1, .int .i64 x304004_1, .int .i64 x304005_1, .string x304006_1, .string x304007_1, .string x304008_1] 77 ?hx ?hy rfl BK302.out ?hi (Nat.le_of_ble_eq_true rfl) ?h1 ?hc ?_; (case ho => rfl); (case hg => rfl); (case hn => rfl); (case hi => kernel_rfl); (case h1 => first | kernel_rfl | rfl); (case hc => kernel_rfl); (case hx => first | rfl | (go_simp; done) | (go_simp; rfl)); (case hy => first | rfl | (go_simp; done) | (go_simp; rfl)); intro w51 hbox hbut; have n0_ := Aside0.mk (hbox); have n1_ := Aside0.mk ((hbut.other NB303_302.out).trans BK303.out); have n2_ := Aside0.mk (HB.out.trans (hbut.below GE302.out)); clear BK302; clear BK303; clear HB; have BK302 := n0_; have BK303 := n1_; have HB := n2_; clear n0_ n1_ n2_; clear hbox hbut))
    refine bodyPost_ret (results_cell_row rfl _ _ gb302 77 #[.int .i64 x304000_1, .int .i64 x304001_1, .int .i64 x304002_1, .int .i64 x304003_1, .int .i64 x304004_1, .int .i64 x304005_1, .string x304006_1, .string x304007_1, .string x304008_1] (0, 0) _ rfl (by (with_reducible repeat (first | refine blk_drewN ?_ _ | refine blk_drew ?_ | refine blk_alloc ?_ _)); exact BK302.out) Tryd.underlying77 rfl (by kernel_rfl)) rfl ?_
    exact ⟨by first | rfl | (simp [errW_none, errW_some] <;> rfl) | (simp [*, errW_none, errW_some] <;> rfl), by repeat (first | (with_reducible first | exact HB.out | apply below_alloc | apply pw_below_drewN | apply below_drew1 | refine below_set ?_ GE302.out | refine below_set ?_ GE303.out) | exact HB.out)⟩

end Go.Proofs.YtenedfmmjfgbaaaDoor.QFnHeads
