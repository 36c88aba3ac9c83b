-- Written by a program of this session (myprint) out of Lean's own print of the translation. Lean checks it.
import Derived.Test.YtenedfmmjfgbaaaDoorQFnHeadsx0
import Derived.Test.YtenedfmmjfgbaaaDoorQFnHeadsx1
import Derived.Test.YtenedfmmjfgbaaaDoorQFnHeadsx5
import Derived.Test.YtenedfmmjfgbaaaDoorQFnHeadsx6
namespace Go.Proofs.YtenedfmmjfgbaaaDoor.QFnHeads
open Go.RowKit Go.Proofs.YtenedfmmjfgbaaaDoorW.PrintWords Go.Proofs.YtenedfmmjfgbaaaDoorW.PrintLast Go.Proofs.YtenedfmmjfgbaaaDoorW.PrintMore
attribute [local go_sem] max2_int min2_int max_two min_two max_three min_three max_four min_four   -- for this text's walks alone
set_option linter.unusedVariables false
set_option linter.unusedSimpArgs false

attribute [local go_sem high] eqA77
/-! ### spec_ItemsOk: function 36 -/
mutual
def spec_ItemsOk.l0 : Nat → List (S77) → Int → Option (Bool)
 | 0, _, _ => none
 | k + 1, x0, x3 => if x3 < (x0.length : Int) then (if 0 ≤ x3 then ((spec_l01In.f ((rd_T77 x0 x3).f0) 1 1000000000).bind fun t275 => (if t275 = true then ((spec_RecOk.f k ((rd_T77 x0 x3).f1.f0) ((rd_T77 x0 x3).f1.f1) ((rd_T77 x0 x3).f1.f2) ((rd_T77 x0 x3).f1.f3) ((rd_T77 x0 x3).f1.f4) ((rd_T77 x0 x3).f1.f5) ((rd_T77 x0 x3).f1.f6) ((rd_T77 x0 x3).f1.f7)).bind fun t277 => (spec_ItemsOk.j1 k x0 x3 (!t277))) else (spec_ItemsOk.j1 k x0 x3 true))) else (none)) else (some (decide ((x0.length : Int) ≤ 200)))
def spec_ItemsOk.j1 : Nat → List (S77) → Int → Bool → Option (Bool)
 | 0, _, _, _ => none
 | k + 1, x0, x3, x26 => if x26 = true then (some false) else (spec_ItemsOk.l1 k x0 x3 0)
def spec_ItemsOk.l1 : Nat → List (S77) → Int → Int → Option (Bool)
 | 0, _, _, _ => none
 | k + 1, x0, x3, x4 => if x4 < x3 then (if 0 ≤ x4 then (if x4 < (x0.length : Int) then (if 0 ≤ x3 then (if x3 < (x0.length : Int) then (if ((rd_T77 x0 x4).f0) = ((rd_T77 x0 x3).f0) then (if (!(((rd_T77 x0 x4).f0) == ((rd_T77 x0 x3).f0)) || ((!(((rd_T77 x0 x4).f1.f0) == ((rd_T77 x0 x3).f1.f0)) || (!(((rd_T77 x0 x4).f1.f1) == ((rd_T77 x0 x3).f1.f1)) || (!(((rd_T77 x0 x4).f1.f2) == ((rd_T77 x0 x3).f1.f2)) || (!(((rd_T77 x0 x4).f1.f3) == ((rd_T77 x0 x3).f1.f3)) || (!(((rd_T77 x0 x4).f1.f4) == ((rd_T77 x0 x3).f1.f4)) || (!((((rd_T77 x0 x4).f1.f5).toList) == (((rd_T77 x0 x3).f1.f5).toList)) || (!((((rd_T77 x0 x4).f1.f6).toList) == (((rd_T77 x0 x3).f1.f6).toList)) || (!((((rd_T77 x0 x4).f1.f7).toList) == (((rd_T77 x0 x3).f1.f7).toList)))))))))))) = true then (some false) else (spec_ItemsOk.l1 k x0 x3 (wrap64 (x4 + 1)))) else (spec_ItemsOk.l1 k x0 x3 (wrap64 (x4 + 1)))) else (none)) else (none)) else (none)) else (none)) else (spec_ItemsOk.l0 k x0 (wrap64 (x3 + 1)))
end
def spec_ItemsOk.f (k : Nat) (l0 : List (S77)) : Option (Bool) := spec_ItemsOk.l0 k l0 0
theorem spec_ItemsOk.mono_l : ∀ k, (∀ y0 y1, LeO (spec_ItemsOk.l0 k y0 y1) (spec_ItemsOk.l0 (k + 1) y0 y1)) ∧ (∀ y0 y1 y2, LeO (spec_ItemsOk.j1 k y0 y1 y2) (spec_ItemsOk.j1 (k + 1) y0 y1 y2)) ∧ (∀ y0 y1 y2, LeO (spec_ItemsOk.l1 k y0 y1 y2) (spec_ItemsOk.l1 (k + 1) y0 y1 y2))
 | 0 => ⟨fun _ _ r h => by simp [spec_ItemsOk.l0] at h, fun _ _ _ r h => by simp [spec_ItemsOk.j1] at h, fun _ _ _ r h => by simp [spec_ItemsOk.l1] at h⟩
 | k + 1 => by
  obtain ⟨ih0, ih1, ih2⟩ := spec_ItemsOk.mono_l k
  refine ⟨?_, ?_, ?_⟩
  ·intro y0 y1
   unfold spec_ItemsOk.l0
   repeat' first
   | (with_reducible exact ih0 _ _)
   | (with_reducible exact ih1 _ _ _)
   | (with_reducible exact ih2 _ _ _)
   | (with_reducible exact spec_RecOk.mono _ _ _ _ _ _ _ _ _)
   | (with_reducible exact LeO.refl _)
   | (with_reducible exact LeO.none _)
   | (with_reducible refine LeO.ite ?_ ?_)
   | (with_reducible refine LeO.bind ?_ (fun _ => ?_))
   | exact ih0 _ _
   | exact ih1 _ _ _
   | exact ih2 _ _ _
   | exact spec_RecOk.mono _ _ _ _ _ _ _ _ _
   | exact LeO.none _
   | refine LeO.ite ?_ ?_
   | refine LeO.bind ?_ (fun _ => ?_)
  ·intro y0 y1 y2
   unfold spec_ItemsOk.j1
   repeat' first
   | (with_reducible exact ih0 _ _)
   | (with_reducible exact ih1 _ _ _)
   | (with_reducible exact ih2 _ _ _)
   | (with_reducible exact spec_RecOk.mono _ _ _ _ _ _ _ _ _)
   | (with_reducible exact LeO.refl _)
   | (with_reducible exact LeO.none _)
   | (with_reducible refine LeO.ite ?_ ?_)
   | (with_reducible refine LeO.bind ?_ (fun _ => ?_))
   | exact ih0 _ _
   | exact ih1 _ _ _
   | exact ih2 _ _ _
   | exact spec_RecOk.mono _ _ _ _ _ _ _ _ _
   | exact LeO.none _
   | refine LeO.ite ?_ ?_
   | refine LeO.bind ?_ (fun _ => ?_)
  ·intro y0 y1 y2
   unfold spec_ItemsOk.l1
   repeat' first
   | (with_reducible exact ih0 _ _)
   | (with_reducible exact ih1 _ _ _)
   | (with_reducible exact ih2 _ _ _)
   | (with_reducible exact spec_RecOk.mono _ _ _ _ _ _ _ _ _)
   | (with_reducible exact LeO.refl _)
   | (with_reducible exact LeO.none _)
   | (with_reducible refine LeO.ite ?_ ?_)
   | (with_reducible refine LeO.bind ?_ (fun _ => ?_))
   | exact ih0 _ _
   | exact ih1 _ _ _
   | exact ih2 _ _ _
   | exact spec_RecOk.mono _ _ _ _ _ _ _ _ _
   | exact LeO.none _
   | refine LeO.ite ?_ ?_
   | refine LeO.bind ?_ (fun _ => ?_)
theorem spec_ItemsOk.mono : ∀ a0 k, LeO (spec_ItemsOk.f k a0) (spec_ItemsOk.f (k + 1) a0) := by
 intro a0 k
 obtain ⟨ih0, ih1, ih2⟩ := spec_ItemsOk.mono_l k
 unfold spec_ItemsOk.f
 repeat' first
   | (with_reducible exact ih0 _ _)
   | (with_reducible exact ih1 _ _ _)
   | (with_reducible exact ih2 _ _ _)
   | (with_reducible exact spec_RecOk.mono _ _ _ _ _ _ _ _ _)
   | (with_reducible exact LeO.refl _)
   | (with_reducible exact LeO.none _)
   | (with_reducible refine LeO.ite ?_ ?_)
   | (with_reducible refine LeO.bind ?_ (fun _ => ?_))
   | exact ih0 _ _
   | exact ih1 _ _ _
   | exact ih2 _ _ _
   | exact spec_RecOk.mono _ _ _ _ _ _ _ _ _
   | exact LeO.none _
   | refine LeO.ite ?_ ?_
   | refine LeO.bind ?_ (fun _ => ?_)
set_option maxHeartbeats 8000000 in
set_option maxRecDepth 100000 in
theorem spec_ItemsOk.calls (k : Nat) (A0 : Option Addr) (c0 : Nat) (l0 : List (S77)) (r : Bool) (w : World) (hr0 : Kd.C k77 w A0 l0.length l0) (hc0 : l0.length ≤ c0) (h : spec_ItemsOk.f k l0 = some r) :
  Calls Tryd.prog 36 #[.slice A0 l0.length c0] w fun e w' => e = .returned (.bool r) ∧ Below w.heap.size w w' := by
 have hu75 := Tryd.underlying75
 have hu77 := Tryd.underlying77
 have HR0 := Aside0.mk hr0
 have HC0 := Aside0.mk hc0
 clear hr0 hc0
 have HB := Aside0.mk (Below.refl w.heap.size w)
 have H : (spec_ItemsOk.l0 k l0 0) = some r := h
 clear h
 have H' := Aside0.mk H
 clear H
 go_enter Tryd.func36, Tryd.ntmps36
 go_wp2
 repeat (go_quiet (fail); try go_wp2)
 go_loopg [3] k (fun kq v3 w' => ∃ (x3_1 : Int), v3 = .int .i64 x3_1 ∧ Aside0 (spec_ItemsOk.l0 kq l0 x3_1 = some r) ∧ Aside0 (kq ≤ k) ∧ Aside0 (Below w.heap.size w w'))
 case atStart => exact ⟨(0), (by first | rfl | (simp; done) | (simp [*]; done) | (simp; exact (by intro l; cases l <;> rfl : ∀ l : List UInt8, l.isEmpty = !(l != [])) _)), H', ⟨Nat.le_refl _⟩, ⟨by repeat (first | (with_reducible first | exact HB.out | apply below_alloc | apply pw_below_drewN | apply below_drew1) | exact HB.out)⟩⟩
 case round =>
  clear H'
  obtain ⟨x3_1, rfl, HA, HK1, HB⟩ := hrel
  cases gk with
  | zero => exact absurd HA.out (by simp [spec_ItemsOk.l0])
  | succ k1 =>
   have H := HA.out
   clear HA
   simp only [spec_ItemsOk.l0] at H
   by_cases c2 : x3_1 < (l0.length : Int)
   ·rw [if_pos c2] at H
    have c2b0 : decide (x3_1 < (l0.length : Int)) = true := decide_eq_true c2
    clear c2
    have HC3 := Aside0.mk H
    clear H
    go_upto_region 4 with (fail)
    repeat (go_quiet (fail); go_upto_region 4 with (fail))
    go_cut [26] (fun v26 wc => ∃ (kq : Nat) (x26_2 : Bool), v26 = .bool x26_2 ∧ Aside0 (spec_ItemsOk.j1 kq l0 x3_1 x26_2 = some r) ∧ Aside0 (kq ≤ k1) ∧ Aside0 (Below w.heap.size w wc))
    case first =>
     have H := HC3.out
     clear HC3
     by_cases c4 : 0 ≤ x3_1
     ·rw [if_pos c4] at H
      have c4b0 : decide (0 ≤ x3_1) = true := decide_eq_true c4
      clear c4
      (first | rw [c4b0] | (simp only [i64_w, i32_w]; rw [c4b0]) | skip)
      replace H := Option.bind_eq_some_iff.mp H
      obtain ⟨t275, A50, H⟩ := H
      (try set_option simprocs false in dsimp only at H)
      have A5 := Aside0.mk A50
      clear A50
      by_cases c6 : t275 = true
      ·subst c6
       (try rw [if_pos rfl] at H)
       replace H := Option.bind_eq_some_iff.mp H
       obtain ⟨t277, A70, H⟩ := H
       (try set_option simprocs false in dsimp only at H)
       have A7 := Aside0.mk A70
       clear A70
       have H' := Aside0.mk H
       clear H
       have p274 : 0 ≤ (x3_1 : Int) := of_decide_eq_true (by first | (with_reducible assumption) | assumption)
       have q274 : x3_1 < (l0.length : Int) := of_decide_eq_true (by first | (with_reducible assumption) | assumption)
       obtain ⟨ad274, e274, hx274_0, hx274_1, hx274_2, hx274_3, hx274_4, hx274_5, hx274_6, hx274_7, hx274_8⟩ := at_T77 HR0.out x3_1 p274 q274
       cases e274
       replace hx274_0 := (HB.out.cell (World.block_lt_of_cell? w _ hx274_0)).trans hx274_0
       replace hx274_1 := (HB.out.cell (World.block_lt_of_cell? w _ hx274_1)).trans hx274_1
       replace hx274_2 := (HB.out.cell (World.block_lt_of_cell? w _ hx274_2)).trans hx274_2
       replace hx274_3 := (HB.out.cell (World.block_lt_of_cell? w _ hx274_3)).trans hx274_3
       replace hx274_4 := (HB.out.cell (World.block_lt_of_cell? w _ hx274_4)).trans hx274_4
       replace hx274_5 := (HB.out.cell (World.block_lt_of_cell? w _ hx274_5)).trans hx274_5
       replace hx274_6 := (HB.out.cell (World.block_lt_of_cell? w _ hx274_6)).trans hx274_6
       replace hx274_7 := (HB.out.cell (World.block_lt_of_cell? w _ hx274_7)).trans hx274_7
       replace hx274_8 := (HB.out.cell (World.block_lt_of_cell? w _ hx274_8)).trans hx274_8
       replace p274 := eq_true p274
       replace q274 := eq_true q274
       have p276 : 0 ≤ (x3_1 : Int) := of_decide_eq_true (by first | (with_reducible assumption) | assumption); have q276 : x3_1 < (l0.length : Int) := of_decide_eq_true (by first | (with_reducible assumption) | assumption); obtain ⟨ad276, e276, hx276_0, hx276_1, hx276_2, hx276_3, hx276_4, hx276_5, hx276_6, hx276_7, hx276_8⟩ := at_T77 HR0.out x3_1 p276 q276; obtain rfl : ad274 = ad276 := (by injection e276); replace hx276_0 := (HB.out.cell (World.block_lt_of_cell? w _ hx276_0)).trans hx276_0; replace hx276_1 := (HB.out.cell (World.block_lt_of_cell? w _ hx276_1)).trans hx276_1; replace hx276_2 := (HB.out.cell (World.block_lt_of_cell? w _ hx276_2)).trans hx276_2; replace hx276_3 := (HB.out.cell (World.block_lt_of_cell? w _ hx276_3)).trans hx276_3; replace hx276_4 := (HB.out.cell (World.block_lt_of_cell? w _ hx276_4)).trans hx276_4; replace hx276_5 := (HB.out.cell (World.block_lt_of_cell? w _ hx276_5)).trans hx276_5; replace hx276_6 := (HB.out.cell (World.block_lt_of_cell? w _ hx276_6)).trans hx276_6; replace hx276_7 := (HB.out.cell (World.block_lt_of_cell? w _ hx276_7)).trans hx276_7; replace hx276_8 := (HB.out.cell (World.block_lt_of_cell? w _ hx276_8)).trans hx276_8; replace p276 := eq_true p276; replace q276 := eq_true q276
       go_wp2_with (first | (go_at_call 47; (with_reducible refine (spec_l01In.calls ((rd_T77 l0 x3_1).f0) 1 1000000000 true _ A5.out).mono ?_); rintro e w' ⟨rfl, ⟨nd, rfl⟩⟩; (try first | exact ⟨rfl, _, World.drewN_drewN _ _ _⟩ | exact ⟨rfl, _, Eq.trans (World.drewN_drewN _ _ _) (congrArg (World.drewN _) (Nat.add_assoc _ _ _))⟩)) | (go_at_call 48; (with_reducible refine (spec_RecOk.calls k1 ((rd_T77 l0 x3_1).f1.f0) ((rd_T77 l0 x3_1).f1.f1) ((rd_T77 l0 x3_1).f1.f2) ((rd_T77 l0 x3_1).f1.f3) ((rd_T77 l0 x3_1).f1.f4) ((rd_T77 l0 x3_1).f1.f5) ((rd_T77 l0 x3_1).f1.f6) ((rd_T77 l0 x3_1).f1.f7) t277 _ A7.out).mono ?_); rintro e w8 ⟨rfl, hb⟩; have n0_ := Aside0.mk (below_step (by repeat (first | (with_reducible first | exact HB.out | apply below_alloc | apply pw_below_drewN | apply below_drew1) | exact HB.out)) hb); clear HB; have HB := n0_; clear n0_; (try clear hb); (try clear hb2); (try clear hk); (try clear hi)))
       repeat (go_quiet (first | (go_at_call 47; (with_reducible refine (spec_l01In.calls ((rd_T77 l0 x3_1).f0) 1 1000000000 true _ A5.out).mono ?_); rintro e w' ⟨rfl, ⟨nd, rfl⟩⟩; (try first | exact ⟨rfl, _, World.drewN_drewN _ _ _⟩ | exact ⟨rfl, _, Eq.trans (World.drewN_drewN _ _ _) (congrArg (World.drewN _) (Nat.add_assoc _ _ _))⟩)) | (go_at_call 48; (with_reducible refine (spec_RecOk.calls k1 ((rd_T77 l0 x3_1).f1.f0) ((rd_T77 l0 x3_1).f1.f1) ((rd_T77 l0 x3_1).f1.f2) ((rd_T77 l0 x3_1).f1.f3) ((rd_T77 l0 x3_1).f1.f4) ((rd_T77 l0 x3_1).f1.f5) ((rd_T77 l0 x3_1).f1.f6) ((rd_T77 l0 x3_1).f1.f7) t277 _ A7.out).mono ?_); rintro e w8 ⟨rfl, hb⟩; have n0_ := Aside0.mk (below_step (by repeat (first | (with_reducible first | exact HB.out | apply below_alloc | apply pw_below_drewN | apply below_drew1) | exact HB.out)) hb); clear HB; have HB := n0_; clear n0_; (try clear hb); (try clear hb2); (try clear hk); (try clear hi))); try go_wp2_with (first | (go_at_call 47; (with_reducible refine (spec_l01In.calls ((rd_T77 l0 x3_1).f0) 1 1000000000 true _ A5.out).mono ?_); rintro e w' ⟨rfl, ⟨nd, rfl⟩⟩; (try first | exact ⟨rfl, _, World.drewN_drewN _ _ _⟩ | exact ⟨rfl, _, Eq.trans (World.drewN_drewN _ _ _) (congrArg (World.drewN _) (Nat.add_assoc _ _ _))⟩)) | (go_at_call 48; (with_reducible refine (spec_RecOk.calls k1 ((rd_T77 l0 x3_1).f1.f0) ((rd_T77 l0 x3_1).f1.f1) ((rd_T77 l0 x3_1).f1.f2) ((rd_T77 l0 x3_1).f1.f3) ((rd_T77 l0 x3_1).f1.f4) ((rd_T77 l0 x3_1).f1.f5) ((rd_T77 l0 x3_1).f1.f6) ((rd_T77 l0 x3_1).f1.f7) t277 _ A7.out).mono ?_); rintro e w8 ⟨rfl, hb⟩; have n0_ := Aside0.mk (below_step (by repeat (first | (with_reducible first | exact HB.out | apply below_alloc | apply pw_below_drewN | apply below_drew1) | exact HB.out)) hb); clear HB; have HB := n0_; clear n0_; (try clear hb); (try clear hb2); (try clear hk); (try clear hi))))
       go_meet
       case rel => exact ⟨_, (!t277), (by first | rfl | (simp; done) | (simp [*]; done) | (simp; exact (by intro l; cases l <;> rfl : ∀ l : List UInt8, l.isEmpty = !(l != [])) _)), H', ⟨by have := HK1.out; first | omega | exact Nat.le_refl _⟩, ⟨by repeat (first | (with_reducible first | exact HB.out | apply below_alloc | apply pw_below_drewN | apply below_drew1) | exact HB.out)⟩⟩
      ·replace c6 := Bool.eq_false_iff.mpr c6
       subst c6
       (try rw [if_neg (show ¬ (false = true) by decide)] at H)
       have H' := Aside0.mk H
       clear H
       have p274 : 0 ≤ (x3_1 : Int) := of_decide_eq_true (by first | (with_reducible assumption) | assumption)
       have q274 : x3_1 < (l0.length : Int) := of_decide_eq_true (by first | (with_reducible assumption) | assumption)
       obtain ⟨ad274, e274, hx274_0, hx274_1, hx274_2, hx274_3, hx274_4, hx274_5, hx274_6, hx274_7, hx274_8⟩ := at_T77 HR0.out x3_1 p274 q274
       cases e274
       replace hx274_0 := (HB.out.cell (World.block_lt_of_cell? w _ hx274_0)).trans hx274_0
       replace hx274_1 := (HB.out.cell (World.block_lt_of_cell? w _ hx274_1)).trans hx274_1
       replace hx274_2 := (HB.out.cell (World.block_lt_of_cell? w _ hx274_2)).trans hx274_2
       replace hx274_3 := (HB.out.cell (World.block_lt_of_cell? w _ hx274_3)).trans hx274_3
       replace hx274_4 := (HB.out.cell (World.block_lt_of_cell? w _ hx274_4)).trans hx274_4
       replace hx274_5 := (HB.out.cell (World.block_lt_of_cell? w _ hx274_5)).trans hx274_5
       replace hx274_6 := (HB.out.cell (World.block_lt_of_cell? w _ hx274_6)).trans hx274_6
       replace hx274_7 := (HB.out.cell (World.block_lt_of_cell? w _ hx274_7)).trans hx274_7
       replace hx274_8 := (HB.out.cell (World.block_lt_of_cell? w _ hx274_8)).trans hx274_8
       replace p274 := eq_true p274
       replace q274 := eq_true q274
       go_wp2_with (first | (go_at_call 47; (with_reducible refine (spec_l01In.calls ((rd_T77 l0 x3_1).f0) 1 1000000000 false _ A5.out).mono ?_); rintro e w' ⟨rfl, ⟨nd, rfl⟩⟩; (try first | exact ⟨rfl, _, World.drewN_drewN _ _ _⟩ | exact ⟨rfl, _, Eq.trans (World.drewN_drewN _ _ _) (congrArg (World.drewN _) (Nat.add_assoc _ _ _))⟩)))
       repeat (go_quiet (first | (go_at_call 47; (with_reducible refine (spec_l01In.calls ((rd_T77 l0 x3_1).f0) 1 1000000000 false _ A5.out).mono ?_); rintro e w' ⟨rfl, ⟨nd, rfl⟩⟩; (try first | exact ⟨rfl, _, World.drewN_drewN _ _ _⟩ | exact ⟨rfl, _, Eq.trans (World.drewN_drewN _ _ _) (congrArg (World.drewN _) (Nat.add_assoc _ _ _))⟩))); try go_wp2_with (first | (go_at_call 47; (with_reducible refine (spec_l01In.calls ((rd_T77 l0 x3_1).f0) 1 1000000000 false _ A5.out).mono ?_); rintro e w' ⟨rfl, ⟨nd, rfl⟩⟩; (try first | exact ⟨rfl, _, World.drewN_drewN _ _ _⟩ | exact ⟨rfl, _, Eq.trans (World.drewN_drewN _ _ _) (congrArg (World.drewN _) (Nat.add_assoc _ _ _))⟩))))
       go_meet
       case rel => exact ⟨_, (true), (by first | rfl | (simp; done) | (simp [*]; done) | (simp; exact (by intro l; cases l <;> rfl : ∀ l : List UInt8, l.isEmpty = !(l != [])) _)), H', ⟨by have := HK1.out; first | omega | exact Nat.le_refl _⟩, ⟨by repeat (first | (with_reducible first | exact HB.out | apply below_alloc | apply pw_below_drewN | apply below_drew1) | exact HB.out)⟩⟩
     ·rw [if_neg c4] at H
      exact absurd H (by simp)
    case rest =>
     clear HC3
     try clear c2
     try clear c2b0
     try clear p2
     try clear q2
     try clear hx2
     try clear c3
     try clear c4
     try clear c4b0
     try clear c6
     try clear hx274_0
     try clear hx274_1
     try clear hx274_2
     try clear hx274_3
     try clear hx274_4
     try clear hx274_5
     try clear hx274_6
     try clear hx274_7
     try clear hx274_8
     try clear hx276_0
     try clear hx276_1
     try clear hx276_2
     try clear hx276_3
     try clear hx276_4
     try clear hx276_5
     try clear hx276_6
     try clear hx276_7
     try clear hx276_8
     try clear p274
     try clear p276
     try clear q274
     try clear q276
     obtain ⟨kq, x26_2, rfl, HA, HJ2, HB⟩ := hcut
     cases kq with
     | zero => exact absurd HA.out (by simp [spec_ItemsOk.j1])
     | succ kj2 =>
      have H := HA.out
      clear HA
      simp only [spec_ItemsOk.j1] at H
      by_cases c9 : x26_2 = true
      ·subst c9
       (try rw [if_pos rfl] at H)
       obtain rfl := Option.some.inj H
       go_wp2
       repeat (go_quiet (fail); try go_wp2)
       go_ret
       exact ⟨by first | rfl | (simp [errW_none, errW_some] <;> rfl) | (simp [*, errW_none, errW_some] <;> rfl), by repeat (first | (with_reducible first | exact HB.out | apply below_alloc | apply pw_below_drewN | apply below_drew1) | exact HB.out)⟩
      ·replace c9 := Bool.eq_false_iff.mpr c9
       subst c9
       (try rw [if_neg (show ¬ (false = true) by decide)] at H)
       have H' := Aside0.mk H
       clear H
       go_wp2
       repeat (go_quiet (fail); try go_wp2)
       go_loopg [4] kj2 (fun kq v4 w' => ∃ (x4_3 : Int), v4 = .int .i64 x4_3 ∧ Aside0 (spec_ItemsOk.l1 kq l0 x3_1 x4_3 = some r) ∧ Aside0 (kq ≤ kj2) ∧ Aside0 (Below w.heap.size w w'))
       case atStart => exact ⟨(0), (by first | rfl | (simp; done) | (simp [*]; done) | (simp; exact (by intro l; cases l <;> rfl : ∀ l : List UInt8, l.isEmpty = !(l != [])) _)), H', ⟨Nat.le_refl _⟩, ⟨by repeat (first | (with_reducible first | exact HB.out | apply below_alloc | apply pw_below_drewN | apply below_drew1) | exact HB.out)⟩⟩
       case round =>
        clear H'
        try clear c2
        try clear c2b0
        try clear p2
        try clear q2
        try clear hx2
        try clear c3
        try clear c4
        try clear c4b0
        try clear c6
        try clear c9
        try clear hx274_0
        try clear hx274_1
        try clear hx274_2
        try clear hx274_3
        try clear hx274_4
        try clear hx274_5
        try clear hx274_6
        try clear hx274_7
        try clear hx274_8
        try clear hx276_0
        try clear hx276_1
        try clear hx276_2
        try clear hx276_3
        try clear hx276_4
        try clear hx276_5
        try clear hx276_6
        try clear hx276_7
        try clear hx276_8
        try clear p2
        try clear p274
        try clear p276
        try clear q2
        try clear q274
        try clear q276
        obtain ⟨x4_3, rfl, HA, HK3, HB⟩ := hrel
        cases gk with
        | zero => exact absurd HA.out (by simp [spec_ItemsOk.l1])
        | succ k3 =>
         have H := HA.out
         clear HA
         simp only [spec_ItemsOk.l1] at H
         by_cases c10 : x4_3 < x3_1
         ·rw [if_pos c10] at H
          have c10b0 : decide (x4_3 < x3_1) = true := decide_eq_true c10
          clear c10
          by_cases c11 : 0 ≤ x4_3
          ·rw [if_pos c11] at H
           have c11b0 : decide (0 ≤ x4_3) = true := decide_eq_true c11
           clear c11
           by_cases c12 : x4_3 < (l0.length : Int)
           ·rw [if_pos c12] at H
            have c12b0 : decide (x4_3 < (l0.length : Int)) = true := decide_eq_true c12
            clear c12
            by_cases c13 : 0 ≤ x3_1
            ·rw [if_pos c13] at H
             have c13b0 : decide (0 ≤ x3_1) = true := decide_eq_true c13
             clear c13
             by_cases c14 : x3_1 < (l0.length : Int)
             ·rw [if_pos c14] at H
              have c14b0 : decide (x3_1 < (l0.length : Int)) = true := decide_eq_true c14
              clear c14
              by_cases c15 : ((rd_T77 l0 x4_3).f0) = ((rd_T77 l0 x3_1).f0)
              ·rw [if_pos c15] at H
               have c15b0 : (((rd_T77 l0 x4_3).f0) == ((rd_T77 l0 x3_1).f0)) = true := beq_iff_eq.mpr c15
               have c15b1 : (((rd_T77 l0 x4_3).f0) != ((rd_T77 l0 x3_1).f0)) = false := bne_eq_false_iff_eq.mpr c15
               clear c15
               by_cases c16 : (!(((rd_T77 l0 x4_3).f0) == ((rd_T77 l0 x3_1).f0)) || ((!(((rd_T77 l0 x4_3).f1.f0) == ((rd_T77 l0 x3_1).f1.f0)) || (!(((rd_T77 l0 x4_3).f1.f1) == ((rd_T77 l0 x3_1).f1.f1)) || (!(((rd_T77 l0 x4_3).f1.f2) == ((rd_T77 l0 x3_1).f1.f2)) || (!(((rd_T77 l0 x4_3).f1.f3) == ((rd_T77 l0 x3_1).f1.f3)) || (!(((rd_T77 l0 x4_3).f1.f4) == ((rd_T77 l0 x3_1).f1.f4)) || (!((((rd_T77 l0 x4_3).f1.f5).toList) == (((rd_T77 l0 x3_1).f1.f5).toList)) || (!((((rd_T77 l0 x4_3).f1.f6).toList) == (((rd_T77 l0 x3_1).f1.f6).toList)) || (!((((rd_T77 l0 x4_3).f1.f7).toList) == (((rd_T77 l0 x3_1).f1.f7).toList)))))))))))) = true
               ·rw [if_pos c16] at H
                have c16b0 : (!(((rd_T77 l0 x4_3).f0) == ((rd_T77 l0 x3_1).f0)) || ((!(((rd_T77 l0 x4_3).f1.f0) == ((rd_T77 l0 x3_1).f1.f0)) || (!(((rd_T77 l0 x4_3).f1.f1) == ((rd_T77 l0 x3_1).f1.f1)) || (!(((rd_T77 l0 x4_3).f1.f2) == ((rd_T77 l0 x3_1).f1.f2)) || (!(((rd_T77 l0 x4_3).f1.f3) == ((rd_T77 l0 x3_1).f1.f3)) || (!(((rd_T77 l0 x4_3).f1.f4) == ((rd_T77 l0 x3_1).f1.f4)) || (!((((rd_T77 l0 x4_3).f1.f5).toList) == (((rd_T77 l0 x3_1).f1.f5).toList)) || (!((((rd_T77 l0 x4_3).f1.f6).toList) == (((rd_T77 l0 x3_1).f1.f6).toList)) || (!((((rd_T77 l0 x4_3).f1.f7).toList) == (((rd_T77 l0 x3_1).f1.f7).toList)))))))))))) = true := c16
                simp only [c15b0, Bool.not_true, Bool.false_or] at c16b0
                clear c16
                obtain rfl := Option.some.inj H
                have p278 : 0 ≤ (x4_3 : Int) := of_decide_eq_true (by first | (with_reducible assumption) | assumption)
                have q278 : x4_3 < (l0.length : Int) := of_decide_eq_true (by first | (with_reducible assumption) | assumption)
                obtain ⟨ad278, e278, hx278_0, hx278_1, hx278_2, hx278_3, hx278_4, hx278_5, hx278_6, hx278_7, hx278_8⟩ := at_T77 HR0.out x4_3 p278 q278
                cases e278
                replace hx278_0 := (HB.out.cell (World.block_lt_of_cell? w _ hx278_0)).trans hx278_0
                replace hx278_1 := (HB.out.cell (World.block_lt_of_cell? w _ hx278_1)).trans hx278_1
                replace hx278_2 := (HB.out.cell (World.block_lt_of_cell? w _ hx278_2)).trans hx278_2
                replace hx278_3 := (HB.out.cell (World.block_lt_of_cell? w _ hx278_3)).trans hx278_3
                replace hx278_4 := (HB.out.cell (World.block_lt_of_cell? w _ hx278_4)).trans hx278_4
                replace hx278_5 := (HB.out.cell (World.block_lt_of_cell? w _ hx278_5)).trans hx278_5
                replace hx278_6 := (HB.out.cell (World.block_lt_of_cell? w _ hx278_6)).trans hx278_6
                replace hx278_7 := (HB.out.cell (World.block_lt_of_cell? w _ hx278_7)).trans hx278_7
                replace hx278_8 := (HB.out.cell (World.block_lt_of_cell? w _ hx278_8)).trans hx278_8
                replace p278 := eq_true p278
                replace q278 := eq_true q278
                have p279 : 0 ≤ (x3_1 : Int) := of_decide_eq_true (by first | (with_reducible assumption) | assumption)
                have q279 : x3_1 < (l0.length : Int) := of_decide_eq_true (by first | (with_reducible assumption) | assumption)
                obtain ⟨ad279, e279, hx279_0, hx279_1, hx279_2, hx279_3, hx279_4, hx279_5, hx279_6, hx279_7, hx279_8⟩ := at_T77 HR0.out x3_1 p279 q279
                obtain rfl : ad278 = ad279 := (by injection e279)
                replace hx279_0 := (HB.out.cell (World.block_lt_of_cell? w _ hx279_0)).trans hx279_0
                replace hx279_1 := (HB.out.cell (World.block_lt_of_cell? w _ hx279_1)).trans hx279_1
                replace hx279_2 := (HB.out.cell (World.block_lt_of_cell? w _ hx279_2)).trans hx279_2
                replace hx279_3 := (HB.out.cell (World.block_lt_of_cell? w _ hx279_3)).trans hx279_3
                replace hx279_4 := (HB.out.cell (World.block_lt_of_cell? w _ hx279_4)).trans hx279_4
                replace hx279_5 := (HB.out.cell (World.block_lt_of_cell? w _ hx279_5)).trans hx279_5
                replace hx279_6 := (HB.out.cell (World.block_lt_of_cell? w _ hx279_6)).trans hx279_6
                replace hx279_7 := (HB.out.cell (World.block_lt_of_cell? w _ hx279_7)).trans hx279_7
                replace hx279_8 := (HB.out.cell (World.block_lt_of_cell? w _ hx279_8)).trans hx279_8
                replace p279 := eq_true p279
                replace q279 := eq_true q279
                have p280 : 0 ≤ (x4_3 : Int) := of_decide_eq_true (by first | (with_reducible assumption) | assumption)
                have q280 : x4_3 < (l0.length : Int) := of_decide_eq_true (by first | (with_reducible assumption) | assumption)
                obtain ⟨ad280, e280, hx280_0, hx280_1, hx280_2, hx280_3, hx280_4, hx280_5, hx280_6, hx280_7, hx280_8⟩ := at_T77 HR0.out x4_3 p280 q280
                obtain rfl : ad278 = ad280 := (by injection e280)
                replace hx280_0 := (HB.out.cell (World.block_lt_of_cell? w _ hx280_0)).trans hx280_0
                replace hx280_1 := (HB.out.cell (World.block_lt_of_cell? w _ hx280_1)).trans hx280_1
                replace hx280_2 := (HB.out.cell (World.block_lt_of_cell? w _ hx280_2)).trans hx280_2
                replace hx280_3 := (HB.out.cell (World.block_lt_of_cell? w _ hx280_3)).trans hx280_3
                replace hx280_4 := (HB.out.cell (World.block_lt_of_cell? w _ hx280_4)).trans hx280_4
                replace hx280_5 := (HB.out.cell (World.block_lt_of_cell? w _ hx280_5)).trans hx280_5
                replace hx280_6 := (HB.out.cell (World.block_lt_of_cell? w _ hx280_6)).trans hx280_6
                replace hx280_7 := (HB.out.cell (World.block_lt_of_cell? w _ hx280_7)).trans hx280_7
                replace hx280_8 := (HB.out.cell (World.block_lt_of_cell? w _ hx280_8)).trans hx280_8
                replace p280 := eq_true p280
                replace q280 := eq_true q280
                have p281 : 0 ≤ (x3_1 : Int) := of_decide_eq_true (by first | (with_reducible assumption) | assumption)
                have q281 : x3_1 < (l0.length : Int) := of_decide_eq_true (by first | (with_reducible assumption) | assumption)
                obtain ⟨ad281, e281, hx281_0, hx281_1, hx281_2, hx281_3, hx281_4, hx281_5, hx281_6, hx281_7, hx281_8⟩ := at_T77 HR0.out x3_1 p281 q281
                obtain rfl : ad278 = ad281 := (by injection e281)
                replace hx281_0 := (HB.out.cell (World.block_lt_of_cell? w _ hx281_0)).trans hx281_0
                replace hx281_1 := (HB.out.cell (World.block_lt_of_cell? w _ hx281_1)).trans hx281_1
                replace hx281_2 := (HB.out.cell (World.block_lt_of_cell? w _ hx281_2)).trans hx281_2
                replace hx281_3 := (HB.out.cell (World.block_lt_of_cell? w _ hx281_3)).trans hx281_3
                replace hx281_4 := (HB.out.cell (World.block_lt_of_cell? w _ hx281_4)).trans hx281_4
                replace hx281_5 := (HB.out.cell (World.block_lt_of_cell? w _ hx281_5)).trans hx281_5
                replace hx281_6 := (HB.out.cell (World.block_lt_of_cell? w _ hx281_6)).trans hx281_6
                replace hx281_7 := (HB.out.cell (World.block_lt_of_cell? w _ hx281_7)).trans hx281_7
                replace hx281_8 := (HB.out.cell (World.block_lt_of_cell? w _ hx281_8)).trans hx281_8
                replace p281 := eq_true p281
                replace q281 := eq_true q281
                go_wp2
                repeat (go_quiet (fail); try go_wp2)
                go_ret
                exact ⟨by first | rfl | (simp [errW_none, errW_some] <;> rfl) | (simp [*, errW_none, errW_some] <;> rfl), by repeat (first | (with_reducible first | exact HB.out | apply below_alloc | apply pw_below_drewN | apply below_drew1) | exact HB.out)⟩
               ·rw [if_neg c16] at H
                have c16b0 : (!(((rd_T77 l0 x4_3).f0) == ((rd_T77 l0 x3_1).f0)) || ((!(((rd_T77 l0 x4_3).f1.f0) == ((rd_T77 l0 x3_1).f1.f0)) || (!(((rd_T77 l0 x4_3).f1.f1) == ((rd_T77 l0 x3_1).f1.f1)) || (!(((rd_T77 l0 x4_3).f1.f2) == ((rd_T77 l0 x3_1).f1.f2)) || (!(((rd_T77 l0 x4_3).f1.f3) == ((rd_T77 l0 x3_1).f1.f3)) || (!(((rd_T77 l0 x4_3).f1.f4) == ((rd_T77 l0 x3_1).f1.f4)) || (!((((rd_T77 l0 x4_3).f1.f5).toList) == (((rd_T77 l0 x3_1).f1.f5).toList)) || (!((((rd_T77 l0 x4_3).f1.f6).toList) == (((rd_T77 l0 x3_1).f1.f6).toList)) || (!((((rd_T77 l0 x4_3).f1.f7).toList) == (((rd_T77 l0 x3_1).f1.f7).toList)))))))))))) = false := by simpa using c16
                simp only [c15b0, Bool.not_true, Bool.false_or] at c16b0
                clear c16
                have H' := Aside0.mk H
                clear H
                have p278 : 0 ≤ (x4_3 : Int) := of_decide_eq_true (by first | (with_reducible assumption) | assumption)
                have q278 : x4_3 < (l0.length : Int) := of_decide_eq_true (by first | (with_reducible assumption) | assumption)
                obtain ⟨ad278, e278, hx278_0, hx278_1, hx278_2, hx278_3, hx278_4, hx278_5, hx278_6, hx278_7, hx278_8⟩ := at_T77 HR0.out x4_3 p278 q278
                cases e278
                replace hx278_0 := (HB.out.cell (World.block_lt_of_cell? w _ hx278_0)).trans hx278_0
                replace hx278_1 := (HB.out.cell (World.block_lt_of_cell? w _ hx278_1)).trans hx278_1
                replace hx278_2 := (HB.out.cell (World.block_lt_of_cell? w _ hx278_2)).trans hx278_2
                replace hx278_3 := (HB.out.cell (World.block_lt_of_cell? w _ hx278_3)).trans hx278_3
                replace hx278_4 := (HB.out.cell (World.block_lt_of_cell? w _ hx278_4)).trans hx278_4
                replace hx278_5 := (HB.out.cell (World.block_lt_of_cell? w _ hx278_5)).trans hx278_5
                replace hx278_6 := (HB.out.cell (World.block_lt_of_cell? w _ hx278_6)).trans hx278_6
                replace hx278_7 := (HB.out.cell (World.block_lt_of_cell? w _ hx278_7)).trans hx278_7
                replace hx278_8 := (HB.out.cell (World.block_lt_of_cell? w _ hx278_8)).trans hx278_8
                replace p278 := eq_true p278
                replace q278 := eq_true q278
                have p279 : 0 ≤ (x3_1 : Int) := of_decide_eq_true (by first | (with_reducible assumption) | assumption)
                have q279 : x3_1 < (l0.length : Int) := of_decide_eq_true (by first | (with_reducible assumption) | assumption)
                obtain ⟨ad279, e279, hx279_0, hx279_1, hx279_2, hx279_3, hx279_4, hx279_5, hx279_6, hx279_7, hx279_8⟩ := at_T77 HR0.out x3_1 p279 q279
                obtain rfl : ad278 = ad279 := (by injection e279)
                replace hx279_0 := (HB.out.cell (World.block_lt_of_cell? w _ hx279_0)).trans hx279_0
                replace hx279_1 := (HB.out.cell (World.block_lt_of_cell? w _ hx279_1)).trans hx279_1
                replace hx279_2 := (HB.out.cell (World.block_lt_of_cell? w _ hx279_2)).trans hx279_2
                replace hx279_3 := (HB.out.cell (World.block_lt_of_cell? w _ hx279_3)).trans hx279_3
                replace hx279_4 := (HB.out.cell (World.block_lt_of_cell? w _ hx279_4)).trans hx279_4
                replace hx279_5 := (HB.out.cell (World.block_lt_of_cell? w _ hx279_5)).trans hx279_5
                replace hx279_6 := (HB.out.cell (World.block_lt_of_cell? w _ hx279_6)).trans hx279_6
                replace hx279_7 := (HB.out.cell (World.block_lt_of_cell? w _ hx279_7)).trans hx279_7
                replace hx279_8 := (HB.out.cell (World.block_lt_of_cell? w _ hx279_8)).trans hx279_8
                replace p279 := eq_true p279
                replace q279 := eq_true q279
                have p280 : 0 ≤ (x4_3 : Int) := of_decide_eq_true (by first | (with_reducible assumption) | assumption)
                have q280 : x4_3 < (l0.length : Int) := of_decide_eq_true (by first | (with_reducible assumption) | assumption)
                obtain ⟨ad280, e280, hx280_0, hx280_1, hx280_2, hx280_3, hx280_4, hx280_5, hx280_6, hx280_7, hx280_8⟩ := at_T77 HR0.out x4_3 p280 q280
                obtain rfl : ad278 = ad280 := (by injection e280)
                replace hx280_0 := (HB.out.cell (World.block_lt_of_cell? w _ hx280_0)).trans hx280_0
                replace hx280_1 := (HB.out.cell (World.block_lt_of_cell? w _ hx280_1)).trans hx280_1
                replace hx280_2 := (HB.out.cell (World.block_lt_of_cell? w _ hx280_2)).trans hx280_2
                replace hx280_3 := (HB.out.cell (World.block_lt_of_cell? w _ hx280_3)).trans hx280_3
                replace hx280_4 := (HB.out.cell (World.block_lt_of_cell? w _ hx280_4)).trans hx280_4
                replace hx280_5 := (HB.out.cell (World.block_lt_of_cell? w _ hx280_5)).trans hx280_5
                replace hx280_6 := (HB.out.cell (World.block_lt_of_cell? w _ hx280_6)).trans hx280_6
                replace hx280_7 := (HB.out.cell (World.block_lt_of_cell? w _ hx280_7)).trans hx280_7
                replace hx280_8 := (HB.out.cell (World.block_lt_of_cell? w _ hx280_8)).trans hx280_8
                replace p280 := eq_true p280
                replace q280 := eq_true q280
                have p281 : 0 ≤ (x3_1 : Int) := of_decide_eq_true (by first | (with_reducible assumption) | assumption)
                have q281 : x3_1 < (l0.length : Int) := of_decide_eq_true (by first | (with_reducible assumption) | assumption)
                obtain ⟨ad281, e281, hx281_0, hx281_1, hx281_2, hx281_3, hx281_4, hx281_5, hx281_6, hx281_7, hx281_8⟩ := at_T77 HR0.out x3_1 p281 q281
                obtain rfl : ad278 = ad281 := (by injection e281)
                replace hx281_0 := (HB.out.cell (World.block_lt_of_cell? w _ hx281_0)).trans hx281_0
                replace hx281_1 := (HB.out.cell (World.block_lt_of_cell? w _ hx281_1)).trans hx281_1
                replace hx281_2 := (HB.out.cell (World.block_lt_of_cell? w _ hx281_2)).trans hx281_2
                replace hx281_3 := (HB.out.cell (World.block_lt_of_cell? w _ hx281_3)).trans hx281_3
                replace hx281_4 := (HB.out.cell (World.block_lt_of_cell? w _ hx281_4)).trans hx281_4
                replace hx281_5 := (HB.out.cell (World.block_lt_of_cell? w _ hx281_5)).trans hx281_5
                replace hx281_6 := (HB.out.cell (World.block_lt_of_cell? w _ hx281_6)).trans hx281_6
                replace hx281_7 := (HB.out.cell (World.block_lt_of_cell? w _ hx281_7)).trans hx281_7
                replace hx281_8 := (HB.out.cell (World.block_lt_of_cell? w _ hx281_8)).trans hx281_8
                replace p281 := eq_true p281
                replace q281 := eq_true q281
                go_wp2
                repeat (go_quiet (fail); try go_wp2)
                go_roundg k3
                case measure => have := HK1.out; have := HJ2.out; have := HK3.out; omega
                case rel => exact ⟨(wrap64 (x4_3 + 1)), (by first | rfl | (simp; done) | (simp [*]; done) | (simp; exact (by intro l; cases l <;> rfl : ∀ l : List UInt8, l.isEmpty = !(l != [])) _)), H', ⟨by have := HK1.out; have := HJ2.out; have := HK3.out; omega⟩, ⟨by repeat (first | (with_reducible first | exact HB.out | apply below_alloc | apply pw_below_drewN | apply below_drew1) | exact HB.out)⟩⟩
              ·rw [if_neg c15] at H
               have c15b0 : (((rd_T77 l0 x4_3).f0) == ((rd_T77 l0 x3_1).f0)) = false := beq_eq_false_iff_ne.mpr c15
               have c15b1 : (((rd_T77 l0 x4_3).f0) != ((rd_T77 l0 x3_1).f0)) = true := bne_iff_ne.mpr c15
               have H' := Aside0.mk H
               clear H
               have p278 : 0 ≤ (x4_3 : Int) := of_decide_eq_true (by first | (with_reducible assumption) | assumption)
               have q278 : x4_3 < (l0.length : Int) := of_decide_eq_true (by first | (with_reducible assumption) | assumption)
               obtain ⟨ad278, e278, hx278_0, hx278_1, hx278_2, hx278_3, hx278_4, hx278_5, hx278_6, hx278_7, hx278_8⟩ := at_T77 HR0.out x4_3 p278 q278
               cases e278
               replace hx278_0 := (HB.out.cell (World.block_lt_of_cell? w _ hx278_0)).trans hx278_0
               replace hx278_1 := (HB.out.cell (World.block_lt_of_cell? w _ hx278_1)).trans hx278_1
               replace hx278_2 := (HB.out.cell (World.block_lt_of_cell? w _ hx278_2)).trans hx278_2
               replace hx278_3 := (HB.out.cell (World.block_lt_of_cell? w _ hx278_3)).trans hx278_3
               replace hx278_4 := (HB.out.cell (World.block_lt_of_cell? w _ hx278_4)).trans hx278_4
               replace hx278_5 := (HB.out.cell (World.block_lt_of_cell? w _ hx278_5)).trans hx278_5
               replace hx278_6 := (HB.out.cell (World.block_lt_of_cell? w _ hx278_6)).trans hx278_6
               replace hx278_7 := (HB.out.cell (World.block_lt_of_cell? w _ hx278_7)).trans hx278_7
               replace hx278_8 := (HB.out.cell (World.block_lt_of_cell? w _ hx278_8)).trans hx278_8
               replace p278 := eq_true p278
               replace q278 := eq_true q278
               have p279 : 0 ≤ (x3_1 : Int) := of_decide_eq_true (by first | (with_reducible assumption) | assumption)
               have q279 : x3_1 < (l0.length : Int) := of_decide_eq_true (by first | (with_reducible assumption) | assumption)
               obtain ⟨ad279, e279, hx279_0, hx279_1, hx279_2, hx279_3, hx279_4, hx279_5, hx279_6, hx279_7, hx279_8⟩ := at_T77 HR0.out x3_1 p279 q279
               obtain rfl : ad278 = ad279 := (by injection e279)
               replace hx279_0 := (HB.out.cell (World.block_lt_of_cell? w _ hx279_0)).trans hx279_0
               replace hx279_1 := (HB.out.cell (World.block_lt_of_cell? w _ hx279_1)).trans hx279_1
               replace hx279_2 := (HB.out.cell (World.block_lt_of_cell? w _ hx279_2)).trans hx279_2
               replace hx279_3 := (HB.out.cell (World.block_lt_of_cell? w _ hx279_3)).trans hx279_3
               replace hx279_4 := (HB.out.cell (World.block_lt_of_cell? w _ hx279_4)).trans hx279_4
               replace hx279_5 := (HB.out.cell (World.block_lt_of_cell? w _ hx279_5)).trans hx279_5
               replace hx279_6 := (HB.out.cell (World.block_lt_of_cell? w _ hx279_6)).trans hx279_6
               replace hx279_7 := (HB.out.cell (World.block_lt_of_cell? w _ hx279_7)).trans hx279_7
               replace hx279_8 := (HB.out.cell (World.block_lt_of_cell? w _ hx279_8)).trans hx279_8
               replace p279 := eq_true p279
               replace q279 := eq_true q279
               go_wp2
               repeat (go_quiet (fail); try go_wp2)
               go_roundg k3
               case measure => have := HK1.out; have := HJ2.out; have := HK3.out; omega
               case rel => exact ⟨(wrap64 (x4_3 + 1)), (by first | rfl | (simp; done) | (simp [*]; done) | (simp; exact (by intro l; cases l <;> rfl : ∀ l : List UInt8, l.isEmpty = !(l != [])) _)), H', ⟨by have := HK1.out; have := HJ2.out; have := HK3.out; omega⟩, ⟨by repeat (first | (with_reducible first | exact HB.out | apply below_alloc | apply pw_below_drewN | apply below_drew1) | exact HB.out)⟩⟩
             ·rw [if_neg c14] at H
              exact absurd H (by simp)
            ·rw [if_neg c13] at H
             exact absurd H (by simp)
           ·rw [if_neg c12] at H
            exact absurd H (by simp)
          ·rw [if_neg c11] at H
           exact absurd H (by simp)
         ·rw [if_neg c10] at H
          have c10b0 : decide (x4_3 < x3_1) = false := decide_eq_false c10
          clear c10
          have H' := Aside0.mk H
          clear H
          go_wp2
          repeat (go_quiet (fail); try go_wp2)
          go_roundg k3
          case measure => have := HK1.out; have := HJ2.out; have := HK3.out; omega
          case rel => exact ⟨(wrap64 (x3_1 + 1)), (by first | rfl | (simp; done) | (simp [*]; done) | (simp; exact (by intro l; cases l <;> rfl : ∀ l : List UInt8, l.isEmpty = !(l != [])) _)), H', ⟨by have := HK1.out; have := HJ2.out; have := HK3.out; omega⟩, ⟨by repeat (first | (with_reducible first | exact HB.out | apply below_alloc | apply pw_below_drewN | apply below_drew1) | exact HB.out)⟩⟩
   ·rw [if_neg c2] at H
    have c2b0 : decide (x3_1 < (l0.length : Int)) = false := decide_eq_false c2
    clear c2
    obtain rfl := Option.some.inj H
    go_wp2
    repeat (go_quiet (fail); try go_wp2)
    go_ret
    exact ⟨by first | rfl | (simp [errW_none, errW_some] <;> rfl) | (simp [*, errW_none, errW_some] <;> rfl), by repeat (first | (with_reducible first | exact HB.out | apply below_alloc | apply pw_below_drewN | apply below_drew1) | exact HB.out)⟩

/-! ### spec_l07Best: function 37 -/
def spec_l07Best.l0 : Nat → List (S77) → Int → Int → Int → Bool → Int → Int → Int → Int → Int → Int → Int → ByteArray → ByteArray → ByteArray → Option (Int × Int × Int × Int × Int × Int × ByteArray × ByteArray × ByteArray × Bool)
 | 0, _, _, _, _, _, _, _, _, _, _, _, _, _, _, _ => none
 | k + 1, x0, x1, x2, x3, x11, x12, x284000, x284001, x284002, x284003, x284004, x284005, x284006, x284007, x284008 => if x12 < (x0.length : Int) then (if 0 ≤ x12 then (if ((rd_T77 x0 x12).f1.f0) = x1 then (if ((rd_T77 x0 x12).f1.f1) = x2 then (if ((rd_T77 x0 x12).f1.f2) = x3 then (if x11 = true then (if ((rd_T77 x0 x12).f0) > x284000 then (spec_l07Best.l0 k x0 x1 x2 x3 true (wrap64 (x12 + 1)) ((rd_T77 x0 x12).f0) ((rd_T77 x0 x12).f1.f0) ((rd_T77 x0 x12).f1.f1) ((rd_T77 x0 x12).f1.f2) ((rd_T77 x0 x12).f1.f3) ((rd_T77 x0 x12).f1.f4) ((rd_T77 x0 x12).f1.f5) ((rd_T77 x0 x12).f1.f6) ((rd_T77 x0 x12).f1.f7)) else (spec_l07Best.l0 k x0 x1 x2 x3 x11 (wrap64 (x12 + 1)) x284000 x284001 x284002 x284003 x284004 x284005 x284006 x284007 x284008)) else (spec_l07Best.l0 k x0 x1 x2 x3 true (wrap64 (x12 + 1)) ((rd_T77 x0 x12).f0) ((rd_T77 x0 x12).f1.f0) ((rd_T77 x0 x12).f1.f1) ((rd_T77 x0 x12).f1.f2) ((rd_T77 x0 x12).f1.f3) ((rd_T77 x0 x12).f1.f4) ((rd_T77 x0 x12).f1.f5) ((rd_T77 x0 x12).f1.f6) ((rd_T77 x0 x12).f1.f7))) else (spec_l07Best.l0 k x0 x1 x2 x3 x11 (wrap64 (x12 + 1)) x284000 x284001 x284002 x284003 x284004 x284005 x284006 x284007 x284008)) else (spec_l07Best.l0 k x0 x1 x2 x3 x11 (wrap64 (x12 + 1)) x284000 x284001 x284002 x284003 x284004 x284005 x284006 x284007 x284008)) else (spec_l07Best.l0 k x0 x1 x2 x3 x11 (wrap64 (x12 + 1)) x284000 x284001 x284002 x284003 x284004 x284005 x284006 x284007 x284008)) else (none)) else (some (x284000, x284001, x284002, x284003, x284004, x284005, x284006, x284007, x284008, x11))
def spec_l07Best.f (k : Nat) (l0 : List (S77)) (a1 : Int) (a2 : Int) (a3 : Int) : Option (Int × Int × Int × Int × Int × Int × ByteArray × ByteArray × ByteArray × Bool) := spec_l07Best.l0 k l0 a1 a2 a3 false 0 0 0 0 0 0 0 (⟨#[]⟩ : ByteArray) (⟨#[]⟩ : ByteArray) (⟨#[]⟩ : ByteArray)
theorem spec_l07Best.mono_l : ∀ k, (∀ y0 y1 y2 y3 y4 y5 y6 y7 y8 y9 y10 y11 y12 y13 y14, LeO (spec_l07Best.l0 k y0 y1 y2 y3 y4 y5 y6 y7 y8 y9 y10 y11 y12 y13 y14) (spec_l07Best.l0 (k + 1) y0 y1 y2 y3 y4 y5 y6 y7 y8 y9 y10 y11 y12 y13 y14))
 | 0 => fun _ _ _ _ _ _ _ _ _ _ _ _ _ _ _ r h => by simp [spec_l07Best.l0] at h
 | k + 1 => by
  have ih0 := spec_l07Best.mono_l k
  ·intro y0 y1 y2 y3 y4 y5 y6 y7 y8 y9 y10 y11 y12 y13 y14
   unfold spec_l07Best.l0
   repeat' first
   | (with_reducible exact ih0 _ _ _ _ _ _ _ _ _ _ _ _ _ _ _)
   | (with_reducible exact LeO.refl _)
   | (with_reducible exact LeO.none _)
   | (with_reducible refine LeO.ite ?_ ?_)
   | (with_reducible refine LeO.bind ?_ (fun _ => ?_))
   | exact ih0 _ _ _ _ _ _ _ _ _ _ _ _ _ _ _
   | exact LeO.none _
   | refine LeO.ite ?_ ?_
   | refine LeO.bind ?_ (fun _ => ?_)
theorem spec_l07Best.mono : ∀ a0 a1 a2 a3 k, LeO (spec_l07Best.f k a0 a1 a2 a3) (spec_l07Best.f (k + 1) a0 a1 a2 a3) := by
 intro a0 a1 a2 a3 k
 have ih0 := spec_l07Best.mono_l k
 unfold spec_l07Best.f
 repeat' first
   | (with_reducible exact ih0 _ _ _ _ _ _ _ _ _ _ _ _ _ _ _)
   | (with_reducible exact LeO.refl _)
   | (with_reducible exact LeO.none _)
   | (with_reducible refine LeO.ite ?_ ?_)
   | (with_reducible refine LeO.bind ?_ (fun _ => ?_))
   | exact ih0 _ _ _ _ _ _ _ _ _ _ _ _ _ _ _
   | exact LeO.none _
   | refine LeO.ite ?_ ?_
   | refine LeO.bind ?_ (fun _ => ?_)
set_option maxHeartbeats 8000000 in
set_option maxRecDepth 100000 in
theorem spec_l07Best.calls (k : Nat) (A0 : Option Addr) (c0 : Nat) (l0 : List (S77)) (a1 : Int) (a2 : Int) (a3 : Int) (r1 : Int) (r2 : Int) (r3 : Int) (r4 : Int) (r5 : Int) (r6 : Int) (r7 : ByteArray) (r8 : ByteArray) (r9 : ByteArray) (r10 : Bool) (w : World) (hr0 : Kd.C k77 w A0 l0.length l0) (hc0 : l0.length ≤ c0) (h : spec_l07Best.f k l0 a1 a2 a3 = some (r1, r2, r3, r4, r5, r6, r7, r8, r9, r10)) :
  Calls Tryd.prog 37 #[.slice A0 l0.length c0, .int .i64 a1, .int .i64 a2, .int .i64 a3] w fun e w' => e = .returned (.tuple #[.agg #[.int .i64 r1, .int .i64 r2, .int .i64 r3, .int .i64 r4, .int .i64 r5, .int .i64 r6, .string r7, .string r8, .string r9], .bool r10]) ∧ Below w.heap.size w w' := by
 have hu77 := Tryd.underlying77
 have HR0 := Aside0.mk hr0
 have HC0 := Aside0.mk hc0
 clear hr0 hc0
 have HB := Aside0.mk (Below.refl w.heap.size w)
 have H : (spec_l07Best.l0 k l0 a1 a2 a3 false 0 0 0 0 0 0 0 (⟨#[]⟩ : ByteArray) (⟨#[]⟩ : ByteArray) (⟨#[]⟩ : ByteArray)) = some (r1, r2, r3, r4, r5, r6, r7, r8, r9, r10) := h
 clear h
 have H' := Aside0.mk H
 clear H
 go_enter Tryd.func37, Tryd.ntmps37
 go_wp2_with (first | ((with_reducible refine gate_dst (N := 56) rfl ?_); refine wpList_load_row rfl 77 (.tmp 10) rfl _ rfl 77 _ (0, 0) _ BK283.out hu77 rfl (by first | kernel_rfl) ?_) | ((with_reducible refine gate_dst (N := 8) rfl ?_); refine box_event ?hg (N := 8) ?hd (cs := #[.int .i64 0, .int .i64 0, .int .i64 0, .int .i64 0, .int .i64 0, .int .i64 0, .string (⟨#[]⟩ : ByteArray), .string (⟨#[]⟩ : ByteArray), .string (⟨#[]⟩ : ByteArray)]) (t := 77) ?hr ?_; (case hd => rfl); (case hg => rfl); (case hr => first | (go_simp; done) | (go_simp; rfl)); intro gb282 hg w5 hbox hb; have n0_ := Aside0.mk (below_step HB.out hb); have n1_ := Aside0.mk (hbox); have n2_ := Aside0.mk ((by rw [hg]; exact (below_size HB.out) : w.heap.size ≤ gb282)); have n3_ := Aside0.mk ((by rw [hg]; exact (below_size HB.out) : w.heap.size ≤ gb282)); clear HB; have HB := n0_; have BK282 := n1_; have GW282 := n2_; have GE282 := n3_; clear n0_ n1_ n2_ n3_; clear hb hbox hg) | ((with_reducible refine gate_dst (N := 10) rfl ?_); refine Go.Proofs.YtenedfmmjfgbaaaDoorR.box_full_event ?hg ?hg2 (N := 10) ?hd ?hd2 (t := 77) (v := ?vof10) ?ho (cs := #[.int .i64 0, .int .i64 0, .int .i64 0, .int .i64 0, .int .i64 0, .int .i64 0, .string (⟨#[]⟩ : ByteArray), .string (⟨#[]⟩ : ByteArray), .string (⟨#[]⟩ : ByteArray)]) (cells := #[.int .i64 0, .int .i64 0, .int .i64 0, .int .i64 0, .int .i64 0, .int .i64 0, .string (⟨#[]⟩ : ByteArray), .string (⟨#[]⟩ : ByteArray), .string (⟨#[]⟩ : ByteArray)]) ?hi ?hs ?h1 ?hr ?hx ?hv ?_; (case hd => rfl); (case hd2 => rfl); (case ho => rfl); (case hg => rfl); (case hg2 => rfl); (case hi => kernel_rfl); (case hs => rfl); (case h1 => first | kernel_rfl | rfl); (case hx => intro p_; first | rfl | (go_simp; done) | (go_simp; rfl)); (case hv => intro p_; first | rfl | (go_simp; done) | (go_simp; rfl)); (case hr => first | (go_simp; done) | (go_simp; rfl)); intro gb283 hg w6 hbox hb; have n0_ := Aside0.mk (blk_below BK282.out hb); have n1_ := Aside0.mk (below_step HB.out hb); have n2_ := Aside0.mk (hbox); have n3_ := Aside0.mk ((by rw [hg]; exact (below_size HB.out) : w.heap.size ≤ gb283)); have n4_ := Aside0.mk ((by rw [hg]; exact (below_size HB.out) : w.heap.size ≤ gb283)); have n5_ := Aside0.mk ((by rw [hg]; exact Nat.ne_of_lt (blk_lt (g := gb282) (o := .cells #[.int .i64 0, .int .i64 0, .int .i64 0, .int .i64 0, .int .i64 0, .int .i64 0, .string (⟨#[]⟩ : ByteArray), .string (⟨#[]⟩ : ByteArray), .string (⟨#[]⟩ : ByteArray)] 77 (0, 0)) (by (with_reducible repeat (first | refine blk_drewN ?_ _ | refine blk_drew ?_ | refine blk_alloc ?_ _)); exact BK282.out)) : gb282 ≠ gb283)); have n6_ := Aside0.mk ((by rw [hg]; exact Nat.ne_of_gt (blk_lt (g := gb282) (o := .cells #[.int .i64 0, .int .i64 0, .int .i64 0, .int .i64 0, .int .i64 0, .int .i64 0, .string (⟨#[]⟩ : ByteArray), .string (⟨#[]⟩ : ByteArray), .string (⟨#[]⟩ : ByteArray)] 77 (0, 0)) (by (with_reducible repeat (first | refine blk_drewN ?_ _ | refine blk_drew ?_ | refine blk_alloc ?_ _)); exact BK282.out)) : gb283 ≠ gb282)); clear BK282; clear HB; have BK282 := n0_; have HB := n1_; have BK283 := n2_; have GW283 := n3_; have GE283 := n4_; have NB282_283 := n5_; have NB283_282 := n6_; clear n0_ n1_ n2_ n3_ n4_ n5_ n6_; clear hb hbox hg))
 go_loopg [11, 12] k (fun kq v11 v12 w' => ∃ (x11_1 : Bool) (x12_1 : Int) (x284000_1 : Int) (x284001_1 : Int) (x284002_1 : Int) (x284003_1 : Int) (x284004_1 : Int) (x284005_1 : Int) (x284006_1 : ByteArray) (x284007_1 : ByteArray) (x284008_1 : ByteArray), v11 = .bool x11_1 ∧ v12 = .int .i64 x12_1 ∧ Aside0 (spec_l07Best.l0 kq l0 a1 a2 a3 x11_1 x12_1 x284000_1 x284001_1 x284002_1 x284003_1 x284004_1 x284005_1 x284006_1 x284007_1 x284008_1 = some (r1, r2, r3, r4, r5, r6, r7, r8, r9, r10)) ∧ Aside0 (kq ≤ k) ∧ Aside0 (w'.heap[gb282]? = some (.cells #[.int .i64 0, .int .i64 0, .int .i64 0, .int .i64 0, .int .i64 0, .int .i64 0, .string (⟨#[]⟩ : ByteArray), .string (⟨#[]⟩ : ByteArray), .string (⟨#[]⟩ : ByteArray)] 77 (0, 0))) ∧ Aside0 (w'.heap[gb283]? = some (.cells #[.int .i64 x284000_1, .int .i64 x284001_1, .int .i64 x284002_1, .int .i64 x284003_1, .int .i64 x284004_1, .int .i64 x284005_1, .string x284006_1, .string x284007_1, .string x284008_1] 77 (0, 0))) ∧ Aside0 (Below w.heap.size w w'))
 case atStart => exact ⟨(false), (0), (0), (0), (0), (0), (0), (0), ((⟨#[]⟩ : ByteArray)), ((⟨#[]⟩ : ByteArray)), ((⟨#[]⟩ : ByteArray)), (by first | rfl | (simp; done) | (simp [*]; done) | (simp; exact (by intro l; cases l <;> rfl : ∀ l : List UInt8, l.isEmpty = !(l != [])) _)), (by first | rfl | (simp; done) | (simp [*]; done) | (simp; exact (by intro l; cases l <;> rfl : ∀ l : List UInt8, l.isEmpty = !(l != [])) _)), H', ⟨Nat.le_refl _⟩, ⟨by (with_reducible repeat (first | refine blk_drewN ?_ _ | refine blk_drew ?_ | refine blk_alloc ?_ _)); exact BK282.out⟩, ⟨by (with_reducible repeat (first | refine blk_drewN ?_ _ | refine blk_drew ?_ | refine blk_alloc ?_ _)); exact BK283.out⟩, ⟨by repeat (first | (with_reducible first | exact HB.out | apply below_alloc | apply pw_below_drewN | apply below_drew1 | refine below_set ?_ GE282.out | refine below_set ?_ GE283.out) | exact HB.out)⟩⟩
 case round =>
  clear H'
  try clear p2
  try clear c3
  obtain ⟨x11_1, x12_1, x284000_1, x284001_1, x284002_1, x284003_1, x284004_1, x284005_1, x284006_1, x284007_1, x284008_1, rfl, rfl, HA, HK1, BK282, BK283, HB⟩ := hrel
  cases gk with
  | zero => exact absurd HA.out (by simp [spec_l07Best.l0])
  | succ k1 =>
   have H := HA.out
   clear HA
   simp only [spec_l07Best.l0] at H
   by_cases c7 : x12_1 < (l0.length : Int)
   ·rw [if_pos c7] at H
    have c7b0 : decide (x12_1 < (l0.length : Int)) = true := decide_eq_true c7
    clear c7
    by_cases c8 : 0 ≤ x12_1
    ·rw [if_pos c8] at H
     have c8b0 : decide (0 ≤ x12_1) = true := decide_eq_true c8
     clear c8
     by_cases c9 : ((rd_T77 l0 x12_1).f1.f0) = a1
     ·rw [if_pos c9] at H
      have c9b0 : (((rd_T77 l0 x12_1).f1.f0) == a1) = true := beq_iff_eq.mpr c9
      have c9b1 : (((rd_T77 l0 x12_1).f1.f0) != a1) = false := bne_eq_false_iff_eq.mpr c9
      clear c9
      by_cases c10 : ((rd_T77 l0 x12_1).f1.f1) = a2
      ·rw [if_pos c10] at H
       have c10b0 : (((rd_T77 l0 x12_1).f1.f1) == a2) = true := beq_iff_eq.mpr c10
       have c10b1 : (((rd_T77 l0 x12_1).f1.f1) != a2) = false := bne_eq_false_iff_eq.mpr c10
       clear c10
       by_cases c11 : ((rd_T77 l0 x12_1).f1.f2) = a3
       ·rw [if_pos c11] at H
        have c11b0 : (((rd_T77 l0 x12_1).f1.f2) == a3) = true := beq_iff_eq.mpr c11
        have c11b1 : (((rd_T77 l0 x12_1).f1.f2) != a3) = false := bne_eq_false_iff_eq.mpr c11
        clear c11
        by_cases c12 : x11_1 = true
        ·subst c12
         (try rw [if_pos rfl] at H)
         by_cases c13 : ((rd_T77 l0 x12_1).f0) > x284000_1
         ·rw [if_pos c13] at H
          have c13b0 : decide (x284000_1 < ((rd_T77 l0 x12_1).f0)) = true := decide_eq_true c13
          clear c13
          have H' := Aside0.mk H
          clear H
          have p284 : 0 ≤ (x12_1 : Int) := of_decide_eq_true (by first | (with_reducible assumption) | assumption)
          have q284 : x12_1 < (l0.length : Int) := of_decide_eq_true (by first | (with_reducible assumption) | assumption)
          obtain ⟨ad284, e284, hx284_0, hx284_1, hx284_2, hx284_3, hx284_4, hx284_5, hx284_6, hx284_7, hx284_8⟩ := at_T77 HR0.out x12_1 p284 q284
          cases e284
          replace hx284_0 := (HB.out.cell (World.block_lt_of_cell? w _ hx284_0)).trans hx284_0
          replace hx284_1 := (HB.out.cell (World.block_lt_of_cell? w _ hx284_1)).trans hx284_1
          replace hx284_2 := (HB.out.cell (World.block_lt_of_cell? w _ hx284_2)).trans hx284_2
          replace hx284_3 := (HB.out.cell (World.block_lt_of_cell? w _ hx284_3)).trans hx284_3
          replace hx284_4 := (HB.out.cell (World.block_lt_of_cell? w _ hx284_4)).trans hx284_4
          replace hx284_5 := (HB.out.cell (World.block_lt_of_cell? w _ hx284_5)).trans hx284_5
          replace hx284_6 := (HB.out.cell (World.block_lt_of_cell? w _ hx284_6)).trans hx284_6
          replace hx284_7 := (HB.out.cell (World.block_lt_of_cell? w _ hx284_7)).trans hx284_7
          replace hx284_8 := (HB.out.cell (World.block_lt_of_cell? w _ hx284_8)).trans hx284_8
          replace p284 := eq_true p284
          replace q284 := eq_true q284
          go_wp2_with (first | ((with_reducible refine gate_dst (N := 55) rfl ?_); refine wpList_load_row rfl 77 (.tmp 13) rfl _ rfl 77 _ (0, 0) _ BK285.out hu77 rfl (by first | kernel_rfl) ?_) | ((with_reducible refine gate_dst (N := 56) rfl ?_); refine wpList_load_row rfl 77 (.tmp 10) rfl _ rfl 77 _ (0, 0) _ BK283.out hu77 rfl (by first | kernel_rfl) ?_) | ((with_reducible refine gate_dst (N := 13) rfl ?_); refine Go.Proofs.YtenedfmmjfgbaaaDoorR.box_full_event ?hg ?hg2 (N := 13) ?hd ?hd2 (t := 77) (v := ?vof13) ?ho (cs := #[.int .i64 0, .int .i64 0, .int .i64 0, .int .i64 0, .int .i64 0, .int .i64 0, .string (⟨#[]⟩ : ByteArray), .string (⟨#[]⟩ : ByteArray), .string (⟨#[]⟩ : ByteArray)]) (cells := #[.int .i64 ((rd_T77 l0 x12_1).f0), .int .i64 ((rd_T77 l0 x12_1).f1.f0), .int .i64 ((rd_T77 l0 x12_1).f1.f1), .int .i64 ((rd_T77 l0 x12_1).f1.f2), .int .i64 ((rd_T77 l0 x12_1).f1.f3), .int .i64 ((rd_T77 l0 x12_1).f1.f4), .string ((rd_T77 l0 x12_1).f1.f5), .string ((rd_T77 l0 x12_1).f1.f6), .string ((rd_T77 l0 x12_1).f1.f7)]) ?hi ?hs ?h1 ?hr ?hx ?hv ?_; (case hd => rfl); (case hd2 => rfl); (case ho => rfl); (case hg => rfl); (case hg2 => rfl); (case hi => kernel_rfl); (case hs => rfl); (case h1 => first | kernel_rfl | rfl); (case hx => intro p_; first | rfl | (go_simp; done) | (go_simp; rfl)); (case hv => intro p_; first | rfl | (go_simp; done) | (go_simp; rfl)); (case hr => first | (go_simp; done) | (go_simp; rfl)); intro gb285 hg w14 hbox hb; have n0_ := Aside0.mk (blk_below BK282.out hb); have n1_ := Aside0.mk (blk_below BK283.out hb); have n2_ := Aside0.mk (below_step HB.out hb); have n3_ := Aside0.mk (hbox); have n4_ := Aside0.mk ((by rw [hg]; exact (below_size HB.out) : w.heap.size ≤ gb285)); have n5_ := Aside0.mk ((by rw [hg]; exact (below_size HB.out) : w.heap.size ≤ gb285)); have n6_ := Aside0.mk ((by rw [hg]; exact Nat.ne_of_lt (blk_lt (g := gb282) (o := .cells #[.int .i64 0, .int .i64 0, .int .i64 0, .int .i64 0, .int .i64 0, .int .i64 0, .string (⟨#[]⟩ : ByteArray), .string (⟨#[]⟩ : ByteArray), .string (⟨#[]⟩ : ByteArray)] 77 (0, 0)) (by (with_reducible repeat (first | refine blk_drewN ?_ _ | refine blk_drew ?_ | refine blk_alloc ?_ _)); exact BK282.out)) : gb282 ≠ gb285)); have n7_ := Aside0.mk ((by rw [hg]; exact Nat.ne_of_gt (blk_lt (g := gb282) (o := .cells #[.int .i64 0, .int .i64 0, .int .i64 0, .int .i64 0, .int .i64 0, .int .i64 0, .string (⟨#[]⟩ : ByteArray), .string (⟨#[]⟩ : ByteArray), .string (⟨#[]⟩ : ByteArray)] 77 (0, 0)) (by (with_reducible repeat (first | refine blk_drewN ?_ _ | refine blk_drew ?_ | refine blk_alloc ?_ _)); exact BK282.out)) : gb285 ≠ gb282)); have n8_ := Aside0.mk ((by rw [hg]; exact Nat.ne_of_lt (blk_lt (g := gb283) (o := .cells #[.int .i64 x284000_1, .int .i64 x284001_1, .int .i64 x284002_1, .int .i64 x284003_1, .int .i64 x284004_1, .int .i64 x284005_1, .string x284006_1, .string x284007_1, .string x284008_1] 77 (0, 0)) (by (with_reducible repeat (first | refine blk_drewN ?_ _ | refine blk_drew ?_ | refine blk_alloc ?_ _)); exact BK283.out)) : gb283 ≠ gb285)); have n9_ := Aside0.mk ((by rw [hg]; exact Nat.ne_of_gt (blk_lt (g := gb283) (o := .cells #[.int .i64 x284000_1, .int .i64 x284001_1, .int .i64 x284002_1, .int .i64 x284003_1, .int .i64 x284004_1, .int .i64 x284005_1, .string x284006_1, .string x284007_1, .string x284008_1] 77 (0, 0)) (by (with_reducible repeat (first | refine blk_drewN ?_ _ | refine blk_drew ?_ | refine blk_alloc ?_ _)); exact BK283.out)) : gb285 ≠ gb283)); clear BK282; clear BK283; clear HB; have BK282 := n0_; have BK283 := n1_; have HB := n2_; have BK285 := n3_; have GW285 := n4_; have GE285 := n5_; have NB282_285 := n6_; have NB285_282 := n7_; have NB283_285 := n8_; have NB285_283 := n9_; clear n0_ n1_ n2_ n3_ n4_ n5_ n6_ n7_ n8_ n9_; clear hb hbox hg; have hnb15 := NB285_282.out; have hnc15 := NB282_285.out; have hnb16 := NB285_283.out; have hnc16 := NB283_285.out; have hcz17 := blk_cell BK285.out; have hfz17 := blk_frozen BK285.out; have hnb18 := NB283_282.out; have hnc18 := NB282_283.out; have hcz19 := blk_cell BK283.out; have hfz19 := blk_frozen BK283.out) | ((with_reducible refine gate_store (t := 77) (p := 10) rfl ?_); refine Go.Proofs.YtenedfmmjfgbaaaDoorR.store_part_event ?hg (t := 77) 10 (v := ?vo_w20) ?ho ?hn gb283 0 (.agg #[.int .i64 ((rd_T77 l0 x12_1).f0), .int .i64 ((rd_T77 l0 x12_1).f1.f0), .int .i64 ((rd_T77 l0 x12_1).f1.f1), .int .i64 ((rd_T77 l0 x12_1).f1.f2), .int .i64 ((rd_T77 l0 x12_1).f1.f3), .int .i64 ((rd_T77 l0 x12_1).f1.f4), .string ((rd_T77 l0 x12_1).f1.f5), .string ((rd_T77 l0 x12_1).f1.f6), .string ((rd_T77 l0 x12_1).f1.f7)]) #[.int .i64 ((rd_T77 l0 x12_1).f0), .int .i64 ((rd_T77 l0 x12_1).f1.f0), .int .i64 ((rd_T77 l0 x12_1).f1.f1), .int .i64 ((rd_T77 l0 x12_1).f1.f2), .int .i64 ((rd_T77 l0 x12_1).f1.f3), .int .i64 ((rd_T77 l0 x12_1).f1.f4), .string ((rd_T77 l0 x12_1).f1.f5), .string ((rd_T77 l0 x12_1).f1.f6), .string ((rd_T77 l0 x12_1).f1.f7)] #[.int .i64 x284000_1, .int .i64 x284001_1, .int .i64 x284002_1, .int .i64 x284003_1, .int .i64 x284004_1, .int .i64 x284005_1, .string x284006_1, .string x284007_1, .string x284008_1] #[.int .i64 ((rd_T77 l0 x12_1).f0), .int .i64 ((rd_T77 l0 x12_1).f1.f0), .int .i64 ((rd_T77 l0 x12_1).f1.f1), .int .i64 ((rd_T77 l0 x12_1).f1.f2), .int .i64 ((rd_T77 l0 x12_1).f1.f3), .int .i64 ((rd_T77 l0 x12_1).f1.f4), .string ((rd_T77 l0 x12_1).f1.f5), .string ((rd_T77 l0 x12_1).f1.f6), .string ((rd_T77 l0 x12_1).f1.f7)] 77 ?hx ?hy rfl BK283.out ?hi (Nat.le_of_ble_eq_true rfl) ?h1 ?hc ?_; (case ho => rfl); (case hg => rfl); (case hn => rfl); (case hi => kernel_rfl); (case h1 => first | kernel_rfl | rfl); (case hc => kernel_rfl); (case hx => first | rfl | (go_simp; done) | (go_simp; rfl)); (case hy => first | rfl | (go_simp; done) | (go_simp; rfl)); intro w20 hbox hbut; have n0_ := Aside0.mk ((hbut.other NB282_283.out).trans BK282.out); have n1_ := Aside0.mk (hbox); have n2_ := Aside0.mk ((hbut.other NB285_283.out).trans BK285.out); have n3_ := Aside0.mk (HB.out.trans (hbut.below GE283.out)); clear BK282; clear BK283; clear BK285; clear HB; have BK282 := n0_; have BK283 := n1_; have BK285 := n2_; have HB := n3_; clear n0_ n1_ n2_ n3_; clear hbox hbut))
          go_roundg k1
          case measure => have := HK1.out; omega
          case rel => exact ⟨(true), (wrap64 (x12_1 + 1)), ((rd_T77 l0 x12_1).f0), ((rd_T77 l0 x12_1).f1.f0), ((rd_T77 l0 x12_1).f1.f1), ((rd_T77 l0 x12_1).f1.f2), ((rd_T77 l0 x12_1).f1.f3), ((rd_T77 l0 x12_1).f1.f4), ((rd_T77 l0 x12_1).f1.f5), ((rd_T77 l0 x12_1).f1.f6), ((rd_T77 l0 x12_1).f1.f7), (by first | rfl | (simp; done) | (simp [*]; done) | (simp; exact (by intro l; cases l <;> rfl : ∀ l : List UInt8, l.isEmpty = !(l != [])) _)), (by first | rfl | (simp; done) | (simp [*]; done) | (simp; exact (by intro l; cases l <;> rfl : ∀ l : List UInt8, l.isEmpty = !(l != [])) _)), H', ⟨by have := HK1.out; omega⟩, ⟨by (with_reducible repeat (first | refine blk_drewN ?_ _ | refine blk_drew ?_ | refine blk_alloc ?_ _)); exact BK282.out⟩, ⟨by (with_reducible repeat (first | refine blk_drewN ?_ _ | refine blk_drew ?_ | refine blk_alloc ?_ _)); exact BK283.out⟩, ⟨by repeat (first | (with_reducible first | exact HB.out | apply below_alloc | apply pw_below_drewN | apply below_drew1 | refine below_set ?_ GE282.out | refine below_set ?_ GE283.out | refine below_set ?_ GE285.out) | exact HB.out)⟩⟩
         ·rw [if_neg c13] at H
          have c13b0 : decide (x284000_1 < ((rd_T77 l0 x12_1).f0)) = false := decide_eq_false c13
          clear c13
          have H' := Aside0.mk H
          clear H
          have p284 : 0 ≤ (x12_1 : Int) := of_decide_eq_true (by first | (with_reducible assumption) | assumption)
          have q284 : x12_1 < (l0.length : Int) := of_decide_eq_true (by first | (with_reducible assumption) | assumption)
          obtain ⟨ad284, e284, hx284_0, hx284_1, hx284_2, hx284_3, hx284_4, hx284_5, hx284_6, hx284_7, hx284_8⟩ := at_T77 HR0.out x12_1 p284 q284
          cases e284
          replace hx284_0 := (HB.out.cell (World.block_lt_of_cell? w _ hx284_0)).trans hx284_0
          replace hx284_1 := (HB.out.cell (World.block_lt_of_cell? w _ hx284_1)).trans hx284_1
          replace hx284_2 := (HB.out.cell (World.block_lt_of_cell? w _ hx284_2)).trans hx284_2
          replace hx284_3 := (HB.out.cell (World.block_lt_of_cell? w _ hx284_3)).trans hx284_3
          replace hx284_4 := (HB.out.cell (World.block_lt_of_cell? w _ hx284_4)).trans hx284_4
          replace hx284_5 := (HB.out.cell (World.block_lt_of_cell? w _ hx284_5)).trans hx284_5
          replace hx284_6 := (HB.out.cell (World.block_lt_of_cell? w _ hx284_6)).trans hx284_6
          replace hx284_7 := (HB.out.cell (World.block_lt_of_cell? w _ hx284_7)).trans hx284_7
          replace hx284_8 := (HB.out.cell (World.block_lt_of_cell? w _ hx284_8)).trans hx284_8
          replace p284 := eq_true p284
          replace q284 := eq_true q284
          go_wp2_with (first | ((with_reducible refine gate_dst (N := 55) rfl ?_); refine wpList_load_row rfl 77 (.tmp 13) rfl _ rfl 77 _ (0, 0) _ BK285.out hu77 rfl (by first | kernel_rfl) ?_) | ((with_reducible refine gate_dst (N := 56) rfl ?_); refine wpList_load_row rfl 77 (.tmp 10) rfl _ rfl 77 _ (0, 0) _ BK283.out hu77 rfl (by first | kernel_rfl) ?_) | ((with_reducible refine gate_dst (N := 13) rfl ?_); refine Go.Proofs.YtenedfmmjfgbaaaDoorR.box_full_event ?hg ?hg2 (N := 13) ?hd ?hd2 (t := 77) (v := ?vof13) ?ho (cs := #[.int .i64 0, .int .i64 0, .int .i64 0, .int .i64 0, .int .i64 0, .int .i64 0, .string (⟨#[]⟩ : ByteArray), .string (⟨#[]⟩ : ByteArray), .string (⟨#[]⟩ : ByteArray)]) (cells := #[.int .i64 ((rd_T77 l0 x12_1).f0), .int .i64 ((rd_T77 l0 x12_1).f1.f0), .int .i64 ((rd_T77 l0 x12_1).f1.f1), .int .i64 ((rd_T77 l0 x12_1).f1.f2), .int .i64 ((rd_T77 l0 x12_1).f1.f3), .int .i64 ((rd_T77 l0 x12_1).f1.f4), .string ((rd_T77 l0 x12_1).f1.f5), .string ((rd_T77 l0 x12_1).f1.f6), .string ((rd_T77 l0 x12_1).f1.f7)]) ?hi ?hs ?h1 ?hr ?hx ?hv ?_; (case hd => rfl); (case hd2 => rfl); (case ho => rfl); (case hg => rfl); (case hg2 => rfl); (case hi => kernel_rfl); (case hs => rfl); (case h1 => first | kernel_rfl | rfl); (case hx => intro p_; first | rfl | (go_simp; done) | (go_simp; rfl)); (case hv => intro p_; first | rfl | (go_simp; done) | (go_simp; rfl)); (case hr => first | (go_simp; done) | (go_simp; rfl)); intro gb285 hg w21 hbox hb; have n0_ := Aside0.mk (blk_below BK282.out hb); have n1_ := Aside0.mk (blk_below BK283.out hb); have n2_ := Aside0.mk (below_step HB.out hb); have n3_ := Aside0.mk (hbox); have n4_ := Aside0.mk ((by rw [hg]; exact (below_size HB.out) : w.heap.size ≤ gb285)); have n5_ := Aside0.mk ((by rw [hg]; exact (below_size HB.out) : w.heap.size ≤ gb285)); have n6_ := Aside0.mk ((by rw [hg]; exact Nat.ne_of_lt (blk_lt (g := gb282) (o := .cells #[.int .i64 0, .int .i64 0, .int .i64 0, .int .i64 0, .int .i64 0, .int .i64 0, .string (⟨#[]⟩ : ByteArray), .string (⟨#[]⟩ : ByteArray), .string (⟨#[]⟩ : ByteArray)] 77 (0, 0)) (by (with_reducible repeat (first | refine blk_drewN ?_ _ | refine blk_drew ?_ | refine blk_alloc ?_ _)); exact BK282.out)) : gb282 ≠ gb285)); have n7_ := Aside0.mk ((by rw [hg]; exact Nat.ne_of_gt (blk_lt (g := gb282) (o := .cells #[.int .i64 0, .int .i64 0, .int .i64 0, .int .i64 0, .int .i64 0, .int .i64 0, .string (⟨#[]⟩ : ByteArray), .string (⟨#[]⟩ : ByteArray), .string (⟨#[]⟩ : ByteArray)] 77 (0, 0)) (by (with_reducible repeat (first | refine blk_drewN ?_ _ | refine blk_drew ?_ | refine blk_alloc ?_ _)); exact BK282.out)) : gb285 ≠ gb282)); have n8_ := Aside0.mk ((by rw [hg]; exact Nat.ne_of_lt (blk_lt (g := gb283) (o := .cells #[.int .i64 x284000_1, .int .i64 x284001_1, .int .i64 x284002_1, .int .i64 x284003_1, .int .i64 x284004_1, .int .i64 x284005_1, .string x284006_1, .string x284007_1, .string x284008_1] 77 (0, 0)) (by (with_reducible repeat (first | refine blk_drewN ?_ _ | refine blk_drew ?_ | refine blk_alloc ?_ _)); exact BK283.out)) : gb283 ≠ gb285)); have n9_ := Aside0.mk ((by rw [hg]; exact Nat.ne_of_gt (blk_lt (g := gb283) (o := .cells #[.int .i64 x284000_1, .int .i64 x284001_1, .int .i64 x284002_1, .int .i64 x284003_1, .int .i64 x284004_1, .int .i64 x284005_1, .string x284006_1, .string x284007_1, .string x284008_1] 77 (0, 0)) (by (with_reducible repeat (first | refine blk_drewN ?_ _ | refine blk_drew ?_ | refine blk_alloc ?_ _)); exact BK283.out)) : gb285 ≠ gb283)); clear BK282; clear BK283; clear HB; have BK282 := n0_; have BK283 := n1_; have HB := n2_; have BK285 := n3_; have GW285 := n4_; have GE285 := n5_; have NB282_285 := n6_; have NB285_282 := n7_; have NB283_285 := n8_; have NB285_283 := n9_; clear n0_ n1_ n2_ n3_ n4_ n5_ n6_ n7_ n8_ n9_; clear hb hbox hg; have hnb22 := NB285_282.out; have hnc22 := NB282_285.out; have hnb23 := NB285_283.out; have hnc23 := NB283_285.out; have hcz24 := blk_cell BK285.out; have hfz24 := blk_frozen BK285.out; have hnb25 := NB283_282.out; have hnc25 := NB282_283.out; have hcz26 := blk_cell BK283.out; have hfz26 := blk_frozen BK283.out))
          go_roundg k1
          case measure => have := HK1.out; omega
          case rel => exact ⟨(true), (wrap64 (x12_1 + 1)), (x284000_1), (x284001_1), (x284002_1), (x284003_1), (x284004_1), (x284005_1), (x284006_1), (x284007_1), (x284008_1), (by first | rfl | (simp; done) | (simp [*]; done) | (simp; exact (by intro l; cases l <;> rfl : ∀ l : List UInt8, l.isEmpty = !(l != [])) _)), (by first | rfl | (simp; done) | (simp [*]; done) | (simp; exact (by intro l; cases l <;> rfl : ∀ l : List UInt8, l.isEmpty = !(l != [])) _)), H', ⟨by have := HK1.out; omega⟩, ⟨by (with_reducible repeat (first | refine blk_drewN ?_ _ | refine blk_drew ?_ | refine blk_alloc ?_ _)); exact BK282.out⟩, ⟨by (with_reducible repeat (first | refine blk_drewN ?_ _ | refine blk_drew ?_ | refine blk_alloc ?_ _)); exact BK283.out⟩, ⟨by repeat (first | (with_reducible first | exact HB.out | apply below_alloc | apply pw_below_drewN | apply below_drew1 | refine below_set ?_ GE282.out | refine below_set ?_ GE283.out | refine below_set ?_ GE285.out) | exact HB.out)⟩⟩
        ·replace c12 := Bool.eq_false_iff.mpr c12
         subst c12
         (try rw [if_neg (show ¬ (false = true) by decide)] at H)
         have H' := Aside0.mk H
         clear H
         have p284 : 0 ≤ (x12_1 : Int) := of_decide_eq_true (by first | (with_reducible assumption) | assumption)
         have q284 : x12_1 < (l0.length : Int) := of_decide_eq_true (by first | (with_reducible assumption) | assumption)
         obtain ⟨ad284, e284, hx284_0, hx284_1, hx284_2, hx284_3, hx284_4, hx284_5, hx284_6, hx284_7, hx284_8⟩ := at_T77 HR0.out x12_1 p284 q284
         cases e284
         replace hx284_0 := (HB.out.cell (World.block_lt_of_cell? w _ hx284_0)).trans hx284_0
         replace hx284_1 := (HB.out.cell (World.block_lt_of_cell? w _ hx284_1)).trans hx284_1
         replace hx284_2 := (HB.out.cell (World.block_lt_of_cell? w _ hx284_2)).trans hx284_2
         replace hx284_3 := (HB.out.cell (World.block_lt_of_cell? w _ hx284_3)).trans hx284_3
         replace hx284_4 := (HB.out.cell (World.block_lt_of_cell? w _ hx284_4)).trans hx284_4
         replace hx284_5 := (HB.out.cell (World.block_lt_of_cell? w _ hx284_5)).trans hx284_5
         replace hx284_6 := (HB.out.cell (World.block_lt_of_cell? w _ hx284_6)).trans hx284_6
         replace hx284_7 := (HB.out.cell (World.block_lt_of_cell? w _ hx284_7)).trans hx284_7
         replace hx284_8 := (HB.out.cell (World.block_lt_of_cell? w _ hx284_8)).trans hx284_8
         replace p284 := eq_true p284
         replace q284 := eq_true q284
         go_wp2_with (first | ((with_reducible refine gate_dst (N := 55) rfl ?_); refine wpList_load_row rfl 77 (.tmp 13) rfl _ rfl 77 _ (0, 0) _ BK285.out hu77 rfl (by first | kernel_rfl) ?_) | ((with_reducible refine gate_dst (N := 56) rfl ?_); refine wpList_load_row rfl 77 (.tmp 10) rfl _ rfl 77 _ (0, 0) _ BK283.out hu77 rfl (by first | kernel_rfl) ?_) | ((with_reducible refine gate_dst (N := 13) rfl ?_); refine Go.Proofs.YtenedfmmjfgbaaaDoorR.box_full_event ?hg ?hg2 (N := 13) ?hd ?hd2 (t := 77) (v := ?vof13) ?ho (cs := #[.int .i64 0, .int .i64 0, .int .i64 0, .int .i64 0, .int .i64 0, .int .i64 0, .string (⟨#[]⟩ : ByteArray), .string (⟨#[]⟩ : ByteArray), .string (⟨#[]⟩ : ByteArray)]) (cells := #[.int .i64 ((rd_T77 l0 x12_1).f0), .int .i64 ((rd_T77 l0 x12_1).f1.f0), .int .i64 ((rd_T77 l0 x12_1).f1.f1), .int .i64 ((rd_T77 l0 x12_1).f1.f2), .int .i64 ((rd_T77 l0 x12_1).f1.f3), .int .i64 ((rd_T77 l0 x12_1).f1.f4), .string ((rd_T77 l0 x12_1).f1.f5), .string ((rd_T77 l0 x12_1).f1.f6), .string ((rd_T77 l0 x12_1).f1.f7)]) ?hi ?hs ?h1 ?hr ?hx ?hv ?_; (case hd => rfl); (case hd2 => rfl); (case ho => rfl); (case hg => rfl); (case hg2 => rfl); (case hi => kernel_rfl); (case hs => rfl); (case h1 => first | kernel_rfl | rfl); (case hx => intro p_; first | rfl | (go_simp; done) | (go_simp; rfl)); (case hv => intro p_; first | rfl | (go_simp; done) | (go_simp; rfl)); (case hr => first | (go_simp; done) | (go_simp; rfl)); intro gb285 hg w27 hbox hb; have n0_ := Aside0.mk (blk_below BK282.out hb); have n1_ := Aside0.mk (blk_below BK283.out hb); have n2_ := Aside0.mk (below_step HB.out hb); have n3_ := Aside0.mk (hbox); have n4_ := Aside0.mk ((by rw [hg]; exact (below_size HB.out) : w.heap.size ≤ gb285)); have n5_ := Aside0.mk ((by rw [hg]; exact (below_size HB.out) : w.heap.size ≤ gb285)); have n6_ := Aside0.mk ((by rw [hg]; exact Nat.ne_of_lt (blk_lt (g := gb282) (o := .cells #[.int .i64 0, .int .i64 0, .int .i64 0, .int .i64 0, .int .i64 0, .int .i64 0, .string (⟨#[]⟩ : ByteArray), .string (⟨#[]⟩ : ByteArray), .string (⟨#[]⟩ : ByteArray)] 77 (0, 0)) (by (with_reducible repeat (first | refine blk_drewN ?_ _ | refine blk_drew ?_ | refine blk_alloc ?_ _)); exact BK282.out)) : gb282 ≠ gb285)); have n7_ := Aside0.mk ((by rw [hg]; exact Nat.ne_of_gt (blk_lt (g := gb282) (o := .cells #[.int .i64 0, .int .i64 0, .int .i64 0, .int .i64 0, .int .i64 0, .int .i64 0, .string (⟨#[]⟩ : ByteArray), .string (⟨#[]⟩ : ByteArray), .string (⟨#[]⟩ : ByteArray)] 77 (0, 0)) (by (with_reducible repeat (first | refine blk_drewN ?_ _ | refine blk_drew ?_ | refine blk_alloc ?_ _)); exact BK282.out)) : gb285 ≠ gb282)); have n8_ := Aside0.mk ((by rw [hg]; exact Nat.ne_of_lt (blk_lt (g := gb283) (o := .cells #[.int .i64 x284000_1, .int .i64 x284001_1, .int .i64 x284002_1, .int .i64 x284003_1, .int .i64 x284004_1, .int .i64 x284005_1, .string x284006_1, .string x284007_1, .string x284008_1] 77 (0, 0)) (by (with_reducible repeat (first | refine blk_drewN ?_ _ | refine blk_drew ?_ | refine blk_alloc ?_ _)); exact BK283.out)) : gb283 ≠ gb285)); have n9_ := Aside0.mk ((by rw [hg]; exact Nat.ne_of_gt (blk_lt (g := gb283) (o := .cells #[.int .i64 x284000_1, .int .i64 x284001_1, .int .i64 x284002_1, .int .i64 x284003_1, .int .i64 x284004_1, .int .i64 x284005_1, .string x284006_1, .string x284007_1, .string x284008_1] 77 (0, 0)) (by (with_reducible repeat (first | refine blk_drewN ?_ _ | refine blk_drew ?_ | refine blk_alloc ?_ _)); exact BK283.out)) : gb285 ≠ gb283)); clear BK282; clear BK283; clear HB; have BK282 := n0_; have BK283 := n1_; have HB := n2_; have BK285 := n3_; have GW285 := n4_; have GE285 := n5_; have NB282_285 := n6_; have NB285_282 := n7_; have NB283_285 := n8_; have NB285_283 := n9_; clear n0_ n1_ n2_ n3_ n4_ n5_ n6_ n7_ n8_ n9_; clear hb hbox hg; have hnb28 := NB285_282.out; have hnc28 := NB282_285.out; have hnb29 := NB285_283.out; have hnc29 := NB283_285.out; have hcz30 := blk_cell BK285.out; have hfz30 := blk_frozen BK285.out) | ((with_reducible refine gate_store (t := 77) (p := 10) rfl ?_); refine Go.Proofs.YtenedfmmjfgbaaaDoorR.store_part_event ?hg (t := 77) 10 (v := ?vo_w31) ?ho ?hn gb283 0 (.agg #[.int .i64 ((rd_T77 l0 x12_1).f0), .int .i64 ((rd_T77 l0 x12_1).f1.f0), .int .i64 ((rd_T77 l0 x12_1).f1.f1), .int .i64 ((rd_T77 l0 x12_1).f1.f2), .int .i64 ((rd_T77 l0 x12_1).f1.f3), .int .i64 ((rd_T77 l0 x12_1).f1.f4), .string ((rd_T77 l0 x12_1).f1.f5), .string ((rd_T77 l0 x12_1).f1.f6), .string ((rd_T77 l0 x12_1).f1.f7)]) #[.int .i64 ((rd_T77 l0 x12_1).f0), .int .i64 ((rd_T77 l0 x12_1).f1.f0), .int .i64 ((rd_T77 l0 x12_1).f1.f1), .int .i64 ((rd_T77 l0 x12_1).f1.f2), .int .i64 ((rd_T77 l0 x12_1).f1.f3), .int .i64 ((rd_T77 l0 x12_1).f1.f4), .string ((rd_T77 l0 x12_1).f1.f5), .string ((rd_T77 l0 x12_1).f1.f6), .string ((rd_T77 l0 x12_1).f1.f7)] #[.int .i64 x284000_1, .int .i64 x284001_1, .int .i64 x284002_1, .int .i64 x284003_1, .int .i64 x284004_1, .int .i64 x284005_1, .string x284006_1, .string x284007_1, .string x284008_1] #[.int .i64 ((rd_T77 l0 x12_1).f0), .int .i64 ((rd_T77 l0 x12_1).f1.f0), .int .i64 ((rd_T77 l0 x12_1).f1.f1), .int .i64 ((rd_T77 l0 x12_1).f1.f2), .int .i64 ((rd_T77 l0 x12_1).f1.f3), .int .i64 ((rd_T77 l0 x12_1).f1.f4), .string ((rd_T77 l0 x12_1).f1.f5), .string ((rd_T77 l0 x12_1).f1.f6), .string ((rd_T77 l0 x12_1).f1.f7)] 77 ?hx ?hy rfl BK283.out ?hi (Nat.le_of_ble_eq_true rfl) ?h1 ?hc ?_; (case ho => rfl); (case hg => rfl); (case hn => rfl); (case hi => kernel_rfl); (case h1 => first | kernel_rfl | rfl); (case hc => kernel_rfl); (case hx => first | rfl | (go_simp; done) | (go_simp; rfl)); (case hy => first | rfl | (go_simp; done) | (go_simp; rfl)); intro w31 hbox hbut; have n0_ := Aside0.mk ((hbut.other NB282_283.out).trans BK282.out); have n1_ := Aside0.mk (hbox); have n2_ := Aside0.mk ((hbut.other NB285_283.out).trans BK285.out); have n3_ := Aside0.mk (HB.out.trans (hbut.below GE283.out)); clear BK282; clear BK283; clear BK285; clear HB; have BK282 := n0_; have BK283 := n1_; have BK285 := n2_; have HB := n3_; clear n0_ n1_ n2_ n3_; clear hbox hbut))
         go_roundg k1
         case measure => have := HK1.out; omega
         case rel => exact ⟨(true), (wrap64 (x12_1 + 1)), ((rd_T77 l0 x12_1).f0), ((rd_T77 l0 x12_1).f1.f0), ((rd_T77 l0 x12_1).f1.f1), ((rd_T77 l0 x12_1).f1.f2), ((rd_T77 l0 x12_1).f1.f3), ((rd_T77 l0 x12_1).f1.f4), ((rd_T77 l0 x12_1).f1.f5), ((rd_T77 l0 x12_1).f1.f6), ((rd_T77 l0 x12_1).f1.f7), (by first | rfl | (simp; done) | (simp [*]; done) | (simp; exact (by intro l; cases l <;> rfl : ∀ l : List UInt8, l.isEmpty = !(l != [])) _)), (by first | rfl | (simp; done) | (simp [*]; done) | (simp; exact (by intro l; cases l <;> rfl : ∀ l : List UInt8, l.isEmpty = !(l != [])) _)), H', ⟨by have := HK1.out; omega⟩, ⟨by (with_reducible repeat (first | refine blk_drewN ?_ _ | refine blk_drew ?_ | refine blk_alloc ?_ _)); exact BK282.out⟩, ⟨by (with_reducible repeat (first | refine blk_drewN ?_ _ | refine blk_drew ?_ | refine blk_alloc ?_ _)); exact BK283.out⟩, ⟨by repeat (first | (with_reducible first | exact HB.out | apply below_alloc | apply pw_below_drewN | apply below_drew1 | refine below_set ?_ GE282.out | refine below_set ?_ GE283.out | refine below_set ?_ GE285.out) | exact HB.out)⟩⟩
       ·rw [if_neg c11] at H
        have c11b0 : (((rd_T77 l0 x12_1).f1.f2) == a3) = false := beq_eq_false_iff_ne.mpr c11
        have c11b1 : (((rd_T77 l0 x12_1).f1.f2) != a3) = true := bne_iff_ne.mpr c11
        have H' := Aside0.mk H
        clear H
        have p284 : 0 ≤ (x12_1 : Int) := of_decide_eq_true (by first | (with_reducible assumption) | assumption)
        have q284 : x12_1 < (l0.length : Int) := of_decide_eq_true (by first | (with_reducible assumption) | assumption)
        obtain ⟨ad284, e284, hx284_0, hx284_1, hx284_2, hx284_3, hx284_4, hx284_5, hx284_6, hx284_7, hx284_8⟩ := at_T77 HR0.out x12_1 p284 q284
        cases e284
        replace hx284_0 := (HB.out.cell (World.block_lt_of_cell? w _ hx284_0)).trans hx284_0
        replace hx284_1 := (HB.out.cell (World.block_lt_of_cell? w _ hx284_1)).trans hx284_1
        replace hx284_2 := (HB.out.cell (World.block_lt_of_cell? w _ hx284_2)).trans hx284_2
        replace hx284_3 := (HB.out.cell (World.block_lt_of_cell? w _ hx284_3)).trans hx284_3
        replace hx284_4 := (HB.out.cell (World.block_lt_of_cell? w _ hx284_4)).trans hx284_4
        replace hx284_5 := (HB.out.cell (World.block_lt_of_cell? w _ hx284_5)).trans hx284_5
        replace hx284_6 := (HB.out.cell (World.block_lt_of_cell? w _ hx284_6)).trans hx284_6
        replace hx284_7 := (HB.out.cell (World.block_lt_of_cell? w _ hx284_7)).trans hx284_7
        replace hx284_8 := (HB.out.cell (World.block_lt_of_cell? w _ hx284_8)).trans hx284_8
        replace p284 := eq_true p284
        replace q284 := eq_true q284
        go_wp2_with (first | ((with_reducible refine gate_dst (N := 55) rfl ?_); refine wpList_load_row rfl 77 (.tmp 13) rfl _ rfl 77 _ (0, 0) _ BK285.out hu77 rfl (by first | kernel_rfl) ?_) | ((with_reducible refine gate_dst (N := 56) rfl ?_); refine wpList_load_row rfl 77 (.tmp 10) rfl _ rfl 77 _ (0, 0) _ BK283.out hu77 rfl (by first | kernel_rfl) ?_) | ((with_reducible refine gate_dst (N := 13) rfl ?_); refine Go.Proofs.YtenedfmmjfgbaaaDoorR.box_full_event ?hg ?hg2 (N := 13) ?hd ?hd2 (t := 77) (v := ?vof13) ?ho (cs := #[.int .i64 0, .int .i64 0, .int .i64 0, .int .i64 0, .int .i64 0, .int .i64 0, .string (⟨#[]⟩ : ByteArray), .string (⟨#[]⟩ : ByteArray), .string (⟨#[]⟩ : ByteArray)]) (cells := #[.int .i64 ((rd_T77 l0 x12_1).f0), .int .i64 ((rd_T77 l0 x12_1).f1.f0), .int .i64 ((rd_T77 l0 x12_1).f1.f1), .int .i64 ((rd_T77 l0 x12_1).f1.f2), .int .i64 ((rd_T77 l0 x12_1).f1.f3), .int .i64 ((rd_T77 l0 x12_1).f1.f4), .string ((rd_T77 l0 x12_1).f1.f5), .string ((rd_T77 l0 x12_1).f1.f6), .string ((rd_T77 l0 x12_1).f1.f7)]) ?hi ?hs ?h1 ?hr ?hx ?hv ?_; (case hd => rfl); (case hd2 => rfl); (case ho => rfl); (case hg => rfl); (case hg2 => rfl); (case hi => kernel_rfl); (case hs => rfl); (case h1 => first | kernel_rfl | rfl); (case hx => intro p_; first | rfl | (go_simp; done) | (go_simp; rfl)); (case hv => intro p_; first | rfl | (go_simp; done) | (go_simp; rfl)); (case hr => first | (go_simp; done) | (go_simp; rfl)); intro gb285 hg w32 hbox hb; have n0_ := Aside0.mk (blk_below BK282.out hb); have n1_ := Aside0.mk (blk_below BK283.out hb); have n2_ := Aside0.mk (below_step HB.out hb); have n3_ := Aside0.mk (hbox); have n4_ := Aside0.mk ((by rw [hg]; exact (below_size HB.out) : w.heap.size ≤ gb285)); have n5_ := Aside0.mk ((by rw [hg]; exact (below_size HB.out) : w.heap.size ≤ gb285)); have n6_ := Aside0.mk ((by rw [hg]; exact Nat.ne_of_lt (blk_lt (g := gb282) (o := .cells #[.int .i64 0, .int .i64 0, .int .i64 0, .int .i64 0, .int .i64 0, .int .i64 0, .string (⟨#[]⟩ : ByteArray), .string (⟨#[]⟩ : ByteArray), .string (⟨#[]⟩ : ByteArray)] 77 (0, 0)) (by (with_reducible repeat (first | refine blk_drewN ?_ _ | refine blk_drew ?_ | refine blk_alloc ?_ _)); exact BK282.out)) : gb282 ≠ gb285)); have n7_ := Aside0.mk ((by rw [hg]; exact Nat.ne_of_gt (blk_lt (g := gb282) (o := .cells #[.int .i64 0, .int .i64 0, .int .i64 0, .int .i64 0, .int .i64 0, .int .i64 0, .string (⟨#[]⟩ : ByteArray), .string (⟨#[]⟩ : ByteArray), .string (⟨#[]⟩ : ByteArray)] 77 (0, 0)) (by (with_reducible repeat (first | refine blk_drewN ?_ _ | refine blk_drew ?_ | refine blk_alloc ?_ _)); exact BK282.out)) : gb285 ≠ gb282)); have n8_ := Aside0.mk ((by rw [hg]; exact Nat.ne_of_lt (blk_lt (g := gb283) (o := .cells #[.int .i64 x284000_1, .int .i64 x284001_1, .int .i64 x284002_1, .int .i64 x284003_1, .int .i64 x284004_1, .int .i64 x284005_1, .string x284006_1, .string x284007_1, .string x284008_1] 77 (0, 0)) (by (with_reducible repeat (first | refine blk_drewN ?_ _ | refine blk_drew ?_ | refine blk_alloc ?_ _)); exact BK283.out)) : gb283 ≠ gb285)); have n9_ := Aside0.mk ((by rw [hg]; exact Nat.ne_of_gt (blk_lt (g := gb283) (o := .cells #[.int .i64 x284000_1, .int .i64 x284001_1, .int .i64 x284002_1, .int .i64 x284003_1, .int .i64 x284004_1, .int .i64 x284005_1, .string x284006_1, .string x284007_1, .string x284008_1] 77 (0, 0)) (by (with_reducible repeat (first | refine blk_drewN ?_ _ | refine blk_drew ?_ | refine blk_alloc ?_ _)); exact BK283.out)) : gb285 ≠ gb283)); clear BK282; clear BK283; clear HB; have BK282 := n0_; have BK283 := n1_; have HB := n2_; have BK285 := n3_; have GW285 := n4_; have GE285 := n5_; have NB282_285 := n6_; have NB285_282 := n7_; have NB283_285 := n8_; have NB285_283 := n9_; clear n0_ n1_ n2_ n3_ n4_ n5_ n6_ n7_ n8_ n9_; clear hb hbox hg; have hnb33 := NB285_282.out; have hnc33 := NB282_285.out; have hnb34 := NB285_283.out; have hnc34 := NB283_285.out; have hcz35 := blk_cell BK285.out; have hfz35 := blk_frozen BK285.out))
        go_roundg k1
        case measure => have := HK1.out; omega
        case rel => exact ⟨(x11_1), (wrap64 (x12_1 + 1)), (x284000_1), (x284001_1), (x284002_1), (x284003_1), (x284004_1), (x284005_1), (x284006_1), (x284007_1), (x284008_1), (by first | rfl | (simp; done) | (simp [*]; done) | (simp; exact (by intro l; cases l <;> rfl : ∀ l : List UInt8, l.isEmpty = !(l != [])) _)), (by first | rfl | (simp; done) | (simp [*]; done) | (simp; exact (by intro l; cases l <;> rfl : ∀ l : List UInt8, l.isEmpty = !(l != [])) _)), H', ⟨by have := HK1.out; omega⟩, ⟨by (with_reducible repeat (first | refine blk_drewN ?_ _ | refine blk_drew ?_ | refine blk_alloc ?_ _)); exact BK282.out⟩, ⟨by (with_reducible repeat (first | refine blk_drewN ?_ _ | refine blk_drew ?_ | refine blk_alloc ?_ _)); exact BK283.out⟩, ⟨by repeat (first | (with_reducible first | exact HB.out | apply below_alloc | apply pw_below_drewN | apply below_drew1 | refine below_set ?_ GE282.out | refine below_set ?_ GE283.out | refine below_set ?_ GE285.out) | exact HB.out)⟩⟩
      ·rw [if_neg c10] at H
       have c10b0 : (((rd_T77 l0 x12_1).f1.f1) == a2) = false := beq_eq_false_iff_ne.mpr c10
       have c10b1 : (((rd_T77 l0 x12_1).f1.f1) != a2) = true := bne_iff_ne.mpr c10
       have H' := Aside0.mk H
       clear H
       have p284 : 0 ≤ (x12_1 : Int) := of_decide_eq_true (by first | (with_reducible assumption) | assumption)
       have q284 : x12_1 < (l0.length : Int) := of_decide_eq_true (by first | (with_reducible assumption) | assumption)
       obtain ⟨ad284, e284, hx284_0, hx284_1, hx284_2, hx284_3, hx284_4, hx284_5, hx284_6, hx284_7, hx284_8⟩ := at_T77 HR0.out x12_1 p284 q284
       cases e284
       replace hx284_0 := (HB.out.cell (World.block_lt_of_cell? w _ hx284_0)).trans hx284_0
       replace hx284_1 := (HB.out.cell (World.block_lt_of_cell? w _ hx284_1)).trans hx284_1
       replace hx284_2 := (HB.out.cell (World.block_lt_of_cell? w _ hx284_2)).trans hx284_2
       replace hx284_3 := (HB.out.cell (World.block_lt_of_cell? w _ hx284_3)).trans hx284_3
       replace hx284_4 := (HB.out.cell (World.block_lt_of_cell? w _ hx284_4)).trans hx284_4
       replace hx284_5 := (HB.out.cell (World.block_lt_of_cell? w _ hx284_5)).trans hx284_5
       replace hx284_6 := (HB.out.cell (World.block_lt_of_cell? w _ hx284_6)).trans hx284_6
       replace hx284_7 := (HB.out.cell (World.block_lt_of_cell? w _ hx284_7)).trans hx284_7
       replace hx284_8 := (HB.out.cell (World.block_lt_of_cell? w _ hx284_8)).trans hx284_8
       replace p284 := eq_true p284
       replace q284 := eq_true q284
       go_wp2_with (first | ((with_reducible refine gate_dst (N := 55) rfl ?_); refine wpList_load_row rfl 77 (.tmp 13) rfl _ rfl 77 _ (0, 0) _ BK285.out hu77 rfl (by first | kernel_rfl) ?_) | ((with_reducible refine gate_dst (N := 56) rfl ?_); refine wpList_load_row rfl 77 (.tmp 10) rfl _ rfl 77 _ (0, 0) _ BK283.out hu77 rfl (by first | kernel_rfl) ?_) | ((with_reducible refine gate_dst (N := 13) rfl ?_); refine Go.Proofs.YtenedfmmjfgbaaaDoorR.box_full_event ?hg ?hg2 (N := 13) ?hd ?hd2 (t := 77) (v := ?vof13) ?ho (cs := #[.int .i64 0, .int .i64 0, .int .i64 0, .int .i64 0, .int .i64 0, .int .i64 0, .string (⟨#[]⟩ : ByteArray), .string (⟨#[]⟩ : ByteArray), .string (⟨#[]⟩ : ByteArray)]) (cells := #[.int .i64 ((rd_T77 l0 x12_1).f0), .int .i64 ((rd_T77 l0 x12_1).f1.f0), .int .i64 ((rd_T77 l0 x12_1).f1.f1), .int .i64 ((rd_T77 l0 x12_1).f1.f2), .int .i64 ((rd_T77 l0 x12_1).f1.f3), .int .i64 ((rd_T77 l0 x12_1).f1.f4), .string ((rd_T77 l0 x12_1).f1.f5), .string ((rd_T77 l0 x12_1).f1.f6), .string ((rd_T77 l0 x12_1).f1.f7)]) ?hi ?hs ?h1 ?hr ?hx ?hv ?_; (case hd => rfl); (case hd2 => rfl); (case ho => rfl); (case hg => rfl); (case hg2 => rfl); (case hi => kernel_rfl); (case hs => rfl); (case h1 => first | kernel_rfl | rfl); (case hx => intro p_; first | rfl | (go_simp; done) | (go_simp; rfl)); (case hv => intro p_; first | rfl | (go_simp; done) | (go_simp; rfl)); (case hr => first | (go_simp; done) | (go_simp; rfl)); intro gb285 hg w36 hbox hb; have n0_ := Aside0.mk (blk_below BK282.out hb); have n1_ := Aside0.mk (blk_below BK283.out hb); have n2_ := Aside0.mk (below_step HB.out hb); have n3_ := Aside0.mk (hbox); have n4_ := Aside0.mk ((by rw [hg]; exact (below_size HB.out) : w.heap.size ≤ gb285)); have n5_ := Aside0.mk ((by rw [hg]; exact (below_size HB.out) : w.heap.size ≤ gb285)); have n6_ := Aside0.mk ((by rw [hg]; exact Nat.ne_of_lt (blk_lt (g := gb282) (o := .cells #[.int .i64 0, .int .i64 0, .int .i64 0, .int .i64 0, .int .i64 0, .int .i64 0, .string (⟨#[]⟩ : ByteArray), .string (⟨#[]⟩ : ByteArray), .string (⟨#[]⟩ : ByteArray)] 77 (0, 0)) (by (with_reducible repeat (first | refine blk_drewN ?_ _ | refine blk_drew ?_ | refine blk_alloc ?_ _)); exact BK282.out)) : gb282 ≠ gb285)); have n7_ := Aside0.mk ((by rw [hg]; exact Nat.ne_of_gt (blk_lt (g := gb282) (o := .cells #[.int .i64 0, .int .i64 0, .int .i64 0, .int .i64 0, .int .i64 0, .int .i64 0, .string (⟨#[]⟩ : ByteArray), .string (⟨#[]⟩ : ByteArray), .string (⟨#[]⟩ : ByteArray)] 77 (0, 0)) (by (with_reducible repeat (first | refine blk_drewN ?_ _ | refine blk_drew ?_ | refine blk_alloc ?_ _)); exact BK282.out)) : gb285 ≠ gb282)); have n8_ := Aside0.mk ((by rw [hg]; exact Nat.ne_of_lt (blk_lt (g := gb283) (o := .cells #[.int .i64 x284000_1, .int .i64 x284001_1, .int .i64 x284002_1, .int .i64 x284003_1, .int .i64 x284004_1, .int .i64 x284005_1, .string x284006_1, .string x284007_1, .string x284008_1] 77 (0, 0)) (by (with_reducible repeat (first | refine blk_drewN ?_ _ | refine blk_drew ?_ | refine blk_alloc ?_ _)); exact BK283.out)) : gb283 ≠ gb285)); have n9_ := Aside0.mk ((by rw [hg]; exact Nat.ne_of_gt (blk_lt (g := gb283) (o := .cells #[.int .i64 x284000_1, .int .i64 x284001_1, .int .i64 x284002_1, .int .i64 x284003_1, .int .i64 x284004_1, .int .i64 x284005_1, .string x284006_1, .string x284007_1, .string x284008_1] 77 (0, 0)) (by (with_reducible repeat (first | refine blk_drewN ?_ _ | refine blk_drew ?_ | refine blk_alloc ?_ _)); exact BK283.out)) : gb285 ≠ gb283)); clear BK282; clear BK283; clear HB; have BK282 := n0_; have BK283 := n1_; have HB := n2_; have BK285 := n3_; have GW285 := n4_; have GE285 := n5_; have NB282_285 := n6_; have NB285_282 := n7_; have NB283_285 := n8_; have NB285_283 := n9_; clear n0_ n1_ n2_ n3_ n4_ n5_ n6_ n7_ n8_ n9_; clear hb hbox hg; have hnb37 := NB285_282.out; have hnc37 := NB282_285.out; have hnb38 := NB285_283.out; have hnc38 := NB283_285.out; have hcz39 := blk_cell BK285.out; have hfz39 := blk_frozen BK285.out))
       go_roundg k1
       case measure => have := HK1.out; omega
       case rel => exact ⟨(x11_1), (wrap64 (x12_1 + 1)), (x284000_1), (x284001_1), (x284002_1), (x284003_1), (x284004_1), (x284005_1), (x284006_1), (x284007_1), (x284008_1), (by first | rfl | (simp; done) | (simp [*]; done) | (simp; exact (by intro l; cases l <;> rfl : ∀ l : List UInt8, l.isEmpty = !(l != [])) _)), (by first | rfl | (simp; done) | (simp [*]; done) | (simp; exact (by intro l; cases l <;> rfl : ∀ l : List UInt8, l.isEmpty = !(l != [])) _)), H', ⟨by have := HK1.out; omega⟩, ⟨by (with_reducible repeat (first | refine blk_drewN ?_ _ | refine blk_drew ?_ | refine blk_alloc ?_ _)); exact BK282.out⟩, ⟨by (with_reducible repeat (first | refine blk_drewN ?_ _ | refine blk_drew ?_ | refine blk_alloc ?_ _)); exact BK283.out⟩, ⟨by repeat (first | (with_reducible first | exact HB.out | apply below_alloc | apply pw_below_drewN | apply below_drew1 | refine below_set ?_ GE282.out | refine below_set ?_ GE283.out | refine below_set ?_ GE285.out) | exact HB.out)⟩⟩
     ·rw [if_neg c9] at H
      have c9b0 : (((rd_T77 l0 x12_1).f1.f0) == a1) = false := beq_eq_false_iff_ne.mpr c9
      have c9b1 : (((rd_T77 l0 x12_1).f1.f0) != a1) = true := bne_iff_ne.mpr c9
      have H' := Aside0.mk H
      clear H
      have p284 : 0 ≤ (x12_1 : Int) := of_decide_eq_true (by first | (with_reducible assumption) | assumption)
      have q284 : x12_1 < (l0.length : Int) := of_decide_eq_true (by first | (with_reducible assumption) | assumption)
      obtain ⟨ad284, e284, hx284_0, hx284_1, hx284_2, hx284_3, hx284_4, hx284_5, hx284_6, hx284_7, hx284_8⟩ := at_T77 HR0.out x12_1 p284 q284
      cases e284
      replace hx284_0 := (HB.out.cell (World.block_lt_of_cell? w _ hx284_0)).trans hx284_0
      replace hx284_1 := (HB.out.cell (World.block_lt_of_cell? w _ hx284_1)).trans hx284_1
      replace hx284_2 := (HB.out.cell (World.block_lt_of_cell? w _ hx284_2)).trans hx284_2
      replace hx284_3 := (HB.out.cell (World.block_lt_of_cell? w _ hx284_3)).trans hx284_3
      replace hx284_4 := (HB.out.cell (World.block_lt_of_cell? w _ hx284_4)).trans hx284_4
      replace hx284_5 := (HB.out.cell (World.block_lt_of_cell? w _ hx284_5)).trans hx284_5
      replace hx284_6 := (HB.out.cell (World.block_lt_of_cell? w _ hx284_6)).trans hx284_6
      replace hx284_7 := (HB.out.cell (World.block_lt_of_cell? w _ hx284_7)).trans hx284_7
      replace hx284_8 := (HB.out.cell (World.block_lt_of_cell? w _ hx284_8)).trans hx284_8
      replace p284 := eq_true p284
      replace q284 := eq_true q284
      go_wp2_with (first | ((with_reducible refine gate_dst (N := 55) rfl ?_); refine wpList_load_row rfl 77 (.tmp 13) rfl _ rfl 77 _ (0, 0) _ BK285.out hu77 rfl (by first | kernel_rfl) ?_) | ((with_reducible refine gate_dst (N := 56) rfl ?_); refine wpList_load_row rfl 77 (.tmp 10) rfl _ rfl 77 _ (0, 0) _ BK283.out hu77 rfl (by first | kernel_rfl) ?_) | ((with_reducible refine gate_dst (N := 13) rfl ?_); refine Go.Proofs.YtenedfmmjfgbaaaDoorR.box_full_event ?hg ?hg2 (N := 13) ?hd ?hd2 (t := 77) (v := ?vof13) ?ho (cs := #[.int .i64 0, .int .i64 0, .int .i64 0, .int .i64 0, .int .i64 0, .int .i64 0, .string (⟨#[]⟩ : ByteArray), .string (⟨#[]⟩ : ByteArray), .string (⟨#[]⟩ : ByteArray)]) (cells := #[.int .i64 ((rd_T77 l0 x12_1).f0), .int .i64 ((rd_T77 l0 x12_1).f1.f0), .int .i64 ((rd_T77 l0 x12_1).f1.f1), .int .i64 ((rd_T77 l0 x12_1).f1.f2), .int .i64 ((rd_T77 l0 x12_1).f1.f3), .int .i64 ((rd_T77 l0 x12_1).f1.f4), .string ((rd_T77 l0 x12_1).f1.f5), .string ((rd_T77 l0 x12_1).f1.f6), .string ((rd_T77 l0 x12_1).f1.f7)]) ?hi ?hs ?h1 ?hr ?hx ?hv ?_; (case hd => rfl); (case hd2 => rfl); (case ho => rfl); (case hg => rfl); (case hg2 => rfl); (case hi => kernel_rfl); (case hs => rfl); (case h1 => first | kernel_rfl | rfl); (case hx => intro p_; first | rfl | (go_simp; done) | (go_simp; rfl)); (case hv => intro p_; first | rfl | (go_simp; done) | (go_simp; rfl)); (case hr => first | (go_simp; done) | (go_simp; rfl)); intro gb285 hg w40 hbox hb; have n0_ := Aside0.mk (blk_below BK282.out hb); have n1_ := Aside0.mk (blk_below BK283.out hb); have n2_ := Aside0.mk (below_step HB.out hb); have n3_ := Aside0.mk (hbox); have n4_ := Aside0.mk ((by rw [hg]; exact (below_size HB.out) : w.heap.size ≤ gb285)); have n5_ := Aside0.mk ((by rw [hg]; exact (below_size HB.out) : w.heap.size ≤ gb285)); have n6_ := Aside0.mk ((by rw [hg]; exact Nat.ne_of_lt (blk_lt (g := gb282) (o := .cells #[.int .i64 0, .int .i64 0, .int .i64 0, .int .i64 0, .int .i64 0, .int .i64 0, .string (⟨#[]⟩ : ByteArray), .string (⟨#[]⟩ : ByteArray), .string (⟨#[]⟩ : ByteArray)] 77 (0, 0)) (by (with_reducible repeat (first | refine blk_drewN ?_ _ | refine blk_drew ?_ | refine blk_alloc ?_ _)); exact BK282.out)) : gb282 ≠ gb285)); have n7_ := Aside0.mk ((by rw [hg]; exact Nat.ne_of_gt (blk_lt (g := gb282) (o := .cells #[.int .i64 0, .int .i64 0, .int .i64 0, .int .i64 0, .int .i64 0, .int .i64 0, .string (⟨#[]⟩ : ByteArray), .string (⟨#[]⟩ : ByteArray), .string (⟨#[]⟩ : ByteArray)] 77 (0, 0)) (by (with_reducible repeat (first | refine blk_drewN ?_ _ | refine blk_drew ?_ | refine blk_alloc ?_ _)); exact BK282.out)) : gb285 ≠ gb282)); have n8_ := Aside0.mk ((by rw [hg]; exact Nat.ne_of_lt (blk_lt (g := gb283) (o := .cells #[.int .i64 x284000_1, .int .i64 x284001_1, .int .i64 x284002_1, .int .i64 x284003_1, .int .i64 x284004_1, .int .i64 x284005_1, .string x284006_1, .string x284007_1, .string x284008_1] 77 (0, 0)) (by (with_reducible repeat (first | refine blk_drewN ?_ _ | refine blk_drew ?_ | refine blk_alloc ?_ _)); exact BK283.out)) : gb283 ≠ gb285)); have n9_ := Aside0.mk ((by rw [hg]; exact Nat.ne_of_gt (blk_lt (g := gb283) (o := .cells #[.int .i64 x284000_1, .int .i64 x284001_1, .int .i64 x284002_1, .int .i64 x284003_1, .int .i64 x284004_1, .int .i64 x284005_1, .string x284006_1, .string x284007_1, .string x284008_1] 77 (0, 0)) (by (with_reducible repeat (first | refine blk_drewN ?_ _ | refine blk_drew ?_ | refine blk_alloc ?_ _)); exact BK283.out)) : gb285 ≠ gb283)); clear BK282; clear BK283; clear HB; have BK282 := n0_; have BK283 := n1_; have HB := n2_; have BK285 := n3_; have GW285 := n4_; have GE285 := n5_; have NB282_285 := n6_; have NB285_282 := n7_; have NB283_285 := n8_; have NB285_283 := n9_; clear n0_ n1_ n2_ n3_ n4_ n5_ n6_ n7_ n8_ n9_; clear hb hbox hg; have hnb41 := NB285_282.out; have hnc41 := NB282_285.out; have hnb42 := NB285_283.out; have hnc42 := NB283_285.out; have hcz43 := blk_cell BK285.out; have hfz43 := blk_frozen BK285.out))
      go_roundg k1
      case measure => have := HK1.out; omega
      case rel => exact ⟨(x11_1), (wrap64 (x12_1 + 1)), (x284000_1), (x284001_1), (x284002_1), (x284003_1), (x284004_1), (x284005_1), (x284006_1), (x284007_1), (x284008_1), (by first | rfl | (simp; done) | (simp [*]; done) | (simp; exact (by intro l; cases l <;> rfl : ∀ l : List UInt8, l.isEmpty = !(l != [])) _)), (by first | rfl | (simp; done) | (simp [*]; done) | (simp; exact (by intro l; cases l <;> rfl : ∀ l : List UInt8, l.isEmpty = !(l != [])) _)), H', ⟨by have := HK1.out; omega⟩, ⟨by (with_reducible repeat (first | refine blk_drewN ?_ _ | refine blk_drew ?_ | refine blk_alloc ?_ _)); exact BK282.out⟩, ⟨by (with_reducible repeat (first | refine blk_drewN ?_ _ | refine blk_drew ?_ | refine blk_alloc ?_ _)); exact BK283.out⟩, ⟨by repeat (first | (with_reducible first | exact HB.out | apply below_alloc | apply pw_below_drewN | apply below_drew1 | refine below_set ?_ GE282.out | refine below_set ?_ GE283.out | refine below_set ?_ GE285.out) | exact HB.out)⟩⟩
    ·rw [if_neg c8] at H
     exact absurd H (by simp)
   ·rw [if_neg c7] at H
    have c7b0 : decide (x12_1 < (l0.length : Int)) = false := decide_eq_false c7
    clear c7
    simp only [Option.some.injEq, Prod.mk.injEq] at H
    obtain ⟨rfl, rfl, rfl, rfl, rfl, rfl, rfl, rfl, rfl, rfl⟩ := H
    have hnb44 := NB283_282.out
    have hnc44 := NB282_283.out
    have hcz45 := blk_cell BK283.out
    have hfz45 := blk_frozen BK283.out
    go_wp2_with (first | ((with_reducible refine gate_dst (N := 55) rfl ?_); refine wpList_load_row rfl 77 (.tmp 13) rfl _ rfl 77 _ (0, 0) _ BK285.out hu77 rfl (by first | kernel_rfl) ?_) | ((with_reducible refine gate_dst (N := 56) rfl ?_); refine wpList_load_row rfl 77 (.tmp 10) rfl _ rfl 77 _ (0, 0) _ BK283.out hu77 rfl (by first | kernel_rfl) ?_) | ((with_reducible refine gate_store (t := 77) (p := 8) rfl ?_); refine Go.Proofs.YtenedfmmjfgbaaaDoorR.store_part_event ?hg (t := 77) 8 (v := ?vo_w46) ?ho ?hn gb282 0 (.agg #[.int .i64 x284000_1, .int .i64 x284001_1, .int .i64 x284002_1, .int .i64 x284003_1, .int .i64 x284004_1, .int .i64 x284005_1, .string x284006_1, .string x284007_1, .string x284008_1]) #[.int .i64 x284000_1, .int .i64 x284001_1, .int .i64 x284002_1, .int .i64 x284003_1, .int .i64 x284004_1, .int .i64 x284005_1, .string x284006_1, .string x284007_1, .string x284008_1] #[.int .i64 0, .int .i64 0, .int .i64 0, .int .i64 0, .int .i64 0, .int .i64 0, .string (⟨#[]⟩ : ByteArray), .string (⟨#[]⟩ : ByteArray), .string (⟨#[]⟩ : ByteArray)] #[.int .i64 x284000_1, .int .i64 x284001_1, .int .i64 x284002_1, .int .i64 x284003_1, .int .i64 x284004_1, .int .i64 x284005_1, .string x284006_1, .string x284007_1, .string x284008_1] 77 ?hx ?hy rfl BK282.out ?hi (Nat.le_of_ble_eq_true rfl) ?h1 ?hc ?_; (case ho => rfl); (case hg => rfl); (case hn => rfl); (case hi => kernel_rfl); (case h1 => first | kernel_rfl | rfl); (case hc => kernel_rfl); (case hx => first | rfl | (go_simp; done) | (go_simp; rfl)); (case hy => first | rfl | (go_simp; done) | (go_simp; rfl)); intro w46 hbox hbut; have n0_ := Aside0.mk (hbox); have n1_ := Aside0.mk ((hbut.other NB283_282.out).trans BK283.out); have n2_ := Aside0.mk (HB.out.trans (hbut.below GE282.out)); clear BK282; clear BK283; clear HB; have BK282 := n0_; have BK283 := n1_; have HB := n2_; clear n0_ n1_ n2_; clear hbox hbut))
    refine bodyPost_ret (results_ct rfl _ _ gb282 77 #[.int .i64 x284000_1, .int .i64 x284001_1, .int .i64 x284002_1, .int .i64 x284003_1, .int .i64 x284004_1, .int .i64 x284005_1, .string x284006_1, .string x284007_1, .string x284008_1] (0, 0) _ rfl (by (with_reducible repeat (first | refine blk_drewN ?_ _ | refine blk_drew ?_ | refine blk_alloc ?_ _)); exact BK282.out) Tryd.underlying77 rfl (by kernel_rfl)) rfl ?_
    exact ⟨by first | rfl | (simp [errW_none, errW_some] <;> rfl) | (simp [*, errW_none, errW_some] <;> rfl), by repeat (first | (with_reducible first | exact HB.out | apply below_alloc | apply pw_below_drewN | apply below_drew1 | refine below_set ?_ GE282.out | refine below_set ?_ GE283.out) | exact HB.out)⟩

end Go.Proofs.YtenedfmmjfgbaaaDoor.QFnHeads
