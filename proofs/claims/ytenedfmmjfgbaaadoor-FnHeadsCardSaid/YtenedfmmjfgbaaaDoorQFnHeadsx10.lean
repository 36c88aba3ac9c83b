-- Written by a program of this session (myprint) out of Lean's own print of the translation. Lean checks it.
import Derived.Test.YtenedfmmjfgbaaaDoorQFnHeadsx0
import Derived.Test.YtenedfmmjfgbaaaDoorQFnHeadsx7
import Derived.Test.YtenedfmmjfgbaaaDoorQFnHeadsx8
namespace Go.Proofs.YtenedfmmjfgbaaaDoor.QFnHeads
open Go.RowKit Go.Proofs.YtenedfmmjfgbaaaDoorW.PrintWords Go.Proofs.YtenedfmmjfgbaaaDoorW.PrintLast Go.Proofs.YtenedfmmjfgbaaaDoorW.PrintMore
attribute [local go_sem] max2_int min2_int max_two min_two max_three min_three max_four min_four   -- for this text's walks alone
set_option linter.unusedVariables false
set_option linter.unusedSimpArgs false

/-! ### spec_l07Mails: function 41 -/
mutual
def spec_l07Mails.l0 : Nat → List (S77) → Int → List Int → Int → Option ((List (S58)))
 | 0, _, _, _, _ => none
 | k + 1, x0, x1, x5, x6 => if x6 < (x0.length : Int) then (if 0 ≤ x6 then ((spec_l07Best.f k x0 5 x1 ((rd_T77 x0 x6).f1.f2)).bind fun bt313 => (if ((rd_T77 x0 x6).f1.f0) = 3 then (if ((rd_T77 x0 x6).f1.f1) = x1 then (if bt313.2.2.2.2.2.2.2.2.2 = true then (spec_l07Mails.l0 k x0 x1 x5 (wrap64 (x6 + 1))) else ((spec_l07Sorted.f k x5 ((rd_T77 x0 x6).f1.f2)).bind fun t324 => (spec_l07Mails.l0 k x0 x1 t324 (wrap64 (x6 + 1))))) else (spec_l07Mails.l0 k x0 x1 x5 (wrap64 (x6 + 1)))) else (spec_l07Mails.l0 k x0 x1 x5 (wrap64 (x6 + 1))))) else (none)) else (spec_l07Mails.l1 k x0 x1 x5 (([] : List (S58))) 0)
def spec_l07Mails.l1 : Nat → List (S77) → Int → List Int → List (S58) → Int → Option ((List (S58)))
 | 0, _, _, _, _, _ => none
 | k + 1, x0, x1, x5, x10, x11 => if x11 < (x5.length : Int) then (if 0 ≤ x11 then ((spec_l07Best.f k x0 3 x1 (rd x5 x11)).bind fun bt331 => ((spec_l07Best.f k x0 4 x1 (rd x5 x11)).bind fun bt345 => (if bt345.2.2.2.2.2.2.2.2.2 = true then (if x10.length < 4398046511104 then (spec_l07Mails.l1 k x0 x1 x5 (x10 ++ [(⟨rd x5 x11, bt345.2.2.2.2.2.1, bt331.2.2.2.2.2.2.2.2.1⟩ : S58)]) (wrap64 (x11 + 1))) else (none)) else (if x10.length < 4398046511104 then (spec_l07Mails.l1 k x0 x1 x5 (x10 ++ [(⟨rd x5 x11, bt331.2.2.2.2.2.1, bt331.2.2.2.2.2.2.2.2.1⟩ : S58)]) (wrap64 (x11 + 1))) else (none))))) else (none)) else (some x10)
end
def spec_l07Mails.f (k : Nat) (l0 : List (S77)) (a1 : Int) : Option ((List (S58))) := spec_l07Mails.l0 k l0 a1 (([] : List Int)) 0
theorem spec_l07Mails.mono_l : ∀ k, (∀ y0 y1 y2 y3, LeO (spec_l07Mails.l0 k y0 y1 y2 y3) (spec_l07Mails.l0 (k + 1) y0 y1 y2 y3)) ∧ (∀ y0 y1 y2 y3 y4, LeO (spec_l07Mails.l1 k y0 y1 y2 y3 y4) (spec_l07Mails.l1 (k + 1) y0 y1 y2 y3 y4))
 | 0 => ⟨fun _ _ _ _ r h => by simp [spec_l07Mails.l0] at h, fun _ _ _ _ _ r h => by simp [spec_l07Mails.l1] at h⟩
 | k + 1 => by
  obtain ⟨ih0, ih1⟩ := spec_l07Mails.mono_l k
  refine ⟨?_, ?_⟩
  ·intro y0 y1 y2 y3
   unfold spec_l07Mails.l0
   repeat' first
   | (with_reducible exact ih0 _ _ _ _)
   | (with_reducible exact ih1 _ _ _ _ _)
   | (with_reducible exact spec_l07Best.mono _ _ _ _ _)
   | (with_reducible exact spec_l07Sorted.mono _ _ _)
   | (with_reducible exact LeO.refl _)
   | (with_reducible exact LeO.none _)
   | (with_reducible refine LeO.ite ?_ ?_)
   | (with_reducible refine LeO.bind ?_ (fun _ => ?_))
   | exact ih0 _ _ _ _
   | exact ih1 _ _ _ _ _
   | exact spec_l07Best.mono _ _ _ _ _
   | exact spec_l07Sorted.mono _ _ _
   | exact LeO.none _
   | refine LeO.ite ?_ ?_
   | refine LeO.bind ?_ (fun _ => ?_)
  ·intro y0 y1 y2 y3 y4
   unfold spec_l07Mails.l1
   repeat' first
   | (with_reducible exact ih0 _ _ _ _)
   | (with_reducible exact ih1 _ _ _ _ _)
   | (with_reducible exact spec_l07Best.mono _ _ _ _ _)
   | (with_reducible exact spec_l07Sorted.mono _ _ _)
   | (with_reducible exact LeO.refl _)
   | (with_reducible exact LeO.none _)
   | (with_reducible refine LeO.ite ?_ ?_)
   | (with_reducible refine LeO.bind ?_ (fun _ => ?_))
   | exact ih0 _ _ _ _
   | exact ih1 _ _ _ _ _
   | exact spec_l07Best.mono _ _ _ _ _
   | exact spec_l07Sorted.mono _ _ _
   | exact LeO.none _
   | refine LeO.ite ?_ ?_
   | refine LeO.bind ?_ (fun _ => ?_)
theorem spec_l07Mails.mono : ∀ a0 a1 k, LeO (spec_l07Mails.f k a0 a1) (spec_l07Mails.f (k + 1) a0 a1) := by
 intro a0 a1 k
 obtain ⟨ih0, ih1⟩ := spec_l07Mails.mono_l k
 unfold spec_l07Mails.f
 repeat' first
   | (with_reducible exact ih0 _ _ _ _)
   | (with_reducible exact ih1 _ _ _ _ _)
   | (with_reducible exact spec_l07Best.mono _ _ _ _ _)
   | (with_reducible exact spec_l07Sorted.mono _ _ _)
   | (with_reducible exact LeO.refl _)
   | (with_reducible exact LeO.none _)
   | (with_reducible refine LeO.ite ?_ ?_)
   | (with_reducible refine LeO.bind ?_ (fun _ => ?_))
   | exact ih0 _ _ _ _
   | exact ih1 _ _ _ _ _
   | exact spec_l07Best.mono _ _ _ _ _
   | exact spec_l07Sorted.mono _ _ _
   | exact LeO.none _
   | refine LeO.ite ?_ ?_
   | refine LeO.bind ?_ (fun _ => ?_)
def spec_l07Mails.T14 : Bool × List (List Nat × List Nat) := (true, [([], []), ([], []), ([0, 1], [0, 1]), ([2], [2]), ([], []), ([4], [4]), ([5], [5]), ([], []), ([7], [7]), ([8], [8]), ([3, 6, 9], [3, 6, 9]), ([], []), ([11, 10, 0, 1, 2, 3, 4, 5, 6, 7, 8, 9, 10, 11], [10, 11])])
def spec_l07Mails.B14 : List Nat := [0, 0, 3, 7, 0, 16, 48, 0, 128, 384, 1023, 0, 4095]
theorem spec_l07Mails.tab14 : rtab .any (opsOf Tryd.f41 14) = spec_l07Mails.T14 := by kernel_rfl
theorem spec_l07Mails.bits14 : waitsOk spec_l07Mails.T14.2 spec_l07Mails.B14 = true := by kernel_rfl
set_option maxHeartbeats 8000000 in
set_option maxRecDepth 100000 in
theorem spec_l07Mails.calls (k : Nat) (A0 : Option Addr) (c0 : Nat) (l0 : List (S77)) (a1 : Int) (r : List (S58)) (w : World) (hr0 : Kd.C k77 w A0 l0.length l0) (hc0 : l0.length ≤ c0) (h : spec_l07Mails.f k l0 a1 = some r) :
  Calls Tryd.prog 41 #[.slice A0 l0.length c0, .int .i64 a1] w fun e w' => ∃ v0_ : Value, e = .returned (v0_) ∧ Kd.R k58 58 w' w.heap.size (fun _ => True) v0_ r ∧ Below w.heap.size w w' := by
 have hu75 := Tryd.underlying75
 have hu77 := Tryd.underlying77
 have hu58 := Tryd.underlying58
 have HR0 := Aside0.mk hr0
 have HC0 := Aside0.mk hc0
 clear hr0 hc0
 have HB := Aside0.mk (Below.refl w.heap.size w)
 have H : (spec_l07Mails.l0 k l0 a1 (([] : List Int)) 0) = some r := h
 clear h
 obtain ⟨y308, hy308⟩ : ∃ y_ : List Int, y_ = (([] : List Int)) := ⟨_, rfl⟩
 replace H : (spec_l07Mails.l0 k l0 a1 y308 0) = some r := by first | (rw [hy308]; with_reducible exact H) | (have H2_ := (Option.bind_some _ _).symm.trans H; rw [hy308]; with_reducible exact H2_) | (have H2_ := (Option.bind_some _ _).symm.trans H; with_reducible exact H2_) | with_reducible exact H | (rw [hy308]; exact H) | exact H
 have Ny308 := Aside0.mk hy308
 clear hy308
 have H' := Aside0.mk H
 clear H
 go_enter Tryd.func41, Tryd.ntmps41
 go_wp2_with (first | ((with_reducible refine gate_dst (N := 17) rfl ?_); refine Kd.R_lit (Kd.int .i64) _ 3 ?hg (N := 17) ?hd (xs := ([] : List Int)) (inner := []) (ok := fun _ => True) (okp := fun _ => True) ?hr ?hp (fun _ hk => hk) trivial (Below.refl _ _) (Nat.le_refl _) (by simp) ?_; (case hd => rfl); (case hg => rfl); (case hr => first | (go_simp; done) | (go_simp; rfl)); (case hp => exact (Reps.none _ _)); intro v309 w3 ho4 hb hg_ hnew_; clear hg_ hnew_; (first | rw [← Ny308.out] at ho4 | (simp only [Int.reduceToNat] at ho4; rw [← Ny308.out] at ho4)); have n0_ := Aside0.mk (Kd.R_lower ho4 (below_size (by repeat (first | (with_reducible first | exact HB.out | apply below_alloc | apply pw_below_drewN | apply below_drew1) | exact HB.out)))); have n1_ := Aside0.mk (below_step (by repeat (first | (with_reducible first | exact HB.out | apply below_alloc | apply pw_below_drewN | apply below_drew1) | exact HB.out)) hb); clear HB; have HO310 := n0_; have HB := n1_; clear n0_ n1_; clear hb ho4))
 go_loopg [5, 6] k (fun kq v5 v6 w' => ∃ (x5_1 : List Int) (x6_1 : Int), v6 = .int .i64 x6_1 ∧ Aside0 (spec_l07Mails.l0 kq l0 a1 x5_1 x6_1 = some r) ∧ Aside0 (kq ≤ k) ∧ Aside0 (Kd.R (Kd.int .i64) 3 w' w.heap.size (fun _ => True) v5 x5_1) ∧ Aside0 (Below w.heap.size w w'))
 case atStart => exact ⟨(y308), (0), (by first | rfl | (simp; done) | (simp [*]; done) | (simp; exact (by intro l; cases l <;> rfl : ∀ l : List UInt8, l.isEmpty = !(l != [])) _)), H', ⟨Nat.le_refl _⟩, ⟨by (with_reducible repeat (first | apply Kd.R_alloc | apply Kd.R_drewN | apply Kd.R_drew)); exact HO310.out⟩, ⟨by repeat (first | (with_reducible first | exact HB.out | apply below_alloc | apply pw_below_drewN | apply below_drew1) | exact HB.out)⟩⟩
 case round =>
  clear H'
  try clear p2
  try clear c4
  obtain ⟨x5_1, x6_1, rfl, HA, HK1, HO_5, HB⟩ := hrel
  cases gk with
  | zero => exact absurd HA.out (by simp [spec_l07Mails.l0])
  | succ k1 =>
   have H := HA.out
   clear HA
   simp only [spec_l07Mails.l0] at H
   by_cases c5 : x6_1 < (l0.length : Int)
   ·rw [if_pos c5] at H
    have c5b0 : decide (x6_1 < (l0.length : Int)) = true := decide_eq_true c5
    clear c5
    by_cases c6 : 0 ≤ x6_1
    ·rw [if_pos c6] at H
     have c6b0 : decide (0 ≤ x6_1) = true := decide_eq_true c6
     clear c6
     replace H := Option.bind_eq_some_iff.mp H
     obtain ⟨⟨t313, t314, t315, t316, t317, t318, t319, t320, t321, t322⟩, A70, H⟩ := H
     (try set_option simprocs false in dsimp only at H)
     have A7 := Aside0.mk A70
     clear A70
     by_cases c8 : ((rd_T77 l0 x6_1).f1.f0) = 3
     ·rw [if_pos c8] at H
      have c8b0 : (((rd_T77 l0 x6_1).f1.f0) == 3) = true := beq_iff_eq.mpr c8
      have c8b1 : (((rd_T77 l0 x6_1).f1.f0) != 3) = false := bne_eq_false_iff_eq.mpr c8
      clear c8
      by_cases c9 : ((rd_T77 l0 x6_1).f1.f1) = a1
      ·rw [if_pos c9] at H
       have c9b0 : (((rd_T77 l0 x6_1).f1.f1) == a1) = true := beq_iff_eq.mpr c9
       have c9b1 : (((rd_T77 l0 x6_1).f1.f1) != a1) = false := bne_eq_false_iff_eq.mpr c9
       clear c9
       by_cases c10 : t322 = true
       ·subst c10
        (try rw [if_pos rfl] at H)
        have H' := Aside0.mk H
        clear H
        have p311 : 0 ≤ (x6_1 : Int) := of_decide_eq_true (by first | (with_reducible assumption) | assumption)
        have q311 : x6_1 < (l0.length : Int) := of_decide_eq_true (by first | (with_reducible assumption) | assumption)
        obtain ⟨ad311, e311, hx311_0, hx311_1, hx311_2, hx311_3, hx311_4, hx311_5, hx311_6, hx311_7, hx311_8⟩ := at_T77 HR0.out x6_1 p311 q311
        cases e311
        replace hx311_0 := (HB.out.cell (World.block_lt_of_cell? w _ hx311_0)).trans hx311_0
        replace hx311_1 := (HB.out.cell (World.block_lt_of_cell? w _ hx311_1)).trans hx311_1
        replace hx311_2 := (HB.out.cell (World.block_lt_of_cell? w _ hx311_2)).trans hx311_2
        replace hx311_3 := (HB.out.cell (World.block_lt_of_cell? w _ hx311_3)).trans hx311_3
        replace hx311_4 := (HB.out.cell (World.block_lt_of_cell? w _ hx311_4)).trans hx311_4
        replace hx311_5 := (HB.out.cell (World.block_lt_of_cell? w _ hx311_5)).trans hx311_5
        replace hx311_6 := (HB.out.cell (World.block_lt_of_cell? w _ hx311_6)).trans hx311_6
        replace hx311_7 := (HB.out.cell (World.block_lt_of_cell? w _ hx311_7)).trans hx311_7
        replace hx311_8 := (HB.out.cell (World.block_lt_of_cell? w _ hx311_8)).trans hx311_8
        replace p311 := eq_true p311
        replace q311 := eq_true q311
        go_wp2_with (first | ((with_reducible refine gate_dst (N := 7) rfl ?_); refine Go.Proofs.YtenedfmmjfgbaaaDoorR.box_full_event ?hg ?hg2 (N := 7) ?hd ?hd2 (t := 75) (v := ?vof7) ?ho (cs := #[.int .i64 0, .int .i64 0, .int .i64 0, .int .i64 0, .int .i64 0, .string (⟨#[]⟩ : ByteArray), .string (⟨#[]⟩ : ByteArray), .string (⟨#[]⟩ : ByteArray)]) (cells := #[.int .i64 ((rd_T77 l0 x6_1).f1.f0), .int .i64 ((rd_T77 l0 x6_1).f1.f1), .int .i64 ((rd_T77 l0 x6_1).f1.f2), .int .i64 ((rd_T77 l0 x6_1).f1.f3), .int .i64 ((rd_T77 l0 x6_1).f1.f4), .string ((rd_T77 l0 x6_1).f1.f5), .string ((rd_T77 l0 x6_1).f1.f6), .string ((rd_T77 l0 x6_1).f1.f7)]) ?hi ?hs ?h1 ?hr ?hx ?hv ?_; (case hd => rfl); (case hd2 => rfl); (case ho => rfl); (case hg => rfl); (case hg2 => rfl); (case hi => kernel_rfl); (case hs => rfl); (case h1 => first | kernel_rfl | rfl); (case hx => intro p_; first | rfl | (go_simp; done) | (go_simp; rfl)); (case hv => intro p_; first | rfl | (go_simp; done) | (go_simp; rfl)); (case hr => first | (go_simp; done) | (go_simp; rfl)); intro gb312 hg w11 hbox hb; have n0_ := Aside0.mk (Kd.R_below (by (with_reducible repeat (first | apply Kd.R_alloc | apply Kd.R_drewN | apply Kd.R_drew)); exact HO_5.out) hb); have n1_ := Aside0.mk (below_step (by repeat (first | (with_reducible first | exact HB.out | apply below_alloc | apply pw_below_drewN | apply below_drew1) | exact HB.out)) hb); have n2_ := Aside0.mk (hbox); have n3_ := Aside0.mk ((by rw [hg]; exact (below_size (by repeat (first | (with_reducible first | exact HB.out | apply below_alloc | apply pw_below_drewN | apply below_drew1) | exact HB.out))) : w.heap.size ≤ gb312)); have n4_ := Aside0.mk ((by rw [hg]; exact (below_size (by repeat (first | (with_reducible first | exact HB.out | apply below_alloc | apply pw_below_drewN | apply below_drew1) | exact HB.out))) : w.heap.size ≤ gb312)); clear HO_5; clear HB; have HO_5 := n0_; have HB := n1_; have BK312 := n2_; have GW312 := n3_; have GE312 := n4_; clear n0_ n1_ n2_ n3_ n4_; clear hb hbox hg; have hcz12 := blk_cell BK312.out; have hfz12 := blk_frozen BK312.out) | ((with_reducible refine gate_callee (f := 37) rfl ?_); refine goesL_ (some 34) rfl rfl Tryd.func37 (by kernel_rfl) rfl #[.slice (some ad311) l0.length c0, .int .i64 5, .int .i64 a1, .int .i64 ((rd_T77 l0 x6_1).f1.f2)] rfl (by (try simp only [List.map_toArray, List.map_cons, List.map_nil]); first | done | rfl | (simp only [List.length_drop, List.length_take]; rfl)) ?_; (with_reducible refine (spec_l07Best.calls k1 _ _ l0 5 a1 ((rd_T77 l0 x6_1).f1.f2) t313 t314 t315 t316 t317 t318 t319 t320 t321 true _ ?side1 ?side2 A7.out).mono ?_); (case side1 => repeat (first | exact (Kd.C_below HR0.out HB.out) | (with_reducible refine Kd.C_alloc ?_ _) | (with_reducible refine Kd.C_drewN ?_ _) | (with_reducible refine Kd.C_drew ?_))); (case side2 => exact HC0.out); rintro e w13 ⟨rfl, hb⟩; refine ⟨_, rfl, ?_⟩; have n0_ := Aside0.mk (Kd.R_below (by (with_reducible repeat (first | apply Kd.R_alloc | apply Kd.R_drewN | apply Kd.R_drew)); exact HO_5.out) hb); have n1_ := Aside0.mk (blk_below (g := gb312) (o := .cells #[.int .i64 ((rd_T77 l0 x6_1).f1.f0), .int .i64 ((rd_T77 l0 x6_1).f1.f1), .int .i64 ((rd_T77 l0 x6_1).f1.f2), .int .i64 ((rd_T77 l0 x6_1).f1.f3), .int .i64 ((rd_T77 l0 x6_1).f1.f4), .string ((rd_T77 l0 x6_1).f1.f5), .string ((rd_T77 l0 x6_1).f1.f6), .string ((rd_T77 l0 x6_1).f1.f7)] 75 (0, 0)) (by (with_reducible repeat (first | refine blk_drewN ?_ _ | refine blk_drew ?_ | refine blk_alloc ?_ _)); exact BK312.out) hb); have n2_ := Aside0.mk (below_step (by repeat (first | (with_reducible first | exact HB.out | apply below_alloc | apply pw_below_drewN | apply below_drew1 | refine below_set ?_ GE312.out) | exact HB.out)) hb); clear HO_5; clear BK312; clear HB; have HO_5 := n0_; have BK312 := n1_; have HB := n2_; clear n0_ n1_ n2_; (try clear hb); (try clear hb2); (try clear hk); (try clear hi)) | ((with_reducible refine gate_dst (N := 8) rfl ?_); refine Go.Proofs.YtenedfmmjfgbaaaDoorR.box_full_event ?hg ?hg2 (N := 8) ?hd ?hd2 (t := 77) (v := ?vof8) ?ho (cs := #[.int .i64 0, .int .i64 0, .int .i64 0, .int .i64 0, .int .i64 0, .int .i64 0, .string (⟨#[]⟩ : ByteArray), .string (⟨#[]⟩ : ByteArray), .string (⟨#[]⟩ : ByteArray)]) (cells := #[.int .i64 t313, .int .i64 t314, .int .i64 t315, .int .i64 t316, .int .i64 t317, .int .i64 t318, .string t319, .string t320, .string t321]) ?hi ?hs ?h1 ?hr ?hx ?hv ?_; (case hd => rfl); (case hd2 => rfl); (case ho => rfl); (case hg => rfl); (case hg2 => rfl); (case hi => kernel_rfl); (case hs => rfl); (case h1 => first | kernel_rfl | rfl); (case hx => intro p_; first | rfl | (go_simp; done) | (go_simp; rfl)); (case hv => intro p_; first | rfl | (go_simp; done) | (go_simp; rfl)); (case hr => first | (go_simp; done) | (go_simp; rfl)); intro gb323 hg w14 hbox hb; have n0_ := Aside0.mk (Kd.R_below (by (with_reducible repeat (first | apply Kd.R_alloc | apply Kd.R_drewN | apply Kd.R_drew)); exact HO_5.out) hb); have n1_ := Aside0.mk (blk_below (g := gb312) (o := .cells #[.int .i64 ((rd_T77 l0 x6_1).f1.f0), .int .i64 ((rd_T77 l0 x6_1).f1.f1), .int .i64 ((rd_T77 l0 x6_1).f1.f2), .int .i64 ((rd_T77 l0 x6_1).f1.f3), .int .i64 ((rd_T77 l0 x6_1).f1.f4), .string ((rd_T77 l0 x6_1).f1.f5), .string ((rd_T77 l0 x6_1).f1.f6), .string ((rd_T77 l0 x6_1).f1.f7)] 75 (0, 0)) (by (with_reducible repeat (first | refine blk_drewN ?_ _ | refine blk_drew ?_ | refine blk_alloc ?_ _)); exact BK312.out) hb); have n2_ := Aside0.mk (below_step (by repeat (first | (with_reducible first | exact HB.out | apply below_alloc | apply pw_below_drewN | apply below_drew1 | refine below_set ?_ GE312.out) | exact HB.out)) hb); have n3_ := Aside0.mk (hbox); have n4_ := Aside0.mk ((by rw [hg]; exact (below_size (by repeat (first | (with_reducible first | exact HB.out | apply below_alloc | apply pw_below_drewN | apply below_drew1 | refine below_set ?_ GE312.out) | exact HB.out))) : w.heap.size ≤ gb323)); have n5_ := Aside0.mk ((by rw [hg]; exact (below_size (by repeat (first | (with_reducible first | exact HB.out | apply below_alloc | apply pw_below_drewN | apply below_drew1 | refine below_set ?_ GE312.out) | exact HB.out))) : w.heap.size ≤ gb323)); have n6_ := Aside0.mk ((by rw [hg]; exact Nat.ne_of_lt (blk_lt (g := gb312) (o := .cells #[.int .i64 ((rd_T77 l0 x6_1).f1.f0), .int .i64 ((rd_T77 l0 x6_1).f1.f1), .int .i64 ((rd_T77 l0 x6_1).f1.f2), .int .i64 ((rd_T77 l0 x6_1).f1.f3), .int .i64 ((rd_T77 l0 x6_1).f1.f4), .string ((rd_T77 l0 x6_1).f1.f5), .string ((rd_T77 l0 x6_1).f1.f6), .string ((rd_T77 l0 x6_1).f1.f7)] 75 (0, 0)) (by (with_reducible repeat (first | refine blk_drewN ?_ _ | refine blk_drew ?_ | refine blk_alloc ?_ _)); exact BK312.out)) : gb312 ≠ gb323)); have n7_ := Aside0.mk ((by rw [hg]; exact Nat.ne_of_gt (blk_lt (g := gb312) (o := .cells #[.int .i64 ((rd_T77 l0 x6_1).f1.f0), .int .i64 ((rd_T77 l0 x6_1).f1.f1), .int .i64 ((rd_T77 l0 x6_1).f1.f2), .int .i64 ((rd_T77 l0 x6_1).f1.f3), .int .i64 ((rd_T77 l0 x6_1).f1.f4), .string ((rd_T77 l0 x6_1).f1.f5), .string ((rd_T77 l0 x6_1).f1.f6), .string ((rd_T77 l0 x6_1).f1.f7)] 75 (0, 0)) (by (with_reducible repeat (first | refine blk_drewN ?_ _ | refine blk_drew ?_ | refine blk_alloc ?_ _)); exact BK312.out)) : gb323 ≠ gb312)); clear HO_5; clear BK312; clear HB; have HO_5 := n0_; have BK312 := n1_; have HB := n2_; have BK323 := n3_; have GW323 := n4_; have GE323 := n5_; have NB312_323 := n6_; have NB323_312 := n7_; clear n0_ n1_ n2_ n3_ n4_ n5_ n6_ n7_; clear hb hbox hg; have hnb15 := NB312_323.out; have hnc15 := NB323_312.out; have hcz16 := blk_cell BK312.out; have hfz16 := blk_frozen BK312.out))
        go_roundg k1
        case measure => have := HK1.out; omega
        case rel => exact ⟨(x5_1), (wrap64 (x6_1 + 1)), (by first | rfl | (simp; done) | (simp [*]; done) | (simp; exact (by intro l; cases l <;> rfl : ∀ l : List UInt8, l.isEmpty = !(l != [])) _)), H', ⟨by have := HK1.out; omega⟩, ⟨by (with_reducible repeat (first | apply Kd.R_alloc | apply Kd.R_drewN | apply Kd.R_drew)); exact HO_5.out⟩, ⟨by repeat (first | (with_reducible first | exact HB.out | apply below_alloc | apply pw_below_drewN | apply below_drew1 | refine below_set ?_ GE312.out | refine below_set ?_ GE323.out) | exact HB.out)⟩⟩
       ·replace c10 := Bool.eq_false_iff.mpr c10
        subst c10
        (try rw [if_neg (show ¬ (false = true) by decide)] at H)
        replace H := Option.bind_eq_some_iff.mp H
        obtain ⟨t324, A170, H⟩ := H
        (try set_option simprocs false in dsimp only at H)
        have A17 := Aside0.mk A170
        clear A170
        have H' := Aside0.mk H
        clear H
        have p311 : 0 ≤ (x6_1 : Int) := of_decide_eq_true (by first | (with_reducible assumption) | assumption)
        have q311 : x6_1 < (l0.length : Int) := of_decide_eq_true (by first | (with_reducible assumption) | assumption)
        obtain ⟨ad311, e311, hx311_0, hx311_1, hx311_2, hx311_3, hx311_4, hx311_5, hx311_6, hx311_7, hx311_8⟩ := at_T77 HR0.out x6_1 p311 q311
        cases e311
        replace hx311_0 := (HB.out.cell (World.block_lt_of_cell? w _ hx311_0)).trans hx311_0
        replace hx311_1 := (HB.out.cell (World.block_lt_of_cell? w _ hx311_1)).trans hx311_1
        replace hx311_2 := (HB.out.cell (World.block_lt_of_cell? w _ hx311_2)).trans hx311_2
        replace hx311_3 := (HB.out.cell (World.block_lt_of_cell? w _ hx311_3)).trans hx311_3
        replace hx311_4 := (HB.out.cell (World.block_lt_of_cell? w _ hx311_4)).trans hx311_4
        replace hx311_5 := (HB.out.cell (World.block_lt_of_cell? w _ hx311_5)).trans hx311_5
        replace hx311_6 := (HB.out.cell (World.block_lt_of_cell? w _ hx311_6)).trans hx311_6
        replace hx311_7 := (HB.out.cell (World.block_lt_of_cell? w _ hx311_7)).trans hx311_7
        replace hx311_8 := (HB.out.cell (World.block_lt_of_cell? w _ hx311_8)).trans hx311_8
        replace p311 := eq_true p311
        replace q311 := eq_true q311
        go_wp2_with (first | ((with_reducible refine gate_dst (N := 7) rfl ?_); refine Go.Proofs.YtenedfmmjfgbaaaDoorR.box_full_event ?hg ?hg2 (N := 7) ?hd ?hd2 (t := 75) (v := ?vof7) ?ho (cs := #[.int .i64 0, .int .i64 0, .int .i64 0, .int .i64 0, .int .i64 0, .string (⟨#[]⟩ : ByteArray), .string (⟨#[]⟩ : ByteArray), .string (⟨#[]⟩ : ByteArray)]) (cells := #[.int .i64 ((rd_T77 l0 x6_1).f1.f0), .int .i64 ((rd_T77 l0 x6_1).f1.f1), .int .i64 ((rd_T77 l0 x6_1).f1.f2), .int .i64 ((rd_T77 l0 x6_1).f1.f3), .int .i64 ((rd_T77 l0 x6_1).f1.f4), .string ((rd_T77 l0 x6_1).f1.f5), .string ((rd_T77 l0 x6_1).f1.f6), .string ((rd_T77 l0 x6_1).f1.f7)]) ?hi ?hs ?h1 ?hr ?hx ?hv ?_; (case hd => rfl); (case hd2 => rfl); (case ho => rfl); (case hg => rfl); (case hg2 => rfl); (case hi => kernel_rfl); (case hs => rfl); (case h1 => first | kernel_rfl | rfl); (case hx => intro p_; first | rfl | (go_simp; done) | (go_simp; rfl)); (case hv => intro p_; first | rfl | (go_simp; done) | (go_simp; rfl)); (case hr => first | (go_simp; done) | (go_simp; rfl)); intro gb312 hg w18 hbox hb; have n0_ := Aside0.mk (Kd.R_below (by (with_reducible repeat (first | apply Kd.R_alloc | apply Kd.R_drewN | apply Kd.R_drew)); exact HO_5.out) hb); have n1_ := Aside0.mk (below_step (by repeat (first | (with_reducible first | exact HB.out | apply below_alloc | apply pw_below_drewN | apply below_drew1) | exact HB.out)) hb); have n2_ := Aside0.mk (hbox); have n3_ := Aside0.mk ((by rw [hg]; exact (below_size (by repeat (first | (with_reducible first | exact HB.out | apply below_alloc | apply pw_below_drewN | apply below_drew1) | exact HB.out))) : w.heap.size ≤ gb312)); have n4_ := Aside0.mk ((by rw [hg]; exact (below_size (by repeat (first | (with_reducible first | exact HB.out | apply below_alloc | apply pw_below_drewN | apply below_drew1) | exact HB.out))) : w.heap.size ≤ gb312)); clear HO_5; clear HB; have HO_5 := n0_; have HB := n1_; have BK312 := n2_; have GW312 := n3_; have GE312 := n4_; clear n0_ n1_ n2_ n3_ n4_; clear hb hbox hg; have hcz19 := blk_cell BK312.out; have hfz19 := blk_frozen BK312.out) | ((with_reducible refine gate_callee (f := 37) rfl ?_); refine goesL_ (some 34) rfl rfl Tryd.func37 (by kernel_rfl) rfl #[.slice (some ad311) l0.length c0, .int .i64 5, .int .i64 a1, .int .i64 ((rd_T77 l0 x6_1).f1.f2)] rfl (by (try simp only [List.map_toArray, List.map_cons, List.map_nil]); first | done | rfl | (simp only [List.length_drop, List.length_take]; rfl)) ?_; (with_reducible refine (spec_l07Best.calls k1 _ _ l0 5 a1 ((rd_T77 l0 x6_1).f1.f2) t313 t314 t315 t316 t317 t318 t319 t320 t321 false _ ?side1 ?side2 A7.out).mono ?_); (case side1 => repeat (first | exact (Kd.C_below HR0.out HB.out) | (with_reducible refine Kd.C_alloc ?_ _) | (with_reducible refine Kd.C_drewN ?_ _) | (with_reducible refine Kd.C_drew ?_))); (case side2 => exact HC0.out); rintro e w20 ⟨rfl, hb⟩; refine ⟨_, rfl, ?_⟩; have n0_ := Aside0.mk (Kd.R_below (by (with_reducible repeat (first | apply Kd.R_alloc | apply Kd.R_drewN | apply Kd.R_drew)); exact HO_5.out) hb); have n1_ := Aside0.mk (blk_below (g := gb312) (o := .cells #[.int .i64 ((rd_T77 l0 x6_1).f1.f0), .int .i64 ((rd_T77 l0 x6_1).f1.f1), .int .i64 ((rd_T77 l0 x6_1).f1.f2), .int .i64 ((rd_T77 l0 x6_1).f1.f3), .int .i64 ((rd_T77 l0 x6_1).f1.f4), .string ((rd_T77 l0 x6_1).f1.f5), .string ((rd_T77 l0 x6_1).f1.f6), .string ((rd_T77 l0 x6_1).f1.f7)] 75 (0, 0)) (by (with_reducible repeat (first | refine blk_drewN ?_ _ | refine blk_drew ?_ | refine blk_alloc ?_ _)); exact BK312.out) hb); have n2_ := Aside0.mk (below_step (by repeat (first | (with_reducible first | exact HB.out | apply below_alloc | apply pw_below_drewN | apply below_drew1 | refine below_set ?_ GE312.out) | exact HB.out)) hb); clear HO_5; clear BK312; clear HB; have HO_5 := n0_; have BK312 := n1_; have HB := n2_; clear n0_ n1_ n2_; (try clear hb); (try clear hb2); (try clear hk); (try clear hi)) | ((with_reducible refine gate_dst (N := 8) rfl ?_); refine Go.Proofs.YtenedfmmjfgbaaaDoorR.box_full_event ?hg ?hg2 (N := 8) ?hd ?hd2 (t := 77) (v := ?vof8) ?ho (cs := #[.int .i64 0, .int .i64 0, .int .i64 0, .int .i64 0, .int .i64 0, .int .i64 0, .string (⟨#[]⟩ : ByteArray), .string (⟨#[]⟩ : ByteArray), .string (⟨#[]⟩ : ByteArray)]) (cells := #[.int .i64 t313, .int .i64 t314, .int .i64 t315, .int .i64 t316, .int .i64 t317, .int .i64 t318, .string t319, .string t320, .string t321]) ?hi ?hs ?h1 ?hr ?hx ?hv ?_; (case hd => rfl); (case hd2 => rfl); (case ho => rfl); (case hg => rfl); (case hg2 => rfl); (case hi => kernel_rfl); (case hs => rfl); (case h1 => first | kernel_rfl | rfl); (case hx => intro p_; first | rfl | (go_simp; done) | (go_simp; rfl)); (case hv => intro p_; first | rfl | (go_simp; done) | (go_simp; rfl)); (case hr => first | (go_simp; done) | (go_simp; rfl)); intro gb323 hg w21 hbox hb; have n0_ := Aside0.mk (Kd.R_below (by (with_reducible repeat (first | apply Kd.R_alloc | apply Kd.R_drewN | apply Kd.R_drew)); exact HO_5.out) hb); have n1_ := Aside0.mk (blk_below (g := gb312) (o := .cells #[.int .i64 ((rd_T77 l0 x6_1).f1.f0), .int .i64 ((rd_T77 l0 x6_1).f1.f1), .int .i64 ((rd_T77 l0 x6_1).f1.f2), .int .i64 ((rd_T77 l0 x6_1).f1.f3), .int .i64 ((rd_T77 l0 x6_1).f1.f4), .string ((rd_T77 l0 x6_1).f1.f5), .string ((rd_T77 l0 x6_1).f1.f6), .string ((rd_T77 l0 x6_1).f1.f7)] 75 (0, 0)) (by (with_reducible repeat (first | refine blk_drewN ?_ _ | refine blk_drew ?_ | refine blk_alloc ?_ _)); exact BK312.out) hb); have n2_ := Aside0.mk (below_step (by repeat (first | (with_reducible first | exact HB.out | apply below_alloc | apply pw_below_drewN | apply below_drew1 | refine below_set ?_ GE312.out) | exact HB.out)) hb); have n3_ := Aside0.mk (hbox); have n4_ := Aside0.mk ((by rw [hg]; exact (below_size (by repeat (first | (with_reducible first | exact HB.out | apply below_alloc | apply pw_below_drewN | apply below_drew1 | refine below_set ?_ GE312.out) | exact HB.out))) : w.heap.size ≤ gb323)); have n5_ := Aside0.mk ((by rw [hg]; exact (below_size (by repeat (first | (with_reducible first | exact HB.out | apply below_alloc | apply pw_below_drewN | apply below_drew1 | refine below_set ?_ GE312.out) | exact HB.out))) : w.heap.size ≤ gb323)); have n6_ := Aside0.mk ((by rw [hg]; exact Nat.ne_of_lt (blk_lt (g := gb312) (o := .cells #[.int .i64 ((rd_T77 l0 x6_1).f1.f0), .int .i64 ((rd_T77 l0 x6_1).f1.f1), .int .i64 ((rd_T77 l0 x6_1).f1.f2), .int .i64 ((rd_T77 l0 x6_1).f1.f3), .int .i64 ((rd_T77 l0 x6_1).f1.f4), .string ((rd_T77 l0 x6_1).f1.f5), .string ((rd_T77 l0 x6_1).f1.f6), .string ((rd_T77 l0 x6_1).f1.f7)] 75 (0, 0)) (by (with_reducible repeat (first | refine blk_drewN ?_ _ | refine blk_drew ?_ | refine blk_alloc ?_ _)); exact BK312.out)) : gb312 ≠ gb323)); have n7_ := Aside0.mk ((by rw [hg]; exact Nat.ne_of_gt (blk_lt (g := gb312) (o := .cells #[.int .i64 ((rd_T77 l0 x6_1).f1.f0), .int .i64 ((rd_T77 l0 x6_1).f1.f1), .int .i64 ((rd_T77 l0 x6_1).f1.f2), .int .i64 ((rd_T77 l0 x6_1).f1.f3), .int .i64 ((rd_T77 l0 x6_1).f1.f4), .string ((rd_T77 l0 x6_1).f1.f5), .string ((rd_T77 l0 x6_1).f1.f6), .string ((rd_T77 l0 x6_1).f1.f7)] 75 (0, 0)) (by (with_reducible repeat (first | refine blk_drewN ?_ _ | refine blk_drew ?_ | refine blk_alloc ?_ _)); exact BK312.out)) : gb323 ≠ gb312)); clear HO_5; clear BK312; clear HB; have HO_5 := n0_; have BK312 := n1_; have HB := n2_; have BK323 := n3_; have GW323 := n4_; have GE323 := n5_; have NB312_323 := n6_; have NB323_312 := n7_; clear n0_ n1_ n2_ n3_ n4_ n5_ n6_ n7_; clear hb hbox hg; have hnb22 := NB312_323.out; have hnc22 := NB323_312.out; have hcz23 := blk_cell BK312.out; have hfz23 := blk_frozen BK312.out; obtain ⟨Ao24, co24, eo24⟩ := Kd.R_slice HO_5.out; subst eo24) | ((with_reducible refine gate_callee (f := 38) rfl ?_); refine goesL_ (some 53) rfl rfl Tryd.func38 (by kernel_rfl) rfl #[.slice Ao24 x5_1.length co24, .int .i64 ((rd_T77 l0 x6_1).f1.f2)] rfl (by (try simp only [List.map_toArray, List.map_cons, List.map_nil]); first | done | rfl | (simp only [List.length_drop, List.length_take]; rfl)) ?_; (with_reducible refine (spec_l07Sorted.calls k1 _ _ x5_1 ((rd_T77 l0 x6_1).f1.f2) t324 _ ?side1 ?side2 A17.out).mono ?_); (case side1 => repeat (first | exact (Kd.R_reads' HO_5.out).2.2 | (with_reducible refine Kd.C_alloc ?_ _) | (with_reducible refine Kd.C_drewN ?_ _) | (with_reducible refine Kd.C_drew ?_))); (case side2 => exact (Kd.R_reads' HO_5.out).2.1); rintro e w25 ⟨v325, rfl, ho0, hb⟩; refine ⟨_, rfl, ?_⟩; have n0_ := Aside0.mk (Kd.R_elder' (by (with_reducible repeat (first | apply Kd.R_alloc | apply Kd.R_drewN | apply Kd.R_drew)); exact HO_5.out) (Kd.R_base ho0) hb); have n1_ := Aside0.mk (Kd.R_lower (Kd.R_new' ho0 (Kd.R_lt (by (with_reducible repeat (first | apply Kd.R_alloc | apply Kd.R_drewN | apply Kd.R_drew)); exact HO_5.out))) (below_size (by repeat (first | (with_reducible first | exact HB.out | apply below_alloc | apply pw_below_drewN | apply below_drew1 | refine below_set ?_ GE312.out | refine below_set ?_ GE323.out) | exact HB.out)))); have n2_ := Aside0.mk (blk_below (g := gb312) (o := .cells #[.int .i64 ((rd_T77 l0 x6_1).f1.f0), .int .i64 ((rd_T77 l0 x6_1).f1.f1), .int .i64 ((rd_T77 l0 x6_1).f1.f2), .int .i64 ((rd_T77 l0 x6_1).f1.f3), .int .i64 ((rd_T77 l0 x6_1).f1.f4), .string ((rd_T77 l0 x6_1).f1.f5), .string ((rd_T77 l0 x6_1).f1.f6), .string ((rd_T77 l0 x6_1).f1.f7)] 75 (0, 0)) (by (with_reducible repeat (first | refine blk_drewN ?_ _ | refine blk_drew ?_ | refine blk_alloc ?_ _)); exact BK312.out) hb); have n3_ := Aside0.mk (blk_below (g := gb323) (o := .cells #[.int .i64 t313, .int .i64 t314, .int .i64 t315, .int .i64 t316, .int .i64 t317, .int .i64 t318, .string t319, .string t320, .string t321] 77 (0, 0)) (by (with_reducible repeat (first | refine blk_drewN ?_ _ | refine blk_drew ?_ | refine blk_alloc ?_ _)); exact BK323.out) hb); have n4_ := Aside0.mk (below_step (by repeat (first | (with_reducible first | exact HB.out | apply below_alloc | apply pw_below_drewN | apply below_drew1 | refine below_set ?_ GE312.out | refine below_set ?_ GE323.out) | exact HB.out)) hb); clear HO_5; clear BK312; clear BK323; clear HB; have HO_5 := n0_; have HO326 := n1_; have BK312 := n2_; have BK323 := n3_; have HB := n4_; clear n0_ n1_ n2_ n3_ n4_; (try clear hb); (try clear hb2); (try clear hk); (try clear hi); (try clear ho0)))
        go_roundg k1
        case measure => have := HK1.out; omega
        case rel => exact ⟨(t324), (wrap64 (x6_1 + 1)), (by first | rfl | (simp; done) | (simp [*]; done) | (simp; exact (by intro l; cases l <;> rfl : ∀ l : List UInt8, l.isEmpty = !(l != [])) _)), H', ⟨by have := HK1.out; omega⟩, ⟨by (with_reducible repeat (first | apply Kd.R_alloc | apply Kd.R_drewN | apply Kd.R_drew)); exact Kd.R_mono HO326.out (fun _ hk => trivial)⟩, ⟨by repeat (first | (with_reducible first | exact HB.out | apply below_alloc | apply pw_below_drewN | apply below_drew1 | refine below_set ?_ GE312.out | refine below_set ?_ GE323.out) | exact HB.out)⟩⟩
      ·rw [if_neg c9] at H
       have c9b0 : (((rd_T77 l0 x6_1).f1.f1) == a1) = false := beq_eq_false_iff_ne.mpr c9
       have c9b1 : (((rd_T77 l0 x6_1).f1.f1) != a1) = true := bne_iff_ne.mpr c9
       have H' := Aside0.mk H
       clear H
       have p311 : 0 ≤ (x6_1 : Int) := of_decide_eq_true (by first | (with_reducible assumption) | assumption)
       have q311 : x6_1 < (l0.length : Int) := of_decide_eq_true (by first | (with_reducible assumption) | assumption)
       obtain ⟨ad311, e311, hx311_0, hx311_1, hx311_2, hx311_3, hx311_4, hx311_5, hx311_6, hx311_7, hx311_8⟩ := at_T77 HR0.out x6_1 p311 q311
       cases e311
       replace hx311_0 := (HB.out.cell (World.block_lt_of_cell? w _ hx311_0)).trans hx311_0
       replace hx311_1 := (HB.out.cell (World.block_lt_of_cell? w _ hx311_1)).trans hx311_1
       replace hx311_2 := (HB.out.cell (World.block_lt_of_cell? w _ hx311_2)).trans hx311_2
       replace hx311_3 := (HB.out.cell (World.block_lt_of_cell? w _ hx311_3)).trans hx311_3
       replace hx311_4 := (HB.out.cell (World.block_lt_of_cell? w _ hx311_4)).trans hx311_4
       replace hx311_5 := (HB.out.cell (World.block_lt_of_cell? w _ hx311_5)).trans hx311_5
       replace hx311_6 := (HB.out.cell (World.block_lt_of_cell? w _ hx311_6)).trans hx311_6
       replace hx311_7 := (HB.out.cell (World.block_lt_of_cell? w _ hx311_7)).trans hx311_7
       replace hx311_8 := (HB.out.cell (World.block_lt_of_cell? w _ hx311_8)).trans hx311_8
       replace p311 := eq_true p311
       replace q311 := eq_true q311
       go_wp2_with (first | ((with_reducible refine gate_dst (N := 7) rfl ?_); refine Go.Proofs.YtenedfmmjfgbaaaDoorR.box_full_event ?hg ?hg2 (N := 7) ?hd ?hd2 (t := 75) (v := ?vof7) ?ho (cs := #[.int .i64 0, .int .i64 0, .int .i64 0, .int .i64 0, .int .i64 0, .string (⟨#[]⟩ : ByteArray), .string (⟨#[]⟩ : ByteArray), .string (⟨#[]⟩ : ByteArray)]) (cells := #[.int .i64 ((rd_T77 l0 x6_1).f1.f0), .int .i64 ((rd_T77 l0 x6_1).f1.f1), .int .i64 ((rd_T77 l0 x6_1).f1.f2), .int .i64 ((rd_T77 l0 x6_1).f1.f3), .int .i64 ((rd_T77 l0 x6_1).f1.f4), .string ((rd_T77 l0 x6_1).f1.f5), .string ((rd_T77 l0 x6_1).f1.f6), .string ((rd_T77 l0 x6_1).f1.f7)]) ?hi ?hs ?h1 ?hr ?hx ?hv ?_; (case hd => rfl); (case hd2 => rfl); (case ho => rfl); (case hg => rfl); (case hg2 => rfl); (case hi => kernel_rfl); (case hs => rfl); (case h1 => first | kernel_rfl | rfl); (case hx => intro p_; first | rfl | (go_simp; done) | (go_simp; rfl)); (case hv => intro p_; first | rfl | (go_simp; done) | (go_simp; rfl)); (case hr => first | (go_simp; done) | (go_simp; rfl)); intro gb312 hg w26 hbox hb; have n0_ := Aside0.mk (Kd.R_below (by (with_reducible repeat (first | apply Kd.R_alloc | apply Kd.R_drewN | apply Kd.R_drew)); exact HO_5.out) hb); have n1_ := Aside0.mk (below_step (by repeat (first | (with_reducible first | exact HB.out | apply below_alloc | apply pw_below_drewN | apply below_drew1) | exact HB.out)) hb); have n2_ := Aside0.mk (hbox); have n3_ := Aside0.mk ((by rw [hg]; exact (below_size (by repeat (first | (with_reducible first | exact HB.out | apply below_alloc | apply pw_below_drewN | apply below_drew1) | exact HB.out))) : w.heap.size ≤ gb312)); have n4_ := Aside0.mk ((by rw [hg]; exact (below_size (by repeat (first | (with_reducible first | exact HB.out | apply below_alloc | apply pw_below_drewN | apply below_drew1) | exact HB.out))) : w.heap.size ≤ gb312)); clear HO_5; clear HB; have HO_5 := n0_; have HB := n1_; have BK312 := n2_; have GW312 := n3_; have GE312 := n4_; clear n0_ n1_ n2_ n3_ n4_; clear hb hbox hg; have hcz27 := blk_cell BK312.out; have hfz27 := blk_frozen BK312.out) | ((with_reducible refine gate_callee (f := 37) rfl ?_); refine goesL_ (some 34) rfl rfl Tryd.func37 (by kernel_rfl) rfl #[.slice (some ad311) l0.length c0, .int .i64 5, .int .i64 a1, .int .i64 ((rd_T77 l0 x6_1).f1.f2)] rfl (by (try simp only [List.map_toArray, List.map_cons, List.map_nil]); first | done | rfl | (simp only [List.length_drop, List.length_take]; rfl)) ?_; (with_reducible refine (spec_l07Best.calls k1 _ _ l0 5 a1 ((rd_T77 l0 x6_1).f1.f2) t313 t314 t315 t316 t317 t318 t319 t320 t321 t322 _ ?side1 ?side2 A7.out).mono ?_); (case side1 => repeat (first | exact (Kd.C_below HR0.out HB.out) | (with_reducible refine Kd.C_alloc ?_ _) | (with_reducible refine Kd.C_drewN ?_ _) | (with_reducible refine Kd.C_drew ?_))); (case side2 => exact HC0.out); rintro e w28 ⟨rfl, hb⟩; refine ⟨_, rfl, ?_⟩; have n0_ := Aside0.mk (Kd.R_below (by (with_reducible repeat (first | apply Kd.R_alloc | apply Kd.R_drewN | apply Kd.R_drew)); exact HO_5.out) hb); have n1_ := Aside0.mk (blk_below (g := gb312) (o := .cells #[.int .i64 ((rd_T77 l0 x6_1).f1.f0), .int .i64 ((rd_T77 l0 x6_1).f1.f1), .int .i64 ((rd_T77 l0 x6_1).f1.f2), .int .i64 ((rd_T77 l0 x6_1).f1.f3), .int .i64 ((rd_T77 l0 x6_1).f1.f4), .string ((rd_T77 l0 x6_1).f1.f5), .string ((rd_T77 l0 x6_1).f1.f6), .string ((rd_T77 l0 x6_1).f1.f7)] 75 (0, 0)) (by (with_reducible repeat (first | refine blk_drewN ?_ _ | refine blk_drew ?_ | refine blk_alloc ?_ _)); exact BK312.out) hb); have n2_ := Aside0.mk (below_step (by repeat (first | (with_reducible first | exact HB.out | apply below_alloc | apply pw_below_drewN | apply below_drew1 | refine below_set ?_ GE312.out) | exact HB.out)) hb); clear HO_5; clear BK312; clear HB; have HO_5 := n0_; have BK312 := n1_; have HB := n2_; clear n0_ n1_ n2_; (try clear hb); (try clear hb2); (try clear hk); (try clear hi)) | ((with_reducible refine gate_dst (N := 8) rfl ?_); refine Go.Proofs.YtenedfmmjfgbaaaDoorR.box_full_event ?hg ?hg2 (N := 8) ?hd ?hd2 (t := 77) (v := ?vof8) ?ho (cs := #[.int .i64 0, .int .i64 0, .int .i64 0, .int .i64 0, .int .i64 0, .int .i64 0, .string (⟨#[]⟩ : ByteArray), .string (⟨#[]⟩ : ByteArray), .string (⟨#[]⟩ : ByteArray)]) (cells := #[.int .i64 t313, .int .i64 t314, .int .i64 t315, .int .i64 t316, .int .i64 t317, .int .i64 t318, .string t319, .string t320, .string t321]) ?hi ?hs ?h1 ?hr ?hx ?hv ?_; (case hd => rfl); (case hd2 => rfl); (case ho => rfl); (case hg => rfl); (case hg2 => rfl); (case hi => kernel_rfl); (case hs => rfl); (case h1 => first | kernel_rfl | rfl); (case hx => intro p_; first | rfl | (go_simp; done) | (go_simp; rfl)); (case hv => intro p_; first | rfl | (go_simp; done) | (go_simp; rfl)); (case hr => first | (go_simp; done) | (go_simp; rfl)); intro gb323 hg w29 hbox hb; have n0_ := Aside0.mk (Kd.R_below (by (with_reducible repeat (first | apply Kd.R_alloc | apply Kd.R_drewN | apply Kd.R_drew)); exact HO_5.out) hb); have n1_ := Aside0.mk (blk_below (g := gb312) (o := .cells #[.int .i64 ((rd_T77 l0 x6_1).f1.f0), .int .i64 ((rd_T77 l0 x6_1).f1.f1), .int .i64 ((rd_T77 l0 x6_1).f1.f2), .int .i64 ((rd_T77 l0 x6_1).f1.f3), .int .i64 ((rd_T77 l0 x6_1).f1.f4), .string ((rd_T77 l0 x6_1).f1.f5), .string ((rd_T77 l0 x6_1).f1.f6), .string ((rd_T77 l0 x6_1).f1.f7)] 75 (0, 0)) (by (with_reducible repeat (first | refine blk_drewN ?_ _ | refine blk_drew ?_ | refine blk_alloc ?_ _)); exact BK312.out) hb); have n2_ := Aside0.mk (below_step (by repeat (first | (with_reducible first | exact HB.out | apply below_alloc | apply pw_below_drewN | apply below_drew1 | refine below_set ?_ GE312.out) | exact HB.out)) hb); have n3_ := Aside0.mk (hbox); have n4_ := Aside0.mk ((by rw [hg]; exact (below_size (by repeat (first | (with_reducible first | exact HB.out | apply below_alloc | apply pw_below_drewN | apply below_drew1 | refine below_set ?_ GE312.out) | exact HB.out))) : w.heap.size ≤ gb323)); have n5_ := Aside0.mk ((by rw [hg]; exact (below_size (by repeat (first | (with_reducible first | exact HB.out | apply below_alloc | apply pw_below_drewN | apply below_drew1 | refine below_set ?_ GE312.out) | exact HB.out))) : w.heap.size ≤ gb323)); have n6_ := Aside0.mk ((by rw [hg]; exact Nat.ne_of_lt (blk_lt (g := gb312) (o := .cells #[.int .i64 ((rd_T77 l0 x6_1).f1.f0), .int .i64 ((rd_T77 l0 x6_1).f1.f1), .int .i64 ((rd_T77 l0 x6_1).f1.f2), .int .i64 ((rd_T77 l0 x6_1).f1.f3), .int .i64 ((rd_T77 l0 x6_1).f1.f4), .string ((rd_T77 l0 x6_1).f1.f5), .string ((rd_T77 l0 x6_1).f1.f6), .string ((rd_T77 l0 x6_1).f1.f7)] 75 (0, 0)) (by (with_reducible repeat (first | refine blk_drewN ?_ _ | refine blk_drew ?_ | refine blk_alloc ?_ _)); exact BK312.out)) : gb312 ≠ gb323)); have n7_ := Aside0.mk ((by rw [hg]; exact Nat.ne_of_gt (blk_lt (g := gb312) (o := .cells #[.int .i64 ((rd_T77 l0 x6_1).f1.f0), .int .i64 ((rd_T77 l0 x6_1).f1.f1), .int .i64 ((rd_T77 l0 x6_1).f1.f2), .int .i64 ((rd_T77 l0 x6_1).f1.f3), .int .i64 ((rd_T77 l0 x6_1).f1.f4), .string ((rd_T77 l0 x6_1).f1.f5), .string ((rd_T77 l0 x6_1).f1.f6), .string ((rd_T77 l0 x6_1).f1.f7)] 75 (0, 0)) (by (with_reducible repeat (first | refine blk_drewN ?_ _ | refine blk_drew ?_ | refine blk_alloc ?_ _)); exact BK312.out)) : gb323 ≠ gb312)); clear HO_5; clear BK312; clear HB; have HO_5 := n0_; have BK312 := n1_; have HB := n2_; have BK323 := n3_; have GW323 := n4_; have GE323 := n5_; have NB312_323 := n6_; have NB323_312 := n7_; clear n0_ n1_ n2_ n3_ n4_ n5_ n6_ n7_; clear hb hbox hg; have hnb30 := NB312_323.out; have hnc30 := NB323_312.out; have hcz31 := blk_cell BK312.out; have hfz31 := blk_frozen BK312.out))
       go_roundg k1
       case measure => have := HK1.out; omega
       case rel => exact ⟨(x5_1), (wrap64 (x6_1 + 1)), (by first | rfl | (simp; done) | (simp [*]; done) | (simp; exact (by intro l; cases l <;> rfl : ∀ l : List UInt8, l.isEmpty = !(l != [])) _)), H', ⟨by have := HK1.out; omega⟩, ⟨by (with_reducible repeat (first | apply Kd.R_alloc | apply Kd.R_drewN | apply Kd.R_drew)); exact HO_5.out⟩, ⟨by repeat (first | (with_reducible first | exact HB.out | apply below_alloc | apply pw_below_drewN | apply below_drew1 | refine below_set ?_ GE312.out | refine below_set ?_ GE323.out) | exact HB.out)⟩⟩
     ·rw [if_neg c8] at H
      have c8b0 : (((rd_T77 l0 x6_1).f1.f0) == 3) = false := beq_eq_false_iff_ne.mpr c8
      have c8b1 : (((rd_T77 l0 x6_1).f1.f0) != 3) = true := bne_iff_ne.mpr c8
      have H' := Aside0.mk H
      clear H
      have p311 : 0 ≤ (x6_1 : Int) := of_decide_eq_true (by first | (with_reducible assumption) | assumption)
      have q311 : x6_1 < (l0.length : Int) := of_decide_eq_true (by first | (with_reducible assumption) | assumption)
      obtain ⟨ad311, e311, hx311_0, hx311_1, hx311_2, hx311_3, hx311_4, hx311_5, hx311_6, hx311_7, hx311_8⟩ := at_T77 HR0.out x6_1 p311 q311
      cases e311
      replace hx311_0 := (HB.out.cell (World.block_lt_of_cell? w _ hx311_0)).trans hx311_0
      replace hx311_1 := (HB.out.cell (World.block_lt_of_cell? w _ hx311_1)).trans hx311_1
      replace hx311_2 := (HB.out.cell (World.block_lt_of_cell? w _ hx311_2)).trans hx311_2
      replace hx311_3 := (HB.out.cell (World.block_lt_of_cell? w _ hx311_3)).trans hx311_3
      replace hx311_4 := (HB.out.cell (World.block_lt_of_cell? w _ hx311_4)).trans hx311_4
      replace hx311_5 := (HB.out.cell (World.block_lt_of_cell? w _ hx311_5)).trans hx311_5
      replace hx311_6 := (HB.out.cell (World.block_lt_of_cell? w _ hx311_6)).trans hx311_6
      replace hx311_7 := (HB.out.cell (World.block_lt_of_cell? w _ hx311_7)).trans hx311_7
      replace hx311_8 := (HB.out.cell (World.block_lt_of_cell? w _ hx311_8)).trans hx311_8
      replace p311 := eq_true p311
      replace q311 := eq_true q311
      go_wp2_with (first | ((with_reducible refine gate_dst (N := 7) rfl ?_); refine Go.Proofs.YtenedfmmjfgbaaaDoorR.box_full_event ?hg ?hg2 (N := 7) ?hd ?hd2 (t := 75) (v := ?vof7) ?ho (cs := #[.int .i64 0, .int .i64 0, .int .i64 0, .int .i64 0, .int .i64 0, .string (⟨#[]⟩ : ByteArray), .string (⟨#[]⟩ : ByteArray), .string (⟨#[]⟩ : ByteArray)]) (cells := #[.int .i64 ((rd_T77 l0 x6_1).f1.f0), .int .i64 ((rd_T77 l0 x6_1).f1.f1), .int .i64 ((rd_T77 l0 x6_1).f1.f2), .int .i64 ((rd_T77 l0 x6_1).f1.f3), .int .i64 ((rd_T77 l0 x6_1).f1.f4), .string ((rd_T77 l0 x6_1).f1.f5), .string ((rd_T77 l0 x6_1).f1.f6), .string ((rd_T77 l0 x6_1).f1.f7)]) ?hi ?hs ?h1 ?hr ?hx ?hv ?_; (case hd => rfl); (case hd2 => rfl); (case ho => rfl); (case hg => rfl); (case hg2 => rfl); (case hi => kernel_rfl); (case hs => rfl); (case h1 => first | kernel_rfl | rfl); (case hx => intro p_; first | rfl | (go_simp; done) | (go_simp; rfl)); (case hv => intro p_; first | rfl | (go_simp; done) | (go_simp; rfl)); (case hr => first | (go_simp; done) | (go_simp; rfl)); intro gb312 hg w32 hbox hb; have n0_ := Aside0.mk (Kd.R_below (by (with_reducible repeat (first | apply Kd.R_alloc | apply Kd.R_drewN | apply Kd.R_drew)); exact HO_5.out) hb); have n1_ := Aside0.mk (below_step (by repeat (first | (with_reducible first | exact HB.out | apply below_alloc | apply pw_below_drewN | apply below_drew1) | exact HB.out)) hb); have n2_ := Aside0.mk (hbox); have n3_ := Aside0.mk ((by rw [hg]; exact (below_size (by repeat (first | (with_reducible first | exact HB.out | apply below_alloc | apply pw_below_drewN | apply below_drew1) | exact HB.out))) : w.heap.size ≤ gb312)); have n4_ := Aside0.mk ((by rw [hg]; exact (below_size (by repeat (first | (with_reducible first | exact HB.out | apply below_alloc | apply pw_below_drewN | apply below_drew1) | exact HB.out))) : w.heap.size ≤ gb312)); clear HO_5; clear HB; have HO_5 := n0_; have HB := n1_; have BK312 := n2_; have GW312 := n3_; have GE312 := n4_; clear n0_ n1_ n2_ n3_ n4_; clear hb hbox hg; have hcz33 := blk_cell BK312.out; have hfz33 := blk_frozen BK312.out) | ((with_reducible refine gate_callee (f := 37) rfl ?_); refine goesL_ (some 34) rfl rfl Tryd.func37 (by kernel_rfl) rfl #[.slice (some ad311) l0.length c0, .int .i64 5, .int .i64 a1, .int .i64 ((rd_T77 l0 x6_1).f1.f2)] rfl (by (try simp only [List.map_toArray, List.map_cons, List.map_nil]); first | done | rfl | (simp only [List.length_drop, List.length_take]; rfl)) ?_; (with_reducible refine (spec_l07Best.calls k1 _ _ l0 5 a1 ((rd_T77 l0 x6_1).f1.f2) t313 t314 t315 t316 t317 t318 t319 t320 t321 t322 _ ?side1 ?side2 A7.out).mono ?_); (case side1 => repeat (first | exact (Kd.C_below HR0.out HB.out) | (with_reducible refine Kd.C_alloc ?_ _) | (with_reducible refine Kd.C_drewN ?_ _) | (with_reducible refine Kd.C_drew ?_))); (case side2 => exact HC0.out); rintro e w34 ⟨rfl, hb⟩; refine ⟨_, rfl, ?_⟩; have n0_ := Aside0.mk (Kd.R_below (by (with_reducible repeat (first | apply Kd.R_alloc | apply Kd.R_drewN | apply Kd.R_drew)); exact HO_5.out) hb); have n1_ := Aside0.mk (blk_below (g := gb312) (o := .cells #[.int .i64 ((rd_T77 l0 x6_1).f1.f0), .int .i64 ((rd_T77 l0 x6_1).f1.f1), .int .i64 ((rd_T77 l0 x6_1).f1.f2), .int .i64 ((rd_T77 l0 x6_1).f1.f3), .int .i64 ((rd_T77 l0 x6_1).f1.f4), .string ((rd_T77 l0 x6_1).f1.f5), .string ((rd_T77 l0 x6_1).f1.f6), .string ((rd_T77 l0 x6_1).f1.f7)] 75 (0, 0)) (by (with_reducible repeat (first | refine blk_drewN ?_ _ | refine blk_drew ?_ | refine blk_alloc ?_ _)); exact BK312.out) hb); have n2_ := Aside0.mk (below_step (by repeat (first | (with_reducible first | exact HB.out | apply below_alloc | apply pw_below_drewN | apply below_drew1 | refine below_set ?_ GE312.out) | exact HB.out)) hb); clear HO_5; clear BK312; clear HB; have HO_5 := n0_; have BK312 := n1_; have HB := n2_; clear n0_ n1_ n2_; (try clear hb); (try clear hb2); (try clear hk); (try clear hi)) | ((with_reducible refine gate_dst (N := 8) rfl ?_); refine Go.Proofs.YtenedfmmjfgbaaaDoorR.box_full_event ?hg ?hg2 (N := 8) ?hd ?hd2 (t := 77) (v := ?vof8) ?ho (cs := #[.int .i64 0, .int .i64 0, .int .i64 0, .int .i64 0, .int .i64 0, .int .i64 0, .string (⟨#[]⟩ : ByteArray), .string (⟨#[]⟩ : ByteArray), .string (⟨#[]⟩ : ByteArray)]) (cells := #[.int .i64 t313, .int .i64 t314, .int .i64 t315, .int .i64 t316, .int .i64 t317, .int .i64 t318, .string t319, .string t320, .string t321]) ?hi ?hs ?h1 ?hr ?hx ?hv ?_; (case hd => rfl); (case hd2 => rfl); (case ho => rfl); (case hg => rfl); (case hg2 => rfl); (case hi => kernel_rfl); (case hs => rfl); (case h1 => first | kernel_rfl | rfl); (case hx => intro p_; first | rfl | (go_simp; done) | (go_simp; rfl)); (case hv => intro p_; first | rfl | (go_simp; done) | (go_simp; rfl)); (case hr => first | (go_simp; done) | (go_simp; rfl)); intro gb323 hg w35 hbox hb; have n0_ := Aside0.mk (Kd.R_below (by (with_reducible repeat (first | apply Kd.R_alloc | apply Kd.R_drewN | apply Kd.R_drew)); exact HO_5.out) hb); have n1_ := Aside0.mk (blk_below (g := gb312) (o := .cells #[.int .i64 ((rd_T77 l0 x6_1).f1.f0), .int .i64 ((rd_T77 l0 x6_1).f1.f1), .int .i64 ((rd_T77 l0 x6_1).f1.f2), .int .i64 ((rd_T77 l0 x6_1).f1.f3), .int .i64 ((rd_T77 l0 x6_1).f1.f4), .string ((rd_T77 l0 x6_1).f1.f5), .string ((rd_T77 l0 x6_1).f1.f6), .string ((rd_T77 l0 x6_1).f1.f7)] 75 (0, 0)) (by (with_reducible repeat (first | refine blk_drewN ?_ _ | refine blk_drew ?_ | refine blk_alloc ?_ _)); exact BK312.out) hb); have n2_ := Aside0.mk (below_step (by repeat (first | (with_reducible first | exact HB.out | apply below_alloc | apply pw_below_drewN | apply below_drew1 | refine below_set ?_ GE312.out) | exact HB.out)) hb); have n3_ := Aside0.mk (hbox); have n4_ := Aside0.mk ((by rw [hg]; exact (below_size (by repeat (first | (with_reducible first | exact HB.out | apply below_alloc | apply pw_below_drewN | apply below_drew1 | refine below_set ?_ GE312.out) | exact HB.out))) : w.heap.size ≤ gb323)); have n5_ := Aside0.mk ((by rw [hg]; exact (below_size (by repeat (first | (with_reducible first | exact HB.out | apply below_alloc | apply pw_below_drewN | apply below_drew1 | refine below_set ?_ GE312.out) | exact HB.out))) : w.heap.size ≤ gb323)); have n6_ := Aside0.mk ((by rw [hg]; exact Nat.ne_of_lt (blk_lt (g := gb312) (o := .cells #[.int .i64 ((rd_T77 l0 x6_1).f1.f0), .int .i64 ((rd_T77 l0 x6_1).f1.f1), .int .i64 ((rd_T77 l0 x6_1).f1.f2), .int .i64 ((rd_T77 l0 x6_1).f1.f3), .int .i64 ((rd_T77 l0 x6_1).f1.f4), .string ((rd_T77 l0 x6_1).f1.f5), .string ((rd_T77 l0 x6_1).f1.f6), .string ((rd_T77 l0 x6_1).f1.f7)] 75 (0, 0)) (by (with_reducible repeat (first | refine blk_drewN ?_ _ | refine blk_drew ?_ | refine blk_alloc ?_ _)); exact BK312.out)) : gb312 ≠ gb323)); have n7_ := Aside0.mk ((by rw [hg]; exact Nat.ne_of_gt (blk_lt (g := gb312) (o := .cells #[.int .i64 ((rd_T77 l0 x6_1).f1.f0), .int .i64 ((rd_T77 l0 x6_1).f1.f1), .int .i64 ((rd_T77 l0 x6_1).f1.f2), .int .i64 ((rd_T77 l0 x6_1).f1.f3), .int .i64 ((rd_T77 l0 x6_1).f1.f4), .string ((rd_T77 l0 x6_1).f1.f5), .string ((rd_T77 l0 x6_1).f1.f6), .string ((rd_T77 l0 x6_1).f1.f7)] 75 (0, 0)) (by (with_reducible repeat (first | refine blk_drewN ?_ _ | refine blk_drew ?_ | refine blk_alloc ?_ _)); exact BK312.out)) : gb323 ≠ gb312)); clear HO_5; clear BK312; clear HB; have HO_5 := n0_; have BK312 := n1_; have HB := n2_; have BK323 := n3_; have GW323 := n4_; have GE323 := n5_; have NB312_323 := n6_; have NB323_312 := n7_; clear n0_ n1_ n2_ n3_ n4_ n5_ n6_ n7_; clear hb hbox hg; have hnb36 := NB312_323.out; have hnc36 := NB323_312.out; have hcz37 := blk_cell BK312.out; have hfz37 := blk_frozen BK312.out))
      go_roundg k1
      case measure => have := HK1.out; omega
      case rel => exact ⟨(x5_1), (wrap64 (x6_1 + 1)), (by first | rfl | (simp; done) | (simp [*]; done) | (simp; exact (by intro l; cases l <;> rfl : ∀ l : List UInt8, l.isEmpty = !(l != [])) _)), H', ⟨by have := HK1.out; omega⟩, ⟨by (with_reducible repeat (first | apply Kd.R_alloc | apply Kd.R_drewN | apply Kd.R_drew)); exact HO_5.out⟩, ⟨by repeat (first | (with_reducible first | exact HB.out | apply below_alloc | apply pw_below_drewN | apply below_drew1 | refine below_set ?_ GE312.out | refine below_set ?_ GE323.out) | exact HB.out)⟩⟩
    ·rw [if_neg c6] at H
     exact absurd H (by simp)
   ·rw [if_neg c5] at H
    have c5b0 : decide (x6_1 < (l0.length : Int)) = false := decide_eq_false c5
    clear c5
    obtain ⟨y327, hy327⟩ : ∃ y_ : List (S58), y_ = (([] : List (S58))) := ⟨_, rfl⟩
    replace H : (spec_l07Mails.l1 k1 l0 a1 x5_1 y327 0) = some r := by first | (rw [hy327]; with_reducible exact H) | (have H2_ := (Option.bind_some _ _).symm.trans H; rw [hy327]; with_reducible exact H2_) | (have H2_ := (Option.bind_some _ _).symm.trans H; with_reducible exact H2_) | with_reducible exact H | (rw [hy327]; exact H) | exact H
    have Ny327 := Aside0.mk hy327
    clear hy327
    have H' := Aside0.mk H
    clear H
    go_wp2_with (first | ((with_reducible refine gate_dst (N := 54) rfl ?_); refine Kd.R_lit k58 _ 58 ?hg (N := 54) ?hd (xs := ([] : List (S58))) (inner := []) (ok := fun _ => True) (okp := fun _ => True) ?hr ?hp (fun _ hk => hk) trivial (Below.refl _ _) (Nat.le_refl _) (by simp) ?_; (case hd => rfl); (case hg => rfl); (case hr => first | (go_simp; done) | (go_simp; rfl)); (case hp => exact (Reps.none _ _)); intro v328 w38 ho39 hb hg_ hnew_; clear hg_ hnew_; (first | rw [← Ny327.out] at ho39 | (simp only [Int.reduceToNat] at ho39; rw [← Ny327.out] at ho39)); have n0_ := Aside0.mk (Kd.R_below (by (with_reducible repeat (first | apply Kd.R_alloc | apply Kd.R_drewN | apply Kd.R_drew)); exact HO_5.out) hb); have n1_ := Aside0.mk (Kd.R_lower ho39 (below_size (by repeat (first | (with_reducible first | exact HB.out | apply below_alloc | apply pw_below_drewN | apply below_drew1) | exact HB.out)))); have n2_ := Aside0.mk (below_step (by repeat (first | (with_reducible first | exact HB.out | apply below_alloc | apply pw_below_drewN | apply below_drew1) | exact HB.out)) hb); clear HO_5; clear HB; have HO_5 := n0_; have HO329 := n1_; have HB := n2_; clear n0_ n1_ n2_; clear hb ho39))
    go_loopg [10, 11] k1 (fun kq v10 v11 w' => ∃ (x10_2 : List (S58)) (x11_2 : Int), v11 = .int .i64 x11_2 ∧ Aside0 (spec_l07Mails.l1 kq l0 a1 x5_1 x10_2 x11_2 = some r) ∧ Aside0 (kq ≤ k1) ∧ Aside0 (Kd.R (Kd.int .i64) 3 w' w.heap.size (fun _ => True) u5 x5_1) ∧ Aside0 (Kd.R k58 58 w' w.heap.size (fun _ => True) v10 x10_2) ∧ Aside0 (Below w.heap.size w w'))
    case atStart => exact ⟨(y327), (0), (by first | rfl | (simp; done) | (simp [*]; done) | (simp; exact (by intro l; cases l <;> rfl : ∀ l : List UInt8, l.isEmpty = !(l != [])) _)), H', ⟨Nat.le_refl _⟩, ⟨by (with_reducible repeat (first | apply Kd.R_alloc | apply Kd.R_drewN | apply Kd.R_drew)); exact HO_5.out⟩, ⟨by (with_reducible repeat (first | apply Kd.R_alloc | apply Kd.R_drewN | apply Kd.R_drew)); exact HO329.out⟩, ⟨by repeat (first | (with_reducible first | exact HB.out | apply below_alloc | apply pw_below_drewN | apply below_drew1) | exact HB.out)⟩⟩
    case round =>
     clear H'
     try clear c1
     try clear c2
     try clear p2
     try clear c3
     try clear p3
     try clear q3
     try clear hx3
     try clear c4
     try clear c5
     try clear c5b0
     try clear c6
     try clear c6b0
     try clear p6
     try clear c8
     try clear c8b0
     try clear c8b1
     try clear c9
     try clear c9b0
     try clear c9b1
     try clear c10
     try clear c15
     try clear c22
     try clear c30
     try clear p31
     try clear q31
     try clear hx31
     try clear c36
     try clear c37
     try clear c38
     try clear hcz12_0
     try clear hcz12_1
     try clear hcz12_2
     try clear hcz12_3
     try clear hcz12_4
     try clear hcz12_5
     try clear hcz12_6
     try clear hcz12_7
     try clear hcz16_0
     try clear hcz16_1
     try clear hcz16_2
     try clear hcz16_3
     try clear hcz16_4
     try clear hcz16_5
     try clear hcz16_6
     try clear hcz16_7
     try clear hcz19_0
     try clear hcz19_1
     try clear hcz19_2
     try clear hcz19_3
     try clear hcz19_4
     try clear hcz19_5
     try clear hcz19_6
     try clear hcz19_7
     try clear hcz23_0
     try clear hcz23_1
     try clear hcz23_2
     try clear hcz23_3
     try clear hcz23_4
     try clear hcz23_5
     try clear hcz23_6
     try clear hcz23_7
     try clear hcz27_0
     try clear hcz27_1
     try clear hcz27_2
     try clear hcz27_3
     try clear hcz27_4
     try clear hcz27_5
     try clear hcz27_6
     try clear hcz27_7
     try clear hcz31_0
     try clear hcz31_1
     try clear hcz31_2
     try clear hcz31_3
     try clear hcz31_4
     try clear hcz31_5
     try clear hcz31_6
     try clear hcz31_7
     try clear hcz33_0
     try clear hcz33_1
     try clear hcz33_2
     try clear hcz33_3
     try clear hcz33_4
     try clear hcz33_5
     try clear hcz33_6
     try clear hcz33_7
     try clear hcz37_0
     try clear hcz37_1
     try clear hcz37_2
     try clear hcz37_3
     try clear hcz37_4
     try clear hcz37_5
     try clear hcz37_6
     try clear hcz37_7
     try clear hfz12_0
     try clear hfz12_1
     try clear hfz12_2
     try clear hfz12_3
     try clear hfz12_4
     try clear hfz12_5
     try clear hfz12_6
     try clear hfz12_7
     try clear hfz16_0
     try clear hfz16_1
     try clear hfz16_2
     try clear hfz16_3
     try clear hfz16_4
     try clear hfz16_5
     try clear hfz16_6
     try clear hfz16_7
     try clear hfz19_0
     try clear hfz19_1
     try clear hfz19_2
     try clear hfz19_3
     try clear hfz19_4
     try clear hfz19_5
     try clear hfz19_6
     try clear hfz19_7
     try clear hfz23_0
     try clear hfz23_1
     try clear hfz23_2
     try clear hfz23_3
     try clear hfz23_4
     try clear hfz23_5
     try clear hfz23_6
     try clear hfz23_7
     try clear hfz27_0
     try clear hfz27_1
     try clear hfz27_2
     try clear hfz27_3
     try clear hfz27_4
     try clear hfz27_5
     try clear hfz27_6
     try clear hfz27_7
     try clear hfz31_0
     try clear hfz31_1
     try clear hfz31_2
     try clear hfz31_3
     try clear hfz31_4
     try clear hfz31_5
     try clear hfz31_6
     try clear hfz31_7
     try clear hfz33_0
     try clear hfz33_1
     try clear hfz33_2
     try clear hfz33_3
     try clear hfz33_4
     try clear hfz33_5
     try clear hfz33_6
     try clear hfz33_7
     try clear hfz37_0
     try clear hfz37_1
     try clear hfz37_2
     try clear hfz37_3
     try clear hfz37_4
     try clear hfz37_5
     try clear hfz37_6
     try clear hfz37_7
     try clear hx311_0
     try clear hx311_1
     try clear hx311_2
     try clear hx311_3
     try clear hx311_4
     try clear hx311_5
     try clear hx311_6
     try clear hx311_7
     try clear hx311_8
     try clear p2
     try clear p311
     try clear q311
     obtain ⟨x10_2, x11_2, rfl, HA, HK2, HO_5, HO_10, HB⟩ := hrel
     cases gk with
     | zero => exact absurd HA.out (by simp [spec_l07Mails.l1])
     | succ k2 =>
      have H := HA.out
      clear HA
      simp only [spec_l07Mails.l1] at H
      by_cases c40 : x11_2 < (x5_1.length : Int)
      ·rw [if_pos c40] at H
       have c40b0 : decide (x11_2 < (x5_1.length : Int)) = true := decide_eq_true c40
       clear c40
       by_cases c41 : 0 ≤ x11_2
       ·rw [if_pos c41] at H
        have c41b0 : decide (0 ≤ x11_2) = true := decide_eq_true c41
        clear c41
        replace H := Option.bind_eq_some_iff.mp H
        obtain ⟨⟨t331, t332, t333, t334, t335, t336, t337, t338, t339, t340⟩, A420, H⟩ := H
        (try set_option simprocs false in dsimp only at H)
        have A42 := Aside0.mk A420
        clear A420
        replace H := Option.bind_eq_some_iff.mp H
        obtain ⟨⟨t345, t346, t347, t348, t349, t350, t351, t352, t353, t354⟩, A430, H⟩ := H
        (try set_option simprocs false in dsimp only at H)
        have A43 := Aside0.mk A430
        clear A430
        by_cases c44 : t354 = true
        ·subst c44
         (try rw [if_pos rfl] at H)
         by_cases c45 : x10_2.length < 4398046511104
         ·rw [if_pos c45] at H
          have LMc45 := Aside0.mk c45
          clear c45
          obtain ⟨y356, hy356⟩ : ∃ y_ : List (S58), y_ = (x10_2 ++ [(⟨rd x5_1 x11_2, t350, t339⟩ : S58)]) := ⟨_, rfl⟩
          replace H : (spec_l07Mails.l1 k2 l0 a1 x5_1 y356 (wrap64 (x11_2 + 1))) = some r := by first | (rw [hy356]; with_reducible exact H) | (have H2_ := (Option.bind_some _ _).symm.trans H; rw [hy356]; with_reducible exact H2_) | (have H2_ := (Option.bind_some _ _).symm.trans H; with_reducible exact H2_) | with_reducible exact H | (rw [hy356]; exact H) | exact H
          have Ny356 := Aside0.mk hy356
          clear hy356
          have H' := Aside0.mk H
          clear H
          obtain ⟨Ao46, co46, eo46⟩ := Kd.R_slice HO_5.out
          subst eo46
          have p330 : 0 ≤ (x11_2 : Int) := of_decide_eq_true (by first | (with_reducible assumption) | assumption)
          have q330 : x11_2 < (x5_1.length : Int) := of_decide_eq_true (by first | (with_reducible assumption) | assumption)
          obtain ⟨ad330, e330, hx330_0⟩ := Kd.at_int (Kd.R_reads' HO_5.out).2.2 x11_2 p330 q330
          cases e330
          replace p330 := eq_true p330
          replace q330 := eq_true q330
          try go_wp2_with (first | ((with_reducible refine gate_callee (f := 37) rfl ?_); refine goesL_ (some 68) rfl rfl Tryd.func37 (by kernel_rfl) rfl #[.slice A0 l0.length c0, .int .i64 3, .int .i64 a1, .int .i64 (rd x5_1 x11_2)] rfl (by (try simp only [List.map_toArray, List.map_cons, List.map_nil]); first | done | rfl | (simp only [List.length_drop, List.length_take]; rfl)) ?_; (with_reducible refine (spec_l07Best.calls k2 _ _ l0 3 a1 (rd x5_1 x11_2) t331 t332 t333 t334 t335 t336 t337 t338 t339 t340 _ ?side1 ?side2 A42.out).mono ?_); (case side1 => repeat (first | exact (Kd.C_below HR0.out HB.out) | (with_reducible refine Kd.C_alloc ?_ _) | (with_reducible refine Kd.C_drewN ?_ _) | (with_reducible refine Kd.C_drew ?_))); (case side2 => exact HC0.out); rintro e w47 ⟨rfl, hb⟩; refine ⟨_, rfl, ?_⟩; have n0_ := Aside0.mk (Kd.R_below (by (with_reducible repeat (first | apply Kd.R_alloc | apply Kd.R_drewN | apply Kd.R_drew)); exact HO_5.out) hb); have n1_ := Aside0.mk (Kd.R_below (by (with_reducible repeat (first | apply Kd.R_alloc | apply Kd.R_drewN | apply Kd.R_drew)); exact HO_10.out) hb); have n2_ := Aside0.mk (below_step (by repeat (first | (with_reducible first | exact HB.out | apply below_alloc | apply pw_below_drewN | apply below_drew1) | exact HB.out)) hb); clear HO_5; clear HO_10; clear HB; have HO_5 := n0_; have HO_10 := n1_; have HB := n2_; clear n0_ n1_ n2_; (try clear hb); (try clear hb2); (try clear hk); (try clear hi)) | ((with_reducible refine gate_dst (N := 12) rfl ?_); refine Go.Proofs.YtenedfmmjfgbaaaDoorR.box_full_event ?hg ?hg2 (N := 12) ?hd ?hd2 (t := 77) (v := ?vof12) ?ho (cs := #[.int .i64 0, .int .i64 0, .int .i64 0, .int .i64 0, .int .i64 0, .int .i64 0, .string (⟨#[]⟩ : ByteArray), .string (⟨#[]⟩ : ByteArray), .string (⟨#[]⟩ : ByteArray)]) (cells := #[.int .i64 t331, .int .i64 t332, .int .i64 t333, .int .i64 t334, .int .i64 t335, .int .i64 t336, .string t337, .string t338, .string t339]) ?hi ?hs ?h1 ?hr ?hx ?hv ?_; (case hd => rfl); (case hd2 => rfl); (case ho => rfl); (case hg => rfl); (case hg2 => rfl); (case hi => kernel_rfl); (case hs => rfl); (case h1 => first | kernel_rfl | rfl); (case hx => intro p_; first | rfl | (go_simp; done) | (go_simp; rfl)); (case hv => intro p_; first | rfl | (go_simp; done) | (go_simp; rfl)); (case hr => first | (go_simp; done) | (go_simp; rfl)); intro gb341 hg w48 hbox hb; have n0_ := Aside0.mk (Kd.R_below (by (with_reducible repeat (first | apply Kd.R_alloc | apply Kd.R_drewN | apply Kd.R_drew)); exact HO_5.out) hb); have n1_ := Aside0.mk (Kd.R_below (by (with_reducible repeat (first | apply Kd.R_alloc | apply Kd.R_drewN | apply Kd.R_drew)); exact HO_10.out) hb); have n2_ := Aside0.mk (below_step (by repeat (first | (with_reducible first | exact HB.out | apply below_alloc | apply pw_below_drewN | apply below_drew1) | exact HB.out)) hb); have n3_ := Aside0.mk (hbox); have n4_ := Aside0.mk ((by rw [hg]; exact (below_size (by repeat (first | (with_reducible first | exact HB.out | apply below_alloc | apply pw_below_drewN | apply below_drew1) | exact HB.out))) : w.heap.size ≤ gb341)); have n5_ := Aside0.mk ((by rw [hg]; exact (below_size (by repeat (first | (with_reducible first | exact HB.out | apply below_alloc | apply pw_below_drewN | apply below_drew1) | exact HB.out))) : w.heap.size ≤ gb341)); clear HO_5; clear HO_10; clear HB; have HO_5 := n0_; have HO_10 := n1_; have HB := n2_; have BK341 := n3_; have GW341 := n4_; have GE341 := n5_; clear n0_ n1_ n2_ n3_ n4_ n5_; clear hb hbox hg))
          have n0_ := Aside0.mk (Kd.R_drew HO_5.out)
          have n1_ := Aside0.mk (Kd.R_drew HO_10.out)
          have n2_ := Aside0.mk (blk_drew BK341.out)
          have n3_ := Aside0.mk (below_drew1 HB.out)
          clear HO_5
          clear HO_10
          clear BK341
          clear HB
          have HO_5 := n0_
          have HO_10 := n1_
          have BK341 := n2_
          have HB := n3_
          clear n0_ n1_ n2_ n3_
          have p342 : 0 ≤ (x11_2 : Int) := of_decide_eq_true (by first | (with_reducible assumption) | assumption)
          have q342 : x11_2 < (x5_1.length : Int) := of_decide_eq_true (by first | (with_reducible assumption) | assumption)
          obtain ⟨ad342, e342, hx342_0⟩ := Kd.at_int (Kd.R_reads' HO_5.out).2.2 x11_2 p342 q342
          obtain rfl : ad330 = ad342 := (by injection e342)
          replace p342 := eq_true p342
          replace q342 := eq_true q342
          refine start_ (n := 13) (S := fun w' => w'.cell? ⟨gb341, 0, none⟩ = some (.int .i64 t331) ∧ w'.cell? ⟨gb341, 1, none⟩ = some (.int .i64 t332) ∧ w'.cell? ⟨gb341, 2, none⟩ = some (.int .i64 t333) ∧ w'.cell? ⟨gb341, 3, none⟩ = some (.int .i64 t334) ∧ w'.cell? ⟨gb341, 4, none⟩ = some (.int .i64 t335) ∧ w'.cell? ⟨gb341, 5, none⟩ = some (.int .i64 t336) ∧ w'.cell? ⟨gb341, 6, none⟩ = some (.string t337) ∧ w'.cell? ⟨gb341, 7, none⟩ = some (.string t338) ∧ w'.cell? ⟨gb341, 8, none⟩ = some (.string t339) ∧ w'.cell? (ad330.add (x11_2).toNat) = some (.int .i64 (rd x5_1 x11_2))) (ds := []) #[false, false, false, false, false, false, false, false, false, false, false, false, false] (by kernel_rfl) rfl rfl ⟨(blk_cell BK341.out 0).trans rfl, (blk_cell BK341.out 1).trans rfl, (blk_cell BK341.out 2).trans rfl, (blk_cell BK341.out 3).trans rfl, (blk_cell BK341.out 4).trans rfl, (blk_cell BK341.out 5).trans rfl, (blk_cell BK341.out 6).trans rfl, (blk_cell BK341.out 7).trans rfl, (blk_cell BK341.out 8).trans rfl, hx342_0⟩ (fun hHeld => ?_); refine with_tabW spec_l07Mails.tab14 spec_l07Mails.bits14 (fun HT_ HW_ => ?_)
          generalize w48.drew = w49 at HO_5 HO_10 BK341 HB hx342_0 hHeld ⊢
          refine pure_ (i := 0) (N := some 71) (v := ?_) (a' := ?_) #[true, false, false, false, false, false, false, false, false, false, false, false, false] rfl rfl (any_of HT_.out (by kernel_rfl)) (fun _ _ _ h => h) (Or.inl ⟨by rfl, ?_⟩) ?_ ?_
          rotate_left
          ·intro w'
           go_simp
           with_reducible rfl
          rotate_left
          ·simp only [Act.put, List.setIfInBounds_toArray, List.set_cons_zero, List.set_cons_succ, i64_w, i32_w]
           rfl
          refine pure_ (i := 1) (N := some 72) (v := ?_) (a' := ?_) #[true, true, false, false, false, false, false, false, false, false, false, false, false] rfl rfl (any_of HT_.out (by kernel_rfl)) (fun _ _ _ h => h) (Or.inl ⟨by rfl, ?_⟩) ?_ ?_
          rotate_left
          ·intro w'
           go_simp
           with_reducible rfl
          rotate_left
          ·simp only [Act.put, List.setIfInBounds_toArray, List.set_cons_zero, List.set_cons_succ, i64_w, i32_w]
           rfl
          refine pure_ (i := 2) (N := some 73) (v := ?_) (a' := ?_) #[true, true, true, false, false, false, false, false, false, false, false, false, false] rfl rfl (any_of HT_.out (by kernel_rfl)) (fun _ _ _ h => h) (Or.inl ⟨by rfl, ?_⟩) ?_ ?_
          rotate_left
          ·intro w'
           go_simp
           with_reducible rfl
          rotate_left
          ·simp only [Act.put, List.setIfInBounds_toArray, List.set_cons_zero, List.set_cons_succ, i64_w, i32_w]
           rfl
          refine pure_ (i := 4) (N := some 75) (v := ?_) (a' := ?_) #[true, true, true, false, true, false, false, false, false, false, false, false, false] rfl rfl (any_of HT_.out (by kernel_rfl)) (fun _ _ _ h => h) (Or.inl ⟨by rfl, ?_⟩) ?_ ?_
          rotate_left
          ·intro w'
           go_simp
           with_reducible rfl
          rotate_left
          ·simp only [Act.put, List.setIfInBounds_toArray, List.set_cons_zero, List.set_cons_succ, i64_w, i32_w]
           rfl
          refine pure_ (i := 5) (N := some 76) (v := ?_) (a' := ?_) #[true, true, true, false, true, true, false, false, false, false, false, false, false] rfl rfl (any_of HT_.out (by kernel_rfl)) (fun _ _ _ h => h) (Or.inl ⟨by rfl, ?_⟩) ?_ ?_
          rotate_left
          ·intro w'
           go_simp
           with_reducible rfl
          rotate_left
          ·simp only [Act.put, List.setIfInBounds_toArray, List.set_cons_zero, List.set_cons_succ, i64_w, i32_w]
           rfl
          refine pure_ (i := 7) (N := some 78) (v := ?_) (a' := ?_) #[true, true, true, false, true, true, false, true, false, false, false, false, false] rfl rfl (any_of HT_.out (by kernel_rfl)) (fun _ _ _ h => h) (Or.inl ⟨by rfl, ?_⟩) ?_ ?_
          rotate_left
          ·intro w'
           go_simp
           with_reducible rfl
          rotate_left
          ·simp only [Act.put, List.setIfInBounds_toArray, List.set_cons_zero, List.set_cons_succ, i64_w, i32_w]
           rfl
          refine pure_ (i := 8) (N := some 79) (v := ?_) (a' := ?_) #[true, true, true, false, true, true, false, true, true, false, false, false, false] rfl rfl (any_of HT_.out (by kernel_rfl)) (fun _ _ _ h => h) (Or.inl ⟨by rfl, ?_⟩) ?_ ?_
          rotate_left
          ·intro w'
           go_simp
           with_reducible rfl
          rotate_left
          ·simp only [Act.put, List.setIfInBounds_toArray, List.set_cons_zero, List.set_cons_succ, i64_w, i32_w]
           rfl
          refine take_ (i := 3) (N := some 74) (v := ?_) (a' := ?_) #[true, true, true, true, true, true, false, true, true, false, false, false, false] rfl rfl (take_ofW HT_.out HW_.out (by kernel_rfl)) (fun _ _ _ h => h) (Or.inl ⟨by rfl, ?_⟩) hHeld ?_ ?_
          rotate_left
          ·rintro w' ⟨s0, s1, s2, s3, s4, s5, s6, s7, s8, s9⟩
           go_simp
           with_reducible rfl
          rotate_left
          ·simp only [Act.put, List.setIfInBounds_toArray, List.set_cons_zero, List.set_cons_succ, i64_w, i32_w]
           rfl
          refine take_ (i := 6) (N := some 77) (v := ?_) (a' := ?_) #[true, true, true, true, true, true, true, true, true, false, false, false, false] rfl rfl (take_ofW HT_.out HW_.out (by kernel_rfl)) (fun _ _ _ h => h) (Or.inl ⟨by rfl, ?_⟩) hHeld ?_ ?_
          rotate_left
          ·rintro w' ⟨s0, s1, s2, s3, s4, s5, s6, s7, s8, s9⟩
           go_simp
           with_reducible rfl
          rotate_left
          ·simp only [Act.put, List.setIfInBounds_toArray, List.set_cons_zero, List.set_cons_succ, i64_w, i32_w]
           rfl
          refine take_ (i := 9) (N := some 80) (v := ?_) (a' := ?_) #[true, true, true, true, true, true, true, true, true, true, false, false, false] rfl rfl (take_ofW HT_.out HW_.out (by kernel_rfl)) (fun _ _ _ h => h) (Or.inl ⟨by rfl, ?_⟩) hHeld ?_ ?_
          rotate_left
          ·rintro w' ⟨s0, s1, s2, s3, s4, s5, s6, s7, s8, s9⟩
           go_simp
           with_reducible rfl
          rotate_left
          ·simp only [Act.put, List.setIfInBounds_toArray, List.set_cons_zero, List.set_cons_succ, i64_w, i32_w]
           rfl
          refine pure_ (i := 10) (N := some 81) (v := ?_) (a' := ?_) #[true, true, true, true, true, true, true, true, true, true, true, false, false] rfl rfl (any_of HT_.out (by kernel_rfl)) (fun _ _ _ h => h) (Or.inl ⟨by rfl, ?_⟩) ?_ ?_
          rotate_left
          ·intro w'
           go_simp
           with_reducible rfl
          rotate_left
          ·simp only [Act.put, List.setIfInBounds_toArray, List.set_cons_zero, List.set_cons_succ, i64_w, i32_w]
           rfl
          refine one_ (i := 11) (N := some 14) #[true, true, true, true, true, true, true, true, true, true, true, true, false] rfl rfl (one_of HT_.out (by kernel_rfl)) (by decide) (fun K hK => ?_)
          refine box_step ?hg (N := 14) ?hd (cs := #[.int .i64 0, .int .i64 0, .string (⟨#[]⟩ : ByteArray)]) (t := 58) ?hr ?_; (case hd => rfl); (case hg => rfl); (case hr => first | (go_simp; done) | (go_simp; rfl))
          intro gb343 hg w50 hbox hb
          have HS9_ := (hb.cell (World.block_lt_of_cell? _ _ (hHeld.2.2.2.2.2.2.2.2.2))).trans (hHeld.2.2.2.2.2.2.2.2.2)
          have n0_ := Aside0.mk (Kd.R_below (by (with_reducible repeat (first | apply Kd.R_alloc | apply Kd.R_drewN | apply Kd.R_drew)); exact HO_5.out) hb)
          have n1_ := Aside0.mk (Kd.R_below (Kd.R_elderB (by (with_reducible repeat (first | apply Kd.R_alloc | apply Kd.R_drewN | apply Kd.R_drew)); exact HO_10.out) gb343 (Nat.le_of_eq hg.symm)) hb)
          have n2_ := Aside0.mk (blk_below (g := gb341) (o := .cells #[.int .i64 t331, .int .i64 t332, .int .i64 t333, .int .i64 t334, .int .i64 t335, .int .i64 t336, .string t337, .string t338, .string t339] 77 (0, 0)) (by (with_reducible repeat (first | refine blk_drewN ?_ _ | refine blk_drew ?_ | refine blk_alloc ?_ _)); exact BK341.out) hb)
          have n3_ := Aside0.mk (below_step (by repeat (first | (with_reducible first | exact HB.out | apply below_alloc | apply pw_below_drewN | apply below_drew1 | refine below_set ?_ GE341.out) | exact HB.out)) hb)
          have n4_ := Aside0.mk (hbox)
          have n5_ := Aside0.mk ((by rw [hg]; exact (below_size (by repeat (first | (with_reducible first | exact HB.out | apply below_alloc | apply pw_below_drewN | apply below_drew1 | refine below_set ?_ GE341.out) | exact HB.out))) : w.heap.size ≤ gb343))
          have n6_ := Aside0.mk ((by rw [hg]; exact (below_size (by repeat (first | (with_reducible first | exact HB.out | apply below_alloc | apply pw_below_drewN | apply below_drew1 | refine below_set ?_ GE341.out) | exact HB.out))) : w.heap.size ≤ gb343))
          have n7_ := Aside0.mk ((by rw [hg]; exact Nat.ne_of_lt (blk_lt (g := gb341) (o := .cells #[.int .i64 t331, .int .i64 t332, .int .i64 t333, .int .i64 t334, .int .i64 t335, .int .i64 t336, .string t337, .string t338, .string t339] 77 (0, 0)) (by (with_reducible repeat (first | refine blk_drewN ?_ _ | refine blk_drew ?_ | refine blk_alloc ?_ _)); exact BK341.out)) : gb341 ≠ gb343))
          have n8_ := Aside0.mk ((by rw [hg]; exact Nat.ne_of_gt (blk_lt (g := gb341) (o := .cells #[.int .i64 t331, .int .i64 t332, .int .i64 t333, .int .i64 t334, .int .i64 t335, .int .i64 t336, .string t337, .string t338, .string t339] 77 (0, 0)) (by (with_reducible repeat (first | refine blk_drewN ?_ _ | refine blk_drew ?_ | refine blk_alloc ?_ _)); exact BK341.out)) : gb343 ≠ gb341))
          clear HO_5
          clear HO_10
          clear BK341
          clear HB
          have HO_5 := n0_
          have HO_10 := n1_
          have BK341 := n2_
          have HB := n3_
          have BK343 := n4_
          have GW343 := n5_
          have GE343 := n6_
          have NB341_343 := n7_
          have NB343_341 := n8_
          clear n0_ n1_ n2_ n3_ n4_ n5_ n6_ n7_ n8_
          clear hb hbox hg
          refine hK.out _ _ ⟨(blk_cell BK341.out 0).trans rfl, (blk_cell BK341.out 1).trans rfl, (blk_cell BK341.out 2).trans rfl, (blk_cell BK341.out 3).trans rfl, (blk_cell BK341.out 4).trans rfl, (blk_cell BK341.out 5).trans rfl, (blk_cell BK341.out 6).trans rfl, (blk_cell BK341.out 7).trans rfl, (blk_cell BK341.out 8).trans rfl, HS9_⟩ (fun hHeld => ?_)
          clear hK K
          refine norm_ (a' := ?_) ?_ ?_
          rotate_left
          ·show Act.put _ (some 14) _ = _
           simp only [Act.put, List.setIfInBounds_toArray, List.set_cons_zero, List.set_cons_succ, i64_w, i32_w]
           rfl
          refine one_ (i := 12) (N := none) #[true, true, true, true, true, true, true, true, true, true, true, true, true] rfl rfl (one_of HT_.out (by kernel_rfl)) (by decide) (fun K hK => ?_)
          have hs51 : w50.cell? ⟨gb343, 0, none⟩ = some (.int .i64 0) := (blk_cell BK343.out 0).trans rfl
          have hfs51 := blk_frozen BK343.out 0
          have hns51_0 := NB341_343.out
          have hms51_0 := NB343_341.out
          have hs52 : w50.cell? ⟨gb343, 1, none⟩ = some (.int .i64 0) := (blk_cell BK343.out 1).trans rfl
          have hfs52 := blk_frozen BK343.out 1
          have hns52_0 := NB341_343.out
          have hms52_0 := NB343_341.out
          have hs53 : w50.cell? ⟨gb343, 2, none⟩ = some (.string (⟨#[]⟩ : ByteArray)) := (blk_cell BK343.out 2).trans rfl
          have hfs53 := blk_frozen BK343.out 2
          have hns53_0 := NB341_343.out
          have hms53_0 := NB343_341.out
          refine skip_ (w1 := ?_) (by rfl) rfl ?_ ?_
          rotate_left
          ·go_simp
           rfl
          refine hK.out _ _ ⟨((cell_far (p := ⟨gb343, _, none⟩) NB341_343.out _).trans (((cell_far (p := ⟨gb343, _, none⟩) NB341_343.out _).trans (((cell_far (p := ⟨gb343, _, none⟩) NB341_343.out _).trans (hHeld.1)))))), ((cell_far (p := ⟨gb343, _, none⟩) NB341_343.out _).trans (((cell_far (p := ⟨gb343, _, none⟩) NB341_343.out _).trans (((cell_far (p := ⟨gb343, _, none⟩) NB341_343.out _).trans (hHeld.2.1)))))), ((cell_far (p := ⟨gb343, _, none⟩) NB341_343.out _).trans (((cell_far (p := ⟨gb343, _, none⟩) NB341_343.out _).trans (((cell_far (p := ⟨gb343, _, none⟩) NB341_343.out _).trans (hHeld.2.2.1)))))), ((cell_far (p := ⟨gb343, _, none⟩) NB341_343.out _).trans (((cell_far (p := ⟨gb343, _, none⟩) NB341_343.out _).trans (((cell_far (p := ⟨gb343, _, none⟩) NB341_343.out _).trans (hHeld.2.2.2.1)))))), ((cell_far (p := ⟨gb343, _, none⟩) NB341_343.out _).trans (((cell_far (p := ⟨gb343, _, none⟩) NB341_343.out _).trans (((cell_far (p := ⟨gb343, _, none⟩) NB341_343.out _).trans (hHeld.2.2.2.2.1)))))), ((cell_far (p := ⟨gb343, _, none⟩) NB341_343.out _).trans (((cell_far (p := ⟨gb343, _, none⟩) NB341_343.out _).trans (((cell_far (p := ⟨gb343, _, none⟩) NB341_343.out _).trans (hHeld.2.2.2.2.2.1)))))), ((cell_far (p := ⟨gb343, _, none⟩) NB341_343.out _).trans (((cell_far (p := ⟨gb343, _, none⟩) NB341_343.out _).trans (((cell_far (p := ⟨gb343, _, none⟩) NB341_343.out _).trans (hHeld.2.2.2.2.2.2.1)))))), ((cell_far (p := ⟨gb343, _, none⟩) NB341_343.out _).trans (((cell_far (p := ⟨gb343, _, none⟩) NB341_343.out _).trans (((cell_far (p := ⟨gb343, _, none⟩) NB341_343.out _).trans (hHeld.2.2.2.2.2.2.2.1)))))), ((cell_far (p := ⟨gb343, _, none⟩) NB341_343.out _).trans (((cell_far (p := ⟨gb343, _, none⟩) NB341_343.out _).trans (((cell_far (p := ⟨gb343, _, none⟩) NB341_343.out _).trans (hHeld.2.2.2.2.2.2.2.2.1)))))), ((cell_far (p := ⟨gb343, _, none⟩) (by first | exact Kd.own_blk (Kd.R_ne HO_5.out BK343.out (by decide)) | (rw [add_block]; exact Kd.own_blk (Kd.R_ne HO_5.out BK343.out (by decide))) | (show (Addr.add _ _).block ≠ _; rw [add_block]; exact Kd.own_blk (Kd.R_ne HO_5.out BK343.out (by decide))) | (dsimp only; exact Kd.own_blk (Kd.R_ne HO_5.out BK343.out (by decide)))) _).trans (((cell_far (p := ⟨gb343, _, none⟩) (by first | exact Kd.own_blk (Kd.R_ne HO_5.out BK343.out (by decide)) | (rw [add_block]; exact Kd.own_blk (Kd.R_ne HO_5.out BK343.out (by decide))) | (show (Addr.add _ _).block ≠ _; rw [add_block]; exact Kd.own_blk (Kd.R_ne HO_5.out BK343.out (by decide))) | (dsimp only; exact Kd.own_blk (Kd.R_ne HO_5.out BK343.out (by decide)))) _).trans (((cell_far (p := ⟨gb343, _, none⟩) (by first | exact Kd.own_blk (Kd.R_ne HO_5.out BK343.out (by decide)) | (rw [add_block]; exact Kd.own_blk (Kd.R_ne HO_5.out BK343.out (by decide))) | (show (Addr.add _ _).block ≠ _; rw [add_block]; exact Kd.own_blk (Kd.R_ne HO_5.out BK343.out (by decide))) | (dsimp only; exact Kd.own_blk (Kd.R_ne HO_5.out BK343.out (by decide)))) _).trans (hHeld.2.2.2.2.2.2.2.2.2))))))⟩ (fun hHeld => ?_)
          clear hK K
          refine done_ (done_of HT_.out (by kernel_rfl)) ?_
          have p344 : 0 ≤ (x11_2 : Int) := of_decide_eq_true (by first | (with_reducible assumption) | assumption)
          have q344 : x11_2 < (x5_1.length : Int) := of_decide_eq_true (by first | (with_reducible assumption) | assumption)
          obtain ⟨ad344, e344, hx344_0⟩ := Kd.at_int (Kd.R_reads' HO_5.out).2.2 x11_2 p344 q344
          obtain rfl : ad330 = ad344 := (by injection e344)
          have hn344_0 : ad330.block ≠ gb343 := Kd.own_blk (Kd.R_ne HO_5.out BK343.out (by decide))
          have hn344_1 : ad330.block ≠ gb343 := Kd.own_blk (Kd.R_ne HO_5.out BK343.out (by decide))
          have hn344_2 : ad330.block ≠ gb343 := Kd.own_blk (Kd.R_ne HO_5.out BK343.out (by decide))
          replace hx344_0 := (cell_far (p := ⟨gb343, 0, none⟩) (by first | (rw [add_block]; exact hn344_0) | (show (Addr.add _ _).block ≠ _; rw [add_block]; exact hn344_0) | exact hn344_0) (.int .i64 (rd x5_1 x11_2))).trans hx344_0
          replace hx344_0 := (cell_far (p := ⟨gb343, 1, none⟩) (by first | (rw [add_block]; exact hn344_1) | (show (Addr.add _ _).block ≠ _; rw [add_block]; exact hn344_1) | exact hn344_1) (.int .i64 t336)).trans hx344_0
          replace hx344_0 := (cell_far (p := ⟨gb343, 2, none⟩) (by first | (rw [add_block]; exact hn344_2) | (show (Addr.add _ _).block ≠ _; rw [add_block]; exact hn344_2) | exact hn344_2) (.string t339)).trans hx344_0
          clear hn344_0
          clear hn344_1
          clear hn344_2
          replace p344 := eq_true p344
          replace q344 := eq_true q344
          try go_wp2_with (first | ((with_reducible refine gate_callee (f := 37) rfl ?_); refine goesL_ (some 89) rfl rfl Tryd.func37 (by kernel_rfl) rfl #[.slice A0 l0.length c0, .int .i64 4, .int .i64 a1, .int .i64 (rd x5_1 x11_2)] rfl (by (try simp only [List.map_toArray, List.map_cons, List.map_nil]); first | done | rfl | (simp only [List.length_drop, List.length_take]; rfl)) ?_; (with_reducible refine (spec_l07Best.calls k2 _ _ l0 4 a1 (rd x5_1 x11_2) t345 t346 t347 t348 t349 t350 t351 t352 t353 true _ ?side1 ?side2 A43.out).mono ?_); (case side1 => exact Kd.C_below HR0.out (by repeat (first | (with_reducible first | exact HB.out | apply below_alloc | apply pw_below_drewN | apply below_drew1 | refine below_set ?_ GE341.out | refine below_set ?_ GE343.out) | exact HB.out))); (case side2 => exact HC0.out); rintro e w54 ⟨rfl, hb⟩; refine ⟨_, rfl, ?_⟩; have n0_ := Aside0.mk (Kd.R_below (by (with_reducible repeat (first | apply Kd.R_alloc | apply Kd.R_drewN | apply Kd.R_drew)); exact (Kd.R_mono (Kd.R_far (p := ⟨gb343, 2, none⟩) (Kd.R_far (p := ⟨gb343, 1, none⟩) (Kd.R_far (p := ⟨gb343, 0, none⟩) (Kd.R_types HO_5.out BK343.out (by decide)) (fun _ hk => hk.2) (.int .i64 (rd x5_1 x11_2))) (fun _ hk => hk.2) (.int .i64 t336)) (fun _ hk => hk.2) (.string t339)) (fun _ h_ => h_.1))) hb); have n1_ := Aside0.mk (Kd.R_below (by (with_reducible repeat (first | apply Kd.R_alloc | apply Kd.R_drewN | apply Kd.R_drew)); exact (Kd.R_mono (Kd.R_far (p := ⟨gb343, 2, none⟩) (Kd.R_far (p := ⟨gb343, 1, none⟩) (Kd.R_far (p := ⟨gb343, 0, none⟩) (Kd.R_mono HO_10.out (fun k_ hk => (⟨hk, hk.2⟩ : _ ∧ k_ ≠ gb343))) (fun _ hk => hk.2) (.int .i64 (rd x5_1 x11_2))) (fun _ hk => hk.2) (.int .i64 t336)) (fun _ hk => hk.2) (.string t339)) (fun _ h_ => h_.1))) hb); have n2_ := Aside0.mk (blk_below (g := gb341) (o := .cells #[.int .i64 t331, .int .i64 t332, .int .i64 t333, .int .i64 t334, .int .i64 t335, .int .i64 t336, .string t337, .string t338, .string t339] 77 (0, 0)) (by (with_reducible repeat (first | refine blk_drewN ?_ _ | refine blk_drew ?_ | refine blk_alloc ?_ _)); refine blk_far ?_ NB341_343.out _; (with_reducible repeat (first | refine blk_drewN ?_ _ | refine blk_drew ?_ | refine blk_alloc ?_ _)); refine blk_far ?_ NB341_343.out _; (with_reducible repeat (first | refine blk_drewN ?_ _ | refine blk_drew ?_ | refine blk_alloc ?_ _)); refine blk_far ?_ NB341_343.out _; (with_reducible repeat (first | refine blk_drewN ?_ _ | refine blk_drew ?_ | refine blk_alloc ?_ _)); exact BK341.out) hb); have n3_ := Aside0.mk (blk_below (g := gb343) (o := .cells #[.int .i64 (rd x5_1 x11_2), .int .i64 t336, .string t339] 58 (0, 0)) (by (with_reducible repeat (first | refine blk_drewN ?_ _ | refine blk_drew ?_ | refine blk_alloc ?_ _)); refine blk_put (cs := #[.int .i64 (rd x5_1 x11_2), .int .i64 t336, .string (⟨#[]⟩ : ByteArray)]) ?_ 2 _ rfl; (with_reducible repeat (first | refine blk_drewN ?_ _ | refine blk_drew ?_ | refine blk_alloc ?_ _)); refine blk_put (cs := #[.int .i64 (rd x5_1 x11_2), .int .i64 0, .string (⟨#[]⟩ : ByteArray)]) ?_ 1 _ rfl; (with_reducible repeat (first | refine blk_drewN ?_ _ | refine blk_drew ?_ | refine blk_alloc ?_ _)); refine blk_put (cs := #[.int .i64 0, .int .i64 0, .string (⟨#[]⟩ : ByteArray)]) ?_ 0 _ rfl; (with_reducible repeat (first | refine blk_drewN ?_ _ | refine blk_drew ?_ | refine blk_alloc ?_ _)); exact BK343.out) hb); have n4_ := Aside0.mk (below_step (by repeat (first | (with_reducible first | exact HB.out | apply below_alloc | apply pw_below_drewN | apply below_drew1 | refine below_set ?_ GE341.out | refine below_set ?_ GE343.out) | exact HB.out)) hb); clear HO_5; clear HO_10; clear BK341; clear BK343; clear HB; have HO_5 := n0_; have HO_10 := n1_; have BK341 := n2_; have BK343 := n3_; have HB := n4_; clear n0_ n1_ n2_ n3_ n4_; (try clear hb); (try clear hb2); (try clear hk); (try clear hi)) | ((with_reducible refine gate_dst (N := 15) rfl ?_); refine Go.Proofs.YtenedfmmjfgbaaaDoorR.box_full_event ?hg ?hg2 (N := 15) ?hd ?hd2 (t := 77) (v := ?vof15) ?ho (cs := #[.int .i64 0, .int .i64 0, .int .i64 0, .int .i64 0, .int .i64 0, .int .i64 0, .string (⟨#[]⟩ : ByteArray), .string (⟨#[]⟩ : ByteArray), .string (⟨#[]⟩ : ByteArray)]) (cells := #[.int .i64 t345, .int .i64 t346, .int .i64 t347, .int .i64 t348, .int .i64 t349, .int .i64 t350, .string t351, .string t352, .string t353]) ?hi ?hs ?h1 ?hr ?hx ?hv ?_; (case hd => rfl); (case hd2 => rfl); (case ho => rfl); (case hg => rfl); (case hg2 => rfl); (case hi => kernel_rfl); (case hs => rfl); (case h1 => first | kernel_rfl | rfl); (case hx => intro p_; first | rfl | (go_simp; done) | (go_simp; rfl)); (case hv => intro p_; first | rfl | (go_simp; done) | (go_simp; rfl)); (case hr => first | (go_simp; done) | (go_simp; rfl)); intro gb355 hg w55 hbox hb; have n0_ := Aside0.mk (Kd.R_below (by (with_reducible repeat (first | apply Kd.R_alloc | apply Kd.R_drewN | apply Kd.R_drew)); exact HO_5.out) hb); have n1_ := Aside0.mk (Kd.R_below (by (with_reducible repeat (first | apply Kd.R_alloc | apply Kd.R_drewN | apply Kd.R_drew)); exact HO_10.out) hb); have n2_ := Aside0.mk (blk_below (g := gb341) (o := .cells #[.int .i64 t331, .int .i64 t332, .int .i64 t333, .int .i64 t334, .int .i64 t335, .int .i64 t336, .string t337, .string t338, .string t339] 77 (0, 0)) (by (with_reducible repeat (first | refine blk_drewN ?_ _ | refine blk_drew ?_ | refine blk_alloc ?_ _)); exact BK341.out) hb); have n3_ := Aside0.mk (blk_below (g := gb343) (o := .cells #[.int .i64 (rd x5_1 x11_2), .int .i64 t336, .string t339] 58 (0, 0)) (by (with_reducible repeat (first | refine blk_drewN ?_ _ | refine blk_drew ?_ | refine blk_alloc ?_ _)); exact BK343.out) hb); have n4_ := Aside0.mk (below_step (by repeat (first | (with_reducible first | exact HB.out | apply below_alloc | apply pw_below_drewN | apply below_drew1 | refine below_set ?_ GE341.out | refine below_set ?_ GE343.out) | exact HB.out)) hb); have n5_ := Aside0.mk (hbox); have n6_ := Aside0.mk ((by rw [hg]; exact (below_size (by repeat (first | (with_reducible first | exact HB.out | apply below_alloc | apply pw_below_drewN | apply below_drew1 | refine below_set ?_ GE341.out | refine below_set ?_ GE343.out) | exact HB.out))) : w.heap.size ≤ gb355)); have n7_ := Aside0.mk ((by rw [hg]; exact (below_size (by repeat (first | (with_reducible first | exact HB.out | apply below_alloc | apply pw_below_drewN | apply below_drew1 | refine below_set ?_ GE341.out | refine below_set ?_ GE343.out) | exact HB.out))) : w.heap.size ≤ gb355)); have n8_ := Aside0.mk ((by rw [hg]; exact Nat.ne_of_lt (blk_lt (g := gb341) (o := .cells #[.int .i64 t331, .int .i64 t332, .int .i64 t333, .int .i64 t334, .int .i64 t335, .int .i64 t336, .string t337, .string t338, .string t339] 77 (0, 0)) (by (with_reducible repeat (first | refine blk_drewN ?_ _ | refine blk_drew ?_ | refine blk_alloc ?_ _)); exact BK341.out)) : gb341 ≠ gb355)); have n9_ := Aside0.mk ((by rw [hg]; exact Nat.ne_of_gt (blk_lt (g := gb341) (o := .cells #[.int .i64 t331, .int .i64 t332, .int .i64 t333, .int .i64 t334, .int .i64 t335, .int .i64 t336, .string t337, .string t338, .string t339] 77 (0, 0)) (by (with_reducible repeat (first | refine blk_drewN ?_ _ | refine blk_drew ?_ | refine blk_alloc ?_ _)); exact BK341.out)) : gb355 ≠ gb341)); have n10_ := Aside0.mk ((by rw [hg]; exact Nat.ne_of_lt (blk_lt (g := gb343) (o := .cells #[.int .i64 (rd x5_1 x11_2), .int .i64 t336, .string t339] 58 (0, 0)) (by (with_reducible repeat (first | refine blk_drewN ?_ _ | refine blk_drew ?_ | refine blk_alloc ?_ _)); exact BK343.out)) : gb343 ≠ gb355)); have n11_ := Aside0.mk ((by rw [hg]; exact Nat.ne_of_gt (blk_lt (g := gb343) (o := .cells #[.int .i64 (rd x5_1 x11_2), .int .i64 t336, .string t339] 58 (0, 0)) (by (with_reducible repeat (first | refine blk_drewN ?_ _ | refine blk_drew ?_ | refine blk_alloc ?_ _)); exact BK343.out)) : gb355 ≠ gb343)); clear HO_5; clear HO_10; clear BK341; clear BK343; clear HB; have HO_5 := n0_; have HO_10 := n1_; have BK341 := n2_; have BK343 := n3_; have HB := n4_; have BK355 := n5_; have GW355 := n6_; have GE355 := n7_; have NB341_355 := n8_; have NB355_341 := n9_; have NB343_355 := n10_; have NB355_343 := n11_; clear n0_ n1_ n2_ n3_ n4_ n5_ n6_ n7_ n8_ n9_ n10_ n11_; clear hb hbox hg; have hnb56 := NB355_341.out; have hnc56 := NB341_355.out; have hnb57 := NB355_343.out; have hnc57 := NB343_355.out; have hcz58 := blk_cell BK355.out; have hfz58 := blk_frozen BK355.out) | ((with_reducible refine gate_store (t := 3) (p := 96) rfl ?_); refine Go.Proofs.YtenedfmmjfgbaaaDoorR.store_part_event ?hg (t := 3) 96 (v := ?vo_w59) ?ho ?hn gb343 1 (.int .i64 t350) #[.int .i64 t350] #[.int .i64 (rd x5_1 x11_2), .int .i64 t336, .string t339] #[.int .i64 (rd x5_1 x11_2), .int .i64 t350, .string t339] 58 ?hx ?hy rfl BK343.out ?hi (Nat.le_of_ble_eq_true rfl) ?h1 ?hc ?_; (case ho => rfl); (case hg => rfl); (case hn => rfl); (case hi => kernel_rfl); (case h1 => first | kernel_rfl | rfl); (case hc => kernel_rfl); (case hx => first | rfl | (go_simp; done) | (go_simp; rfl)); (case hy => first | rfl | (go_simp; done) | (go_simp; rfl)); intro w59 hbox hbut; have n0_ := Aside0.mk (Kd.R_mono (Kd.R_step (Kd.R_types HO_5.out BK343.out (by decide)) (fun _ hk _ => hbut.other hk.2)) (fun _ hk => hk.1)); have n1_ := Aside0.mk (Kd.R_step HO_10.out (fun k_ hk _ => hbut.other hk.2)); have n2_ := Aside0.mk ((hbut.other NB341_343.out).trans BK341.out); have n3_ := Aside0.mk (hbox); have n4_ := Aside0.mk ((hbut.other NB355_343.out).trans BK355.out); have n5_ := Aside0.mk (HB.out.trans (hbut.below GE343.out)); clear HO_5; clear HO_10; clear BK341; clear BK343; clear BK355; clear HB; have HO_5 := n0_; have HO_10 := n1_; have BK341 := n2_; have BK343 := n3_; have BK355 := n4_; have HB := n5_; clear n0_ n1_ n2_ n3_ n4_ n5_; clear hbox hbut; have hnb60 := NB343_341.out; have hnc60 := NB341_343.out; have hcz61 := blk_cell BK343.out; have hfz61 := blk_frozen BK343.out) | ((with_reducible refine gate_builtin (b := .append) (xs := #[.tmp 97, .tmp 99]) rfl ?_); at_builtin; refine Kd.R_append k58 (w0 := w) w.heap.size rfl (.tmp 97) (.tmp 99) 36 58 (.agg #[(.int .i64 0), (.int .i64 0), (.string ⟨#[]⟩)]) 32 rfl Tryd.underlying36 info58 rfl (by decide) (by omega) u10 x10_2 (⟨rd x5_1 x11_2, t350, t339⟩ : S58) [.int .i64 (rd x5_1 x11_2), .int .i64 t350, .string t339] (fun k_ => k_ ≠ gb343) (fun _ => False) rfl rfl ?aP (fun _ hk => hk.elim) ?aF ?aO ?aB ?aS ?aL ?_; (case aP => exact k58_mkM _ _ _ (⟨rd x5_1 x11_2, t350, t339⟩ : S58)); (case aB => exact (by repeat (first | (with_reducible first | exact HB.out | apply below_alloc | apply pw_below_drewN | apply below_drew1 | refine below_set ?_ GE341.out | refine below_set ?_ GE343.out | refine below_set ?_ GE355.out) | exact HB.out))); (case aF => exact (fun k_ hk => Kd.freshB (g := gb343) (o := .cells #[.int .i64 (rd x5_1 x11_2), .int .i64 t350, .string t339] 58 (0, 0)) (by (with_reducible repeat (first | refine blk_drewN ?_ _ | refine blk_drew ?_ | refine blk_alloc ?_ _)); exact BK343.out) k_ hk)); (case aO => exact (by (with_reducible repeat (first | apply Kd.R_alloc | apply Kd.R_drewN | apply Kd.R_drew)); exact Kd.R_mono HO_10.out (fun _ hk => hk.2))); (case aS => exact (below_size (by repeat (first | (with_reducible first | exact HB.out | apply below_alloc | apply pw_below_drewN | apply below_drew1 | refine below_set ?_ GE341.out | refine below_set ?_ GE343.out | refine below_set ?_ GE355.out) | exact HB.out)))); (case aL => have := LMc45.out; omega); intro v357 w62 ho hb hg hat; rw [← Ny356.out] at ho; have n0_ := Aside0.mk (Kd.R_over' (by (with_reducible repeat (first | apply Kd.R_alloc | apply Kd.R_drewN | apply Kd.R_drew)); exact HO_5.out) (Kd.R_typed (by (with_reducible repeat (first | apply Kd.R_alloc | apply Kd.R_drewN | apply Kd.R_drew)); exact HO_10.out)) (by decide) hg); have n1_ := Aside0.mk (blk_grown (g := gb341) (o := .cells #[.int .i64 t331, .int .i64 t332, .int .i64 t333, .int .i64 t334, .int .i64 t335, .int .i64 t336, .string t337, .string t338, .string t339] 77 (0, 0)) (by (with_reducible repeat (first | refine blk_drewN ?_ _ | refine blk_drew ?_ | refine blk_alloc ?_ _)); exact BK341.out) hg (Kd.R_ne HO_10.out BK341.out (by decide))); have n2_ := Aside0.mk (blk_grown (g := gb343) (o := .cells #[.int .i64 (rd x5_1 x11_2), .int .i64 t350, .string t339] 58 (0, 0)) (by (with_reducible repeat (first | refine blk_drewN ?_ _ | refine blk_drew ?_ | refine blk_alloc ?_ _)); exact BK343.out) hg (Kd.R_away HO_10.out (fun _ hk => hk.2))); have n3_ := Aside0.mk (blk_grown (g := gb355) (o := .cells #[.int .i64 t345, .int .i64 t346, .int .i64 t347, .int .i64 t348, .int .i64 t349, .int .i64 t350, .string t351, .string t352, .string t353] 77 (0, 0)) (by (with_reducible repeat (first | refine blk_drewN ?_ _ | refine blk_drew ?_ | refine blk_alloc ?_ _)); exact BK355.out) hg (Kd.R_ne HO_10.out BK355.out (by decide))); have n4_ := Aside0.mk (hb); have n5_ := Aside0.mk (ho); clear HO_5; clear BK341; clear BK343; clear BK355; clear HB; clear HO_10; have HO_5 := n0_; have BK341 := n1_; have BK343 := n2_; have BK355 := n3_; have HB := n4_; have HO358 := n5_; clear n0_ n1_ n2_ n3_ n4_ n5_; clear ho hb hg hat))
          go_roundg k2
          case measure => have := HK1.out; have := HK2.out; omega
          case rel => exact ⟨(y356), (wrap64 (x11_2 + 1)), (by first | rfl | (simp; done) | (simp [*]; done) | (simp; exact (by intro l; cases l <;> rfl : ∀ l : List UInt8, l.isEmpty = !(l != [])) _)), H', ⟨by have := HK1.out; have := HK2.out; omega⟩, ⟨by (with_reducible repeat (first | apply Kd.R_alloc | apply Kd.R_drewN | apply Kd.R_drew)); exact HO_5.out⟩, ⟨by (with_reducible repeat (first | apply Kd.R_alloc | apply Kd.R_drewN | apply Kd.R_drew)); exact Kd.R_mono HO358.out (fun _ hk => trivial)⟩, ⟨by repeat (first | (with_reducible first | exact HB.out | apply below_alloc | apply pw_below_drewN | apply below_drew1 | refine below_set ?_ GE341.out | refine below_set ?_ GE343.out | refine below_set ?_ GE355.out) | exact HB.out)⟩⟩
         ·rw [if_neg c45] at H
          exact absurd H (by simp)
        ·replace c44 := Bool.eq_false_iff.mpr c44
         subst c44
         (try rw [if_neg (show ¬ (false = true) by decide)] at H)
         by_cases c63 : x10_2.length < 4398046511104
         ·rw [if_pos c63] at H
          have LMc63 := Aside0.mk c63
          clear c63
          obtain ⟨y359, hy359⟩ : ∃ y_ : List (S58), y_ = (x10_2 ++ [(⟨rd x5_1 x11_2, t336, t339⟩ : S58)]) := ⟨_, rfl⟩
          replace H : (spec_l07Mails.l1 k2 l0 a1 x5_1 y359 (wrap64 (x11_2 + 1))) = some r := by first | (rw [hy359]; with_reducible exact H) | (have H2_ := (Option.bind_some _ _).symm.trans H; rw [hy359]; with_reducible exact H2_) | (have H2_ := (Option.bind_some _ _).symm.trans H; with_reducible exact H2_) | with_reducible exact H | (rw [hy359]; exact H) | exact H
          have Ny359 := Aside0.mk hy359
          clear hy359
          have H' := Aside0.mk H
          clear H
          obtain ⟨Ao64, co64, eo64⟩ := Kd.R_slice HO_5.out
          subst eo64
          have p330 : 0 ≤ (x11_2 : Int) := of_decide_eq_true (by first | (with_reducible assumption) | assumption)
          have q330 : x11_2 < (x5_1.length : Int) := of_decide_eq_true (by first | (with_reducible assumption) | assumption)
          obtain ⟨ad330, e330, hx330_0⟩ := Kd.at_int (Kd.R_reads' HO_5.out).2.2 x11_2 p330 q330
          cases e330
          replace p330 := eq_true p330
          replace q330 := eq_true q330
          try go_wp2_with (first | ((with_reducible refine gate_callee (f := 37) rfl ?_); refine goesL_ (some 68) rfl rfl Tryd.func37 (by kernel_rfl) rfl #[.slice A0 l0.length c0, .int .i64 3, .int .i64 a1, .int .i64 (rd x5_1 x11_2)] rfl (by (try simp only [List.map_toArray, List.map_cons, List.map_nil]); first | done | rfl | (simp only [List.length_drop, List.length_take]; rfl)) ?_; (with_reducible refine (spec_l07Best.calls k2 _ _ l0 3 a1 (rd x5_1 x11_2) t331 t332 t333 t334 t335 t336 t337 t338 t339 t340 _ ?side1 ?side2 A42.out).mono ?_); (case side1 => repeat (first | exact (Kd.C_below HR0.out HB.out) | (with_reducible refine Kd.C_alloc ?_ _) | (with_reducible refine Kd.C_drewN ?_ _) | (with_reducible refine Kd.C_drew ?_))); (case side2 => exact HC0.out); rintro e w65 ⟨rfl, hb⟩; refine ⟨_, rfl, ?_⟩; have n0_ := Aside0.mk (Kd.R_below (by (with_reducible repeat (first | apply Kd.R_alloc | apply Kd.R_drewN | apply Kd.R_drew)); exact HO_5.out) hb); have n1_ := Aside0.mk (Kd.R_below (by (with_reducible repeat (first | apply Kd.R_alloc | apply Kd.R_drewN | apply Kd.R_drew)); exact HO_10.out) hb); have n2_ := Aside0.mk (below_step (by repeat (first | (with_reducible first | exact HB.out | apply below_alloc | apply pw_below_drewN | apply below_drew1) | exact HB.out)) hb); clear HO_5; clear HO_10; clear HB; have HO_5 := n0_; have HO_10 := n1_; have HB := n2_; clear n0_ n1_ n2_; (try clear hb); (try clear hb2); (try clear hk); (try clear hi)) | ((with_reducible refine gate_dst (N := 12) rfl ?_); refine Go.Proofs.YtenedfmmjfgbaaaDoorR.box_full_event ?hg ?hg2 (N := 12) ?hd ?hd2 (t := 77) (v := ?vof12) ?ho (cs := #[.int .i64 0, .int .i64 0, .int .i64 0, .int .i64 0, .int .i64 0, .int .i64 0, .string (⟨#[]⟩ : ByteArray), .string (⟨#[]⟩ : ByteArray), .string (⟨#[]⟩ : ByteArray)]) (cells := #[.int .i64 t331, .int .i64 t332, .int .i64 t333, .int .i64 t334, .int .i64 t335, .int .i64 t336, .string t337, .string t338, .string t339]) ?hi ?hs ?h1 ?hr ?hx ?hv ?_; (case hd => rfl); (case hd2 => rfl); (case ho => rfl); (case hg => rfl); (case hg2 => rfl); (case hi => kernel_rfl); (case hs => rfl); (case h1 => first | kernel_rfl | rfl); (case hx => intro p_; first | rfl | (go_simp; done) | (go_simp; rfl)); (case hv => intro p_; first | rfl | (go_simp; done) | (go_simp; rfl)); (case hr => first | (go_simp; done) | (go_simp; rfl)); intro gb341 hg w66 hbox hb; have n0_ := Aside0.mk (Kd.R_below (by (with_reducible repeat (first | apply Kd.R_alloc | apply Kd.R_drewN | apply Kd.R_drew)); exact HO_5.out) hb); have n1_ := Aside0.mk (Kd.R_below (by (with_reducible repeat (first | apply Kd.R_alloc | apply Kd.R_drewN | apply Kd.R_drew)); exact HO_10.out) hb); have n2_ := Aside0.mk (below_step (by repeat (first | (with_reducible first | exact HB.out | apply below_alloc | apply pw_below_drewN | apply below_drew1) | exact HB.out)) hb); have n3_ := Aside0.mk (hbox); have n4_ := Aside0.mk ((by rw [hg]; exact (below_size (by repeat (first | (with_reducible first | exact HB.out | apply below_alloc | apply pw_below_drewN | apply below_drew1) | exact HB.out))) : w.heap.size ≤ gb341)); have n5_ := Aside0.mk ((by rw [hg]; exact (below_size (by repeat (first | (with_reducible first | exact HB.out | apply below_alloc | apply pw_below_drewN | apply below_drew1) | exact HB.out))) : w.heap.size ≤ gb341)); clear HO_5; clear HO_10; clear HB; have HO_5 := n0_; have HO_10 := n1_; have HB := n2_; have BK341 := n3_; have GW341 := n4_; have GE341 := n5_; clear n0_ n1_ n2_ n3_ n4_ n5_; clear hb hbox hg))
          have n0_ := Aside0.mk (Kd.R_drew HO_5.out)
          have n1_ := Aside0.mk (Kd.R_drew HO_10.out)
          have n2_ := Aside0.mk (blk_drew BK341.out)
          have n3_ := Aside0.mk (below_drew1 HB.out)
          clear HO_5
          clear HO_10
          clear BK341
          clear HB
          have HO_5 := n0_
          have HO_10 := n1_
          have BK341 := n2_
          have HB := n3_
          clear n0_ n1_ n2_ n3_
          have p342 : 0 ≤ (x11_2 : Int) := of_decide_eq_true (by first | (with_reducible assumption) | assumption)
          have q342 : x11_2 < (x5_1.length : Int) := of_decide_eq_true (by first | (with_reducible assumption) | assumption)
          obtain ⟨ad342, e342, hx342_0⟩ := Kd.at_int (Kd.R_reads' HO_5.out).2.2 x11_2 p342 q342
          obtain rfl : ad330 = ad342 := (by injection e342)
          replace p342 := eq_true p342
          replace q342 := eq_true q342
          refine start_ (n := 13) (S := fun w' => w'.cell? ⟨gb341, 0, none⟩ = some (.int .i64 t331) ∧ w'.cell? ⟨gb341, 1, none⟩ = some (.int .i64 t332) ∧ w'.cell? ⟨gb341, 2, none⟩ = some (.int .i64 t333) ∧ w'.cell? ⟨gb341, 3, none⟩ = some (.int .i64 t334) ∧ w'.cell? ⟨gb341, 4, none⟩ = some (.int .i64 t335) ∧ w'.cell? ⟨gb341, 5, none⟩ = some (.int .i64 t336) ∧ w'.cell? ⟨gb341, 6, none⟩ = some (.string t337) ∧ w'.cell? ⟨gb341, 7, none⟩ = some (.string t338) ∧ w'.cell? ⟨gb341, 8, none⟩ = some (.string t339) ∧ w'.cell? (ad330.add (x11_2).toNat) = some (.int .i64 (rd x5_1 x11_2))) (ds := []) #[false, false, false, false, false, false, false, false, false, false, false, false, false] (by kernel_rfl) rfl rfl ⟨(blk_cell BK341.out 0).trans rfl, (blk_cell BK341.out 1).trans rfl, (blk_cell BK341.out 2).trans rfl, (blk_cell BK341.out 3).trans rfl, (blk_cell BK341.out 4).trans rfl, (blk_cell BK341.out 5).trans rfl, (blk_cell BK341.out 6).trans rfl, (blk_cell BK341.out 7).trans rfl, (blk_cell BK341.out 8).trans rfl, hx342_0⟩ (fun hHeld => ?_); refine with_tabW spec_l07Mails.tab14 spec_l07Mails.bits14 (fun HT_ HW_ => ?_)
          generalize w66.drew = w67 at HO_5 HO_10 BK341 HB hx342_0 hHeld ⊢
          refine pure_ (i := 0) (N := some 71) (v := ?_) (a' := ?_) #[true, false, false, false, false, false, false, false, false, false, false, false, false] rfl rfl (any_of HT_.out (by kernel_rfl)) (fun _ _ _ h => h) (Or.inl ⟨by rfl, ?_⟩) ?_ ?_
          rotate_left
          ·intro w'
           go_simp
           with_reducible rfl
          rotate_left
          ·simp only [Act.put, List.setIfInBounds_toArray, List.set_cons_zero, List.set_cons_succ, i64_w, i32_w]
           rfl
          refine pure_ (i := 1) (N := some 72) (v := ?_) (a' := ?_) #[true, true, false, false, false, false, false, false, false, false, false, false, false] rfl rfl (any_of HT_.out (by kernel_rfl)) (fun _ _ _ h => h) (Or.inl ⟨by rfl, ?_⟩) ?_ ?_
          rotate_left
          ·intro w'
           go_simp
           with_reducible rfl
          rotate_left
          ·simp only [Act.put, List.setIfInBounds_toArray, List.set_cons_zero, List.set_cons_succ, i64_w, i32_w]
           rfl
          refine pure_ (i := 2) (N := some 73) (v := ?_) (a' := ?_) #[true, true, true, false, false, false, false, false, false, false, false, false, false] rfl rfl (any_of HT_.out (by kernel_rfl)) (fun _ _ _ h => h) (Or.inl ⟨by rfl, ?_⟩) ?_ ?_
          rotate_left
          ·intro w'
           go_simp
           with_reducible rfl
          rotate_left
          ·simp only [Act.put, List.setIfInBounds_toArray, List.set_cons_zero, List.set_cons_succ, i64_w, i32_w]
           rfl
          refine pure_ (i := 4) (N := some 75) (v := ?_) (a' := ?_) #[true, true, true, false, true, false, false, false, false, false, false, false, false] rfl rfl (any_of HT_.out (by kernel_rfl)) (fun _ _ _ h => h) (Or.inl ⟨by rfl, ?_⟩) ?_ ?_
          rotate_left
          ·intro w'
           go_simp
           with_reducible rfl
          rotate_left
          ·simp only [Act.put, List.setIfInBounds_toArray, List.set_cons_zero, List.set_cons_succ, i64_w, i32_w]
           rfl
          refine pure_ (i := 5) (N := some 76) (v := ?_) (a' := ?_) #[true, true, true, false, true, true, false, false, false, false, false, false, false] rfl rfl (any_of HT_.out (by kernel_rfl)) (fun _ _ _ h => h) (Or.inl ⟨by rfl, ?_⟩) ?_ ?_
          rotate_left
          ·intro w'
           go_simp
           with_reducible rfl
          rotate_left
          ·simp only [Act.put, List.setIfInBounds_toArray, List.set_cons_zero, List.set_cons_succ, i64_w, i32_w]
           rfl
          refine pure_ (i := 7) (N := some 78) (v := ?_) (a' := ?_) #[true, true, true, false, true, true, false, true, false, false, false, false, false] rfl rfl (any_of HT_.out (by kernel_rfl)) (fun _ _ _ h => h) (Or.inl ⟨by rfl, ?_⟩) ?_ ?_
          rotate_left
          ·intro w'
           go_simp
           with_reducible rfl
          rotate_left
          ·simp only [Act.put, List.setIfInBounds_toArray, List.set_cons_zero, List.set_cons_succ, i64_w, i32_w]
           rfl
          refine pure_ (i := 8) (N := some 79) (v := ?_) (a' := ?_) #[true, true, true, false, true, true, false, true, true, false, false, false, false] rfl rfl (any_of HT_.out (by kernel_rfl)) (fun _ _ _ h => h) (Or.inl ⟨by rfl, ?_⟩) ?_ ?_
          rotate_left
          ·intro w'
           go_simp
           with_reducible rfl
          rotate_left
          ·simp only [Act.put, List.setIfInBounds_toArray, List.set_cons_zero, List.set_cons_succ, i64_w, i32_w]
           rfl
          refine take_ (i := 3) (N := some 74) (v := ?_) (a' := ?_) #[true, true, true, true, true, true, false, true, true, false, false, false, false] rfl rfl (take_ofW HT_.out HW_.out (by kernel_rfl)) (fun _ _ _ h => h) (Or.inl ⟨by rfl, ?_⟩) hHeld ?_ ?_
          rotate_left
          ·rintro w' ⟨s0, s1, s2, s3, s4, s5, s6, s7, s8, s9⟩
           go_simp
           with_reducible rfl
          rotate_left
          ·simp only [Act.put, List.setIfInBounds_toArray, List.set_cons_zero, List.set_cons_succ, i64_w, i32_w]
           rfl
          refine take_ (i := 6) (N := some 77) (v := ?_) (a' := ?_) #[true, true, true, true, true, true, true, true, true, false, false, false, false] rfl rfl (take_ofW HT_.out HW_.out (by kernel_rfl)) (fun _ _ _ h => h) (Or.inl ⟨by rfl, ?_⟩) hHeld ?_ ?_
          rotate_left
          ·rintro w' ⟨s0, s1, s2, s3, s4, s5, s6, s7, s8, s9⟩
           go_simp
           with_reducible rfl
          rotate_left
          ·simp only [Act.put, List.setIfInBounds_toArray, List.set_cons_zero, List.set_cons_succ, i64_w, i32_w]
           rfl
          refine take_ (i := 9) (N := some 80) (v := ?_) (a' := ?_) #[true, true, true, true, true, true, true, true, true, true, false, false, false] rfl rfl (take_ofW HT_.out HW_.out (by kernel_rfl)) (fun _ _ _ h => h) (Or.inl ⟨by rfl, ?_⟩) hHeld ?_ ?_
          rotate_left
          ·rintro w' ⟨s0, s1, s2, s3, s4, s5, s6, s7, s8, s9⟩
           go_simp
           with_reducible rfl
          rotate_left
          ·simp only [Act.put, List.setIfInBounds_toArray, List.set_cons_zero, List.set_cons_succ, i64_w, i32_w]
           rfl
          refine pure_ (i := 10) (N := some 81) (v := ?_) (a' := ?_) #[true, true, true, true, true, true, true, true, true, true, true, false, false] rfl rfl (any_of HT_.out (by kernel_rfl)) (fun _ _ _ h => h) (Or.inl ⟨by rfl, ?_⟩) ?_ ?_
          rotate_left
          ·intro w'
           go_simp
           with_reducible rfl
          rotate_left
          ·simp only [Act.put, List.setIfInBounds_toArray, List.set_cons_zero, List.set_cons_succ, i64_w, i32_w]
           rfl
          refine one_ (i := 11) (N := some 14) #[true, true, true, true, true, true, true, true, true, true, true, true, false] rfl rfl (one_of HT_.out (by kernel_rfl)) (by decide) (fun K hK => ?_)
          refine box_step ?hg (N := 14) ?hd (cs := #[.int .i64 0, .int .i64 0, .string (⟨#[]⟩ : ByteArray)]) (t := 58) ?hr ?_; (case hd => rfl); (case hg => rfl); (case hr => first | (go_simp; done) | (go_simp; rfl))
          intro gb343 hg w68 hbox hb
          have HS9_ := (hb.cell (World.block_lt_of_cell? _ _ (hHeld.2.2.2.2.2.2.2.2.2))).trans (hHeld.2.2.2.2.2.2.2.2.2)
          have n0_ := Aside0.mk (Kd.R_below (by (with_reducible repeat (first | apply Kd.R_alloc | apply Kd.R_drewN | apply Kd.R_drew)); exact HO_5.out) hb)
          have n1_ := Aside0.mk (Kd.R_below (Kd.R_elderB (by (with_reducible repeat (first | apply Kd.R_alloc | apply Kd.R_drewN | apply Kd.R_drew)); exact HO_10.out) gb343 (Nat.le_of_eq hg.symm)) hb)
          have n2_ := Aside0.mk (blk_below (g := gb341) (o := .cells #[.int .i64 t331, .int .i64 t332, .int .i64 t333, .int .i64 t334, .int .i64 t335, .int .i64 t336, .string t337, .string t338, .string t339] 77 (0, 0)) (by (with_reducible repeat (first | refine blk_drewN ?_ _ | refine blk_drew ?_ | refine blk_alloc ?_ _)); exact BK341.out) hb)
          have n3_ := Aside0.mk (below_step (by repeat (first | (with_reducible first | exact HB.out | apply below_alloc | apply pw_below_drewN | apply below_drew1 | refine below_set ?_ GE341.out) | exact HB.out)) hb)
          have n4_ := Aside0.mk (hbox)
          have n5_ := Aside0.mk ((by rw [hg]; exact (below_size (by repeat (first | (with_reducible first | exact HB.out | apply below_alloc | apply pw_below_drewN | apply below_drew1 | refine below_set ?_ GE341.out) | exact HB.out))) : w.heap.size ≤ gb343))
          have n6_ := Aside0.mk ((by rw [hg]; exact (below_size (by repeat (first | (with_reducible first | exact HB.out | apply below_alloc | apply pw_below_drewN | apply below_drew1 | refine below_set ?_ GE341.out) | exact HB.out))) : w.heap.size ≤ gb343))
          have n7_ := Aside0.mk ((by rw [hg]; exact Nat.ne_of_lt (blk_lt (g := gb341) (o := .cells #[.int .i64 t331, .int .i64 t332, .int .i64 t333, .int .i64 t334, .int .i64 t335, .int .i64 t336, .string t337, .string t338, .string t339] 77 (0, 0)) (by (with_reducible repeat (first | refine blk_drewN ?_ _ | refine blk_drew ?_ | refine blk_alloc ?_ _)); exact BK341.out)) : gb341 ≠ gb343))
          have n8_ := Aside0.mk ((by rw [hg]; exact Nat.ne_of_gt (blk_lt (g := gb341) (o := .cells #[.int .i64 t331, .int .i64 t332, .int .i64 t333, .int .i64 t334, .int .i64 t335, .int .i64 t336, .string t337, .string t338, .string t339] 77 (0, 0)) (by (with_reducible repeat (first | refine blk_drewN ?_ _ | refine blk_drew ?_ | refine blk_alloc ?_ _)); exact BK341.out)) : gb343 ≠ gb341))
          clear HO_5
          clear HO_10
          clear BK341
          clear HB
          have HO_5 := n0_
          have HO_10 := n1_
          have BK341 := n2_
          have HB := n3_
          have BK343 := n4_
          have GW343 := n5_
          have GE343 := n6_
          have NB341_343 := n7_
          have NB343_341 := n8_
          clear n0_ n1_ n2_ n3_ n4_ n5_ n6_ n7_ n8_
          clear hb hbox hg
          refine hK.out _ _ ⟨(blk_cell BK341.out 0).trans rfl, (blk_cell BK341.out 1).trans rfl, (blk_cell BK341.out 2).trans rfl, (blk_cell BK341.out 3).trans rfl, (blk_cell BK341.out 4).trans rfl, (blk_cell BK341.out 5).trans rfl, (blk_cell BK341.out 6).trans rfl, (blk_cell BK341.out 7).trans rfl, (blk_cell BK341.out 8).trans rfl, HS9_⟩ (fun hHeld => ?_)
          clear hK K
          refine norm_ (a' := ?_) ?_ ?_
          rotate_left
          ·show Act.put _ (some 14) _ = _
           simp only [Act.put, List.setIfInBounds_toArray, List.set_cons_zero, List.set_cons_succ, i64_w, i32_w]
           rfl
          refine one_ (i := 12) (N := none) #[true, true, true, true, true, true, true, true, true, true, true, true, true] rfl rfl (one_of HT_.out (by kernel_rfl)) (by decide) (fun K hK => ?_)
          have hs69 : w68.cell? ⟨gb343, 0, none⟩ = some (.int .i64 0) := (blk_cell BK343.out 0).trans rfl
          have hfs69 := blk_frozen BK343.out 0
          have hns69_0 := NB341_343.out
          have hms69_0 := NB343_341.out
          have hs70 : w68.cell? ⟨gb343, 1, none⟩ = some (.int .i64 0) := (blk_cell BK343.out 1).trans rfl
          have hfs70 := blk_frozen BK343.out 1
          have hns70_0 := NB341_343.out
          have hms70_0 := NB343_341.out
          have hs71 : w68.cell? ⟨gb343, 2, none⟩ = some (.string (⟨#[]⟩ : ByteArray)) := (blk_cell BK343.out 2).trans rfl
          have hfs71 := blk_frozen BK343.out 2
          have hns71_0 := NB341_343.out
          have hms71_0 := NB343_341.out
          refine skip_ (w1 := ?_) (by rfl) rfl ?_ ?_
          rotate_left
          ·go_simp
           rfl
          refine hK.out _ _ ⟨((cell_far (p := ⟨gb343, _, none⟩) NB341_343.out _).trans (((cell_far (p := ⟨gb343, _, none⟩) NB341_343.out _).trans (((cell_far (p := ⟨gb343, _, none⟩) NB341_343.out _).trans (hHeld.1)))))), ((cell_far (p := ⟨gb343, _, none⟩) NB341_343.out _).trans (((cell_far (p := ⟨gb343, _, none⟩) NB341_343.out _).trans (((cell_far (p := ⟨gb343, _, none⟩) NB341_343.out _).trans (hHeld.2.1)))))), ((cell_far (p := ⟨gb343, _, none⟩) NB341_343.out _).trans (((cell_far (p := ⟨gb343, _, none⟩) NB341_343.out _).trans (((cell_far (p := ⟨gb343, _, none⟩) NB341_343.out _).trans (hHeld.2.2.1)))))), ((cell_far (p := ⟨gb343, _, none⟩) NB341_343.out _).trans (((cell_far (p := ⟨gb343, _, none⟩) NB341_343.out _).trans (((cell_far (p := ⟨gb343, _, none⟩) NB341_343.out _).trans (hHeld.2.2.2.1)))))), ((cell_far (p := ⟨gb343, _, none⟩) NB341_343.out _).trans (((cell_far (p := ⟨gb343, _, none⟩) NB341_343.out _).trans (((cell_far (p := ⟨gb343, _, none⟩) NB341_343.out _).trans (hHeld.2.2.2.2.1)))))), ((cell_far (p := ⟨gb343, _, none⟩) NB341_343.out _).trans (((cell_far (p := ⟨gb343, _, none⟩) NB341_343.out _).trans (((cell_far (p := ⟨gb343, _, none⟩) NB341_343.out _).trans (hHeld.2.2.2.2.2.1)))))), ((cell_far (p := ⟨gb343, _, none⟩) NB341_343.out _).trans (((cell_far (p := ⟨gb343, _, none⟩) NB341_343.out _).trans (((cell_far (p := ⟨gb343, _, none⟩) NB341_343.out _).trans (hHeld.2.2.2.2.2.2.1)))))), ((cell_far (p := ⟨gb343, _, none⟩) NB341_343.out _).trans (((cell_far (p := ⟨gb343, _, none⟩) NB341_343.out _).trans (((cell_far (p := ⟨gb343, _, none⟩) NB341_343.out _).trans (hHeld.2.2.2.2.2.2.2.1)))))), ((cell_far (p := ⟨gb343, _, none⟩) NB341_343.out _).trans (((cell_far (p := ⟨gb343, _, none⟩) NB341_343.out _).trans (((cell_far (p := ⟨gb343, _, none⟩) NB341_343.out _).trans (hHeld.2.2.2.2.2.2.2.2.1)))))), ((cell_far (p := ⟨gb343, _, none⟩) (by first | exact Kd.own_blk (Kd.R_ne HO_5.out BK343.out (by decide)) | (rw [add_block]; exact Kd.own_blk (Kd.R_ne HO_5.out BK343.out (by decide))) | (show (Addr.add _ _).block ≠ _; rw [add_block]; exact Kd.own_blk (Kd.R_ne HO_5.out BK343.out (by decide))) | (dsimp only; exact Kd.own_blk (Kd.R_ne HO_5.out BK343.out (by decide)))) _).trans (((cell_far (p := ⟨gb343, _, none⟩) (by first | exact Kd.own_blk (Kd.R_ne HO_5.out BK343.out (by decide)) | (rw [add_block]; exact Kd.own_blk (Kd.R_ne HO_5.out BK343.out (by decide))) | (show (Addr.add _ _).block ≠ _; rw [add_block]; exact Kd.own_blk (Kd.R_ne HO_5.out BK343.out (by decide))) | (dsimp only; exact Kd.own_blk (Kd.R_ne HO_5.out BK343.out (by decide)))) _).trans (((cell_far (p := ⟨gb343, _, none⟩) (by first | exact Kd.own_blk (Kd.R_ne HO_5.out BK343.out (by decide)) | (rw [add_block]; exact Kd.own_blk (Kd.R_ne HO_5.out BK343.out (by decide))) | (show (Addr.add _ _).block ≠ _; rw [add_block]; exact Kd.own_blk (Kd.R_ne HO_5.out BK343.out (by decide))) | (dsimp only; exact Kd.own_blk (Kd.R_ne HO_5.out BK343.out (by decide)))) _).trans (hHeld.2.2.2.2.2.2.2.2.2))))))⟩ (fun hHeld => ?_)
          clear hK K
          refine done_ (done_of HT_.out (by kernel_rfl)) ?_
          have p344 : 0 ≤ (x11_2 : Int) := of_decide_eq_true (by first | (with_reducible assumption) | assumption)
          have q344 : x11_2 < (x5_1.length : Int) := of_decide_eq_true (by first | (with_reducible assumption) | assumption)
          obtain ⟨ad344, e344, hx344_0⟩ := Kd.at_int (Kd.R_reads' HO_5.out).2.2 x11_2 p344 q344
          obtain rfl : ad330 = ad344 := (by injection e344)
          have hn344_0 : ad330.block ≠ gb343 := Kd.own_blk (Kd.R_ne HO_5.out BK343.out (by decide))
          have hn344_1 : ad330.block ≠ gb343 := Kd.own_blk (Kd.R_ne HO_5.out BK343.out (by decide))
          have hn344_2 : ad330.block ≠ gb343 := Kd.own_blk (Kd.R_ne HO_5.out BK343.out (by decide))
          replace hx344_0 := (cell_far (p := ⟨gb343, 0, none⟩) (by first | (rw [add_block]; exact hn344_0) | (show (Addr.add _ _).block ≠ _; rw [add_block]; exact hn344_0) | exact hn344_0) (.int .i64 (rd x5_1 x11_2))).trans hx344_0
          replace hx344_0 := (cell_far (p := ⟨gb343, 1, none⟩) (by first | (rw [add_block]; exact hn344_1) | (show (Addr.add _ _).block ≠ _; rw [add_block]; exact hn344_1) | exact hn344_1) (.int .i64 t336)).trans hx344_0
          replace hx344_0 := (cell_far (p := ⟨gb343, 2, none⟩) (by first | (rw [add_block]; exact hn344_2) | (show (Addr.add _ _).block ≠ _; rw [add_block]; exact hn344_2) | exact hn344_2) (.string t339)).trans hx344_0
          clear hn344_0
          clear hn344_1
          clear hn344_2
          replace p344 := eq_true p344
          replace q344 := eq_true q344
          try go_wp2_with (first | ((with_reducible refine gate_callee (f := 37) rfl ?_); refine goesL_ (some 89) rfl rfl Tryd.func37 (by kernel_rfl) rfl #[.slice A0 l0.length c0, .int .i64 4, .int .i64 a1, .int .i64 (rd x5_1 x11_2)] rfl (by (try simp only [List.map_toArray, List.map_cons, List.map_nil]); first | done | rfl | (simp only [List.length_drop, List.length_take]; rfl)) ?_; (with_reducible refine (spec_l07Best.calls k2 _ _ l0 4 a1 (rd x5_1 x11_2) t345 t346 t347 t348 t349 t350 t351 t352 t353 false _ ?side1 ?side2 A43.out).mono ?_); (case side1 => exact Kd.C_below HR0.out (by repeat (first | (with_reducible first | exact HB.out | apply below_alloc | apply pw_below_drewN | apply below_drew1 | refine below_set ?_ GE341.out | refine below_set ?_ GE343.out) | exact HB.out))); (case side2 => exact HC0.out); rintro e w72 ⟨rfl, hb⟩; refine ⟨_, rfl, ?_⟩; have n0_ := Aside0.mk (Kd.R_below (by (with_reducible repeat (first | apply Kd.R_alloc | apply Kd.R_drewN | apply Kd.R_drew)); exact (Kd.R_mono (Kd.R_far (p := ⟨gb343, 2, none⟩) (Kd.R_far (p := ⟨gb343, 1, none⟩) (Kd.R_far (p := ⟨gb343, 0, none⟩) (Kd.R_types HO_5.out BK343.out (by decide)) (fun _ hk => hk.2) (.int .i64 (rd x5_1 x11_2))) (fun _ hk => hk.2) (.int .i64 t336)) (fun _ hk => hk.2) (.string t339)) (fun _ h_ => h_.1))) hb); have n1_ := Aside0.mk (Kd.R_below (by (with_reducible repeat (first | apply Kd.R_alloc | apply Kd.R_drewN | apply Kd.R_drew)); exact (Kd.R_mono (Kd.R_far (p := ⟨gb343, 2, none⟩) (Kd.R_far (p := ⟨gb343, 1, none⟩) (Kd.R_far (p := ⟨gb343, 0, none⟩) (Kd.R_mono HO_10.out (fun k_ hk => (⟨hk, hk.2⟩ : _ ∧ k_ ≠ gb343))) (fun _ hk => hk.2) (.int .i64 (rd x5_1 x11_2))) (fun _ hk => hk.2) (.int .i64 t336)) (fun _ hk => hk.2) (.string t339)) (fun _ h_ => h_.1))) hb); have n2_ := Aside0.mk (blk_below (g := gb341) (o := .cells #[.int .i64 t331, .int .i64 t332, .int .i64 t333, .int .i64 t334, .int .i64 t335, .int .i64 t336, .string t337, .string t338, .string t339] 77 (0, 0)) (by (with_reducible repeat (first | refine blk_drewN ?_ _ | refine blk_drew ?_ | refine blk_alloc ?_ _)); refine blk_far ?_ NB341_343.out _; (with_reducible repeat (first | refine blk_drewN ?_ _ | refine blk_drew ?_ | refine blk_alloc ?_ _)); refine blk_far ?_ NB341_343.out _; (with_reducible repeat (first | refine blk_drewN ?_ _ | refine blk_drew ?_ | refine blk_alloc ?_ _)); refine blk_far ?_ NB341_343.out _; (with_reducible repeat (first | refine blk_drewN ?_ _ | refine blk_drew ?_ | refine blk_alloc ?_ _)); exact BK341.out) hb); have n3_ := Aside0.mk (blk_below (g := gb343) (o := .cells #[.int .i64 (rd x5_1 x11_2), .int .i64 t336, .string t339] 58 (0, 0)) (by (with_reducible repeat (first | refine blk_drewN ?_ _ | refine blk_drew ?_ | refine blk_alloc ?_ _)); refine blk_put (cs := #[.int .i64 (rd x5_1 x11_2), .int .i64 t336, .string (⟨#[]⟩ : ByteArray)]) ?_ 2 _ rfl; (with_reducible repeat (first | refine blk_drewN ?_ _ | refine blk_drew ?_ | refine blk_alloc ?_ _)); refine blk_put (cs := #[.int .i64 (rd x5_1 x11_2), .int .i64 0, .string (⟨#[]⟩ : ByteArray)]) ?_ 1 _ rfl; (with_reducible repeat (first | refine blk_drewN ?_ _ | refine blk_drew ?_ | refine blk_alloc ?_ _)); refine blk_put (cs := #[.int .i64 0, .int .i64 0, .string (⟨#[]⟩ : ByteArray)]) ?_ 0 _ rfl; (with_reducible repeat (first | refine blk_drewN ?_ _ | refine blk_drew ?_ | refine blk_alloc ?_ _)); exact BK343.out) hb); have n4_ := Aside0.mk (below_step (by repeat (first | (with_reducible first | exact HB.out | apply below_alloc | apply pw_below_drewN | apply below_drew1 | refine below_set ?_ GE341.out | refine below_set ?_ GE343.out) | exact HB.out)) hb); clear HO_5; clear HO_10; clear BK341; clear BK343; clear HB; have HO_5 := n0_; have HO_10 := n1_; have BK341 := n2_; have BK343 := n3_; have HB := n4_; clear n0_ n1_ n2_ n3_ n4_; (try clear hb); (try clear hb2); (try clear hk); (try clear hi)) | ((with_reducible refine gate_dst (N := 15) rfl ?_); refine Go.Proofs.YtenedfmmjfgbaaaDoorR.box_full_event ?hg ?hg2 (N := 15) ?hd ?hd2 (t := 77) (v := ?vof15) ?ho (cs := #[.int .i64 0, .int .i64 0, .int .i64 0, .int .i64 0, .int .i64 0, .int .i64 0, .string (⟨#[]⟩ : ByteArray), .string (⟨#[]⟩ : ByteArray), .string (⟨#[]⟩ : ByteArray)]) (cells := #[.int .i64 t345, .int .i64 t346, .int .i64 t347, .int .i64 t348, .int .i64 t349, .int .i64 t350, .string t351, .string t352, .string t353]) ?hi ?hs ?h1 ?hr ?hx ?hv ?_; (case hd => rfl); (case hd2 => rfl); (case ho => rfl); (case hg => rfl); (case hg2 => rfl); (case hi => kernel_rfl); (case hs => rfl); (case h1 => first | kernel_rfl | rfl); (case hx => intro p_; first | rfl | (go_simp; done) | (go_simp; rfl)); (case hv => intro p_; first | rfl | (go_simp; done) | (go_simp; rfl)); (case hr => first | (go_simp; done) | (go_simp; rfl)); intro gb355 hg w73 hbox hb; have n0_ := Aside0.mk (Kd.R_below (by (with_reducible repeat (first | apply Kd.R_alloc | apply Kd.R_drewN | apply Kd.R_drew)); exact HO_5.out) hb); have n1_ := Aside0.mk (Kd.R_below (by (with_reducible repeat (first | apply Kd.R_alloc | apply Kd.R_drewN | apply Kd.R_drew)); exact HO_10.out) hb); have n2_ := Aside0.mk (blk_below (g := gb341) (o := .cells #[.int .i64 t331, .int .i64 t332, .int .i64 t333, .int .i64 t334, .int .i64 t335, .int .i64 t336, .string t337, .string t338, .string t339] 77 (0, 0)) (by (with_reducible repeat (first | refine blk_drewN ?_ _ | refine blk_drew ?_ | refine blk_alloc ?_ _)); exact BK341.out) hb); have n3_ := Aside0.mk (blk_below (g := gb343) (o := .cells #[.int .i64 (rd x5_1 x11_2), .int .i64 t336, .string t339] 58 (0, 0)) (by (with_reducible repeat (first | refine blk_drewN ?_ _ | refine blk_drew ?_ | refine blk_alloc ?_ _)); exact BK343.out) hb); have n4_ := Aside0.mk (below_step (by repeat (first | (with_reducible first | exact HB.out | apply below_alloc | apply pw_below_drewN | apply below_drew1 | refine below_set ?_ GE341.out | refine below_set ?_ GE343.out) | exact HB.out)) hb); have n5_ := Aside0.mk (hbox); have n6_ := Aside0.mk ((by rw [hg]; exact (below_size (by repeat (first | (with_reducible first | exact HB.out | apply below_alloc | apply pw_below_drewN | apply below_drew1 | refine below_set ?_ GE341.out | refine below_set ?_ GE343.out) | exact HB.out))) : w.heap.size ≤ gb355)); have n7_ := Aside0.mk ((by rw [hg]; exact (below_size (by repeat (first | (with_reducible first | exact HB.out | apply below_alloc | apply pw_below_drewN | apply below_drew1 | refine below_set ?_ GE341.out | refine below_set ?_ GE343.out) | exact HB.out))) : w.heap.size ≤ gb355)); have n8_ := Aside0.mk ((by rw [hg]; exact Nat.ne_of_lt (blk_lt (g := gb341) (o := .cells #[.int .i64 t331, .int .i64 t332, .int .i64 t333, .int .i64 t334, .int .i64 t335, .int .i64 t336, .string t337, .string t338, .string t339] 77 (0, 0)) (by (with_reducible repeat (first | refine blk_drewN ?_ _ | refine blk_drew ?_ | refine blk_alloc ?_ _)); exact BK341.out)) : gb341 ≠ gb355)); have n9_ := Aside0.mk ((by rw [hg]; exact Nat.ne_of_gt (blk_lt (g := gb341) (o := .cells #[.int .i64 t331, .int .i64 t332, .int .i64 t333, .int .i64 t334, .int .i64 t335, .int .i64 t336, .string t337, .string t338, .string t339] 77 (0, 0)) (by (with_reducible repeat (first | refine blk_drewN ?_ _ | refine blk_drew ?_ | refine blk_alloc ?_ _)); exact BK341.out)) : gb355 ≠ gb341)); have n10_ := Aside0.mk ((by rw [hg]; exact Nat.ne_of_lt (blk_lt (g := gb343) (o := .cells #[.int .i64 (rd x5_1 x11_2), .int .i64 t336, .string t339] 58 (0, 0)) (by (with_reducible repeat (first | refine blk_drewN ?_ _ | refine blk_drew ?_ | refine blk_alloc ?_ _)); exact BK343.out)) : gb343 ≠ gb355)); have n11_ := Aside0.mk ((by rw [hg]; exact Nat.ne_of_gt (blk_lt (g := gb343) (o := .cells #[.int .i64 (rd x5_1 x11_2), .int .i64 t336, .string t339] 58 (0, 0)) (by (with_reducible repeat (first | refine blk_drewN ?_ _ | refine blk_drew ?_ | refine blk_alloc ?_ _)); exact BK343.out)) : gb355 ≠ gb343)); clear HO_5; clear HO_10; clear BK341; clear BK343; clear HB; have HO_5 := n0_; have HO_10 := n1_; have BK341 := n2_; have BK343 := n3_; have HB := n4_; have BK355 := n5_; have GW355 := n6_; have GE355 := n7_; have NB341_355 := n8_; have NB355_341 := n9_; have NB343_355 := n10_; have NB355_343 := n11_; clear n0_ n1_ n2_ n3_ n4_ n5_ n6_ n7_ n8_ n9_ n10_ n11_; clear hb hbox hg; have hnb74 := NB343_341.out; have hnc74 := NB341_343.out; have hnb75 := NB343_355.out; have hnc75 := NB355_343.out; have hcz76 := blk_cell BK343.out; have hfz76 := blk_frozen BK343.out) | ((with_reducible refine gate_builtin (b := .append) (xs := #[.tmp 97, .tmp 99]) rfl ?_); at_builtin; refine Kd.R_append k58 (w0 := w) w.heap.size rfl (.tmp 97) (.tmp 99) 36 58 (.agg #[(.int .i64 0), (.int .i64 0), (.string ⟨#[]⟩)]) 32 rfl Tryd.underlying36 info58 rfl (by decide) (by omega) u10 x10_2 (⟨rd x5_1 x11_2, t336, t339⟩ : S58) [.int .i64 (rd x5_1 x11_2), .int .i64 t336, .string t339] (fun k_ => k_ ≠ gb343) (fun _ => False) rfl rfl ?aP (fun _ hk => hk.elim) ?aF ?aO ?aB ?aS ?aL ?_; (case aP => exact k58_mkM _ _ _ (⟨rd x5_1 x11_2, t336, t339⟩ : S58)); (case aB => exact (by repeat (first | (with_reducible first | exact HB.out | apply below_alloc | apply pw_below_drewN | apply below_drew1 | refine below_set ?_ GE341.out | refine below_set ?_ GE343.out | refine below_set ?_ GE355.out) | exact HB.out))); (case aF => exact (fun k_ hk => Kd.freshB (g := gb343) (o := .cells #[.int .i64 (rd x5_1 x11_2), .int .i64 t336, .string t339] 58 (0, 0)) (by (with_reducible repeat (first | refine blk_drewN ?_ _ | refine blk_drew ?_ | refine blk_alloc ?_ _)); exact BK343.out) k_ hk)); (case aO => exact (by (with_reducible repeat (first | apply Kd.R_alloc | apply Kd.R_drewN | apply Kd.R_drew)); exact Kd.R_mono HO_10.out (fun _ hk => hk.2))); (case aS => exact (below_size (by repeat (first | (with_reducible first | exact HB.out | apply below_alloc | apply pw_below_drewN | apply below_drew1 | refine below_set ?_ GE341.out | refine below_set ?_ GE343.out | refine below_set ?_ GE355.out) | exact HB.out)))); (case aL => have := LMc63.out; omega); intro v360 w77 ho hb hg hat; rw [← Ny359.out] at ho; have n0_ := Aside0.mk (Kd.R_over' (by (with_reducible repeat (first | apply Kd.R_alloc | apply Kd.R_drewN | apply Kd.R_drew)); exact HO_5.out) (Kd.R_typed (by (with_reducible repeat (first | apply Kd.R_alloc | apply Kd.R_drewN | apply Kd.R_drew)); exact HO_10.out)) (by decide) hg); have n1_ := Aside0.mk (blk_grown (g := gb341) (o := .cells #[.int .i64 t331, .int .i64 t332, .int .i64 t333, .int .i64 t334, .int .i64 t335, .int .i64 t336, .string t337, .string t338, .string t339] 77 (0, 0)) (by (with_reducible repeat (first | refine blk_drewN ?_ _ | refine blk_drew ?_ | refine blk_alloc ?_ _)); exact BK341.out) hg (Kd.R_ne HO_10.out BK341.out (by decide))); have n2_ := Aside0.mk (blk_grown (g := gb343) (o := .cells #[.int .i64 (rd x5_1 x11_2), .int .i64 t336, .string t339] 58 (0, 0)) (by (with_reducible repeat (first | refine blk_drewN ?_ _ | refine blk_drew ?_ | refine blk_alloc ?_ _)); exact BK343.out) hg (Kd.R_away HO_10.out (fun _ hk => hk.2))); have n3_ := Aside0.mk (blk_grown (g := gb355) (o := .cells #[.int .i64 t345, .int .i64 t346, .int .i64 t347, .int .i64 t348, .int .i64 t349, .int .i64 t350, .string t351, .string t352, .string t353] 77 (0, 0)) (by (with_reducible repeat (first | refine blk_drewN ?_ _ | refine blk_drew ?_ | refine blk_alloc ?_ _)); exact BK355.out) hg (Kd.R_ne HO_10.out BK355.out (by decide))); have n4_ := Aside0.mk (hb); have n5_ := Aside0.mk (ho); clear HO_5; clear BK341; clear BK343; clear BK355; clear HB; clear HO_10; have HO_5 := n0_; have BK341 := n1_; have BK343 := n2_; have BK355 := n3_; have HB := n4_; have HO361 := n5_; clear n0_ n1_ n2_ n3_ n4_ n5_; clear ho hb hg hat))
          go_roundg k2
          case measure => have := HK1.out; have := HK2.out; omega
          case rel => exact ⟨(y359), (wrap64 (x11_2 + 1)), (by first | rfl | (simp; done) | (simp [*]; done) | (simp; exact (by intro l; cases l <;> rfl : ∀ l : List UInt8, l.isEmpty = !(l != [])) _)), H', ⟨by have := HK1.out; have := HK2.out; omega⟩, ⟨by (with_reducible repeat (first | apply Kd.R_alloc | apply Kd.R_drewN | apply Kd.R_drew)); exact HO_5.out⟩, ⟨by (with_reducible repeat (first | apply Kd.R_alloc | apply Kd.R_drewN | apply Kd.R_drew)); exact Kd.R_mono HO361.out (fun _ hk => trivial)⟩, ⟨by repeat (first | (with_reducible first | exact HB.out | apply below_alloc | apply pw_below_drewN | apply below_drew1 | refine below_set ?_ GE341.out | refine below_set ?_ GE343.out | refine below_set ?_ GE355.out) | exact HB.out)⟩⟩
         ·rw [if_neg c63] at H
          exact absurd H (by simp)
       ·rw [if_neg c41] at H
        exact absurd H (by simp)
      ·rw [if_neg c40] at H
       have c40b0 : decide (x11_2 < (x5_1.length : Int)) = false := decide_eq_false c40
       clear c40
       obtain rfl := Option.some.inj H
       obtain ⟨Ao78, co78, eo78⟩ := Kd.R_slice HO_5.out
       subst eo78
       go_wp2
       go_ret
       exact ⟨_, by first | rfl | (simp [errW_none, errW_some] <;> rfl) | (simp [*, errW_none, errW_some] <;> rfl), by (with_reducible repeat (first | apply Kd.R_alloc | apply Kd.R_drewN | apply Kd.R_drew)); exact HO_10.out, by repeat (first | (with_reducible first | exact HB.out | apply below_alloc | apply pw_below_drewN | apply below_drew1) | exact HB.out)⟩

end Go.Proofs.YtenedfmmjfgbaaaDoor.QFnHeads
