-- Written by a program of this session (myprint) out of Lean's own print of the translation. Lean checks it.
import Derived.Test.YtmneclmdlbihcaaMid
import Derived.Test.YtmneclmdlbihcaaQFnExactLockedByx0
import Derived.Test.YtmneclmdlbihcaaQFnExactLockedByx2
namespace Go.Proofs.Ytmneclmdlbihcaa.QFnExactLockedBy
open Go.Proofs.YtmneclmdlbihcaaF
open Go.RowKit Go.Proofs.YtmneclmdlbihcaaW.PrintWords Go.Proofs.YtmneclmdlbihcaaW.PrintLast Go.Proofs.YtmneclmdlbihcaaW.PrintMore
attribute [local go_sem] max2_int min2_int max_two min_two max_three min_three max_four min_four   -- for this text's walks alone
set_option linter.unusedVariables false
set_option linter.unusedSimpArgs false

/-! ### laws_toIntS: function 36 -/
def laws_toIntS.l0 : Nat → List Int → List Int → Int → Option (List Int)
 | 0, _, _, _ => none
 | k + 1, x0, x3, x4 => if x4 < (x0.length : Int) then (if 0 ≤ x4 then (if x4 < (x3.length : Int) then (laws_toIntS.l0 k x0 (x3.set (x4 : Int).toNat (rd x0 x4)) (wrap64 (x4 + 1))) else (none)) else (none)) else (some x3)
def laws_toIntS.f (k : Nat) (l0 : List Int) : Option (List Int) := if 0 ≤ (l0.length : Int) then (if ((l0.length : Int) : Int).toNat ≤ 35184372088832 then (laws_toIntS.l0 k l0 (List.replicate ((l0.length : Int) : Int).toNat 0) 0) else (none)) else (none)
theorem laws_toIntS.mono_l : ∀ k, (∀ y0 y1 y2, LeO (laws_toIntS.l0 k y0 y1 y2) (laws_toIntS.l0 (k + 1) y0 y1 y2))
 | 0 => fun _ _ _ r h => by simp [laws_toIntS.l0] at h
 | k + 1 => by
  have ih0 := laws_toIntS.mono_l k
  ·intro y0 y1 y2
   unfold laws_toIntS.l0
   repeat' first
   | (with_reducible exact ih0 _ _ _)
   | (with_reducible exact LeO.refl _)
   | (with_reducible exact LeO.none _)
   | (with_reducible refine LeO.ite ?_ ?_)
   | (with_reducible refine LeO.bind ?_ (fun _ => ?_))
   | exact ih0 _ _ _
   | exact LeO.none _
   | refine LeO.ite ?_ ?_
   | refine LeO.bind ?_ (fun _ => ?_)
theorem laws_toIntS.mono : ∀ a0 k, LeO (laws_toIntS.f k a0) (laws_toIntS.f (k + 1) a0) := by
 intro a0 k
 have ih0 := laws_toIntS.mono_l k
 unfold laws_toIntS.f
 repeat' first
   | (with_reducible exact ih0 _ _ _)
   | (with_reducible exact LeO.refl _)
   | (with_reducible exact LeO.none _)
   | (with_reducible refine LeO.ite ?_ ?_)
   | (with_reducible refine LeO.bind ?_ (fun _ => ?_))
   | exact ih0 _ _ _
   | exact LeO.none _
   | refine LeO.ite ?_ ?_
   | refine LeO.bind ?_ (fun _ => ?_)
set_option maxHeartbeats 8000000 in
set_option maxRecDepth 100000 in
theorem laws_toIntS.calls (k : Nat) (A0 : Option Addr) (c0 : Nat) (l0 : List Int) (r : List Int) (w : World) (hr0 : Kd.C (Kd.int .i64) w A0 l0.length l0) (hc0 : l0.length ≤ c0) (h : laws_toIntS.f k l0 = some r) :
  Calls Try.prog 36 #[.slice A0 l0.length c0] w fun e w' => ∃ v0_ : Value, e = .returned (v0_) ∧ Kd.R (Kd.int .i64) 3 w' w.heap.size (fun _ => True) v0_ r ∧ Below w.heap.size w w' := by
 have HR0 := Aside0.mk hr0
 have HC0 := Aside0.mk hc0
 clear hr0 hc0
 have HB := Aside0.mk (Below.refl w.heap.size w)
 have H : (if 0 ≤ (l0.length : Int) then (if ((l0.length : Int) : Int).toNat ≤ 35184372088832 then (laws_toIntS.l0 k l0 (List.replicate ((l0.length : Int) : Int).toNat 0) 0) else (none)) else (none)) = some r := h
 clear h
 by_cases c2 : 0 ≤ (l0.length : Int)
 ·rw [if_pos c2] at H
  have c2b0 := eq_true c2
  have c2b1 : decide (0 ≤ (l0.length : Int)) = true := decide_eq_true c2
  clear c2
  by_cases c3 : ((l0.length : Int) : Int).toNat ≤ 35184372088832
  ·rw [if_pos c3] at H
   have c3b0 := eq_true c3
   have c3b1 : decide (((l0.length : Int) : Int).toNat ≤ 35184372088832) = true := decide_eq_true c3
   clear c3
   obtain ⟨y166, hy166⟩ : ∃ y_ : List Int, y_ = (List.replicate ((l0.length : Int) : Int).toNat 0) := ⟨_, rfl⟩
   replace H : (laws_toIntS.l0 k l0 y166 0) = some r := by first | (rw [hy166]; with_reducible exact H) | (have H2_ := (Option.bind_some _ _).symm.trans H; rw [hy166]; with_reducible exact H2_) | (have H2_ := (Option.bind_some _ _).symm.trans H; with_reducible exact H2_) | with_reducible exact H | (rw [hy166]; exact H) | exact H
   have Ny166 := Aside0.mk hy166
   clear hy166
   have H' := Aside0.mk H
   clear H
   go_enter Try.func36, Try.ntmps36
   go_wp2_with (first | ((with_reducible refine gate_dst (N := 7) rfl ?_); refine Kd.R_make (Kd.int .i64) _ 3 rfl (N := 7) rfl 40 _ _ rfl (l0.length : Int) rfl rfl Try.underlying40 (.int .i64 0) 8 info3 rfl (by decide) (by omega) 0 (ok := fun _ => True) (okp := fun _ => True) rfl (fun _ hk => hk) trivial (of_decide_eq_true (by first | (with_reducible assumption) | assumption)) (Nat.le_trans (Nat.mul_le_mul_right _ (of_decide_eq_true (by first | (with_reducible assumption) | assumption) : (l0.length : Int).toNat ≤ 35184372088832)) (by omega)) (Below.refl _ _) (Nat.le_refl _) ?_; intro v167 w4 ho5 hb hg_ hnew_; clear hg_ hnew_; (first | rw [← Ny166.out] at ho5 | (simp only [Int.reduceToNat] at ho5; rw [← Ny166.out] at ho5)); have n0_ := Aside0.mk (Kd.R_lower ho5 (below_size HB.out)); have n1_ := Aside0.mk (below_step HB.out hb); clear HB; have HO168 := n0_; have HB := n1_; clear n0_ n1_; clear hb ho5))
   go_loopg [4] k (fun kq v4 w' => ∃ (x3_1 : List Int) (x4_1 : Int), v4 = .int .i64 x4_1 ∧ Aside0 (laws_toIntS.l0 kq l0 x3_1 x4_1 = some r) ∧ Aside0 (kq ≤ k) ∧ Aside0 (Kd.R (Kd.int .i64) 3 w' w.heap.size (fun _ => True) v167 x3_1) ∧ Aside0 (Below w.heap.size w w'))
   case atStart => exact ⟨(y166), (0), (by first | rfl | (simp; done) | (simp [*]; done) | (simp; exact (by intro l; cases l <;> rfl : ∀ l : List UInt8, l.isEmpty = !(l != [])) _)), H', ⟨Nat.le_refl _⟩, ⟨by (with_reducible repeat (first | apply Kd.R_alloc | apply Kd.R_drewN | apply Kd.R_drew)); exact HO168.out⟩, ⟨by repeat (first | (with_reducible first | exact HB.out | apply below_alloc | apply pw_below_drewN | apply below_drew1) | exact HB.out)⟩⟩
   case round =>
    clear H'
    try clear c2
    try clear c2b0
    try clear c2b1
    try clear p2
    try clear c3
    try clear c3b0
    try clear c3b1
    obtain ⟨x3_1, x4_1, rfl, HA, HK1, HO_3, HB⟩ := hrel
    cases gk with
    | zero => exact absurd HA.out (by simp [laws_toIntS.l0])
    | succ k1 =>
     have H := HA.out
     clear HA
     simp only [laws_toIntS.l0] at H
     by_cases c6 : x4_1 < (l0.length : Int)
     ·rw [if_pos c6] at H
      have c6b0 : decide (x4_1 < (l0.length : Int)) = true := decide_eq_true c6
      clear c6
      by_cases c7 : 0 ≤ x4_1
      ·rw [if_pos c7] at H
       have c7b0 : decide (0 ≤ x4_1) = true := decide_eq_true c7
       clear c7
       by_cases c8 : x4_1 < (x3_1.length : Int)
       ·rw [if_pos c8] at H
        have c8b0 : decide (x4_1 < (x3_1.length : Int)) = true := decide_eq_true c8
        clear c8
        obtain ⟨y170, hy170⟩ : ∃ y_ : List Int, y_ = (x3_1.set (x4_1 : Int).toNat (rd l0 x4_1)) := ⟨_, rfl⟩
        replace H : (laws_toIntS.l0 k1 l0 y170 (wrap64 (x4_1 + 1))) = some r := by first | (rw [hy170]; with_reducible exact H) | (have H2_ := (Option.bind_some _ _).symm.trans H; rw [hy170]; with_reducible exact H2_) | (have H2_ := (Option.bind_some _ _).symm.trans H; with_reducible exact H2_) | with_reducible exact H | (rw [hy170]; exact H) | exact H
        have Ny170 := Aside0.mk hy170
        clear hy170
        have H' := Aside0.mk H
        clear H
        have p169 : 0 ≤ (x4_1 : Int) := of_decide_eq_true (by first | (with_reducible assumption) | assumption)
        have q169 : x4_1 < (l0.length : Int) := of_decide_eq_true (by first | (with_reducible assumption) | assumption)
        obtain ⟨ad169, e169, hx169_0⟩ := Kd.at_int HR0.out x4_1 p169 q169
        cases e169
        replace hx169_0 := (HB.out.cell (World.block_lt_of_cell? w _ hx169_0)).trans hx169_0
        replace p169 := eq_true p169
        replace q169 := eq_true q169
        have p9 : 0 ≤ (x4_1 : Int) := of_decide_eq_true (by first | (with_reducible assumption) | assumption)
        have q9 : (x4_1 : Int) < ((x3_1.length : Int) : Int) := of_decide_eq_true (by first | (with_reducible assumption) | assumption)
        obtain ⟨go9, co9, eo9, gb9, gl9, cl9, HG9⟩ := Kd.R_form HO_3.out (by omega)
        (first | cases eo9 | (injection eo9 with ea_ en_ ec_; (first | subst ea_ | (injection ea_ with ea_; subst ea_)); subst ec_; clear en_))
        have GB9 := Aside0.mk gb9
        have GG9 := Aside0.mk HG9
        clear gb9 gl9 HG9
        obtain ⟨hx9_0, hf9_0⟩ := Kd.R_celln 0 HO_3.out (x4_1 : Int) p9 q9
        replace p9 := eq_true p9
        replace q9 := eq_true q9
        have HP10 := Kd.R_putg HO_3.out (x4_1 : Int) (rd l0 x4_1)
        go_wp2_with (first | ((with_reducible refine gate_store (t := 3) (p := 20) rfl ?_); refine store_event (t := 3) (p := 20) (v := ?vo_w11) (w1 := (wr.setCell ⟨go9, (x4_1 : Int).toNat, none⟩ (.int .i64 (rd l0 x4_1)))) ?hg ?ho ?hn ?hr ?_; (case ho => rfl); (case hg => rfl); (case hn => rfl); (case hr => first | (go_simp; done) | (go_simp; rfl)); intro w11 hw; have hg : wr.grownBy w11 (some go9) := (by rw [hw]; exact HP10.2); have hp_ : Kd.R (Kd.int .i64) 3 w11 w.heap.size (fun _ => True) (.slice (some ⟨go9, 0, none⟩) x3_1.length co9) y170 := (by rw [hw, Ny170.out]; exact HP10.1); clear HP10; have n0_ := Aside0.mk (hp_); have n1_ := Aside0.mk ((by rw [hw]; exact below_set (HB.out) GB9.out : Below w.heap.size w w11)); clear HO_3; clear HB; have HO_3 := n0_; have HB := n1_; clear n0_ n1_; clear hg hw hp_))
        go_roundg k1
        case measure => have := HK1.out; omega
        case rel => exact ⟨(y170), (wrap64 (x4_1 + 1)), (by first | rfl | (simp; done) | (simp [*]; done) | (simp; exact (by intro l; cases l <;> rfl : ∀ l : List UInt8, l.isEmpty = !(l != [])) _)), H', ⟨by have := HK1.out; omega⟩, ⟨by (with_reducible repeat (first | apply Kd.R_alloc | apply Kd.R_drewN | apply Kd.R_drew)); exact HO_3.out⟩, ⟨by repeat (first | (with_reducible first | exact HB.out | apply below_alloc | apply pw_below_drewN | apply below_drew1) | exact HB.out)⟩⟩
       ·rw [if_neg c8] at H
        exact absurd H (by simp)
      ·rw [if_neg c7] at H
       exact absurd H (by simp)
     ·rw [if_neg c6] at H
      have c6b0 : decide (x4_1 < (l0.length : Int)) = false := decide_eq_false c6
      clear c6
      obtain rfl := Option.some.inj H
      go_wp2
      go_ret
      exact ⟨_, by first | rfl | (simp [errW_none, errW_some] <;> rfl) | (simp [*, errW_none, errW_some] <;> rfl), by (with_reducible repeat (first | apply Kd.R_alloc | apply Kd.R_drewN | apply Kd.R_drew)); exact HO_3.out, by repeat (first | (with_reducible first | exact HB.out | apply below_alloc | apply pw_below_drewN | apply below_drew1) | exact HB.out)⟩
  ·rw [if_neg c3] at H
   exact absurd H (by simp)
 ·rw [if_neg c2] at H
  exact absurd H (by simp)

/-! ### laws_toLook: function 25 -/
def laws_toLook.f (k : Nat) (a0_0 : Int) (a0_1 : ByteArray) (a0_2 : ByteArray) (a0_3 : Int) (l0_4 : List Int) : Option (Int × ByteArray × ByteArray × Int × List Int) := (laws_toIntS.f k l0_4).bind fun t174 => (some (a0_0, a0_1, a0_2, a0_3, t174))
theorem laws_toLook.mono : ∀ a0 a1 a2 a3 a4 k, LeO (laws_toLook.f k a0 a1 a2 a3 a4) (laws_toLook.f (k + 1) a0 a1 a2 a3 a4) := by
 intro a0 a1 a2 a3 a4 k
 unfold laws_toLook.f
 repeat' first
   | (with_reducible exact laws_toIntS.mono _ _)
   | (with_reducible exact LeO.refl _)
   | (with_reducible exact LeO.none _)
   | (with_reducible refine LeO.ite ?_ ?_)
   | (with_reducible refine LeO.bind ?_ (fun _ => ?_))
   | exact laws_toIntS.mono _ _
   | exact LeO.none _
   | refine LeO.ite ?_ ?_
   | refine LeO.bind ?_ (fun _ => ?_)
set_option maxHeartbeats 8000000 in
set_option maxRecDepth 100000 in
theorem laws_toLook.calls (k : Nat) (a0_0 : Int) (a0_1 : ByteArray) (a0_2 : ByteArray) (a0_3 : Int) (A0_4 : Option Addr) (c0_4 : Nat) (l0_4 : List Int) (r1 : Int) (r2 : ByteArray) (r3 : ByteArray) (r4 : Int) (r5 : List Int) (w : World) (hr0_4 : Kd.C (Kd.int .i64) w A0_4 l0_4.length l0_4) (hc0_4 : l0_4.length ≤ c0_4) (h : laws_toLook.f k a0_0 a0_1 a0_2 a0_3 l0_4 = some (r1, r2, r3, r4, r5)) :
  Calls Try.prog 25 #[.agg #[.int .i64 a0_0, .string a0_1, .string a0_2, .int .i64 a0_3, .slice A0_4 l0_4.length c0_4]] w fun e w' => ∃ v4_ : Value, e = .returned (.agg #[.int .i64 r1, .string r2, .string r3, .int .i64 r4, v4_]) ∧ Kd.R (Kd.int .i64) 3 w' w.heap.size (fun _ => True) v4_ r5 ∧ Below w.heap.size w w' := by
 have hu42 := Try.underlying42
 have hu49 := Try.underlying49
 have HR0_4 := Aside0.mk hr0_4
 have HC0_4 := Aside0.mk hc0_4
 clear hr0_4 hc0_4
 have HB := Aside0.mk (Below.refl w.heap.size w)
 have H : ((laws_toIntS.f k l0_4).bind fun t174 => (some (a0_0, a0_1, a0_2, a0_3, t174))) = some (r1, r2, r3, r4, r5) := h
 clear h
 replace H := Option.bind_eq_some_iff.mp H
 obtain ⟨t174, A20, H⟩ := H
 (try set_option simprocs false in dsimp only at H)
 have A2 := Aside0.mk A20
 clear A20
 simp only [Option.some.injEq, Prod.mk.injEq] at H
 obtain ⟨rfl, rfl, rfl, rfl, rfl⟩ := H
 go_enter Try.func25, Try.ntmps25
 go_wp2_with (first | ((with_reducible refine gate_dst (N := 20) rfl ?_); refine wpList_load_row rfl 49 (.tmp 3) rfl _ rfl 49 _ (0, 0) _ BK173.out hu49 rfl (by kernel_rfl) ?_) | ((with_reducible refine gate_dst (N := 1) rfl ?_); refine box_event ?hg (N := 1) ?hd (cs := #[.int .i64 a0_0, .string a0_1, .string a0_2, .int .i64 a0_3, .slice A0_4 l0_4.length c0_4]) (t := 42) ?hr ?_; (case hd => rfl); (case hg => rfl); (case hr => first | (go_simp; done) | (go_simp; rfl)); intro gb171 hg w3 hbox hb; have n0_ := Aside0.mk (below_step HB.out hb); have n1_ := Aside0.mk (hbox); have n2_ := Aside0.mk ((by rw [hg]; exact (below_size HB.out) : w.heap.size ≤ gb171)); have n3_ := Aside0.mk ((by rw [hg]; exact (below_size HB.out) : w.heap.size ≤ gb171)); clear HB; have HB := n0_; have BK171 := n1_; have GW171 := n2_; have GE171 := n3_; clear n0_ n1_ n2_ n3_; clear hb hbox hg) | ((with_reducible refine gate_dst (N := 2) rfl ?_); refine box_event ?hg (N := 2) ?hd (cs := #[.int .i64 0, .string (⟨#[]⟩ : ByteArray), .string (⟨#[]⟩ : ByteArray), .int .i64 0, .slice none 0 0]) (t := 49) ?hr ?_; (case hd => rfl); (case hg => rfl); (case hr => first | (go_simp; done) | (go_simp; rfl)); intro gb172 hg w4 hbox hb; have n0_ := Aside0.mk (blk_below BK171.out hb); have n1_ := Aside0.mk (below_step HB.out hb); have n2_ := Aside0.mk (hbox); have n3_ := Aside0.mk ((by rw [hg]; exact (below_size HB.out) : w.heap.size ≤ gb172)); have n4_ := Aside0.mk ((by rw [hg]; exact (below_size HB.out) : w.heap.size ≤ gb172)); have n5_ := Aside0.mk ((by rw [hg]; exact Nat.ne_of_lt (blk_lt (g := gb171) (o := .cells #[.int .i64 a0_0, .string a0_1, .string a0_2, .int .i64 a0_3, .slice A0_4 l0_4.length c0_4] 42 (0, 0)) (by (with_reducible repeat (first | refine blk_drewN ?_ _ | refine blk_drew ?_ | refine blk_alloc ?_ _)); exact BK171.out)) : gb171 ≠ gb172)); have n6_ := Aside0.mk ((by rw [hg]; exact Nat.ne_of_gt (blk_lt (g := gb171) (o := .cells #[.int .i64 a0_0, .string a0_1, .string a0_2, .int .i64 a0_3, .slice A0_4 l0_4.length c0_4] 42 (0, 0)) (by (with_reducible repeat (first | refine blk_drewN ?_ _ | refine blk_drew ?_ | refine blk_alloc ?_ _)); exact BK171.out)) : gb172 ≠ gb171)); clear BK171; clear HB; have BK171 := n0_; have HB := n1_; have BK172 := n2_; have GW172 := n3_; have GE172 := n4_; have NB171_172 := n5_; have NB172_171 := n6_; clear n0_ n1_ n2_ n3_ n4_ n5_ n6_; clear hb hbox hg) | ((with_reducible refine gate_dst (N := 3) rfl ?_); refine box_event ?hg (N := 3) ?hd (cs := #[.int .i64 0, .string (⟨#[]⟩ : ByteArray), .string (⟨#[]⟩ : ByteArray), .int .i64 0, .slice none 0 0]) (t := 49) ?hr ?_; (case hd => rfl); (case hg => rfl); (case hr => first | (go_simp; done) | (go_simp; rfl)); intro gb173 hg w5 hbox hb; have n0_ := Aside0.mk (blk_below BK171.out hb); have n1_ := Aside0.mk (blk_below BK172.out hb); have n2_ := Aside0.mk (below_step HB.out hb); have n3_ := Aside0.mk (hbox); have n4_ := Aside0.mk ((by rw [hg]; exact (below_size HB.out) : w.heap.size ≤ gb173)); have n5_ := Aside0.mk ((by rw [hg]; exact (below_size HB.out) : w.heap.size ≤ gb173)); have n6_ := Aside0.mk ((by rw [hg]; exact Nat.ne_of_lt (blk_lt (g := gb171) (o := .cells #[.int .i64 a0_0, .string a0_1, .string a0_2, .int .i64 a0_3, .slice A0_4 l0_4.length c0_4] 42 (0, 0)) (by (with_reducible repeat (first | refine blk_drewN ?_ _ | refine blk_drew ?_ | refine blk_alloc ?_ _)); exact BK171.out)) : gb171 ≠ gb173)); have n7_ := Aside0.mk ((by rw [hg]; exact Nat.ne_of_gt (blk_lt (g := gb171) (o := .cells #[.int .i64 a0_0, .string a0_1, .string a0_2, .int .i64 a0_3, .slice A0_4 l0_4.length c0_4] 42 (0, 0)) (by (with_reducible repeat (first | refine blk_drewN ?_ _ | refine blk_drew ?_ | refine blk_alloc ?_ _)); exact BK171.out)) : gb173 ≠ gb171)); have n8_ := Aside0.mk ((by rw [hg]; exact Nat.ne_of_lt (blk_lt (g := gb172) (o := .cells #[.int .i64 0, .string (⟨#[]⟩ : ByteArray), .string (⟨#[]⟩ : ByteArray), .int .i64 0, .slice none 0 0] 49 (0, 0)) (by (with_reducible repeat (first | refine blk_drewN ?_ _ | refine blk_drew ?_ | refine blk_alloc ?_ _)); exact BK172.out)) : gb172 ≠ gb173)); have n9_ := Aside0.mk ((by rw [hg]; exact Nat.ne_of_gt (blk_lt (g := gb172) (o := .cells #[.int .i64 0, .string (⟨#[]⟩ : ByteArray), .string (⟨#[]⟩ : ByteArray), .int .i64 0, .slice none 0 0] 49 (0, 0)) (by (with_reducible repeat (first | refine blk_drewN ?_ _ | refine blk_drew ?_ | refine blk_alloc ?_ _)); exact BK172.out)) : gb173 ≠ gb172)); clear BK171; clear BK172; clear HB; have BK171 := n0_; have BK172 := n1_; have HB := n2_; have BK173 := n3_; have GW173 := n4_; have GE173 := n5_; have NB171_173 := n6_; have NB173_171 := n7_; have NB172_173 := n8_; have NB173_172 := n9_; clear n0_ n1_ n2_ n3_ n4_ n5_ n6_ n7_ n8_ n9_; clear hb hbox hg; have hnb6 := NB171_172.out; have hnc6 := NB172_171.out; have hnb7 := NB171_173.out; have hnc7 := NB173_171.out; have hcz8 := blk_cell BK171.out; have hfz8 := blk_frozen BK171.out) | ((with_reducible refine gate_store (t := 3) (p := 6) rfl ?_); refine Go.Proofs.YtmneclmdlbihcaaR.store_part_event ?hg (t := 3) 6 (v := ?vo_w9) ?ho ?hn gb173 0 (.int .i64 a0_0) #[.int .i64 a0_0] #[.int .i64 0, .string (⟨#[]⟩ : ByteArray), .string (⟨#[]⟩ : ByteArray), .int .i64 0, .slice none 0 0] #[.int .i64 a0_0, .string (⟨#[]⟩ : ByteArray), .string (⟨#[]⟩ : ByteArray), .int .i64 0, .slice none 0 0] 49 ?hx ?hy rfl BK173.out ?hi (Nat.le_of_ble_eq_true rfl) ?h1 ?hc ?_; (case ho => rfl); (case hg => rfl); (case hn => rfl); (case hi => kernel_rfl); (case h1 => first | kernel_rfl | rfl); (case hc => kernel_rfl); (case hx => first | rfl | (go_simp; done) | (go_simp; rfl)); (case hy => first | rfl | (go_simp; done) | (go_simp; rfl)); intro w9 hbox hbut; have n0_ := Aside0.mk ((hbut.other NB171_173.out).trans BK171.out); have n1_ := Aside0.mk ((hbut.other NB172_173.out).trans BK172.out); have n2_ := Aside0.mk (hbox); have n3_ := Aside0.mk (HB.out.trans (hbut.below GE173.out)); clear BK171; clear BK172; clear BK173; clear HB; have BK171 := n0_; have BK172 := n1_; have BK173 := n2_; have HB := n3_; clear n0_ n1_ n2_ n3_; clear hbox hbut; have hcz10 := blk_cell BK171.out; have hfz10 := blk_frozen BK171.out) | ((with_reducible refine gate_store (t := 9) (p := 9) rfl ?_); refine Go.Proofs.YtmneclmdlbihcaaR.store_part_event ?hg (t := 9) 9 (v := ?vo_w11) ?ho ?hn gb173 1 (.string a0_1) #[.string a0_1] #[.int .i64 a0_0, .string (⟨#[]⟩ : ByteArray), .string (⟨#[]⟩ : ByteArray), .int .i64 0, .slice none 0 0] #[.int .i64 a0_0, .string a0_1, .string (⟨#[]⟩ : ByteArray), .int .i64 0, .slice none 0 0] 49 ?hx ?hy rfl BK173.out ?hi (Nat.le_of_ble_eq_true rfl) ?h1 ?hc ?_; (case ho => rfl); (case hg => rfl); (case hn => rfl); (case hi => kernel_rfl); (case h1 => first | kernel_rfl | rfl); (case hc => kernel_rfl); (case hx => first | rfl | (go_simp; done) | (go_simp; rfl)); (case hy => first | rfl | (go_simp; done) | (go_simp; rfl)); intro w11 hbox hbut; have n0_ := Aside0.mk ((hbut.other NB171_173.out).trans BK171.out); have n1_ := Aside0.mk ((hbut.other NB172_173.out).trans BK172.out); have n2_ := Aside0.mk (hbox); have n3_ := Aside0.mk (HB.out.trans (hbut.below GE173.out)); clear BK171; clear BK172; clear BK173; clear HB; have BK171 := n0_; have BK172 := n1_; have BK173 := n2_; have HB := n3_; clear n0_ n1_ n2_ n3_; clear hbox hbut; have hcz12 := blk_cell BK171.out; have hfz12 := blk_frozen BK171.out) | ((with_reducible refine gate_store (t := 9) (p := 12) rfl ?_); refine Go.Proofs.YtmneclmdlbihcaaR.store_part_event ?hg (t := 9) 12 (v := ?vo_w13) ?ho ?hn gb173 2 (.string a0_2) #[.string a0_2] #[.int .i64 a0_0, .string a0_1, .string (⟨#[]⟩ : ByteArray), .int .i64 0, .slice none 0 0] #[.int .i64 a0_0, .string a0_1, .string a0_2, .int .i64 0, .slice none 0 0] 49 ?hx ?hy rfl BK173.out ?hi (Nat.le_of_ble_eq_true rfl) ?h1 ?hc ?_; (case ho => rfl); (case hg => rfl); (case hn => rfl); (case hi => kernel_rfl); (case h1 => first | kernel_rfl | rfl); (case hc => kernel_rfl); (case hx => first | rfl | (go_simp; done) | (go_simp; rfl)); (case hy => first | rfl | (go_simp; done) | (go_simp; rfl)); intro w13 hbox hbut; have n0_ := Aside0.mk ((hbut.other NB171_173.out).trans BK171.out); have n1_ := Aside0.mk ((hbut.other NB172_173.out).trans BK172.out); have n2_ := Aside0.mk (hbox); have n3_ := Aside0.mk (HB.out.trans (hbut.below GE173.out)); clear BK171; clear BK172; clear BK173; clear HB; have BK171 := n0_; have BK172 := n1_; have BK173 := n2_; have HB := n3_; clear n0_ n1_ n2_ n3_; clear hbox hbut; have hcz14 := blk_cell BK171.out; have hfz14 := blk_frozen BK171.out) | ((with_reducible refine gate_store (t := 3) (p := 15) rfl ?_); refine Go.Proofs.YtmneclmdlbihcaaR.store_part_event ?hg (t := 3) 15 (v := ?vo_w15) ?ho ?hn gb173 3 (.int .i64 a0_3) #[.int .i64 a0_3] #[.int .i64 a0_0, .string a0_1, .string a0_2, .int .i64 0, .slice none 0 0] #[.int .i64 a0_0, .string a0_1, .string a0_2, .int .i64 a0_3, .slice none 0 0] 49 ?hx ?hy rfl BK173.out ?hi (Nat.le_of_ble_eq_true rfl) ?h1 ?hc ?_; (case ho => rfl); (case hg => rfl); (case hn => rfl); (case hi => kernel_rfl); (case h1 => first | kernel_rfl | rfl); (case hc => kernel_rfl); (case hx => first | rfl | (go_simp; done) | (go_simp; rfl)); (case hy => first | rfl | (go_simp; done) | (go_simp; rfl)); intro w15 hbox hbut; have n0_ := Aside0.mk ((hbut.other NB171_173.out).trans BK171.out); have n1_ := Aside0.mk ((hbut.other NB172_173.out).trans BK172.out); have n2_ := Aside0.mk (hbox); have n3_ := Aside0.mk (HB.out.trans (hbut.below GE173.out)); clear BK171; clear BK172; clear BK173; clear HB; have BK171 := n0_; have BK172 := n1_; have BK173 := n2_; have HB := n3_; clear n0_ n1_ n2_ n3_; clear hbox hbut; have hcz16 := blk_cell BK171.out; have hfz16 := blk_frozen BK171.out) | ((with_reducible refine gate_callee (f := 36) rfl ?_); refine goesL_ (some 18) rfl rfl Try.func36 (by kernel_rfl) rfl #[.slice A0_4 l0_4.length c0_4] rfl (by (try simp only [List.map_toArray, List.map_cons, List.map_nil]); first | done | rfl | (simp only [List.length_drop, List.length_take]; rfl)) ?_; (with_reducible refine (laws_toIntS.calls k _ _ l0_4 t174 _ ?side1 ?side2 A2.out).mono ?_); (case side1 => exact (Kd.C_below HR0_4.out HB.out)); (case side2 => exact HC0_4.out); rintro e w17 ⟨v175, rfl, ho0, hb⟩; refine ⟨_, rfl, ?_⟩; have n0_ := Aside0.mk (Kd.R_lower ho0 (below_size HB.out)); have n1_ := Aside0.mk (blk_below BK171.out hb); have n2_ := Aside0.mk (blk_below BK172.out hb); have n3_ := Aside0.mk (blk_below BK173.out hb); have n4_ := Aside0.mk (below_step HB.out hb); clear BK171; clear BK172; clear BK173; clear HB; have HO176 := n0_; have BK171 := n1_; have BK172 := n2_; have BK173 := n3_; have HB := n4_; clear n0_ n1_ n2_ n3_ n4_; (try clear hb); (try clear hb2); (try clear hk); (try clear hi); (try clear ho0); obtain ⟨Ao18, co18, eo18⟩ := Kd.R_slice HO176.out; subst eo18) | ((with_reducible refine gate_store (t := 40) (p := 19) rfl ?_); refine Go.Proofs.YtmneclmdlbihcaaR.store_part_event ?hg (t := 40) 19 (v := ?vo_w19) ?ho ?hn gb173 4 (.slice Ao18 t174.length co18) #[.slice Ao18 t174.length co18] #[.int .i64 a0_0, .string a0_1, .string a0_2, .int .i64 a0_3, .slice none 0 0] #[.int .i64 a0_0, .string a0_1, .string a0_2, .int .i64 a0_3, .slice Ao18 t174.length co18] 49 ?hx ?hy rfl BK173.out ?hi (Nat.le_of_ble_eq_true rfl) ?h1 ?hc ?_; (case ho => rfl); (case hg => rfl); (case hn => rfl); (case hi => kernel_rfl); (case h1 => first | kernel_rfl | rfl); (case hc => kernel_rfl); (case hx => first | rfl | (go_simp; done) | (go_simp; rfl)); (case hy => first | rfl | (go_simp; done) | (go_simp; rfl)); intro w19 hbox hbut; have n0_ := Aside0.mk (Kd.R_mono (Kd.R_step (Kd.R_types HO176.out BK173.out (by decide)) (fun _ hk _ => hbut.other hk.2)) (fun _ hk => hk.1)); have n1_ := Aside0.mk ((hbut.other NB171_173.out).trans BK171.out); have n2_ := Aside0.mk ((hbut.other NB172_173.out).trans BK172.out); have n3_ := Aside0.mk (hbox); have n4_ := Aside0.mk (HB.out.trans (hbut.below GE173.out)); clear HO176; clear BK171; clear BK172; clear BK173; clear HB; have HO176 := n0_; have BK171 := n1_; have BK172 := n2_; have BK173 := n3_; have HB := n4_; clear n0_ n1_ n2_ n3_ n4_; clear hbox hbut; have hnb20 := NB173_172.out; have hnc20 := NB172_173.out) | ((with_reducible refine gate_store (t := 49) (p := 2) rfl ?_); refine Go.Proofs.YtmneclmdlbihcaaR.store_part_event ?hg (t := 49) 2 (v := ?vo_w22) ?ho ?hn gb172 0 (.agg #[.int .i64 a0_0, .string a0_1, .string a0_2, .int .i64 a0_3, .slice Ao18 t174.length co18]) #[.int .i64 a0_0, .string a0_1, .string a0_2, .int .i64 a0_3, .slice Ao18 t174.length co18] #[.int .i64 0, .string (⟨#[]⟩ : ByteArray), .string (⟨#[]⟩ : ByteArray), .int .i64 0, .slice none 0 0] #[.int .i64 a0_0, .string a0_1, .string a0_2, .int .i64 a0_3, .slice Ao18 t174.length co18] 49 ?hx ?hy rfl BK172.out ?hi (Nat.le_of_ble_eq_true rfl) ?h1 ?hc ?_; (case ho => rfl); (case hg => rfl); (case hn => rfl); (case hi => kernel_rfl); (case h1 => first | kernel_rfl | rfl); (case hc => kernel_rfl); (case hx => first | rfl | (go_simp; done) | (go_simp; rfl)); (case hy => first | rfl | (go_simp; done) | (go_simp; rfl)); intro w22 hbox hbut; have n0_ := Aside0.mk (Kd.R_mono (Kd.R_step (Kd.R_types HO176.out BK172.out (by decide)) (fun _ hk _ => hbut.other hk.2)) (fun _ hk => hk.1)); have n1_ := Aside0.mk ((hbut.other NB171_172.out).trans BK171.out); have n2_ := Aside0.mk (hbox); have n3_ := Aside0.mk ((hbut.other NB173_172.out).trans BK173.out); have n4_ := Aside0.mk (HB.out.trans (hbut.below GE172.out)); clear HO176; clear BK171; clear BK172; clear BK173; clear HB; have HO176 := n0_; have BK171 := n1_; have BK172 := n2_; have BK173 := n3_; have HB := n4_; clear n0_ n1_ n2_ n3_ n4_; clear hbox hbut))
 refine bodyPost_ret (results_cell_row rfl _ _ gb172 49 #[.int .i64 a0_0, .string a0_1, .string a0_2, .int .i64 a0_3, .slice Ao18 t174.length co18] (0, 0) _ rfl (by (with_reducible repeat (first | refine blk_drewN ?_ _ | refine blk_drew ?_ | refine blk_alloc ?_ _)); exact BK172.out) Try.underlying49 rfl (by kernel_rfl)) rfl ?_
 exact ⟨_, by first | rfl | (simp [errW_none, errW_some] <;> rfl) | (simp [*, errW_none, errW_some] <;> rfl), by (with_reducible repeat (first | apply Kd.R_alloc | apply Kd.R_drewN | apply Kd.R_drew)); exact HO176.out, by repeat (first | (with_reducible first | exact HB.out | apply below_alloc | apply pw_below_drewN | apply below_drew1 | refine below_set ?_ GE171.out | refine below_set ?_ GE172.out | refine below_set ?_ GE173.out) | exact HB.out)⟩

/-! ### laws_toSession: function 14 -/
def laws_toSession.f (k : Nat) (a0_0 : Int) (a0_1 : ByteArray) (a0_2 : ByteArray) (a0_3 : Bool) (a0_4 : Int) (a0_5 : ByteArray) (l0_6 : List ByteArray) (l0_7 : List ByteArray) (a0_8 : Int) (a0_9 : ByteArray) (l0_10 : List (S79)) (l0_11 : List Bool) (a0_12 : Int) (a0_13 : ByteArray) (a0_14 : ByteArray) (a0_15 : Int) (l0_16 : List Int) : Option (Int × ByteArray × ByteArray × Bool × Int × ByteArray × List ByteArray × List ByteArray × Int × ByteArray × (List (S69)) × List Bool × Int × ByteArray × ByteArray × Int × List Int) := (laws_toBring.f k a0_4 a0_5 l0_6 l0_7).bind fun bt180 => ((laws_toFetch.f k a0_8 a0_9 l0_10 l0_11).bind fun bt188 => ((laws_toLook.f k a0_12 a0_13 a0_14 a0_15 l0_16).bind fun bt196 => (some (a0_0, a0_1, a0_2, a0_3, bt180.1, bt180.2.1, bt180.2.2.1, bt180.2.2.2, bt188.1, bt188.2.1, bt188.2.2.1, bt188.2.2.2, bt196.1, bt196.2.1, bt196.2.2.1, bt196.2.2.2.1, bt196.2.2.2.2))))
theorem laws_toSession.mono : ∀ a0 a1 a2 a3 a4 a5 a6 a7 a8 a9 a10 a11 a12 a13 a14 a15 a16 k, LeO (laws_toSession.f k a0 a1 a2 a3 a4 a5 a6 a7 a8 a9 a10 a11 a12 a13 a14 a15 a16) (laws_toSession.f (k + 1) a0 a1 a2 a3 a4 a5 a6 a7 a8 a9 a10 a11 a12 a13 a14 a15 a16) := by
 intro a0 a1 a2 a3 a4 a5 a6 a7 a8 a9 a10 a11 a12 a13 a14 a15 a16 k
 unfold laws_toSession.f
 repeat' first
   | (with_reducible exact laws_toBring.mono _ _ _ _ _)
   | (with_reducible exact laws_toFetch.mono _ _ _ _ _)
   | (with_reducible exact laws_toLook.mono _ _ _ _ _ _)
   | (with_reducible exact LeO.refl _)
   | (with_reducible exact LeO.none _)
   | (with_reducible refine LeO.ite ?_ ?_)
   | (with_reducible refine LeO.bind ?_ (fun _ => ?_))
   | exact laws_toBring.mono _ _ _ _ _
   | exact laws_toFetch.mono _ _ _ _ _
   | exact laws_toLook.mono _ _ _ _ _ _
   | exact LeO.none _
   | refine LeO.ite ?_ ?_
   | refine LeO.bind ?_ (fun _ => ?_)
set_option maxHeartbeats 8000000 in
set_option maxRecDepth 100000 in
theorem laws_toSession.calls (k : Nat) (a0_0 : Int) (a0_1 : ByteArray) (a0_2 : ByteArray) (a0_3 : Bool) (a0_4 : Int) (a0_5 : ByteArray) (A0_6 : Option Addr) (c0_6 : Nat) (l0_6 : List ByteArray) (A0_7 : Option Addr) (c0_7 : Nat) (l0_7 : List ByteArray) (a0_8 : Int) (a0_9 : ByteArray) (A0_10 : Option Addr) (c0_10 : Nat) (l0_10 : List (S79)) (A0_11 : Option Addr) (c0_11 : Nat) (l0_11 : List Bool) (a0_12 : Int) (a0_13 : ByteArray) (a0_14 : ByteArray) (a0_15 : Int) (A0_16 : Option Addr) (c0_16 : Nat) (l0_16 : List Int) (r1 : Int) (r2 : ByteArray) (r3 : ByteArray) (r4 : Bool) (r5 : Int) (r6 : ByteArray) (r7 : List ByteArray) (r8 : List ByteArray) (r9 : Int) (r10 : ByteArray) (r11 : List (S69)) (r12 : List Bool) (r13 : Int) (r14 : ByteArray) (r15 : ByteArray) (r16 : Int) (r17 : List Int) (w : World) (hr0_6 : Kd.C Kd.string w A0_6 l0_6.length l0_6) (hc0_6 : l0_6.length ≤ c0_6) (hr0_7 : Kd.C Kd.string w A0_7 l0_7.length l0_7) (hc0_7 : l0_7.length ≤ c0_7) (hr0_10 : Kd.C k79 w A0_10 l0_10.length l0_10) (hc0_10 : l0_10.length ≤ c0_10) (hr0_11 : Kd.C Kd.bool w A0_11 l0_11.length l0_11) (hc0_11 : l0_11.length ≤ c0_11) (hr0_16 : Kd.C (Kd.int .i64) w A0_16 l0_16.length l0_16) (hc0_16 : l0_16.length ≤ c0_16) (h : laws_toSession.f k a0_0 a0_1 a0_2 a0_3 a0_4 a0_5 l0_6 l0_7 a0_8 a0_9 l0_10 l0_11 a0_12 a0_13 a0_14 a0_15 l0_16 = some (r1, r2, r3, r4, r5, r6, r7, r8, r9, r10, r11, r12, r13, r14, r15, r16, r17)) :
  Calls Try.prog 14 #[.agg #[.int .i64 a0_0, .string a0_1, .string a0_2, .bool a0_3, .int .i64 a0_4, .string a0_5, .slice A0_6 l0_6.length c0_6, .slice A0_7 l0_7.length c0_7, .int .i64 a0_8, .string a0_9, .slice A0_10 l0_10.length c0_10, .slice A0_11 l0_11.length c0_11, .int .i64 a0_12, .string a0_13, .string a0_14, .int .i64 a0_15, .slice A0_16 l0_16.length c0_16]] w fun e w' => ∃ v6_ v7_ v10_ v11_ v16_ : Value, e = .returned (.agg #[.int .i64 r1, .string r2, .string r3, .bool r4, .int .i64 r5, .string r6, v6_, v7_, .int .i64 r9, .string r10, v10_, v11_, .int .i64 r13, .string r14, .string r15, .int .i64 r16, v16_]) ∧ Kd.R Kd.string 9 w' w.heap.size (fun k_ => some k_ ≠ (v7_ : Value).ownBlock) v6_ r7 ∧ Kd.R Kd.string 9 w' w.heap.size (fun k_ => some k_ ≠ (v6_ : Value).ownBlock) v7_ r8 ∧ Kd.R k69 69 w' w.heap.size (fun _ => True) v10_ r11 ∧ Kd.R Kd.bool 4 w' w.heap.size (fun _ => True) v11_ r12 ∧ Kd.R (Kd.int .i64) 3 w' w.heap.size (fun _ => True) v16_ r17 ∧ Below w.heap.size w w' := by
 have hu44 := Try.underlying44
 have hu51 := Try.underlying51
 have hu35 := Try.underlying35
 have hu45 := Try.underlying45
 have hu39 := Try.underlying39
 have hu48 := Try.underlying48
 have hu42 := Try.underlying42
 have hu49 := Try.underlying49
 have HR0_6 := Aside0.mk hr0_6
 have HC0_6 := Aside0.mk hc0_6
 clear hr0_6 hc0_6
 have HR0_7 := Aside0.mk hr0_7
 have HC0_7 := Aside0.mk hc0_7
 clear hr0_7 hc0_7
 have HR0_10 := Aside0.mk hr0_10
 have HC0_10 := Aside0.mk hc0_10
 clear hr0_10 hc0_10
 have HR0_11 := Aside0.mk hr0_11
 have HC0_11 := Aside0.mk hc0_11
 clear hr0_11 hc0_11
 have HR0_16 := Aside0.mk hr0_16
 have HC0_16 := Aside0.mk hc0_16
 clear hr0_16 hc0_16
 have HB := Aside0.mk (Below.refl w.heap.size w)
 have H : ((laws_toBring.f k a0_4 a0_5 l0_6 l0_7).bind fun bt180 => ((laws_toFetch.f k a0_8 a0_9 l0_10 l0_11).bind fun bt188 => ((laws_toLook.f k a0_12 a0_13 a0_14 a0_15 l0_16).bind fun bt196 => (some (a0_0, a0_1, a0_2, a0_3, bt180.1, bt180.2.1, bt180.2.2.1, bt180.2.2.2, bt188.1, bt188.2.1, bt188.2.2.1, bt188.2.2.2, bt196.1, bt196.2.1, bt196.2.2.1, bt196.2.2.2.1, bt196.2.2.2.2))))) = some (r1, r2, r3, r4, r5, r6, r7, r8, r9, r10, r11, r12, r13, r14, r15, r16, r17) := h
 clear h
 replace H := Option.bind_eq_some_iff.mp H
 obtain ⟨⟨t180, t181, t182, t185⟩, A20, H⟩ := H
 (try set_option simprocs false in dsimp only at H)
 have A2 := Aside0.mk A20
 clear A20
 replace H := Option.bind_eq_some_iff.mp H
 obtain ⟨⟨t188, t189, t190, t193⟩, A30, H⟩ := H
 (try set_option simprocs false in dsimp only at H)
 have A3 := Aside0.mk A30
 clear A30
 replace H := Option.bind_eq_some_iff.mp H
 obtain ⟨⟨t196, t197, t198, t199, t200⟩, A40, H⟩ := H
 (try set_option simprocs false in dsimp only at H)
 have A4 := Aside0.mk A40
 clear A40
 simp only [Option.some.injEq, Prod.mk.injEq] at H
 obtain ⟨rfl, rfl, rfl, rfl, rfl, rfl, rfl, rfl, rfl, rfl, rfl, rfl, rfl, rfl, rfl, rfl, rfl⟩ := H
 go_enter Try.func14, Try.ntmps14
 go_wp2_with (first | ((with_reducible refine gate_dst (N := 28) rfl ?_); refine wpList_load_row rfl 51 (.tmp 3) rfl _ rfl 51 _ (0, 0) _ BK179.out hu51 rfl (by kernel_rfl) ?_) | ((with_reducible refine gate_dst (N := 1) rfl ?_); refine box_event ?hg (N := 1) ?hd (cs := #[.int .i64 a0_0, .string a0_1, .string a0_2, .bool a0_3, .int .i64 a0_4, .string a0_5, .slice A0_6 l0_6.length c0_6, .slice A0_7 l0_7.length c0_7, .int .i64 a0_8, .string a0_9, .slice A0_10 l0_10.length c0_10, .slice A0_11 l0_11.length c0_11, .int .i64 a0_12, .string a0_13, .string a0_14, .int .i64 a0_15, .slice A0_16 l0_16.length c0_16]) (t := 44) ?hr ?_; (case hd => rfl); (case hg => rfl); (case hr => first | (go_simp; done) | (go_simp; rfl)); intro gb177 hg w5 hbox hb; have n0_ := Aside0.mk (below_step HB.out hb); have n1_ := Aside0.mk (hbox); have n2_ := Aside0.mk ((by rw [hg]; exact (below_size HB.out) : w.heap.size ≤ gb177)); have n3_ := Aside0.mk ((by rw [hg]; exact (below_size HB.out) : w.heap.size ≤ gb177)); clear HB; have HB := n0_; have BK177 := n1_; have GW177 := n2_; have GE177 := n3_; clear n0_ n1_ n2_ n3_; clear hb hbox hg) | ((with_reducible refine gate_dst (N := 2) rfl ?_); refine box_event ?hg (N := 2) ?hd (cs := #[.int .i64 0, .string (⟨#[]⟩ : ByteArray), .string (⟨#[]⟩ : ByteArray), .bool false, .int .i64 0, .string (⟨#[]⟩ : ByteArray), .slice none 0 0, .slice none 0 0, .int .i64 0, .string (⟨#[]⟩ : ByteArray), .slice none 0 0, .slice none 0 0, .int .i64 0, .string (⟨#[]⟩ : ByteArray), .string (⟨#[]⟩ : ByteArray), .int .i64 0, .slice none 0 0]) (t := 51) ?hr ?_; (case hd => rfl); (case hg => rfl); (case hr => first | (go_simp; done) | (go_simp; rfl)); intro gb178 hg w6 hbox hb; have n0_ := Aside0.mk (blk_below BK177.out hb); have n1_ := Aside0.mk (below_step HB.out hb); have n2_ := Aside0.mk (hbox); have n3_ := Aside0.mk ((by rw [hg]; exact (below_size HB.out) : w.heap.size ≤ gb178)); have n4_ := Aside0.mk ((by rw [hg]; exact (below_size HB.out) : w.heap.size ≤ gb178)); have n5_ := Aside0.mk ((by rw [hg]; exact Nat.ne_of_lt (blk_lt (g := gb177) (o := .cells #[.int .i64 a0_0, .string a0_1, .string a0_2, .bool a0_3, .int .i64 a0_4, .string a0_5, .slice A0_6 l0_6.length c0_6, .slice A0_7 l0_7.length c0_7, .int .i64 a0_8, .string a0_9, .slice A0_10 l0_10.length c0_10, .slice A0_11 l0_11.length c0_11, .int .i64 a0_12, .string a0_13, .string a0_14, .int .i64 a0_15, .slice A0_16 l0_16.length c0_16] 44 (0, 0)) (by (with_reducible repeat (first | refine blk_drewN ?_ _ | refine blk_drew ?_ | refine blk_alloc ?_ _)); exact BK177.out)) : gb177 ≠ gb178)); have n6_ := Aside0.mk ((by rw [hg]; exact Nat.ne_of_gt (blk_lt (g := gb177) (o := .cells #[.int .i64 a0_0, .string a0_1, .string a0_2, .bool a0_3, .int .i64 a0_4, .string a0_5, .slice A0_6 l0_6.length c0_6, .slice A0_7 l0_7.length c0_7, .int .i64 a0_8, .string a0_9, .slice A0_10 l0_10.length c0_10, .slice A0_11 l0_11.length c0_11, .int .i64 a0_12, .string a0_13, .string a0_14, .int .i64 a0_15, .slice A0_16 l0_16.length c0_16] 44 (0, 0)) (by (with_reducible repeat (first | refine blk_drewN ?_ _ | refine blk_drew ?_ | refine blk_alloc ?_ _)); exact BK177.out)) : gb178 ≠ gb177)); clear BK177; clear HB; have BK177 := n0_; have HB := n1_; have BK178 := n2_; have GW178 := n3_; have GE178 := n4_; have NB177_178 := n5_; have NB178_177 := n6_; clear n0_ n1_ n2_ n3_ n4_ n5_ n6_; clear hb hbox hg) | ((with_reducible refine gate_dst (N := 3) rfl ?_); refine box_event ?hg (N := 3) ?hd (cs := #[.int .i64 0, .string (⟨#[]⟩ : ByteArray), .string (⟨#[]⟩ : ByteArray), .bool false, .int .i64 0, .string (⟨#[]⟩ : ByteArray), .slice none 0 0, .slice none 0 0, .int .i64 0, .string (⟨#[]⟩ : ByteArray), .slice none 0 0, .slice none 0 0, .int .i64 0, .string (⟨#[]⟩ : ByteArray), .string (⟨#[]⟩ : ByteArray), .int .i64 0, .slice none 0 0]) (t := 51) ?hr ?_; (case hd => rfl); (case hg => rfl); (case hr => first | (go_simp; done) | (go_simp; rfl)); intro gb179 hg w7 hbox hb; have n0_ := Aside0.mk (blk_below BK177.out hb); have n1_ := Aside0.mk (blk_below BK178.out hb); have n2_ := Aside0.mk (below_step HB.out hb); have n3_ := Aside0.mk (hbox); have n4_ := Aside0.mk ((by rw [hg]; exact (below_size HB.out) : w.heap.size ≤ gb179)); have n5_ := Aside0.mk ((by rw [hg]; exact (below_size HB.out) : w.heap.size ≤ gb179)); have n6_ := Aside0.mk ((by rw [hg]; exact Nat.ne_of_lt (blk_lt (g := gb177) (o := .cells #[.int .i64 a0_0, .string a0_1, .string a0_2, .bool a0_3, .int .i64 a0_4, .string a0_5, .slice A0_6 l0_6.length c0_6, .slice A0_7 l0_7.length c0_7, .int .i64 a0_8, .string a0_9, .slice A0_10 l0_10.length c0_10, .slice A0_11 l0_11.length c0_11, .int .i64 a0_12, .string a0_13, .string a0_14, .int .i64 a0_15, .slice A0_16 l0_16.length c0_16] 44 (0, 0)) (by (with_reducible repeat (first | refine blk_drewN ?_ _ | refine blk_drew ?_ | refine blk_alloc ?_ _)); exact BK177.out)) : gb177 ≠ gb179)); have n7_ := Aside0.mk ((by rw [hg]; exact Nat.ne_of_gt (blk_lt (g := gb177) (o := .cells #[.int .i64 a0_0, .string a0_1, .string a0_2, .bool a0_3, .int .i64 a0_4, .string a0_5, .slice A0_6 l0_6.length c0_6, .slice A0_7 l0_7.length c0_7, .int .i64 a0_8, .string a0_9, .slice A0_10 l0_10.length c0_10, .slice A0_11 l0_11.length c0_11, .int .i64 a0_12, .string a0_13, .string a0_14, .int .i64 a0_15, .slice A0_16 l0_16.length c0_16] 44 (0, 0)) (by (with_reducible repeat (first | refine blk_drewN ?_ _ | refine blk_drew ?_ | refine blk_alloc ?_ _)); exact BK177.out)) : gb179 ≠ gb177)); have n8_ := Aside0.mk ((by rw [hg]; exact Nat.ne_of_lt (blk_lt (g := gb178) (o := .cells #[.int .i64 0, .string (⟨#[]⟩ : ByteArray), .string (⟨#[]⟩ : ByteArray), .bool false, .int .i64 0, .string (⟨#[]⟩ : ByteArray), .slice none 0 0, .slice none 0 0, .int .i64 0, .string (⟨#[]⟩ : ByteArray), .slice none 0 0, .slice none 0 0, .int .i64 0, .string (⟨#[]⟩ : ByteArray), .string (⟨#[]⟩ : ByteArray), .int .i64 0, .slice none 0 0] 51 (0, 0)) (by (with_reducible repeat (first | refine blk_drewN ?_ _ | refine blk_drew ?_ | refine blk_alloc ?_ _)); exact BK178.out)) : gb178 ≠ gb179)); have n9_ := Aside0.mk ((by rw [hg]; exact Nat.ne_of_gt (blk_lt (g := gb178) (o := .cells #[.int .i64 0, .string (⟨#[]⟩ : ByteArray), .string (⟨#[]⟩ : ByteArray), .bool false, .int .i64 0, .string (⟨#[]⟩ : ByteArray), .slice none 0 0, .slice none 0 0, .int .i64 0, .string (⟨#[]⟩ : ByteArray), .slice none 0 0, .slice none 0 0, .int .i64 0, .string (⟨#[]⟩ : ByteArray), .string (⟨#[]⟩ : ByteArray), .int .i64 0, .slice none 0 0] 51 (0, 0)) (by (with_reducible repeat (first | refine blk_drewN ?_ _ | refine blk_drew ?_ | refine blk_alloc ?_ _)); exact BK178.out)) : gb179 ≠ gb178)); clear BK177; clear BK178; clear HB; have BK177 := n0_; have BK178 := n1_; have HB := n2_; have BK179 := n3_; have GW179 := n4_; have GE179 := n5_; have NB177_179 := n6_; have NB179_177 := n7_; have NB178_179 := n8_; have NB179_178 := n9_; clear n0_ n1_ n2_ n3_ n4_ n5_ n6_ n7_ n8_ n9_; clear hb hbox hg; have hnb8 := NB177_178.out; have hnc8 := NB178_177.out; have hnb9 := NB177_179.out; have hnc9 := NB179_177.out; have hcz10 := blk_cell BK177.out; have hfz10 := blk_frozen BK177.out) | ((with_reducible refine gate_store (t := 3) (p := 6) rfl ?_); refine Go.Proofs.YtmneclmdlbihcaaR.store_part_event ?hg (t := 3) 6 (v := ?vo_w11) ?ho ?hn gb179 0 (.int .i64 a0_0) #[.int .i64 a0_0] #[.int .i64 0, .string (⟨#[]⟩ : ByteArray), .string (⟨#[]⟩ : ByteArray), .bool false, .int .i64 0, .string (⟨#[]⟩ : ByteArray), .slice none 0 0, .slice none 0 0, .int .i64 0, .string (⟨#[]⟩ : ByteArray), .slice none 0 0, .slice none 0 0, .int .i64 0, .string (⟨#[]⟩ : ByteArray), .string (⟨#[]⟩ : ByteArray), .int .i64 0, .slice none 0 0] #[.int .i64 a0_0, .string (⟨#[]⟩ : ByteArray), .string (⟨#[]⟩ : ByteArray), .bool false, .int .i64 0, .string (⟨#[]⟩ : ByteArray), .slice none 0 0, .slice none 0 0, .int .i64 0, .string (⟨#[]⟩ : ByteArray), .slice none 0 0, .slice none 0 0, .int .i64 0, .string (⟨#[]⟩ : ByteArray), .string (⟨#[]⟩ : ByteArray), .int .i64 0, .slice none 0 0] 51 ?hx ?hy rfl BK179.out ?hi (Nat.le_of_ble_eq_true rfl) ?h1 ?hc ?_; (case ho => rfl); (case hg => rfl); (case hn => rfl); (case hi => kernel_rfl); (case h1 => first | kernel_rfl | rfl); (case hc => kernel_rfl); (case hx => first | rfl | (go_simp; done) | (go_simp; rfl)); (case hy => first | rfl | (go_simp; done) | (go_simp; rfl)); intro w11 hbox hbut; have n0_ := Aside0.mk ((hbut.other NB177_179.out).trans BK177.out); have n1_ := Aside0.mk ((hbut.other NB178_179.out).trans BK178.out); have n2_ := Aside0.mk (hbox); have n3_ := Aside0.mk (HB.out.trans (hbut.below GE179.out)); clear BK177; clear BK178; clear BK179; clear HB; have BK177 := n0_; have BK178 := n1_; have BK179 := n2_; have HB := n3_; clear n0_ n1_ n2_ n3_; clear hbox hbut; have hcz12 := blk_cell BK177.out; have hfz12 := blk_frozen BK177.out) | ((with_reducible refine gate_store (t := 9) (p := 9) rfl ?_); refine Go.Proofs.YtmneclmdlbihcaaR.store_part_event ?hg (t := 9) 9 (v := ?vo_w13) ?ho ?hn gb179 1 (.string a0_1) #[.string a0_1] #[.int .i64 a0_0, .string (⟨#[]⟩ : ByteArray), .string (⟨#[]⟩ : ByteArray), .bool false, .int .i64 0, .string (⟨#[]⟩ : ByteArray), .slice none 0 0, .slice none 0 0, .int .i64 0, .string (⟨#[]⟩ : ByteArray), .slice none 0 0, .slice none 0 0, .int .i64 0, .string (⟨#[]⟩ : ByteArray), .string (⟨#[]⟩ : ByteArray), .int .i64 0, .slice none 0 0] #[.int .i64 a0_0, .string a0_1, .string (⟨#[]⟩ : ByteArray), .bool false, .int .i64 0, .string (⟨#[]⟩ : ByteArray), .slice none 0 0, .slice none 0 0, .int .i64 0, .string (⟨#[]⟩ : ByteArray), .slice none 0 0, .slice none 0 0, .int .i64 0, .string (⟨#[]⟩ : ByteArray), .string (⟨#[]⟩ : ByteArray), .int .i64 0, .slice none 0 0] 51 ?hx ?hy rfl BK179.out ?hi (Nat.le_of_ble_eq_true rfl) ?h1 ?hc ?_; (case ho => rfl); (case hg => rfl); (case hn => rfl); (case hi => kernel_rfl); (case h1 => first | kernel_rfl | rfl); (case hc => kernel_rfl); (case hx => first | rfl | (go_simp; done) | (go_simp; rfl)); (case hy => first | rfl | (go_simp; done) | (go_simp; rfl)); intro w13 hbox hbut; have n0_ := Aside0.mk ((hbut.other NB177_179.out).trans BK177.out); have n1_ := Aside0.mk ((hbut.other NB178_179.out).trans BK178.out); have n2_ := Aside0.mk (hbox); have n3_ := Aside0.mk (HB.out.trans (hbut.below GE179.out)); clear BK177; clear BK178; clear BK179; clear HB; have BK177 := n0_; have BK178 := n1_; have BK179 := n2_; have HB := n3_; clear n0_ n1_ n2_ n3_; clear hbox hbut; have hcz14 := blk_cell BK177.out; have hfz14 := blk_frozen BK177.out) | ((with_reducible refine gate_store (t := 9) (p := 12) rfl ?_); refine Go.Proofs.YtmneclmdlbihcaaR.store_part_event ?hg (t := 9) 12 (v := ?vo_w15) ?ho ?hn gb179 2 (.string a0_2) #[.string a0_2] #[.int .i64 a0_0, .string a0_1, .string (⟨#[]⟩ : ByteArray), .bool false, .int .i64 0, .string (⟨#[]⟩ : ByteArray), .slice none 0 0, .slice none 0 0, .int .i64 0, .string (⟨#[]⟩ : ByteArray), .slice none 0 0, .slice none 0 0, .int .i64 0, .string (⟨#[]⟩ : ByteArray), .string (⟨#[]⟩ : ByteArray), .int .i64 0, .slice none 0 0] #[.int .i64 a0_0, .string a0_1, .string a0_2, .bool false, .int .i64 0, .string (⟨#[]⟩ : ByteArray), .slice none 0 0, .slice none 0 0, .int .i64 0, .string (⟨#[]⟩ : ByteArray), .slice none 0 0, .slice none 0 0, .int .i64 0, .string (⟨#[]⟩ : ByteArray), .string (⟨#[]⟩ : ByteArray), .int .i64 0, .slice none 0 0] 51 ?hx ?hy rfl BK179.out ?hi (Nat.le_of_ble_eq_true rfl) ?h1 ?hc ?_; (case ho => rfl); (case hg => rfl); (case hn => rfl); (case hi => kernel_rfl); (case h1 => first | kernel_rfl | rfl); (case hc => kernel_rfl); (case hx => first | rfl | (go_simp; done) | (go_simp; rfl)); (case hy => first | rfl | (go_simp; done) | (go_simp; rfl)); intro w15 hbox hbut; have n0_ := Aside0.mk ((hbut.other NB177_179.out).trans BK177.out); have n1_ := Aside0.mk ((hbut.other NB178_179.out).trans BK178.out); have n2_ := Aside0.mk (hbox); have n3_ := Aside0.mk (HB.out.trans (hbut.below GE179.out)); clear BK177; clear BK178; clear BK179; clear HB; have BK177 := n0_; have BK178 := n1_; have BK179 := n2_; have HB := n3_; clear n0_ n1_ n2_ n3_; clear hbox hbut; have hcz16 := blk_cell BK177.out; have hfz16 := blk_frozen BK177.out) | ((with_reducible refine gate_store (t := 4) (p := 15) rfl ?_); refine Go.Proofs.YtmneclmdlbihcaaR.store_part_event ?hg (t := 4) 15 (v := ?vo_w17) ?ho ?hn gb179 3 (.bool a0_3) #[.bool a0_3] #[.int .i64 a0_0, .string a0_1, .string a0_2, .bool false, .int .i64 0, .string (⟨#[]⟩ : ByteArray), .slice none 0 0, .slice none 0 0, .int .i64 0, .string (⟨#[]⟩ : ByteArray), .slice none 0 0, .slice none 0 0, .int .i64 0, .string (⟨#[]⟩ : ByteArray), .string (⟨#[]⟩ : ByteArray), .int .i64 0, .slice none 0 0] #[.int .i64 a0_0, .string a0_1, .string a0_2, .bool a0_3, .int .i64 0, .string (⟨#[]⟩ : ByteArray), .slice none 0 0, .slice none 0 0, .int .i64 0, .string (⟨#[]⟩ : ByteArray), .slice none 0 0, .slice none 0 0, .int .i64 0, .string (⟨#[]⟩ : ByteArray), .string (⟨#[]⟩ : ByteArray), .int .i64 0, .slice none 0 0] 51 ?hx ?hy rfl BK179.out ?hi (Nat.le_of_ble_eq_true rfl) ?h1 ?hc ?_; (case ho => rfl); (case hg => rfl); (case hn => rfl); (case hi => kernel_rfl); (case h1 => first | kernel_rfl | rfl); (case hc => kernel_rfl); (case hx => first | rfl | (go_simp; done) | (go_simp; rfl)); (case hy => first | rfl | (go_simp; done) | (go_simp; rfl)); intro w17 hbox hbut; have n0_ := Aside0.mk ((hbut.other NB177_179.out).trans BK177.out); have n1_ := Aside0.mk ((hbut.other NB178_179.out).trans BK178.out); have n2_ := Aside0.mk (hbox); have n3_ := Aside0.mk (HB.out.trans (hbut.below GE179.out)); clear BK177; clear BK178; clear BK179; clear HB; have BK177 := n0_; have BK178 := n1_; have BK179 := n2_; have HB := n3_; clear n0_ n1_ n2_ n3_; clear hbox hbut; have hcz18 := blk_cell BK177.out; have hfz18 := blk_frozen BK177.out) | ((with_reducible refine gate_callee (f := 23) rfl ?_); refine goesL_ (some 18) rfl rfl Try.func23 (by kernel_rfl) rfl #[.agg #[.int .i64 a0_4, .string a0_5, .slice A0_6 l0_6.length c0_6, .slice A0_7 l0_7.length c0_7]] rfl (by (try simp only [List.map_toArray, List.map_cons, List.map_nil]); first | done | rfl | (simp only [List.length_drop, List.length_take]; rfl)) ?_; (with_reducible refine (laws_toBring.calls k a0_4 a0_5 _ _ l0_6 _ _ l0_7 t180 t181 t182 t185 _ ?side1 ?side2 ?side3 ?side4 A2.out).mono ?_); (case side1 => exact (Kd.C_below HR0_6.out HB.out)); (case side2 => exact HC0_6.out); (case side3 => exact (Kd.C_below HR0_7.out HB.out)); (case side4 => exact HC0_7.out); rintro e w19 ⟨v183, v186, rfl, ho0, ho1, hb⟩; refine ⟨_, rfl, ?_⟩; have n0_ := Aside0.mk (Kd.R_lower ho0 (below_size HB.out)); have n1_ := Aside0.mk (Kd.R_lower ho1 (below_size HB.out)); have n2_ := Aside0.mk (blk_below BK177.out hb); have n3_ := Aside0.mk (blk_below BK178.out hb); have n4_ := Aside0.mk (blk_below BK179.out hb); have n5_ := Aside0.mk (below_step HB.out hb); clear BK177; clear BK178; clear BK179; clear HB; have HO184 := n0_; have HO187 := n1_; have BK177 := n2_; have BK178 := n3_; have BK179 := n4_; have HB := n5_; clear n0_ n1_ n2_ n3_ n4_ n5_; (try clear hb); (try clear hb2); (try clear hk); (try clear hi); (try clear ho0); (try clear ho1); obtain ⟨Ao20, co20, eo20⟩ := Kd.R_slice HO184.out; subst eo20; obtain ⟨Ao21, co21, eo21⟩ := Kd.R_slice HO187.out; subst eo21) | ((with_reducible refine gate_store (t := 45) (p := 19) rfl ?_); refine Go.Proofs.YtmneclmdlbihcaaR.store_part_event ?hg (t := 45) 19 (v := ?vo_w22) ?ho ?hn gb179 4 (.agg #[.int .i64 t180, .string t181, .slice Ao20 t182.length co20, .slice Ao21 t185.length co21]) #[.int .i64 t180, .string t181, .slice Ao20 t182.length co20, .slice Ao21 t185.length co21] #[.int .i64 a0_0, .string a0_1, .string a0_2, .bool a0_3, .int .i64 0, .string (⟨#[]⟩ : ByteArray), .slice none 0 0, .slice none 0 0, .int .i64 0, .string (⟨#[]⟩ : ByteArray), .slice none 0 0, .slice none 0 0, .int .i64 0, .string (⟨#[]⟩ : ByteArray), .string (⟨#[]⟩ : ByteArray), .int .i64 0, .slice none 0 0] #[.int .i64 a0_0, .string a0_1, .string a0_2, .bool a0_3, .int .i64 t180, .string t181, .slice Ao20 t182.length co20, .slice Ao21 t185.length co21, .int .i64 0, .string (⟨#[]⟩ : ByteArray), .slice none 0 0, .slice none 0 0, .int .i64 0, .string (⟨#[]⟩ : ByteArray), .string (⟨#[]⟩ : ByteArray), .int .i64 0, .slice none 0 0] 51 ?hx ?hy rfl BK179.out ?hi (Nat.le_of_ble_eq_true rfl) ?h1 ?hc ?_; (case ho => rfl); (case hg => rfl); (case hn => rfl); (case hi => kernel_rfl); (case h1 => first | kernel_rfl | rfl); (case hc => kernel_rfl); (case hx => first | rfl | (go_simp; done) | (go_simp; rfl)); (case hy => first | rfl | (go_simp; done) | (go_simp; rfl)); intro w22 hbox hbut; have n0_ := Aside0.mk (Kd.R_mono (Kd.R_step (Kd.R_types HO184.out BK179.out (by decide)) (fun _ hk _ => hbut.other hk.2)) (fun _ hk => hk.1)); have n1_ := Aside0.mk (Kd.R_mono (Kd.R_step (Kd.R_types HO187.out BK179.out (by decide)) (fun _ hk _ => hbut.other hk.2)) (fun _ hk => hk.1)); have n2_ := Aside0.mk ((hbut.other NB177_179.out).trans BK177.out); have n3_ := Aside0.mk ((hbut.other NB178_179.out).trans BK178.out); have n4_ := Aside0.mk (hbox); have n5_ := Aside0.mk (HB.out.trans (hbut.below GE179.out)); clear HO184; clear HO187; clear BK177; clear BK178; clear BK179; clear HB; have HO184 := n0_; have HO187 := n1_; have BK177 := n2_; have BK178 := n3_; have BK179 := n4_; have HB := n5_; clear n0_ n1_ n2_ n3_ n4_ n5_; clear hbox hbut; have hcz23 := blk_cell BK177.out; have hfz23 := blk_frozen BK177.out) | ((with_reducible refine gate_callee (f := 24) rfl ?_); refine goesL_ (some 22) rfl rfl Try.func24 (by kernel_rfl) rfl #[.agg #[.int .i64 a0_8, .string a0_9, .slice A0_10 l0_10.length c0_10, .slice A0_11 l0_11.length c0_11]] rfl (by (try simp only [List.map_toArray, List.map_cons, List.map_nil]); first | done | rfl | (simp only [List.length_drop, List.length_take]; rfl)) ?_; (with_reducible refine (laws_toFetch.calls k a0_8 a0_9 _ _ l0_10 _ _ l0_11 t188 t189 t190 t193 _ ?side1 ?side2 ?side3 ?side4 A3.out).mono ?_); (case side1 => exact (Kd.C_below HR0_10.out HB.out)); (case side2 => exact HC0_10.out); (case side3 => exact (Kd.C_below HR0_11.out HB.out)); (case side4 => exact HC0_11.out); rintro e w24 ⟨v191, v194, rfl, ho0, ho1, hb⟩; refine ⟨_, rfl, ?_⟩; have n0_ := Aside0.mk (Kd.R_below HO184.out hb); have n1_ := Aside0.mk (Kd.R_below HO187.out hb); have n2_ := Aside0.mk (Kd.R_lower ho0 (below_size HB.out)); have n3_ := Aside0.mk (Kd.R_lower ho1 (below_size HB.out)); have n4_ := Aside0.mk (blk_below BK177.out hb); have n5_ := Aside0.mk (blk_below BK178.out hb); have n6_ := Aside0.mk (blk_below BK179.out hb); have n7_ := Aside0.mk (below_step HB.out hb); clear HO184; clear HO187; clear BK177; clear BK178; clear BK179; clear HB; have HO184 := n0_; have HO187 := n1_; have HO192 := n2_; have HO195 := n3_; have BK177 := n4_; have BK178 := n5_; have BK179 := n6_; have HB := n7_; clear n0_ n1_ n2_ n3_ n4_ n5_ n6_ n7_; (try clear hb); (try clear hb2); (try clear hk); (try clear hi); (try clear ho0); (try clear ho1); obtain ⟨Ao25, co25, eo25⟩ := Kd.R_slice HO192.out; subst eo25; obtain ⟨Ao26, co26, eo26⟩ := Kd.R_slice HO195.out; subst eo26) | ((with_reducible refine gate_store (t := 48) (p := 23) rfl ?_); refine Go.Proofs.YtmneclmdlbihcaaR.store_part_event ?hg (t := 48) 23 (v := ?vo_w27) ?ho ?hn gb179 8 (.agg #[.int .i64 t188, .string t189, .slice Ao25 t190.length co25, .slice Ao26 t193.length co26]) #[.int .i64 t188, .string t189, .slice Ao25 t190.length co25, .slice Ao26 t193.length co26] #[.int .i64 a0_0, .string a0_1, .string a0_2, .bool a0_3, .int .i64 t180, .string t181, .slice Ao20 t182.length co20, .slice Ao21 t185.length co21, .int .i64 0, .string (⟨#[]⟩ : ByteArray), .slice none 0 0, .slice none 0 0, .int .i64 0, .string (⟨#[]⟩ : ByteArray), .string (⟨#[]⟩ : ByteArray), .int .i64 0, .slice none 0 0] #[.int .i64 a0_0, .string a0_1, .string a0_2, .bool a0_3, .int .i64 t180, .string t181, .slice Ao20 t182.length co20, .slice Ao21 t185.length co21, .int .i64 t188, .string t189, .slice Ao25 t190.length co25, .slice Ao26 t193.length co26, .int .i64 0, .string (⟨#[]⟩ : ByteArray), .string (⟨#[]⟩ : ByteArray), .int .i64 0, .slice none 0 0] 51 ?hx ?hy rfl BK179.out ?hi (Nat.le_of_ble_eq_true rfl) ?h1 ?hc ?_; (case ho => rfl); (case hg => rfl); (case hn => rfl); (case hi => kernel_rfl); (case h1 => first | kernel_rfl | rfl); (case hc => kernel_rfl); (case hx => first | rfl | (go_simp; done) | (go_simp; rfl)); (case hy => first | rfl | (go_simp; done) | (go_simp; rfl)); intro w27 hbox hbut; have n0_ := Aside0.mk (Kd.R_mono (Kd.R_step (Kd.R_types HO184.out BK179.out (by decide)) (fun _ hk _ => hbut.other hk.2)) (fun _ hk => hk.1)); have n1_ := Aside0.mk (Kd.R_mono (Kd.R_step (Kd.R_types HO187.out BK179.out (by decide)) (fun _ hk _ => hbut.other hk.2)) (fun _ hk => hk.1)); have n2_ := Aside0.mk (Kd.R_mono (Kd.R_step (Kd.R_types HO192.out BK179.out (by decide)) (fun _ hk _ => hbut.other hk.2)) (fun _ hk => hk.1)); have n3_ := Aside0.mk (Kd.R_mono (Kd.R_step (Kd.R_types HO195.out BK179.out (by decide)) (fun _ hk _ => hbut.other hk.2)) (fun _ hk => hk.1)); have n4_ := Aside0.mk ((hbut.other NB177_179.out).trans BK177.out); have n5_ := Aside0.mk ((hbut.other NB178_179.out).trans BK178.out); have n6_ := Aside0.mk (hbox); have n7_ := Aside0.mk (HB.out.trans (hbut.below GE179.out)); clear HO184; clear HO187; clear HO192; clear HO195; clear BK177; clear BK178; clear BK179; clear HB; have HO184 := n0_; have HO187 := n1_; have HO192 := n2_; have HO195 := n3_; have BK177 := n4_; have BK178 := n5_; have BK179 := n6_; have HB := n7_; clear n0_ n1_ n2_ n3_ n4_ n5_ n6_ n7_; clear hbox hbut; have hcz28 := blk_cell BK177.out; have hfz28 := blk_frozen BK177.out) | ((with_reducible refine gate_callee (f := 25) rfl ?_); refine goesL_ (some 26) rfl rfl Try.func25 (by kernel_rfl) rfl #[.agg #[.int .i64 a0_12, .string a0_13, .string a0_14, .int .i64 a0_15, .slice A0_16 l0_16.length c0_16]] rfl (by (try simp only [List.map_toArray, List.map_cons, List.map_nil]); first | done | rfl | (simp only [List.length_drop, List.length_take]; rfl)) ?_; (with_reducible refine (laws_toLook.calls k a0_12 a0_13 a0_14 a0_15 _ _ l0_16 t196 t197 t198 t199 t200 _ ?side1 ?side2 A4.out).mono ?_); (case side1 => exact (Kd.C_below HR0_16.out HB.out)); (case side2 => exact HC0_16.out); rintro e w29 ⟨v201, rfl, ho0, hb⟩; refine ⟨_, rfl, ?_⟩; have n0_ := Aside0.mk (Kd.R_below HO184.out hb); have n1_ := Aside0.mk (Kd.R_below HO187.out hb); have n2_ := Aside0.mk (Kd.R_below HO192.out hb); have n3_ := Aside0.mk (Kd.R_below HO195.out hb); have n4_ := Aside0.mk (Kd.R_lower ho0 (below_size HB.out)); have n5_ := Aside0.mk (blk_below BK177.out hb); have n6_ := Aside0.mk (blk_below BK178.out hb); have n7_ := Aside0.mk (blk_below BK179.out hb); have n8_ := Aside0.mk (below_step HB.out hb); clear HO184; clear HO187; clear HO192; clear HO195; clear BK177; clear BK178; clear BK179; clear HB; have HO184 := n0_; have HO187 := n1_; have HO192 := n2_; have HO195 := n3_; have HO202 := n4_; have BK177 := n5_; have BK178 := n6_; have BK179 := n7_; have HB := n8_; clear n0_ n1_ n2_ n3_ n4_ n5_ n6_ n7_ n8_; (try clear hb); (try clear hb2); (try clear hk); (try clear hi); (try clear ho0); obtain ⟨Ao30, co30, eo30⟩ := Kd.R_slice HO202.out; subst eo30) | ((with_reducible refine gate_store (t := 49) (p := 27) rfl ?_); refine Go.Proofs.YtmneclmdlbihcaaR.store_part_event ?hg (t := 49) 27 (v := ?vo_w31) ?ho ?hn gb179 12 (.agg #[.int .i64 t196, .string t197, .string t198, .int .i64 t199, .slice Ao30 t200.length co30]) #[.int .i64 t196, .string t197, .string t198, .int .i64 t199, .slice Ao30 t200.length co30] #[.int .i64 a0_0, .string a0_1, .string a0_2, .bool a0_3, .int .i64 t180, .string t181, .slice Ao20 t182.length co20, .slice Ao21 t185.length co21, .int .i64 t188, .string t189, .slice Ao25 t190.length co25, .slice Ao26 t193.length co26, .int .i64 0, .string (⟨#[]⟩ : ByteArray), .string (⟨#[]⟩ : ByteArray), .int .i64 0, .slice none 0 0] #[.int .i64 a0_0, .string a0_1, .string a0_2, .bool a0_3, .int .i64 t180, .string t181, .slice Ao20 t182.length co20, .slice Ao21 t185.length co21, .int .i64 t188, .string t189, .slice Ao25 t190.length co25, .slice Ao26 t193.length co26, .int .i64 t196, .string t197, .string t198, .int .i64 t199, .slice Ao30 t200.length co30] 51 ?hx ?hy rfl BK179.out ?hi (Nat.le_of_ble_eq_true rfl) ?h1 ?hc ?_; (case ho => rfl); (case hg => rfl); (case hn => rfl); (case hi => kernel_rfl); (case h1 => first | kernel_rfl | rfl); (case hc => kernel_rfl); (case hx => first | rfl | (go_simp; done) | (go_simp; rfl)); (case hy => first | rfl | (go_simp; done) | (go_simp; rfl)); intro w31 hbox hbut; have n0_ := Aside0.mk (Kd.R_mono (Kd.R_step (Kd.R_types HO184.out BK179.out (by decide)) (fun _ hk _ => hbut.other hk.2)) (fun _ hk => hk.1)); have n1_ := Aside0.mk (Kd.R_mono (Kd.R_step (Kd.R_types HO187.out BK179.out (by decide)) (fun _ hk _ => hbut.other hk.2)) (fun _ hk => hk.1)); have n2_ := Aside0.mk (Kd.R_mono (Kd.R_step (Kd.R_types HO192.out BK179.out (by decide)) (fun _ hk _ => hbut.other hk.2)) (fun _ hk => hk.1)); have n3_ := Aside0.mk (Kd.R_mono (Kd.R_step (Kd.R_types HO195.out BK179.out (by decide)) (fun _ hk _ => hbut.other hk.2)) (fun _ hk => hk.1)); have n4_ := Aside0.mk (Kd.R_mono (Kd.R_step (Kd.R_types HO202.out BK179.out (by decide)) (fun _ hk _ => hbut.other hk.2)) (fun _ hk => hk.1)); have n5_ := Aside0.mk ((hbut.other NB177_179.out).trans BK177.out); have n6_ := Aside0.mk ((hbut.other NB178_179.out).trans BK178.out); have n7_ := Aside0.mk (hbox); have n8_ := Aside0.mk (HB.out.trans (hbut.below GE179.out)); clear HO184; clear HO187; clear HO192; clear HO195; clear HO202; clear BK177; clear BK178; clear BK179; clear HB; have HO184 := n0_; have HO187 := n1_; have HO192 := n2_; have HO195 := n3_; have HO202 := n4_; have BK177 := n5_; have BK178 := n6_; have BK179 := n7_; have HB := n8_; clear n0_ n1_ n2_ n3_ n4_ n5_ n6_ n7_ n8_; clear hbox hbut; have hnb32 := NB179_178.out; have hnc32 := NB178_179.out) | ((with_reducible refine gate_store (t := 51) (p := 2) rfl ?_); refine Go.Proofs.YtmneclmdlbihcaaR.store_part_event ?hg (t := 51) 2 (v := ?vo_w34) ?ho ?hn gb178 0 (.agg #[.int .i64 a0_0, .string a0_1, .string a0_2, .bool a0_3, .int .i64 t180, .string t181, .slice Ao20 t182.length co20, .slice Ao21 t185.length co21, .int .i64 t188, .string t189, .slice Ao25 t190.length co25, .slice Ao26 t193.length co26, .int .i64 t196, .string t197, .string t198, .int .i64 t199, .slice Ao30 t200.length co30]) #[.int .i64 a0_0, .string a0_1, .string a0_2, .bool a0_3, .int .i64 t180, .string t181, .slice Ao20 t182.length co20, .slice Ao21 t185.length co21, .int .i64 t188, .string t189, .slice Ao25 t190.length co25, .slice Ao26 t193.length co26, .int .i64 t196, .string t197, .string t198, .int .i64 t199, .slice Ao30 t200.length co30] #[.int .i64 0, .string (⟨#[]⟩ : ByteArray), .string (⟨#[]⟩ : ByteArray), .bool false, .int .i64 0, .string (⟨#[]⟩ : ByteArray), .slice none 0 0, .slice none 0 0, .int .i64 0, .string (⟨#[]⟩ : ByteArray), .slice none 0 0, .slice none 0 0, .int .i64 0, .string (⟨#[]⟩ : ByteArray), .string (⟨#[]⟩ : ByteArray), .int .i64 0, .slice none 0 0] #[.int .i64 a0_0, .string a0_1, .string a0_2, .bool a0_3, .int .i64 t180, .string t181, .slice Ao20 t182.length co20, .slice Ao21 t185.length co21, .int .i64 t188, .string t189, .slice Ao25 t190.length co25, .slice Ao26 t193.length co26, .int .i64 t196, .string t197, .string t198, .int .i64 t199, .slice Ao30 t200.length co30] 51 ?hx ?hy rfl BK178.out ?hi (Nat.le_of_ble_eq_true rfl) ?h1 ?hc ?_; (case ho => rfl); (case hg => rfl); (case hn => rfl); (case hi => kernel_rfl); (case h1 => first | kernel_rfl | rfl); (case hc => kernel_rfl); (case hx => first | rfl | (go_simp; done) | (go_simp; rfl)); (case hy => first | rfl | (go_simp; done) | (go_simp; rfl)); intro w34 hbox hbut; have n0_ := Aside0.mk (Kd.R_mono (Kd.R_step (Kd.R_types HO184.out BK178.out (by decide)) (fun _ hk _ => hbut.other hk.2)) (fun _ hk => hk.1)); have n1_ := Aside0.mk (Kd.R_mono (Kd.R_step (Kd.R_types HO187.out BK178.out (by decide)) (fun _ hk _ => hbut.other hk.2)) (fun _ hk => hk.1)); have n2_ := Aside0.mk (Kd.R_mono (Kd.R_step (Kd.R_types HO192.out BK178.out (by decide)) (fun _ hk _ => hbut.other hk.2)) (fun _ hk => hk.1)); have n3_ := Aside0.mk (Kd.R_mono (Kd.R_step (Kd.R_types HO195.out BK178.out (by decide)) (fun _ hk _ => hbut.other hk.2)) (fun _ hk => hk.1)); have n4_ := Aside0.mk (Kd.R_mono (Kd.R_step (Kd.R_types HO202.out BK178.out (by decide)) (fun _ hk _ => hbut.other hk.2)) (fun _ hk => hk.1)); have n5_ := Aside0.mk ((hbut.other NB177_178.out).trans BK177.out); have n6_ := Aside0.mk (hbox); have n7_ := Aside0.mk ((hbut.other NB179_178.out).trans BK179.out); have n8_ := Aside0.mk (HB.out.trans (hbut.below GE178.out)); clear HO184; clear HO187; clear HO192; clear HO195; clear HO202; clear BK177; clear BK178; clear BK179; clear HB; have HO184 := n0_; have HO187 := n1_; have HO192 := n2_; have HO195 := n3_; have HO202 := n4_; have BK177 := n5_; have BK178 := n6_; have BK179 := n7_; have HB := n8_; clear n0_ n1_ n2_ n3_ n4_ n5_ n6_ n7_ n8_; clear hbox hbut))
 refine bodyPost_ret (results_cell_row rfl _ _ gb178 51 #[.int .i64 a0_0, .string a0_1, .string a0_2, .bool a0_3, .int .i64 t180, .string t181, .slice Ao20 t182.length co20, .slice Ao21 t185.length co21, .int .i64 t188, .string t189, .slice Ao25 t190.length co25, .slice Ao26 t193.length co26, .int .i64 t196, .string t197, .string t198, .int .i64 t199, .slice Ao30 t200.length co30] (0, 0) _ rfl (by (with_reducible repeat (first | refine blk_drewN ?_ _ | refine blk_drew ?_ | refine blk_alloc ?_ _)); exact BK178.out) Try.underlying51 rfl (by kernel_rfl)) rfl ?_
 exact ⟨_, _, _, _, _, by first | rfl | (simp [errW_none, errW_some] <;> rfl) | (simp [*, errW_none, errW_some] <;> rfl), by (with_reducible repeat (first | apply Kd.R_alloc | apply Kd.R_drewN | apply Kd.R_drew)); exact HO184.out, by (with_reducible repeat (first | apply Kd.R_alloc | apply Kd.R_drewN | apply Kd.R_drew)); exact HO187.out, by (with_reducible repeat (first | apply Kd.R_alloc | apply Kd.R_drewN | apply Kd.R_drew)); exact HO192.out, by (with_reducible repeat (first | apply Kd.R_alloc | apply Kd.R_drewN | apply Kd.R_drew)); exact HO195.out, by (with_reducible repeat (first | apply Kd.R_alloc | apply Kd.R_drewN | apply Kd.R_drew)); exact HO202.out, by repeat (first | (with_reducible first | exact HB.out | apply below_alloc | apply pw_below_drewN | apply below_drew1 | refine below_set ?_ GE177.out | refine below_set ?_ GE178.out | refine below_set ?_ GE179.out) | exact HB.out)⟩

/-! ### laws_toSessionS: function 6 -/
def laws_toSessionS.l0 : Nat → List (S44) → List (S51) → Int → Option ((List (S51)))
 | 0, _, _, _ => none
 | k + 1, x0, x3, x4 => if x4 < (x0.length : Int) then (if 0 ≤ x4 then ((laws_toSession.f k ((rd_T44 x0 x4).f0) ((rd_T44 x0 x4).f1) ((rd_T44 x0 x4).f2) ((rd_T44 x0 x4).f3) ((rd_T44 x0 x4).f4.f0) ((rd_T44 x0 x4).f4.f1) ((rd_T44 x0 x4).f4.f2) ((rd_T44 x0 x4).f4.f3) ((rd_T44 x0 x4).f5.f0) ((rd_T44 x0 x4).f5.f1) ((rd_T44 x0 x4).f5.f2) ((rd_T44 x0 x4).f5.f3) ((rd_T44 x0 x4).f6.f0) ((rd_T44 x0 x4).f6.f1) ((rd_T44 x0 x4).f6.f2) ((rd_T44 x0 x4).f6.f3) ((rd_T44 x0 x4).f6.f4)).bind fun bt207 => (if x4 < (x3.length : Int) then (laws_toSessionS.l0 k x0 (x3.set (x4 : Int).toNat (⟨bt207.1, bt207.2.1, bt207.2.2.1, bt207.2.2.2.1, (⟨bt207.2.2.2.2.1, bt207.2.2.2.2.2.1, bt207.2.2.2.2.2.2.1, bt207.2.2.2.2.2.2.2.1⟩ : S45), (⟨bt207.2.2.2.2.2.2.2.2.1, bt207.2.2.2.2.2.2.2.2.2.1, bt207.2.2.2.2.2.2.2.2.2.2.1, bt207.2.2.2.2.2.2.2.2.2.2.2.1⟩ : S48), (⟨bt207.2.2.2.2.2.2.2.2.2.2.2.2.1, bt207.2.2.2.2.2.2.2.2.2.2.2.2.2.1, bt207.2.2.2.2.2.2.2.2.2.2.2.2.2.2.1, bt207.2.2.2.2.2.2.2.2.2.2.2.2.2.2.2.1, bt207.2.2.2.2.2.2.2.2.2.2.2.2.2.2.2.2⟩ : S49)⟩ : S51)) (wrap64 (x4 + 1))) else (none))) else (none)) else (some x3)
def laws_toSessionS.f (k : Nat) (l0 : List (S44)) : Option ((List (S51))) := if 0 ≤ (l0.length : Int) then (if ((l0.length : Int) : Int).toNat ≤ 1066193093600 then (laws_toSessionS.l0 k l0 (List.replicate ((l0.length : Int) : Int).toNat z51) 0) else (none)) else (none)
theorem laws_toSessionS.mono_l : ∀ k, (∀ y0 y1 y2, LeO (laws_toSessionS.l0 k y0 y1 y2) (laws_toSessionS.l0 (k + 1) y0 y1 y2))
 | 0 => fun _ _ _ r h => by simp [laws_toSessionS.l0] at h
 | k + 1 => by
  have ih0 := laws_toSessionS.mono_l k
  ·intro y0 y1 y2
   unfold laws_toSessionS.l0
   repeat' first
   | (with_reducible exact ih0 _ _ _)
   | (with_reducible exact laws_toSession.mono _ _ _ _ _ _ _ _ _ _ _ _ _ _ _ _ _ _)
   | (with_reducible exact LeO.refl _)
   | (with_reducible exact LeO.none _)
   | (with_reducible refine LeO.ite ?_ ?_)
   | (with_reducible refine LeO.bind ?_ (fun _ => ?_))
   | exact ih0 _ _ _
   | exact laws_toSession.mono _ _ _ _ _ _ _ _ _ _ _ _ _ _ _ _ _ _
   | exact LeO.none _
   | refine LeO.ite ?_ ?_
   | refine LeO.bind ?_ (fun _ => ?_)
theorem laws_toSessionS.mono : ∀ a0 k, LeO (laws_toSessionS.f k a0) (laws_toSessionS.f (k + 1) a0) := by
 intro a0 k
 have ih0 := laws_toSessionS.mono_l k
 unfold laws_toSessionS.f
 repeat' first
   | (with_reducible exact ih0 _ _ _)
   | (with_reducible exact laws_toSession.mono _ _ _ _ _ _ _ _ _ _ _ _ _ _ _ _ _ _)
   | (with_reducible exact LeO.refl _)
   | (with_reducible exact LeO.none _)
   | (with_reducible refine LeO.ite ?_ ?_)
   | (with_reducible refine LeO.bind ?_ (fun _ => ?_))
   | exact ih0 _ _ _
   | exact laws_toSession.mono _ _ _ _ _ _ _ _ _ _ _ _ _ _ _ _ _ _
   | exact LeO.none _
   | refine LeO.ite ?_ ?_
   | refine LeO.bind ?_ (fun _ => ?_)
set_option maxHeartbeats 8000000 in
set_option maxRecDepth 100000 in
theorem laws_toSessionS.calls (k : Nat) (A0 : Option Addr) (c0 : Nat) (l0 : List (S44)) (r : List (S51)) (w : World) (hr0 : Kd.C k44 w A0 l0.length l0) (hc0 : l0.length ≤ c0) (h : laws_toSessionS.f k l0 = some r) :
  Calls Try.prog 6 #[.slice A0 l0.length c0] w fun e w' => ∃ v0_ : Value, e = .returned (v0_) ∧ Kd.S k51 51 w' w.heap.size (fun _ => True) v0_ r ∧ Below w.heap.size w w' := by
 have hu44 := Try.underlying44
 have hu51 := Try.underlying51
 have HR0 := Aside0.mk hr0
 have HC0 := Aside0.mk hc0
 clear hr0 hc0
 have HB := Aside0.mk (Below.refl w.heap.size w)
 have H : (if 0 ≤ (l0.length : Int) then (if ((l0.length : Int) : Int).toNat ≤ 1066193093600 then (laws_toSessionS.l0 k l0 (List.replicate ((l0.length : Int) : Int).toNat z51) 0) else (none)) else (none)) = some r := h
 clear h
 by_cases c2 : 0 ≤ (l0.length : Int)
 ·rw [if_pos c2] at H
  have c2b0 := eq_true c2
  have c2b1 : decide (0 ≤ (l0.length : Int)) = true := decide_eq_true c2
  clear c2
  by_cases c3 : ((l0.length : Int) : Int).toNat ≤ 1066193093600
  ·rw [if_pos c3] at H
   have c3b0 := eq_true c3
   have c3b1 : decide (((l0.length : Int) : Int).toNat ≤ 1066193093600) = true := decide_eq_true c3
   clear c3
   obtain ⟨y203, hy203⟩ : ∃ y_ : List (S51), y_ = (List.replicate ((l0.length : Int) : Int).toNat z51) := ⟨_, rfl⟩
   replace H : (laws_toSessionS.l0 k l0 y203 0) = some r := by first | (rw [hy203]; with_reducible exact H) | (have H2_ := (Option.bind_some _ _).symm.trans H; rw [hy203]; with_reducible exact H2_) | (have H2_ := (Option.bind_some _ _).symm.trans H; with_reducible exact H2_) | with_reducible exact H | (rw [hy203]; exact H) | exact H
   have Ny203 := Aside0.mk hy203
   clear hy203
   have H' := Aside0.mk H
   clear H
   go_enter Try.func6, Try.ntmps6
   go_wp2_with (first | ((with_reducible refine gate_dst (N := 7) rfl ?_); refine Kd.S_make k51 _ 51 rfl (N := 7) rfl 26 _ _ rfl (l0.length : Int) rfl rfl Try.underlying26 (.agg #[(.int .i64 0), (.string ⟨#[]⟩), (.string ⟨#[]⟩), (.bool false), (.int .i64 0), (.string ⟨#[]⟩), (.slice none 0 0), (.slice none 0 0), (.int .i64 0), (.string ⟨#[]⟩), (.slice none 0 0), (.slice none 0 0), (.int .i64 0), (.string ⟨#[]⟩), (.string ⟨#[]⟩), (.int .i64 0), (.slice none 0 0)]) 264 info51 rfl (by decide) (by omega) z51 (ok := fun _ => True) (okp := fun _ => True) (k51_mkM _ _ _ z51 (Kd.R_nil _ _ _ _ _) (Kd.R_nil _ _ _ _ _) (Kd.R_nil _ _ _ _ _) (Kd.R_nil _ _ _ _ _) (Kd.R_nil _ _ _ _ _) (by intro k_ h_; simp [Value.ownBlock] at h_)) (fun _ hk => hk) trivial (of_decide_eq_true (by first | (with_reducible assumption) | assumption)) (Nat.le_trans (Nat.mul_le_mul_right _ (of_decide_eq_true (by first | (with_reducible assumption) | assumption) : (l0.length : Int).toNat ≤ 1066193093600)) (by omega)) (Below.refl _ _) (Nat.le_refl _) ?_; intro v204 w4 ho5 hb hg_ hnew_; clear hg_ hnew_; (first | rw [← Ny203.out] at ho5 | (simp only [Int.reduceToNat] at ho5; rw [← Ny203.out] at ho5)); have n0_ := Aside0.mk (Kd.S_lower ho5 (below_size HB.out)); have n1_ := Aside0.mk (below_step HB.out hb); clear HB; have HO205 := n0_; have HB := n1_; clear n0_ n1_; clear hb ho5))
   go_loopg [4] k (fun kq v4 w' => ∃ (x3_1 : List (S51)) (x4_1 : Int), v4 = .int .i64 x4_1 ∧ Aside0 (laws_toSessionS.l0 kq l0 x3_1 x4_1 = some r) ∧ Aside0 (kq ≤ k) ∧ Aside0 (Kd.S k51 51 w' w.heap.size (fun _ => True) v204 x3_1) ∧ Aside0 (Below w.heap.size w w'))
   case atStart => exact ⟨(y203), (0), (by first | rfl | (simp; done) | (simp [*]; done) | (simp; exact (by intro l; cases l <;> rfl : ∀ l : List UInt8, l.isEmpty = !(l != [])) _)), H', ⟨Nat.le_refl _⟩, ⟨by (with_reducible repeat (first | apply Kd.S_alloc | apply Kd.S_drewN | apply Kd.S_drew)); exact HO205.out⟩, ⟨by repeat (first | (with_reducible first | exact HB.out | apply below_alloc | apply pw_below_drewN | apply below_drew1) | exact HB.out)⟩⟩
   case round =>
    clear H'
    try clear c2
    try clear c2b0
    try clear c2b1
    try clear p2
    try clear c3
    try clear c3b0
    try clear c3b1
    obtain ⟨x3_1, x4_1, rfl, HA, HK1, HO_3, HB⟩ := hrel
    cases gk with
    | zero => exact absurd HA.out (by simp [laws_toSessionS.l0])
    | succ k1 =>
     have H := HA.out
     clear HA
     simp only [laws_toSessionS.l0] at H
     by_cases c6 : x4_1 < (l0.length : Int)
     ·rw [if_pos c6] at H
      have c6b0 : decide (x4_1 < (l0.length : Int)) = true := decide_eq_true c6
      clear c6
      by_cases c7 : 0 ≤ x4_1
      ·rw [if_pos c7] at H
       have c7b0 : decide (0 ≤ x4_1) = true := decide_eq_true c7
       clear c7
       replace H := Option.bind_eq_some_iff.mp H
       obtain ⟨⟨t207, t208, t209, t210, t211, t212, t213, t216, t219, t220, t221, t224, t227, t228, t229, t230, t231⟩, A80, H⟩ := H
       (try set_option simprocs false in dsimp only at H)
       have A8 := Aside0.mk A80
       clear A80
       by_cases c9 : x4_1 < (x3_1.length : Int)
       ·rw [if_pos c9] at H
        have c9b0 : decide (x4_1 < (x3_1.length : Int)) = true := decide_eq_true c9
        clear c9
        obtain ⟨y234, hy234⟩ : ∃ y_ : List (S51), y_ = (x3_1.set (x4_1 : Int).toNat (⟨t207, t208, t209, t210, (⟨t211, t212, t213, t216⟩ : S45), (⟨t219, t220, t221, t224⟩ : S48), (⟨t227, t228, t229, t230, t231⟩ : S49)⟩ : S51)) := ⟨_, rfl⟩
        replace H : (laws_toSessionS.l0 k1 l0 y234 (wrap64 (x4_1 + 1))) = some r := by first | (rw [hy234]; with_reducible exact H) | (have H2_ := (Option.bind_some _ _).symm.trans H; rw [hy234]; with_reducible exact H2_) | (have H2_ := (Option.bind_some _ _).symm.trans H; with_reducible exact H2_) | with_reducible exact H | (rw [hy234]; exact H) | exact H
        have Ny234 := Aside0.mk hy234
        clear hy234
        have H' := Aside0.mk H
        clear H
        have p206 : 0 ≤ (x4_1 : Int) := of_decide_eq_true (by first | (with_reducible assumption) | assumption)
        have q206 : x4_1 < (l0.length : Int) := of_decide_eq_true (by first | (with_reducible assumption) | assumption)
        obtain ⟨ad206, A206_6, c206_6, A206_7, c206_7, A206_10, c206_10, A206_11, c206_11, A206_16, c206_16, e206, hx206_0, hx206_1, hx206_2, hx206_3, hx206_4, hx206_5, hx206_6, hx206_7, hx206_8, hx206_9, hx206_10, hx206_11, hx206_12, hx206_13, hx206_14, hx206_15, hx206_16, hl206_6, hi206_6, hl206_7, hi206_7, hl206_10, hi206_10, hl206_11, hi206_11, hl206_16, hi206_16⟩ := at_T44 HR0.out x4_1 p206 q206
        cases e206
        replace hx206_0 := (HB.out.cell (World.block_lt_of_cell? w _ hx206_0)).trans hx206_0
        replace hx206_1 := (HB.out.cell (World.block_lt_of_cell? w _ hx206_1)).trans hx206_1
        replace hx206_2 := (HB.out.cell (World.block_lt_of_cell? w _ hx206_2)).trans hx206_2
        replace hx206_3 := (HB.out.cell (World.block_lt_of_cell? w _ hx206_3)).trans hx206_3
        replace hx206_4 := (HB.out.cell (World.block_lt_of_cell? w _ hx206_4)).trans hx206_4
        replace hx206_5 := (HB.out.cell (World.block_lt_of_cell? w _ hx206_5)).trans hx206_5
        replace hx206_6 := (HB.out.cell (World.block_lt_of_cell? w _ hx206_6)).trans hx206_6
        replace hx206_7 := (HB.out.cell (World.block_lt_of_cell? w _ hx206_7)).trans hx206_7
        replace hx206_8 := (HB.out.cell (World.block_lt_of_cell? w _ hx206_8)).trans hx206_8
        replace hx206_9 := (HB.out.cell (World.block_lt_of_cell? w _ hx206_9)).trans hx206_9
        replace hx206_10 := (HB.out.cell (World.block_lt_of_cell? w _ hx206_10)).trans hx206_10
        replace hx206_11 := (HB.out.cell (World.block_lt_of_cell? w _ hx206_11)).trans hx206_11
        replace hx206_12 := (HB.out.cell (World.block_lt_of_cell? w _ hx206_12)).trans hx206_12
        replace hx206_13 := (HB.out.cell (World.block_lt_of_cell? w _ hx206_13)).trans hx206_13
        replace hx206_14 := (HB.out.cell (World.block_lt_of_cell? w _ hx206_14)).trans hx206_14
        replace hx206_15 := (HB.out.cell (World.block_lt_of_cell? w _ hx206_15)).trans hx206_15
        replace hx206_16 := (HB.out.cell (World.block_lt_of_cell? w _ hx206_16)).trans hx206_16
        have HR206_6 := Aside0.mk hi206_6
        have HC206_6 := Aside0.mk hl206_6
        clear hi206_6 hl206_6
        have HR206_7 := Aside0.mk hi206_7
        have HC206_7 := Aside0.mk hl206_7
        clear hi206_7 hl206_7
        have HR206_10 := Aside0.mk hi206_10
        have HC206_10 := Aside0.mk hl206_10
        clear hi206_10 hl206_10
        have HR206_11 := Aside0.mk hi206_11
        have HC206_11 := Aside0.mk hl206_11
        clear hi206_11 hl206_11
        have HR206_16 := Aside0.mk hi206_16
        have HC206_16 := Aside0.mk hl206_16
        clear hi206_16 hl206_16
        replace p206 := eq_true p206
        replace q206 := eq_true q206
        go_wp2_with (first | ((with_reducible refine gate_callee (f := 14) rfl ?_); refine goesL_ (some 20) rfl rfl Try.func14 (by kernel_rfl) rfl #[.agg #[.int .i64 ((rd_T44 l0 x4_1).f0), .string ((rd_T44 l0 x4_1).f1), .string ((rd_T44 l0 x4_1).f2), .bool ((rd_T44 l0 x4_1).f3), .int .i64 ((rd_T44 l0 x4_1).f4.f0), .string ((rd_T44 l0 x4_1).f4.f1), .slice A206_6 ((rd_T44 l0 x4_1).f4.f2).length c206_6, .slice A206_7 ((rd_T44 l0 x4_1).f4.f3).length c206_7, .int .i64 ((rd_T44 l0 x4_1).f5.f0), .string ((rd_T44 l0 x4_1).f5.f1), .slice A206_10 ((rd_T44 l0 x4_1).f5.f2).length c206_10, .slice A206_11 ((rd_T44 l0 x4_1).f5.f3).length c206_11, .int .i64 ((rd_T44 l0 x4_1).f6.f0), .string ((rd_T44 l0 x4_1).f6.f1), .string ((rd_T44 l0 x4_1).f6.f2), .int .i64 ((rd_T44 l0 x4_1).f6.f3), .slice A206_16 ((rd_T44 l0 x4_1).f6.f4).length c206_16]] rfl (by (try simp only [List.map_toArray, List.map_cons, List.map_nil]); first | done | rfl | (simp only [List.length_drop, List.length_take]; rfl)) ?_; (with_reducible refine (laws_toSession.calls k1 ((rd_T44 l0 x4_1).f0) ((rd_T44 l0 x4_1).f1) ((rd_T44 l0 x4_1).f2) ((rd_T44 l0 x4_1).f3) ((rd_T44 l0 x4_1).f4.f0) ((rd_T44 l0 x4_1).f4.f1) _ _ ((rd_T44 l0 x4_1).f4.f2) _ _ ((rd_T44 l0 x4_1).f4.f3) ((rd_T44 l0 x4_1).f5.f0) ((rd_T44 l0 x4_1).f5.f1) _ _ ((rd_T44 l0 x4_1).f5.f2) _ _ ((rd_T44 l0 x4_1).f5.f3) ((rd_T44 l0 x4_1).f6.f0) ((rd_T44 l0 x4_1).f6.f1) ((rd_T44 l0 x4_1).f6.f2) ((rd_T44 l0 x4_1).f6.f3) _ _ ((rd_T44 l0 x4_1).f6.f4) t207 t208 t209 t210 t211 t212 t213 t216 t219 t220 t221 t224 t227 t228 t229 t230 t231 _ ?side1 ?side2 ?side3 ?side4 ?side5 ?side6 ?side7 ?side8 ?side9 ?side10 A8.out).mono ?_); (case side1 => exact (Kd.C_below HR206_6.out HB.out)); (case side2 => exact HC206_6.out); (case side3 => exact (Kd.C_below HR206_7.out HB.out)); (case side4 => exact HC206_7.out); (case side5 => exact (Kd.C_below HR206_10.out HB.out)); (case side6 => exact HC206_10.out); (case side7 => exact (Kd.C_below HR206_11.out HB.out)); (case side8 => exact HC206_11.out); (case side9 => exact (Kd.C_below HR206_16.out HB.out)); (case side10 => exact HC206_16.out); rintro e w11 ⟨v214, v217, v222, v225, v232, rfl, ho0, ho1, ho2, ho3, ho4, hb⟩; refine ⟨_, rfl, ?_⟩; have n0_ := Aside0.mk (Kd.S_mono (Kd.S_told (Kd.S_told (Kd.S_told (Kd.S_told (Kd.S_told (Kd.S_old HO_3.out hb) (Kd.R_base ho0)) (Kd.R_base ho1)) (Kd.R_base ho2)) (Kd.R_base ho3)) (Kd.R_base ho4)) (fun _ h_ => h_.1)); have n1_ := Aside0.mk (Kd.R_lower ho0 (below_size HB.out)); have n2_ := Aside0.mk (Kd.R_lower ho1 (below_size HB.out)); have n3_ := Aside0.mk (Kd.R_lower ho2 (below_size HB.out)); have n4_ := Aside0.mk (Kd.R_lower ho3 (below_size HB.out)); have n5_ := Aside0.mk (Kd.R_lower ho4 (below_size HB.out)); have n6_ := Aside0.mk (below_step HB.out hb); clear HO_3; clear HB; have HO_3 := n0_; have HO215 := n1_; have HO218 := n2_; have HO223 := n3_; have HO226 := n4_; have HO233 := n5_; have HB := n6_; clear n0_ n1_ n2_ n3_ n4_ n5_ n6_; (try clear hb); (try clear hb2); (try clear hk); (try clear hi); (try clear ho0); (try clear ho1); (try clear ho2); (try clear ho3); (try clear ho4); have p10 : 0 ≤ (x4_1 : Int) := of_decide_eq_true (by first | (with_reducible assumption) | assumption); have q10 : (x4_1 : Int) < ((x3_1.length : Int) : Int) := of_decide_eq_true (by first | (with_reducible assumption) | assumption); obtain ⟨go10, co10, eo10, gb10, gl10, cl10, HG10⟩ := Kd.S_form HO_3.out (by omega); (first | cases eo10 | (injection eo10 with ea_ en_ ec_; (first | subst ea_ | (injection ea_ with ea_; subst ea_)); subst ec_; clear en_)); have GB10 := Aside0.mk gb10; have GG10 := Aside0.mk HG10; clear gb10 gl10 HG10; obtain ⟨_, ce10, hcl10, hM10, hcc10, hfr10, _, _⟩ := Kd.S_elem HO_3.out z51 (x4_1 : Int) p10 q10; obtain ⟨ve10_6, ve10_7, ve10_10, ve10_11, ve10_16, rfl, ge10_6, ge10_7, ge10_10, ge10_11, ge10_16⟩ := k51_openM hM10; have hx10_0 : w11.cell? ⟨go10, (x4_1 : Int).toNat * 17, none⟩ = some (.int .i64 ((rd_T51 x3_1 x4_1).f0)) := hcc10 0 _ rfl; have hx10_1 : w11.cell? ⟨go10, (x4_1 : Int).toNat * 17 + 1, none⟩ = some (.string ((rd_T51 x3_1 x4_1).f1)) := hcc10 1 _ rfl; have hx10_2 : w11.cell? ⟨go10, (x4_1 : Int).toNat * 17 + 2, none⟩ = some (.string ((rd_T51 x3_1 x4_1).f2)) := hcc10 2 _ rfl; have hx10_3 : w11.cell? ⟨go10, (x4_1 : Int).toNat * 17 + 3, none⟩ = some (.bool ((rd_T51 x3_1 x4_1).f3)) := hcc10 3 _ rfl; have hx10_4 : w11.cell? ⟨go10, (x4_1 : Int).toNat * 17 + 4, none⟩ = some (.int .i64 ((rd_T51 x3_1 x4_1).f4.f0)) := hcc10 4 _ rfl; have hx10_5 : w11.cell? ⟨go10, (x4_1 : Int).toNat * 17 + 5, none⟩ = some (.string ((rd_T51 x3_1 x4_1).f4.f1)) := hcc10 5 _ rfl; have hx10_6 : w11.cell? ⟨go10, (x4_1 : Int).toNat * 17 + 6, none⟩ = some (ve10_6) := hcc10 6 _ rfl; have hx10_7 : w11.cell? ⟨go10, (x4_1 : Int).toNat * 17 + 7, none⟩ = some (ve10_7) := hcc10 7 _ rfl; have hx10_8 : w11.cell? ⟨go10, (x4_1 : Int).toNat * 17 + 8, none⟩ = some (.int .i64 ((rd_T51 x3_1 x4_1).f5.f0)) := hcc10 8 _ rfl; have hx10_9 : w11.cell? ⟨go10, (x4_1 : Int).toNat * 17 + 9, none⟩ = some (.string ((rd_T51 x3_1 x4_1).f5.f1)) := hcc10 9 _ rfl; have hx10_10 : w11.cell? ⟨go10, (x4_1 : Int).toNat * 17 + 10, none⟩ = some (ve10_10) := hcc10 10 _ rfl; have hx10_11 : w11.cell? ⟨go10, (x4_1 : Int).toNat * 17 + 11, none⟩ = some (ve10_11) := hcc10 11 _ rfl; have hx10_12 : w11.cell? ⟨go10, (x4_1 : Int).toNat * 17 + 12, none⟩ = some (.int .i64 ((rd_T51 x3_1 x4_1).f6.f0)) := hcc10 12 _ rfl; have hx10_13 : w11.cell? ⟨go10, (x4_1 : Int).toNat * 17 + 13, none⟩ = some (.string ((rd_T51 x3_1 x4_1).f6.f1)) := hcc10 13 _ rfl; have hx10_14 : w11.cell? ⟨go10, (x4_1 : Int).toNat * 17 + 14, none⟩ = some (.string ((rd_T51 x3_1 x4_1).f6.f2)) := hcc10 14 _ rfl; have hx10_15 : w11.cell? ⟨go10, (x4_1 : Int).toNat * 17 + 15, none⟩ = some (.int .i64 ((rd_T51 x3_1 x4_1).f6.f3)) := hcc10 15 _ rfl; have hx10_16 : w11.cell? ⟨go10, (x4_1 : Int).toNat * 17 + 16, none⟩ = some (ve10_16) := hcc10 16 _ rfl; have hf10_0 : w11.frozen? ⟨go10, (x4_1 : Int).toNat * 17, none⟩ = false := hfr10 0; have hf10_1 : w11.frozen? ⟨go10, (x4_1 : Int).toNat * 17 + 1, none⟩ = false := hfr10 1; have hf10_2 : w11.frozen? ⟨go10, (x4_1 : Int).toNat * 17 + 2, none⟩ = false := hfr10 2; have hf10_3 : w11.frozen? ⟨go10, (x4_1 : Int).toNat * 17 + 3, none⟩ = false := hfr10 3; have hf10_4 : w11.frozen? ⟨go10, (x4_1 : Int).toNat * 17 + 4, none⟩ = false := hfr10 4; have hf10_5 : w11.frozen? ⟨go10, (x4_1 : Int).toNat * 17 + 5, none⟩ = false := hfr10 5; have hf10_6 : w11.frozen? ⟨go10, (x4_1 : Int).toNat * 17 + 6, none⟩ = false := hfr10 6; have hf10_7 : w11.frozen? ⟨go10, (x4_1 : Int).toNat * 17 + 7, none⟩ = false := hfr10 7; have hf10_8 : w11.frozen? ⟨go10, (x4_1 : Int).toNat * 17 + 8, none⟩ = false := hfr10 8; have hf10_9 : w11.frozen? ⟨go10, (x4_1 : Int).toNat * 17 + 9, none⟩ = false := hfr10 9; have hf10_10 : w11.frozen? ⟨go10, (x4_1 : Int).toNat * 17 + 10, none⟩ = false := hfr10 10; have hf10_11 : w11.frozen? ⟨go10, (x4_1 : Int).toNat * 17 + 11, none⟩ = false := hfr10 11; have hf10_12 : w11.frozen? ⟨go10, (x4_1 : Int).toNat * 17 + 12, none⟩ = false := hfr10 12; have hf10_13 : w11.frozen? ⟨go10, (x4_1 : Int).toNat * 17 + 13, none⟩ = false := hfr10 13; have hf10_14 : w11.frozen? ⟨go10, (x4_1 : Int).toNat * 17 + 14, none⟩ = false := hfr10 14; have hf10_15 : w11.frozen? ⟨go10, (x4_1 : Int).toNat * 17 + 15, none⟩ = false := hfr10 15; have hf10_16 : w11.frozen? ⟨go10, (x4_1 : Int).toNat * 17 + 16, none⟩ = false := hfr10 16; clear hcl10 hcc10 hfr10 hM10; replace p10 := eq_true p10; replace q10 := eq_true q10; have n_ := Aside0.mk (Kd.S_mono (ok' := (fun k_ => some k_ ≠ (v214 : Value).ownBlock ∧ some k_ ≠ (v217 : Value).ownBlock ∧ some k_ ≠ (v222 : Value).ownBlock ∧ some k_ ≠ (v225 : Value).ownBlock ∧ some k_ ≠ (v232 : Value).ownBlock)) HO_3.out (fun k_ hk => ⟨hk.1.1.1.1.2, ⟨hk.1.1.1.2, ⟨hk.1.1.2, ⟨hk.1.2, hk.2⟩⟩⟩⟩)); clear HO_3; have HO_3 := n_; clear n_; have HX12 := Aside0.mk (show Kd.S k51 51 w11 w.heap.size (fun k_ => ((fun _ => True)) k_ ∧ ¬ ((fun k_ => some k_ = (v214 : Value).ownBlock ∨ some k_ = (v217 : Value).ownBlock ∨ some k_ = (v222 : Value).ownBlock ∨ some k_ = (v225 : Value).ownBlock ∨ some k_ = (v232 : Value).ownBlock)) k_) (.slice (some ⟨go10, 0, none⟩) x3_1.length co10) x3_1 from (by (with_reducible repeat (first | apply Kd.S_alloc | apply Kd.S_drewN | apply Kd.S_drew)); exact Kd.S_mono HO_3.out (fun k_ hk => ⟨trivial, fun e_ => e_.elim (fun h_ => hk.1 h_) (fun h_ => h_.elim (fun h_ => hk.2.1 h_) (fun h_ => h_.elim (fun h_ => hk.2.2.1 h_) (fun h_ => h_.elim (fun h_ => hk.2.2.2.1 h_) (fun h_ => hk.2.2.2.2 h_))))⟩))); obtain ⟨oki12, ce12, hcl12, hM12, hcc12, hfr12, hoki12, hH12⟩ := Kd.S_elem HX12.out z51 (x4_1 : Int) (of_decide_eq_true (by first | (with_reducible assumption) | assumption)) (by have h_ : (x4_1 : Int) < ((x3_1.length : Int) : Int) := of_decide_eq_true (by first | (with_reducible assumption) | assumption); first | exact h_ | (have e_ := (Kd.S_reads' HO_3.out).1; omega) | simpa using h_); obtain ⟨ve12_6, ve12_7, ve12_10, ve12_11, ve12_16, rfl, ge12_6, ge12_7, ge12_10, ge12_11, ge12_16⟩ := k51_openM hM12; have HP12 := Kd.S_seg hH12 (of_decide_eq_true (by first | (with_reducible assumption) | assumption)) (by have h_ : (x4_1 : Int) < ((x3_1.length : Int) : Int) := of_decide_eq_true (by first | (with_reducible assumption) | assumption); first | exact h_ | (have e_ := (Kd.S_reads' HO_3.out).1; omega) | simpa using h_) (seg := [.int .i64 t207, .string t208, .string t209, .bool t210, .int .i64 t211, .string t212, v214, v217, .int .i64 t219, .string t220, v222, v225, .int .i64 t227, .string t228, .string t229, .int .i64 t230, v232]) (j := 0) (show 17 ≤ 17 from by decide) (x' := (⟨t207, t208, t209, t210, (⟨t211, t212, t213, t216⟩ : S45), (⟨t219, t220, t221, t224⟩ : S48), (⟨t227, t228, t229, t230, t231⟩ : S49)⟩ : S51)) (k51_mkM _ _ _ (⟨t207, t208, t209, t210, (⟨t211, t212, t213, t216⟩ : S45), (⟨t219, t220, t221, t224⟩ : S48), (⟨t227, t228, t229, t230, t231⟩ : S49)⟩ : S51) (Kd.R_mono (Kd.R_tight rfl (Kd.R_mono (ok' := fun k_ => ((fun _ => True)) k_ ∧ k_ ≠ go10) (Kd.R_apart' (HO215.out) (Kd.S_typed HO_3.out) (by decide)) (fun k_ hk => ⟨trivial, fun e_ => (hk.2) (by rw [e_]; rfl)⟩))) (fun _ h_ => Or.inr (Or.inl h_))) (Kd.R_mono (Kd.R_tight rfl (Kd.R_mono (ok' := fun k_ => ((fun _ => True)) k_ ∧ k_ ≠ go10) (Kd.R_apart' (HO218.out) (Kd.S_typed HO_3.out) (by decide)) (fun k_ hk => ⟨trivial, fun e_ => (hk.2) (by rw [e_]; rfl)⟩))) (fun _ h_ => Or.inr (Or.inr (Or.inl h_)))) (Kd.R_mono (Kd.R_tight rfl (Kd.R_mono (ok' := fun k_ => ((fun _ => True)) k_ ∧ k_ ≠ go10) (Kd.R_apart' (HO223.out) (Kd.S_typed HO_3.out) (by decide)) (fun k_ hk => ⟨trivial, fun e_ => (hk.2) (by rw [e_]; rfl)⟩))) (fun _ h_ => Or.inr (Or.inr (Or.inr (Or.inl h_))))) (Kd.R_mono (Kd.R_tight rfl (Kd.R_mono (ok' := fun k_ => ((fun _ => True)) k_ ∧ k_ ≠ go10) (Kd.R_apart' (HO226.out) (Kd.S_typed HO_3.out) (by decide)) (fun k_ hk => ⟨trivial, fun e_ => (hk.2) (by rw [e_]; rfl)⟩))) (fun _ h_ => Or.inr (Or.inr (Or.inr (Or.inr (Or.inl h_)))))) (Kd.R_mono (Kd.R_tight rfl (Kd.R_mono (ok' := fun k_ => ((fun _ => True)) k_ ∧ k_ ≠ go10) (Kd.R_apart' (HO233.out) (Kd.S_typed HO_3.out) (by decide)) (fun k_ hk => ⟨trivial, fun e_ => (hk.2) (by rw [e_]; rfl)⟩))) (fun _ h_ => Or.inr (Or.inr (Or.inr (Or.inr (Or.inr (h_))))))) (fun k_ h_ h2_ => (HO218.out.1 k_ h2_) h_.symm)) (fun _ hk => hk) (fun k_ hk_ => hk_.elim (fun h_ => ((Kd.R_mono (ok' := fun k_ => ((fun _ => True)) k_ ∧ k_ ≠ go10) (Kd.R_apart' (HO215.out) (Kd.S_typed HO_3.out) (by decide)) (fun k_ hk => ⟨trivial, fun e_ => (hk.2) (by rw [e_]; rfl)⟩))).1 k_ h_.symm) (fun h_ => h_.elim (fun h_ => ((Kd.R_mono (ok' := fun k_ => ((fun _ => True)) k_ ∧ k_ ≠ go10) (Kd.R_apart' (HO218.out) (Kd.S_typed HO_3.out) (by decide)) (fun k_ hk => ⟨trivial, fun e_ => (hk.2) (by rw [e_]; rfl)⟩))).1 k_ h_.symm) (fun h_ => h_.elim (fun h_ => ((Kd.R_mono (ok' := fun k_ => ((fun _ => True)) k_ ∧ k_ ≠ go10) (Kd.R_apart' (HO223.out) (Kd.S_typed HO_3.out) (by decide)) (fun k_ hk => ⟨trivial, fun e_ => (hk.2) (by rw [e_]; rfl)⟩))).1 k_ h_.symm) (fun h_ => h_.elim (fun h_ => ((Kd.R_mono (ok' := fun k_ => ((fun _ => True)) k_ ∧ k_ ≠ go10) (Kd.R_apart' (HO226.out) (Kd.S_typed HO_3.out) (by decide)) (fun k_ hk => ⟨trivial, fun e_ => (hk.2) (by rw [e_]; rfl)⟩))).1 k_ h_.symm) (fun h_ => ((Kd.R_mono (ok' := fun k_ => ((fun _ => True)) k_ ∧ k_ ≠ go10) (Kd.R_apart' (HO233.out) (Kd.S_typed HO_3.out) (by decide)) (fun k_ hk => ⟨trivial, fun e_ => (hk.2) (by rw [e_]; rfl)⟩))).1 k_ h_.symm))))); have hx12_0 := hcc12 0 _ rfl; (try simp only [show (k51).sz = 17 from rfl, Nat.mul_one, Nat.add_zero] at hx12_0); have hf12_0 := hfr12 0; (try simp only [show (k51).sz = 17 from rfl, Nat.mul_one, Nat.add_zero] at hf12_0); have hx12_1 := hcc12 1 _ rfl; (try simp only [show (k51).sz = 17 from rfl, Nat.mul_one, Nat.add_zero] at hx12_1); have hf12_1 := hfr12 1; (try simp only [show (k51).sz = 17 from rfl, Nat.mul_one, Nat.add_zero] at hf12_1); have hx12_2 := hcc12 2 _ rfl; (try simp only [show (k51).sz = 17 from rfl, Nat.mul_one, Nat.add_zero] at hx12_2); have hf12_2 := hfr12 2; (try simp only [show (k51).sz = 17 from rfl, Nat.mul_one, Nat.add_zero] at hf12_2); have hx12_3 := hcc12 3 _ rfl; (try simp only [show (k51).sz = 17 from rfl, Nat.mul_one, Nat.add_zero] at hx12_3); have hf12_3 := hfr12 3; (try simp only [show (k51).sz = 17 from rfl, Nat.mul_one, Nat.add_zero] at hf12_3); have hx12_4 := hcc12 4 _ rfl; (try simp only [show (k51).sz = 17 from rfl, Nat.mul_one, Nat.add_zero] at hx12_4); have hf12_4 := hfr12 4; (try simp only [show (k51).sz = 17 from rfl, Nat.mul_one, Nat.add_zero] at hf12_4); have hx12_5 := hcc12 5 _ rfl; (try simp only [show (k51).sz = 17 from rfl, Nat.mul_one, Nat.add_zero] at hx12_5); have hf12_5 := hfr12 5; (try simp only [show (k51).sz = 17 from rfl, Nat.mul_one, Nat.add_zero] at hf12_5); have hx12_6 := hcc12 6 _ rfl; (try simp only [show (k51).sz = 17 from rfl, Nat.mul_one, Nat.add_zero] at hx12_6); have hf12_6 := hfr12 6; (try simp only [show (k51).sz = 17 from rfl, Nat.mul_one, Nat.add_zero] at hf12_6); have hx12_7 := hcc12 7 _ rfl; (try simp only [show (k51).sz = 17 from rfl, Nat.mul_one, Nat.add_zero] at hx12_7); have hf12_7 := hfr12 7; (try simp only [show (k51).sz = 17 from rfl, Nat.mul_one, Nat.add_zero] at hf12_7); have hx12_8 := hcc12 8 _ rfl; (try simp only [show (k51).sz = 17 from rfl, Nat.mul_one, Nat.add_zero] at hx12_8); have hf12_8 := hfr12 8; (try simp only [show (k51).sz = 17 from rfl, Nat.mul_one, Nat.add_zero] at hf12_8); have hx12_9 := hcc12 9 _ rfl; (try simp only [show (k51).sz = 17 from rfl, Nat.mul_one, Nat.add_zero] at hx12_9); have hf12_9 := hfr12 9; (try simp only [show (k51).sz = 17 from rfl, Nat.mul_one, Nat.add_zero] at hf12_9); have hx12_10 := hcc12 10 _ rfl; (try simp only [show (k51).sz = 17 from rfl, Nat.mul_one, Nat.add_zero] at hx12_10); have hf12_10 := hfr12 10; (try simp only [show (k51).sz = 17 from rfl, Nat.mul_one, Nat.add_zero] at hf12_10); have hx12_11 := hcc12 11 _ rfl; (try simp only [show (k51).sz = 17 from rfl, Nat.mul_one, Nat.add_zero] at hx12_11); have hf12_11 := hfr12 11; (try simp only [show (k51).sz = 17 from rfl, Nat.mul_one, Nat.add_zero] at hf12_11); have hx12_12 := hcc12 12 _ rfl; (try simp only [show (k51).sz = 17 from rfl, Nat.mul_one, Nat.add_zero] at hx12_12); have hf12_12 := hfr12 12; (try simp only [show (k51).sz = 17 from rfl, Nat.mul_one, Nat.add_zero] at hf12_12); have hx12_13 := hcc12 13 _ rfl; (try simp only [show (k51).sz = 17 from rfl, Nat.mul_one, Nat.add_zero] at hx12_13); have hf12_13 := hfr12 13; (try simp only [show (k51).sz = 17 from rfl, Nat.mul_one, Nat.add_zero] at hf12_13); have hx12_14 := hcc12 14 _ rfl; (try simp only [show (k51).sz = 17 from rfl, Nat.mul_one, Nat.add_zero] at hx12_14); have hf12_14 := hfr12 14; (try simp only [show (k51).sz = 17 from rfl, Nat.mul_one, Nat.add_zero] at hf12_14); have hx12_15 := hcc12 15 _ rfl; (try simp only [show (k51).sz = 17 from rfl, Nat.mul_one, Nat.add_zero] at hx12_15); have hf12_15 := hfr12 15; (try simp only [show (k51).sz = 17 from rfl, Nat.mul_one, Nat.add_zero] at hf12_15); have hx12_16 := hcc12 16 _ rfl; (try simp only [show (k51).sz = 17 from rfl, Nat.mul_one, Nat.add_zero] at hx12_16); have hf12_16 := hfr12 16; (try simp only [show (k51).sz = 17 from rfl, Nat.mul_one, Nat.add_zero] at hf12_16); clear hcl12 hcc12 hfr12 hM12 hoki12 hH12) | ((with_reducible refine gate_store (t := 51) (p := 21) rfl ?_); have hst_v214 := store_one (P := Try.prog) (Kd.R_val HO215.out).2; have hst_v217 := store_one (P := Try.prog) (Kd.R_val HO218.out).2; have hst_v222 := store_one (P := Try.prog) (Kd.R_val HO223.out).2; have hst_v225 := store_one (P := Try.prog) (Kd.R_val HO226.out).2; have hst_v232 := store_one (P := Try.prog) (Kd.R_val HO233.out).2; refine store_event (t := 51) (p := 21) (v := ?vo_w13) (w1 := (((((((((((((((((w11.setCell ⟨go10, (x4_1 : Int).toNat * 17, none⟩ (.int .i64 t207)).setCell ⟨go10, (x4_1 : Int).toNat * 17 + 1, none⟩ (.string t208)).setCell ⟨go10, (x4_1 : Int).toNat * 17 + 2, none⟩ (.string t209)).setCell ⟨go10, (x4_1 : Int).toNat * 17 + 3, none⟩ (.bool t210)).setCell ⟨go10, (x4_1 : Int).toNat * 17 + 4, none⟩ (.int .i64 t211)).setCell ⟨go10, (x4_1 : Int).toNat * 17 + 5, none⟩ (.string t212)).setCell ⟨go10, (x4_1 : Int).toNat * 17 + 6, none⟩ (v214)).setCell ⟨go10, (x4_1 : Int).toNat * 17 + 7, none⟩ (v217)).setCell ⟨go10, (x4_1 : Int).toNat * 17 + 8, none⟩ (.int .i64 t219)).setCell ⟨go10, (x4_1 : Int).toNat * 17 + 9, none⟩ (.string t220)).setCell ⟨go10, (x4_1 : Int).toNat * 17 + 10, none⟩ (v222)).setCell ⟨go10, (x4_1 : Int).toNat * 17 + 11, none⟩ (v225)).setCell ⟨go10, (x4_1 : Int).toNat * 17 + 12, none⟩ (.int .i64 t227)).setCell ⟨go10, (x4_1 : Int).toNat * 17 + 13, none⟩ (.string t228)).setCell ⟨go10, (x4_1 : Int).toNat * 17 + 14, none⟩ (.string t229)).setCell ⟨go10, (x4_1 : Int).toNat * 17 + 15, none⟩ (.int .i64 t230)).setCell ⟨go10, (x4_1 : Int).toNat * 17 + 16, none⟩ (v232))) ?hg ?ho ?hn ?hr ?_; (case ho => rfl); (case hg => rfl); (case hn => rfl); (case hr => first | (go_simp; done) | (go_simp; rfl)); intro w13 hw; have hg : w11.grownBy w13 (some go10) := (by rw [hw]; exact HP12.2); have hp_ : Kd.S k51 51 w13 w.heap.size (fun _ => True) (.slice (some ⟨go10, 0, none⟩) x3_1.length co10) y234 := (by rw [hw, Ny234.out]; exact HP12.1); clear HP12; have n0_ := Aside0.mk (hp_); have n1_ := Aside0.mk ((by rw [hw]; exact below_set (below_set (below_set (below_set (below_set (below_set (below_set (below_set (below_set (below_set (below_set (below_set (below_set (below_set (below_set (below_set (below_set (HB.out) GB10.out) GB10.out) GB10.out) GB10.out) GB10.out) GB10.out) GB10.out) GB10.out) GB10.out) GB10.out) GB10.out) GB10.out) GB10.out) GB10.out) GB10.out) GB10.out) GB10.out : Below w.heap.size w w13)); clear HO_3; clear HB; clear HO215; clear HO218; clear HO223; clear HO226; clear HO233; have HO_3 := n0_; have HB := n1_; clear n0_ n1_; clear hg hw hp_))
        go_roundg k1
        case measure => have := HK1.out; omega
        case rel => exact ⟨(y234), (wrap64 (x4_1 + 1)), (by first | rfl | (simp; done) | (simp [*]; done) | (simp; exact (by intro l; cases l <;> rfl : ∀ l : List UInt8, l.isEmpty = !(l != [])) _)), H', ⟨by have := HK1.out; omega⟩, ⟨by (with_reducible repeat (first | apply Kd.S_alloc | apply Kd.S_drewN | apply Kd.S_drew)); exact HO_3.out⟩, ⟨by repeat (first | (with_reducible first | exact HB.out | apply below_alloc | apply pw_below_drewN | apply below_drew1) | exact HB.out)⟩⟩
       ·rw [if_neg c9] at H
        exact absurd H (by simp)
      ·rw [if_neg c7] at H
       exact absurd H (by simp)
     ·rw [if_neg c6] at H
      have c6b0 : decide (x4_1 < (l0.length : Int)) = false := decide_eq_false c6
      clear c6
      obtain rfl := Option.some.inj H
      go_wp2
      go_ret
      exact ⟨_, by first | rfl | (simp [errW_none, errW_some] <;> rfl) | (simp [*, errW_none, errW_some] <;> rfl), by (with_reducible repeat (first | apply Kd.S_alloc | apply Kd.S_drewN | apply Kd.S_drew)); exact HO_3.out, by repeat (first | (with_reducible first | exact HB.out | apply below_alloc | apply pw_below_drewN | apply below_drew1) | exact HB.out)⟩
  ·rw [if_neg c3] at H
   exact absurd H (by simp)
 ·rw [if_neg c2] at H
  exact absurd H (by simp)

/-! ### impl_LockedBy: function 7 -/
def impl_LockedBy.l0 : Nat → Int → List ByteArray → List (S51) → Int → Int → Option (List ByteArray)
 | 0, _, _, _, _, _ => none
 | k + 1, x1, x5, x9, x10, x11 => if x11 < x10 then (if 0 ≤ x11 then (if x11 < (x9.length : Int) then (if x11 = x1 then (impl_LockedBy.l0 k x1 x5 x9 x10 (wrap64 (x11 + 1))) else (if ((rd_T51 x9 x11).f0) = 2 then (if ((rd_T51 x9 x11).f5.f0) = 2 then (if ((rd_T51 x9 x11).f3 = true) then (impl_LockedBy.l0 k x1 x5 x9 x10 (wrap64 (x11 + 1))) else (if x5.length < 8796093022208 then (impl_LockedBy.l0 k x1 (x5 ++ [(rd_T51 x9 x11).f5.f1]) x9 x10 (wrap64 (x11 + 1))) else (none))) else (impl_LockedBy.l0 k x1 x5 x9 x10 (wrap64 (x11 + 1)))) else (impl_LockedBy.l0 k x1 x5 x9 x10 (wrap64 (x11 + 1))))) else (none)) else (none)) else (some x5)
def impl_LockedBy.f (k : Nat) (l0 : List (S51)) (a1 : Int) : Option (List ByteArray) := impl_LockedBy.l0 k a1 (([] : List ByteArray)) l0 (l0.length : Int) 0
theorem impl_LockedBy.mono_l : ∀ k, (∀ y0 y1 y2 y3 y4, LeO (impl_LockedBy.l0 k y0 y1 y2 y3 y4) (impl_LockedBy.l0 (k + 1) y0 y1 y2 y3 y4))
 | 0 => fun _ _ _ _ _ r h => by simp [impl_LockedBy.l0] at h
 | k + 1 => by
  have ih0 := impl_LockedBy.mono_l k
  ·intro y0 y1 y2 y3 y4
   unfold impl_LockedBy.l0
   repeat' first
   | (with_reducible exact ih0 _ _ _ _ _)
   | (with_reducible exact LeO.refl _)
   | (with_reducible exact LeO.none _)
   | (with_reducible refine LeO.ite ?_ ?_)
   | (with_reducible refine LeO.bind ?_ (fun _ => ?_))
   | exact ih0 _ _ _ _ _
   | exact LeO.none _
   | refine LeO.ite ?_ ?_
   | refine LeO.bind ?_ (fun _ => ?_)
theorem impl_LockedBy.mono : ∀ a0 a1 k, LeO (impl_LockedBy.f k a0 a1) (impl_LockedBy.f (k + 1) a0 a1) := by
 intro a0 a1 k
 have ih0 := impl_LockedBy.mono_l k
 unfold impl_LockedBy.f
 repeat' first
   | (with_reducible exact ih0 _ _ _ _ _)
   | (with_reducible exact LeO.refl _)
   | (with_reducible exact LeO.none _)
   | (with_reducible refine LeO.ite ?_ ?_)
   | (with_reducible refine LeO.bind ?_ (fun _ => ?_))
   | exact ih0 _ _ _ _ _
   | exact LeO.none _
   | refine LeO.ite ?_ ?_
   | refine LeO.bind ?_ (fun _ => ?_)
set_option maxHeartbeats 8000000 in
set_option maxRecDepth 100000 in
theorem impl_LockedBy.calls (k : Nat) (A0 : Option Addr) (c0 : Nat) (l0 : List (S51)) (a1 : Int) (r : List ByteArray) (w : World) (hr0 : Kd.C k51 w A0 l0.length l0) (hc0 : l0.length ≤ c0) (h : impl_LockedBy.f k l0 a1 = some r) :
  Calls Try.prog 7 #[.slice A0 l0.length c0, .int .i64 a1] w fun e w' => ∃ v0_ : Value, e = .returned (v0_) ∧ Kd.R Kd.string 9 w' w.heap.size (fun _ => True) v0_ r ∧ Below w.heap.size w w' := by
 have hu51 := Try.underlying51
 have HR0 := Aside0.mk hr0
 have HC0 := Aside0.mk hc0
 clear hr0 hc0
 have HB := Aside0.mk (Below.refl w.heap.size w)
 have H : (impl_LockedBy.l0 k a1 (([] : List ByteArray)) l0 (l0.length : Int) 0) = some r := h
 clear h
 obtain ⟨y235, hy235⟩ : ∃ y_ : List ByteArray, y_ = (([] : List ByteArray)) := ⟨_, rfl⟩
 replace H : (impl_LockedBy.l0 k a1 y235 l0 (l0.length : Int) 0) = some r := by first | (rw [hy235]; with_reducible exact H) | (have H2_ := (Option.bind_some _ _).symm.trans H; rw [hy235]; with_reducible exact H2_) | (have H2_ := (Option.bind_some _ _).symm.trans H; with_reducible exact H2_) | with_reducible exact H | (rw [hy235]; exact H) | exact H
 have Ny235 := Aside0.mk hy235
 clear hy235
 have H' := Aside0.mk H
 clear H
 go_enter Try.func7, Try.ntmps7
 go_wp2_with (first | ((with_reducible refine gate_dst (N := 8) rfl ?_); refine Kd.R_lit Kd.string _ 9 ?hg (N := 8) ?hd (xs := ([] : List ByteArray)) (inner := []) (ok := fun _ => True) (okp := fun _ => True) ?hr ?hp (fun _ hk => hk) trivial (Below.refl _ _) (Nat.le_refl _) (by simp) ?_; (case hd => rfl); (case hg => rfl); (case hr => first | (go_simp; done) | (go_simp; rfl)); (case hp => exact (Reps.none _ _)); intro v236 w3 ho4 hb hg_ hnew_; clear hg_ hnew_; (first | rw [← Ny235.out] at ho4 | (simp only [Int.reduceToNat] at ho4; rw [← Ny235.out] at ho4)); have n0_ := Aside0.mk (Kd.R_lower ho4 (below_size HB.out)); have n1_ := Aside0.mk (below_step HB.out hb); clear HB; have HO237 := n0_; have HB := n1_; clear n0_ n1_; clear hb ho4))
 go_loopg [5, 11] k (fun kq v5 v11 w' => ∃ (x5_1 : List ByteArray) (x11_1 : Int), v11 = .int .i64 x11_1 ∧ Aside0 (impl_LockedBy.l0 kq a1 x5_1 l0 (l0.length : Int) x11_1 = some r) ∧ Aside0 (kq ≤ k) ∧ Aside0 (Kd.R Kd.string 9 w' w.heap.size (fun _ => True) v5 x5_1) ∧ Aside0 (Below w.heap.size w w'))
 case atStart => exact ⟨(y235), (0), (by first | rfl | (simp; done) | (simp [*]; done) | (simp; exact (by intro l; cases l <;> rfl : ∀ l : List UInt8, l.isEmpty = !(l != [])) _)), H', ⟨Nat.le_refl _⟩, ⟨by (with_reducible repeat (first | apply Kd.R_alloc | apply Kd.R_drewN | apply Kd.R_drew)); exact HO237.out⟩, ⟨by repeat (first | (with_reducible first | exact HB.out | apply below_alloc | apply pw_below_drewN | apply below_drew1) | exact HB.out)⟩⟩
 case round =>
  clear H'
  try clear p2
  obtain ⟨x5_1, x11_1, rfl, HA, HK1, HO_5, HB⟩ := hrel
  cases gk with
  | zero => exact absurd HA.out (by simp [impl_LockedBy.l0])
  | succ k1 =>
   have H := HA.out
   clear HA
   simp only [impl_LockedBy.l0] at H
   by_cases c5 : x11_1 < (l0.length : Int)
   ·rw [if_pos c5] at H
    have c5b0 : decide (x11_1 < (l0.length : Int)) = true := decide_eq_true c5
    clear c5
    by_cases c6 : 0 ≤ x11_1
    ·rw [if_pos c6] at H
     have c6b0 : decide (0 ≤ x11_1) = true := decide_eq_true c6
     clear c6
     by_cases c7 : x11_1 < (l0.length : Int)
     ·rw [if_pos c7] at H
      have c7b0 : decide (x11_1 < (l0.length : Int)) = true := decide_eq_true c7
      clear c7
      by_cases c8 : x11_1 = a1
      ·rw [if_pos c8] at H
       have c8b0 : (x11_1 == a1) = true := beq_iff_eq.mpr c8
       have c8b1 : (x11_1 != a1) = false := bne_eq_false_iff_eq.mpr c8
       clear c8
       have H' := Aside0.mk H
       clear H
       have p238 : 0 ≤ (x11_1 : Int) := of_decide_eq_true (by first | (with_reducible assumption) | assumption)
       have q238 : x11_1 < (l0.length : Int) := of_decide_eq_true (by first | (with_reducible assumption) | assumption)
       obtain ⟨ad238, A238_6, c238_6, A238_7, c238_7, A238_10, c238_10, A238_11, c238_11, A238_16, c238_16, e238, hx238_0, hx238_1, hx238_2, hx238_3, hx238_4, hx238_5, hx238_6, hx238_7, hx238_8, hx238_9, hx238_10, hx238_11, hx238_12, hx238_13, hx238_14, hx238_15, hx238_16, hl238_6, hi238_6, hl238_7, hi238_7, hl238_10, hi238_10, hl238_11, hi238_11, hl238_16, hi238_16⟩ := at_T51 HR0.out x11_1 p238 q238
       cases e238
       replace hx238_0 := (HB.out.cell (World.block_lt_of_cell? w _ hx238_0)).trans hx238_0
       replace hx238_1 := (HB.out.cell (World.block_lt_of_cell? w _ hx238_1)).trans hx238_1
       replace hx238_2 := (HB.out.cell (World.block_lt_of_cell? w _ hx238_2)).trans hx238_2
       replace hx238_3 := (HB.out.cell (World.block_lt_of_cell? w _ hx238_3)).trans hx238_3
       replace hx238_4 := (HB.out.cell (World.block_lt_of_cell? w _ hx238_4)).trans hx238_4
       replace hx238_5 := (HB.out.cell (World.block_lt_of_cell? w _ hx238_5)).trans hx238_5
       replace hx238_6 := (HB.out.cell (World.block_lt_of_cell? w _ hx238_6)).trans hx238_6
       replace hx238_7 := (HB.out.cell (World.block_lt_of_cell? w _ hx238_7)).trans hx238_7
       replace hx238_8 := (HB.out.cell (World.block_lt_of_cell? w _ hx238_8)).trans hx238_8
       replace hx238_9 := (HB.out.cell (World.block_lt_of_cell? w _ hx238_9)).trans hx238_9
       replace hx238_10 := (HB.out.cell (World.block_lt_of_cell? w _ hx238_10)).trans hx238_10
       replace hx238_11 := (HB.out.cell (World.block_lt_of_cell? w _ hx238_11)).trans hx238_11
       replace hx238_12 := (HB.out.cell (World.block_lt_of_cell? w _ hx238_12)).trans hx238_12
       replace hx238_13 := (HB.out.cell (World.block_lt_of_cell? w _ hx238_13)).trans hx238_13
       replace hx238_14 := (HB.out.cell (World.block_lt_of_cell? w _ hx238_14)).trans hx238_14
       replace hx238_15 := (HB.out.cell (World.block_lt_of_cell? w _ hx238_15)).trans hx238_15
       replace hx238_16 := (HB.out.cell (World.block_lt_of_cell? w _ hx238_16)).trans hx238_16
       have HR238_6 := Aside0.mk hi238_6
       have HC238_6 := Aside0.mk hl238_6
       clear hi238_6 hl238_6
       have HR238_7 := Aside0.mk hi238_7
       have HC238_7 := Aside0.mk hl238_7
       clear hi238_7 hl238_7
       have HR238_10 := Aside0.mk hi238_10
       have HC238_10 := Aside0.mk hl238_10
       clear hi238_10 hl238_10
       have HR238_11 := Aside0.mk hi238_11
       have HC238_11 := Aside0.mk hl238_11
       clear hi238_11 hl238_11
       have HR238_16 := Aside0.mk hi238_16
       have HC238_16 := Aside0.mk hl238_16
       clear hi238_16 hl238_16
       replace p238 := eq_true p238
       replace q238 := eq_true q238
       clear_value *
       as_aux_lemma =>
        go_wp2_with (first | ((with_reducible refine gate_dst (N := 7) rfl ?_); refine Go.Proofs.YtmneclmdlbihcaaR.box_full_mid ?hg ?hgm ?hg2 (N := 7) ?hd ?hd2 (t := 51) (v := ?vof7) ?ho (cs := #[.int .i64 0, .string (⟨#[]⟩ : ByteArray), .string (⟨#[]⟩ : ByteArray), .bool false, .int .i64 0, .string (⟨#[]⟩ : ByteArray), .slice none 0 0, .slice none 0 0, .int .i64 0, .string (⟨#[]⟩ : ByteArray), .slice none 0 0, .slice none 0 0, .int .i64 0, .string (⟨#[]⟩ : ByteArray), .string (⟨#[]⟩ : ByteArray), .int .i64 0, .slice none 0 0]) (cells := #[.int .i64 ((rd_T51 l0 x11_1).f0), .string ((rd_T51 l0 x11_1).f1), .string ((rd_T51 l0 x11_1).f2), .bool ((rd_T51 l0 x11_1).f3), .int .i64 ((rd_T51 l0 x11_1).f4.f0), .string ((rd_T51 l0 x11_1).f4.f1), .slice A238_6 ((rd_T51 l0 x11_1).f4.f2).length c238_6, .slice A238_7 ((rd_T51 l0 x11_1).f4.f3).length c238_7, .int .i64 ((rd_T51 l0 x11_1).f5.f0), .string ((rd_T51 l0 x11_1).f5.f1), .slice A238_10 ((rd_T51 l0 x11_1).f5.f2).length c238_10, .slice A238_11 ((rd_T51 l0 x11_1).f5.f3).length c238_11, .int .i64 ((rd_T51 l0 x11_1).f6.f0), .string ((rd_T51 l0 x11_1).f6.f1), .string ((rd_T51 l0 x11_1).f6.f2), .int .i64 ((rd_T51 l0 x11_1).f6.f3), .slice A238_16 ((rd_T51 l0 x11_1).f6.f4).length c238_16]) (.int .i64 x11_1) ?hi ?hs ?h1 ?hr ?hrm ?hx ?hv ?_; (case hd => rfl); (case hd2 => rfl); (case ho => rfl); (case hg => rfl); (case hgm => rfl); (case hg2 => rfl); (case hi => kernel_rfl); (case hs => rfl); (case h1 => first | kernel_rfl | rfl); (case hrm => intro p_ w_; first | rfl | (go_simp; done) | (go_simp; rfl)); (case hx => intro p_; first | rfl | (go_simp; done) | (go_simp; rfl)); (case hv => intro p_; first | rfl | (go_simp; done) | (go_simp; rfl)); (case hr => first | (go_simp; done) | (go_simp; rfl)); intro gb239 hg w10 hbox hb; have n0_ := Aside0.mk (Kd.R_below HO_5.out hb); have n1_ := Aside0.mk (below_step HB.out hb); have n2_ := Aside0.mk (hbox); have n3_ := Aside0.mk ((by rw [hg]; exact (below_size HB.out) : w.heap.size ≤ gb239)); have n4_ := Aside0.mk ((by rw [hg]; exact (below_size HB.out) : w.heap.size ≤ gb239)); clear HO_5; clear HB; have HO_5 := n0_; have HB := n1_; have BK239 := n2_; have GW239 := n3_; have GE239 := n4_; clear n0_ n1_ n2_ n3_ n4_; clear hb hbox hg))
        go_roundg k1
        case measure => have := HK1.out; omega
        case rel => exact ⟨(x5_1), (wrap64 (x11_1 + 1)), (by first | rfl | (simp; done) | (simp [*]; done) | (simp; exact (by intro l; cases l <;> rfl : ∀ l : List UInt8, l.isEmpty = !(l != [])) _)), H', ⟨by have := HK1.out; omega⟩, ⟨by (with_reducible repeat (first | apply Kd.R_alloc | apply Kd.R_drewN | apply Kd.R_drew)); exact HO_5.out⟩, ⟨by repeat (first | (with_reducible first | exact HB.out | apply below_alloc | apply pw_below_drewN | apply below_drew1 | refine below_set ?_ GE239.out) | exact HB.out)⟩⟩
      ·rw [if_neg c8] at H
       have c8b0 : (x11_1 == a1) = false := beq_eq_false_iff_ne.mpr c8
       have c8b1 : (x11_1 != a1) = true := bne_iff_ne.mpr c8
       by_cases c11 : ((rd_T51 l0 x11_1).f0) = 2
       ·rw [if_pos c11] at H
        have c11b0 : (((rd_T51 l0 x11_1).f0) == 2) = true := beq_iff_eq.mpr c11
        have c11b1 : (((rd_T51 l0 x11_1).f0) != 2) = false := bne_eq_false_iff_eq.mpr c11
        clear c11
        by_cases c12 : ((rd_T51 l0 x11_1).f5.f0) = 2
        ·rw [if_pos c12] at H
         have c12b0 : (((rd_T51 l0 x11_1).f5.f0) == 2) = true := beq_iff_eq.mpr c12
         have c12b1 : (((rd_T51 l0 x11_1).f5.f0) != 2) = false := bne_eq_false_iff_eq.mpr c12
         clear c12
         obtain ⟨bq13, hbq13⟩ : ∃ b_ : Bool, b_ = ((rd_T51 l0 x11_1).f3) := ⟨_, rfl⟩
         replace H : (if (bq13 = true) then (impl_LockedBy.l0 k1 a1 x5_1 l0 (l0.length : Int) (wrap64 (x11_1 + 1))) else (if x5_1.length < 8796093022208 then (impl_LockedBy.l0 k1 a1 (x5_1 ++ [(rd_T51 l0 x11_1).f5.f1]) l0 (l0.length : Int) (wrap64 (x11_1 + 1))) else (none))) = some r := by rw [← hbq13] at H; exact H
         have Nbq13 := Aside0.mk hbq13
         clear hbq13
         by_cases c14 : (bq13 = true)
         ·subst c14
          (try rw [if_pos rfl] at H)
          have H' := Aside0.mk H
          clear H
          have p238 : 0 ≤ (x11_1 : Int) := of_decide_eq_true (by first | (with_reducible assumption) | assumption)
          have q238 : x11_1 < (l0.length : Int) := of_decide_eq_true (by first | (with_reducible assumption) | assumption)
          obtain ⟨ad238, A238_6, c238_6, A238_7, c238_7, A238_10, c238_10, A238_11, c238_11, A238_16, c238_16, e238, hx238_0, hx238_1, hx238_2, hx238_3, hx238_4, hx238_5, hx238_6, hx238_7, hx238_8, hx238_9, hx238_10, hx238_11, hx238_12, hx238_13, hx238_14, hx238_15, hx238_16, hl238_6, hi238_6, hl238_7, hi238_7, hl238_10, hi238_10, hl238_11, hi238_11, hl238_16, hi238_16⟩ := at_T51 HR0.out x11_1 p238 q238
          (try rw [← Nbq13.out] at hx238_3)
          cases e238
          replace hx238_0 := (HB.out.cell (World.block_lt_of_cell? w _ hx238_0)).trans hx238_0
          replace hx238_1 := (HB.out.cell (World.block_lt_of_cell? w _ hx238_1)).trans hx238_1
          replace hx238_2 := (HB.out.cell (World.block_lt_of_cell? w _ hx238_2)).trans hx238_2
          replace hx238_3 := (HB.out.cell (World.block_lt_of_cell? w _ hx238_3)).trans hx238_3
          replace hx238_4 := (HB.out.cell (World.block_lt_of_cell? w _ hx238_4)).trans hx238_4
          replace hx238_5 := (HB.out.cell (World.block_lt_of_cell? w _ hx238_5)).trans hx238_5
          replace hx238_6 := (HB.out.cell (World.block_lt_of_cell? w _ hx238_6)).trans hx238_6
          replace hx238_7 := (HB.out.cell (World.block_lt_of_cell? w _ hx238_7)).trans hx238_7
          replace hx238_8 := (HB.out.cell (World.block_lt_of_cell? w _ hx238_8)).trans hx238_8
          replace hx238_9 := (HB.out.cell (World.block_lt_of_cell? w _ hx238_9)).trans hx238_9
          replace hx238_10 := (HB.out.cell (World.block_lt_of_cell? w _ hx238_10)).trans hx238_10
          replace hx238_11 := (HB.out.cell (World.block_lt_of_cell? w _ hx238_11)).trans hx238_11
          replace hx238_12 := (HB.out.cell (World.block_lt_of_cell? w _ hx238_12)).trans hx238_12
          replace hx238_13 := (HB.out.cell (World.block_lt_of_cell? w _ hx238_13)).trans hx238_13
          replace hx238_14 := (HB.out.cell (World.block_lt_of_cell? w _ hx238_14)).trans hx238_14
          replace hx238_15 := (HB.out.cell (World.block_lt_of_cell? w _ hx238_15)).trans hx238_15
          replace hx238_16 := (HB.out.cell (World.block_lt_of_cell? w _ hx238_16)).trans hx238_16
          have HR238_6 := Aside0.mk hi238_6
          have HC238_6 := Aside0.mk hl238_6
          clear hi238_6 hl238_6
          have HR238_7 := Aside0.mk hi238_7
          have HC238_7 := Aside0.mk hl238_7
          clear hi238_7 hl238_7
          have HR238_10 := Aside0.mk hi238_10
          have HC238_10 := Aside0.mk hl238_10
          clear hi238_10 hl238_10
          have HR238_11 := Aside0.mk hi238_11
          have HC238_11 := Aside0.mk hl238_11
          clear hi238_11 hl238_11
          have HR238_16 := Aside0.mk hi238_16
          have HC238_16 := Aside0.mk hl238_16
          clear hi238_16 hl238_16
          replace p238 := eq_true p238
          replace q238 := eq_true q238
          clear_value *
          as_aux_lemma =>
           go_wp2_with (first | ((with_reducible refine gate_dst (N := 7) rfl ?_); refine Go.Proofs.YtmneclmdlbihcaaR.box_full_mid ?hg ?hgm ?hg2 (N := 7) ?hd ?hd2 (t := 51) (v := ?vof7) ?ho (cs := #[.int .i64 0, .string (⟨#[]⟩ : ByteArray), .string (⟨#[]⟩ : ByteArray), .bool false, .int .i64 0, .string (⟨#[]⟩ : ByteArray), .slice none 0 0, .slice none 0 0, .int .i64 0, .string (⟨#[]⟩ : ByteArray), .slice none 0 0, .slice none 0 0, .int .i64 0, .string (⟨#[]⟩ : ByteArray), .string (⟨#[]⟩ : ByteArray), .int .i64 0, .slice none 0 0]) (cells := #[.int .i64 ((rd_T51 l0 x11_1).f0), .string ((rd_T51 l0 x11_1).f1), .string ((rd_T51 l0 x11_1).f2), .bool true, .int .i64 ((rd_T51 l0 x11_1).f4.f0), .string ((rd_T51 l0 x11_1).f4.f1), .slice A238_6 ((rd_T51 l0 x11_1).f4.f2).length c238_6, .slice A238_7 ((rd_T51 l0 x11_1).f4.f3).length c238_7, .int .i64 ((rd_T51 l0 x11_1).f5.f0), .string ((rd_T51 l0 x11_1).f5.f1), .slice A238_10 ((rd_T51 l0 x11_1).f5.f2).length c238_10, .slice A238_11 ((rd_T51 l0 x11_1).f5.f3).length c238_11, .int .i64 ((rd_T51 l0 x11_1).f6.f0), .string ((rd_T51 l0 x11_1).f6.f1), .string ((rd_T51 l0 x11_1).f6.f2), .int .i64 ((rd_T51 l0 x11_1).f6.f3), .slice A238_16 ((rd_T51 l0 x11_1).f6.f4).length c238_16]) (.int .i64 x11_1) ?hi ?hs ?h1 ?hr ?hrm ?hx ?hv ?_; (case hd => rfl); (case hd2 => rfl); (case ho => rfl); (case hg => rfl); (case hgm => rfl); (case hg2 => rfl); (case hi => kernel_rfl); (case hs => rfl); (case h1 => first | kernel_rfl | rfl); (case hrm => intro p_ w_; first | rfl | (go_simp; done) | (go_simp; rfl)); (case hx => intro p_; first | rfl | (go_simp; done) | (go_simp; rfl)); (case hv => intro p_; first | rfl | (go_simp; done) | (go_simp; rfl)); (case hr => first | (go_simp; done) | (go_simp; rfl)); intro gb239 hg w16 hbox hb; have n0_ := Aside0.mk (Kd.R_below HO_5.out hb); have n1_ := Aside0.mk (below_step HB.out hb); have n2_ := Aside0.mk (hbox); have n3_ := Aside0.mk ((by rw [hg]; exact (below_size HB.out) : w.heap.size ≤ gb239)); have n4_ := Aside0.mk ((by rw [hg]; exact (below_size HB.out) : w.heap.size ≤ gb239)); clear HO_5; clear HB; have HO_5 := n0_; have HB := n1_; have BK239 := n2_; have GW239 := n3_; have GE239 := n4_; clear n0_ n1_ n2_ n3_ n4_; clear hb hbox hg; have hcz17 := blk_cell BK239.out; have hfz17 := blk_frozen BK239.out))
           go_roundg k1
           case measure => have := HK1.out; omega
           case rel => exact ⟨(x5_1), (wrap64 (x11_1 + 1)), (by first | rfl | (simp; done) | (simp [*]; done) | (simp; exact (by intro l; cases l <;> rfl : ∀ l : List UInt8, l.isEmpty = !(l != [])) _)), H', ⟨by have := HK1.out; omega⟩, ⟨by (with_reducible repeat (first | apply Kd.R_alloc | apply Kd.R_drewN | apply Kd.R_drew)); exact HO_5.out⟩, ⟨by repeat (first | (with_reducible first | exact HB.out | apply below_alloc | apply pw_below_drewN | apply below_drew1 | refine below_set ?_ GE239.out) | exact HB.out)⟩⟩
         ·replace c14 := Bool.eq_false_iff.mpr c14
          subst c14
          (try rw [if_neg (show ¬ (false = true) by decide)] at H)
          by_cases c18 : x5_1.length < 8796093022208
          ·rw [if_pos c18] at H
           have LMc18 := Aside0.mk c18
           clear c18
           obtain ⟨y240, hy240⟩ : ∃ y_ : List ByteArray, y_ = (x5_1 ++ [(rd_T51 l0 x11_1).f5.f1]) := ⟨_, rfl⟩
           replace H : (impl_LockedBy.l0 k1 a1 y240 l0 (l0.length : Int) (wrap64 (x11_1 + 1))) = some r := by first | (rw [hy240]; with_reducible exact H) | (have H2_ := (Option.bind_some _ _).symm.trans H; rw [hy240]; with_reducible exact H2_) | (have H2_ := (Option.bind_some _ _).symm.trans H; with_reducible exact H2_) | with_reducible exact H | (rw [hy240]; exact H) | exact H
           have Ny240 := Aside0.mk hy240
           clear hy240
           have H' := Aside0.mk H
           clear H
           have p238 : 0 ≤ (x11_1 : Int) := of_decide_eq_true (by first | (with_reducible assumption) | assumption)
           have q238 : x11_1 < (l0.length : Int) := of_decide_eq_true (by first | (with_reducible assumption) | assumption)
           obtain ⟨ad238, A238_6, c238_6, A238_7, c238_7, A238_10, c238_10, A238_11, c238_11, A238_16, c238_16, e238, hx238_0, hx238_1, hx238_2, hx238_3, hx238_4, hx238_5, hx238_6, hx238_7, hx238_8, hx238_9, hx238_10, hx238_11, hx238_12, hx238_13, hx238_14, hx238_15, hx238_16, hl238_6, hi238_6, hl238_7, hi238_7, hl238_10, hi238_10, hl238_11, hi238_11, hl238_16, hi238_16⟩ := at_T51 HR0.out x11_1 p238 q238
           (try rw [← Nbq13.out] at hx238_3)
           cases e238
           replace hx238_0 := (HB.out.cell (World.block_lt_of_cell? w _ hx238_0)).trans hx238_0
           replace hx238_1 := (HB.out.cell (World.block_lt_of_cell? w _ hx238_1)).trans hx238_1
           replace hx238_2 := (HB.out.cell (World.block_lt_of_cell? w _ hx238_2)).trans hx238_2
           replace hx238_3 := (HB.out.cell (World.block_lt_of_cell? w _ hx238_3)).trans hx238_3
           replace hx238_4 := (HB.out.cell (World.block_lt_of_cell? w _ hx238_4)).trans hx238_4
           replace hx238_5 := (HB.out.cell (World.block_lt_of_cell? w _ hx238_5)).trans hx238_5
           replace hx238_6 := (HB.out.cell (World.block_lt_of_cell? w _ hx238_6)).trans hx238_6
           replace hx238_7 := (HB.out.cell (World.block_lt_of_cell? w _ hx238_7)).trans hx238_7
           replace hx238_8 := (HB.out.cell (World.block_lt_of_cell? w _ hx238_8)).trans hx238_8
           replace hx238_9 := (HB.out.cell (World.block_lt_of_cell? w _ hx238_9)).trans hx238_9
           replace hx238_10 := (HB.out.cell (World.block_lt_of_cell? w _ hx238_10)).trans hx238_10
           replace hx238_11 := (HB.out.cell (World.block_lt_of_cell? w _ hx238_11)).trans hx238_11
           replace hx238_12 := (HB.out.cell (World.block_lt_of_cell? w _ hx238_12)).trans hx238_12
           replace hx238_13 := (HB.out.cell (World.block_lt_of_cell? w _ hx238_13)).trans hx238_13
           replace hx238_14 := (HB.out.cell (World.block_lt_of_cell? w _ hx238_14)).trans hx238_14
           replace hx238_15 := (HB.out.cell (World.block_lt_of_cell? w _ hx238_15)).trans hx238_15
           replace hx238_16 := (HB.out.cell (World.block_lt_of_cell? w _ hx238_16)).trans hx238_16
           have HR238_6 := Aside0.mk hi238_6
           have HC238_6 := Aside0.mk hl238_6
           clear hi238_6 hl238_6
           have HR238_7 := Aside0.mk hi238_7
           have HC238_7 := Aside0.mk hl238_7
           clear hi238_7 hl238_7
           have HR238_10 := Aside0.mk hi238_10
           have HC238_10 := Aside0.mk hl238_10
           clear hi238_10 hl238_10
           have HR238_11 := Aside0.mk hi238_11
           have HC238_11 := Aside0.mk hl238_11
           clear hi238_11 hl238_11
           have HR238_16 := Aside0.mk hi238_16
           have HC238_16 := Aside0.mk hl238_16
           clear hi238_16 hl238_16
           replace p238 := eq_true p238
           replace q238 := eq_true q238
           clear_value *
           as_aux_lemma =>
            go_wp2_with (first | ((with_reducible refine gate_dst (N := 7) rfl ?_); refine Go.Proofs.YtmneclmdlbihcaaR.box_full_mid ?hg ?hgm ?hg2 (N := 7) ?hd ?hd2 (t := 51) (v := ?vof7) ?ho (cs := #[.int .i64 0, .string (⟨#[]⟩ : ByteArray), .string (⟨#[]⟩ : ByteArray), .bool false, .int .i64 0, .string (⟨#[]⟩ : ByteArray), .slice none 0 0, .slice none 0 0, .int .i64 0, .string (⟨#[]⟩ : ByteArray), .slice none 0 0, .slice none 0 0, .int .i64 0, .string (⟨#[]⟩ : ByteArray), .string (⟨#[]⟩ : ByteArray), .int .i64 0, .slice none 0 0]) (cells := #[.int .i64 ((rd_T51 l0 x11_1).f0), .string ((rd_T51 l0 x11_1).f1), .string ((rd_T51 l0 x11_1).f2), .bool false, .int .i64 ((rd_T51 l0 x11_1).f4.f0), .string ((rd_T51 l0 x11_1).f4.f1), .slice A238_6 ((rd_T51 l0 x11_1).f4.f2).length c238_6, .slice A238_7 ((rd_T51 l0 x11_1).f4.f3).length c238_7, .int .i64 ((rd_T51 l0 x11_1).f5.f0), .string ((rd_T51 l0 x11_1).f5.f1), .slice A238_10 ((rd_T51 l0 x11_1).f5.f2).length c238_10, .slice A238_11 ((rd_T51 l0 x11_1).f5.f3).length c238_11, .int .i64 ((rd_T51 l0 x11_1).f6.f0), .string ((rd_T51 l0 x11_1).f6.f1), .string ((rd_T51 l0 x11_1).f6.f2), .int .i64 ((rd_T51 l0 x11_1).f6.f3), .slice A238_16 ((rd_T51 l0 x11_1).f6.f4).length c238_16]) (.int .i64 x11_1) ?hi ?hs ?h1 ?hr ?hrm ?hx ?hv ?_; (case hd => rfl); (case hd2 => rfl); (case ho => rfl); (case hg => rfl); (case hgm => rfl); (case hg2 => rfl); (case hi => kernel_rfl); (case hs => rfl); (case h1 => first | kernel_rfl | rfl); (case hrm => intro p_ w_; first | rfl | (go_simp; done) | (go_simp; rfl)); (case hx => intro p_; first | rfl | (go_simp; done) | (go_simp; rfl)); (case hv => intro p_; first | rfl | (go_simp; done) | (go_simp; rfl)); (case hr => first | (go_simp; done) | (go_simp; rfl)); intro gb239 hg w20 hbox hb; have n0_ := Aside0.mk (Kd.R_below HO_5.out hb); have n1_ := Aside0.mk (below_step HB.out hb); have n2_ := Aside0.mk (hbox); have n3_ := Aside0.mk ((by rw [hg]; exact (below_size HB.out) : w.heap.size ≤ gb239)); have n4_ := Aside0.mk ((by rw [hg]; exact (below_size HB.out) : w.heap.size ≤ gb239)); clear HO_5; clear HB; have HO_5 := n0_; have HB := n1_; have BK239 := n2_; have GW239 := n3_; have GE239 := n4_; clear n0_ n1_ n2_ n3_ n4_; clear hb hbox hg; have hcz21 := blk_cell BK239.out; have hfz21 := blk_frozen BK239.out) | ((with_reducible refine gate_builtin (b := .append) (xs := #[.tmp 35, .tmp 39]) rfl ?_); at_builtin; refine Kd.R_append Kd.string (w0 := w) w.heap.size rfl (.tmp 35) (.tmp 39) 24 9 (.string ⟨#[]⟩) 16 rfl Try.underlying24 info9 rfl (by decide) (by omega) u5 x5_1 ((rd_T51 l0 x11_1).f5.f1) [.string ((rd_T51 l0 x11_1).f5.f1)] (fun _ => True) (fun _ => False) rfl rfl ?aP (fun _ hk => hk.elim) ?aF ?aO ?aB ?aS ?aL ?_; (case aP => exact rfl); (case aB => exact HB.out); (case aF => exact (fun _ _ => trivial)); (case aO => exact HO_5.out); (case aS => exact (below_size HB.out)); (case aL => have := LMc18.out; omega); intro v241 w22 ho hb hg hat; rw [← Ny240.out] at ho; have n0_ := Aside0.mk (blk_grown (g := gb239) (o := .cells #[.int .i64 ((rd_T51 l0 x11_1).f0), .string ((rd_T51 l0 x11_1).f1), .string ((rd_T51 l0 x11_1).f2), .bool false, .int .i64 ((rd_T51 l0 x11_1).f4.f0), .string ((rd_T51 l0 x11_1).f4.f1), .slice A238_6 ((rd_T51 l0 x11_1).f4.f2).length c238_6, .slice A238_7 ((rd_T51 l0 x11_1).f4.f3).length c238_7, .int .i64 ((rd_T51 l0 x11_1).f5.f0), .string ((rd_T51 l0 x11_1).f5.f1), .slice A238_10 ((rd_T51 l0 x11_1).f5.f2).length c238_10, .slice A238_11 ((rd_T51 l0 x11_1).f5.f3).length c238_11, .int .i64 ((rd_T51 l0 x11_1).f6.f0), .string ((rd_T51 l0 x11_1).f6.f1), .string ((rd_T51 l0 x11_1).f6.f2), .int .i64 ((rd_T51 l0 x11_1).f6.f3), .slice A238_16 ((rd_T51 l0 x11_1).f6.f4).length c238_16] 51 (0, 0)) (by (with_reducible repeat (first | refine blk_drewN ?_ _ | refine blk_drew ?_ | refine blk_alloc ?_ _)); exact BK239.out) hg (Kd.R_ne HO_5.out BK239.out (by decide))); have n1_ := Aside0.mk (hb); have n2_ := Aside0.mk (ho); clear BK239; clear HB; clear HO_5; have BK239 := n0_; have HB := n1_; have HO242 := n2_; clear n0_ n1_ n2_; clear ho hb hg hat))
            go_roundg k1
            case measure => have := HK1.out; omega
            case rel => exact ⟨(y240), (wrap64 (x11_1 + 1)), (by first | rfl | (simp; done) | (simp [*]; done) | (simp; exact (by intro l; cases l <;> rfl : ∀ l : List UInt8, l.isEmpty = !(l != [])) _)), H', ⟨by have := HK1.out; omega⟩, ⟨by (with_reducible repeat (first | apply Kd.R_alloc | apply Kd.R_drewN | apply Kd.R_drew)); exact HO242.out⟩, ⟨by repeat (first | (with_reducible first | exact HB.out | apply below_alloc | apply pw_below_drewN | apply below_drew1 | refine below_set ?_ GE239.out) | exact HB.out)⟩⟩
          ·rw [if_neg c18] at H
           exact absurd H (by simp)
        ·rw [if_neg c12] at H
         have c12b0 : (((rd_T51 l0 x11_1).f5.f0) == 2) = false := beq_eq_false_iff_ne.mpr c12
         have c12b1 : (((rd_T51 l0 x11_1).f5.f0) != 2) = true := bne_iff_ne.mpr c12
         have H' := Aside0.mk H
         clear H
         have p238 : 0 ≤ (x11_1 : Int) := of_decide_eq_true (by first | (with_reducible assumption) | assumption)
         have q238 : x11_1 < (l0.length : Int) := of_decide_eq_true (by first | (with_reducible assumption) | assumption)
         obtain ⟨ad238, A238_6, c238_6, A238_7, c238_7, A238_10, c238_10, A238_11, c238_11, A238_16, c238_16, e238, hx238_0, hx238_1, hx238_2, hx238_3, hx238_4, hx238_5, hx238_6, hx238_7, hx238_8, hx238_9, hx238_10, hx238_11, hx238_12, hx238_13, hx238_14, hx238_15, hx238_16, hl238_6, hi238_6, hl238_7, hi238_7, hl238_10, hi238_10, hl238_11, hi238_11, hl238_16, hi238_16⟩ := at_T51 HR0.out x11_1 p238 q238
         cases e238
         replace hx238_0 := (HB.out.cell (World.block_lt_of_cell? w _ hx238_0)).trans hx238_0
         replace hx238_1 := (HB.out.cell (World.block_lt_of_cell? w _ hx238_1)).trans hx238_1
         replace hx238_2 := (HB.out.cell (World.block_lt_of_cell? w _ hx238_2)).trans hx238_2
         replace hx238_3 := (HB.out.cell (World.block_lt_of_cell? w _ hx238_3)).trans hx238_3
         replace hx238_4 := (HB.out.cell (World.block_lt_of_cell? w _ hx238_4)).trans hx238_4
         replace hx238_5 := (HB.out.cell (World.block_lt_of_cell? w _ hx238_5)).trans hx238_5
         replace hx238_6 := (HB.out.cell (World.block_lt_of_cell? w _ hx238_6)).trans hx238_6
         replace hx238_7 := (HB.out.cell (World.block_lt_of_cell? w _ hx238_7)).trans hx238_7
         replace hx238_8 := (HB.out.cell (World.block_lt_of_cell? w _ hx238_8)).trans hx238_8
         replace hx238_9 := (HB.out.cell (World.block_lt_of_cell? w _ hx238_9)).trans hx238_9
         replace hx238_10 := (HB.out.cell (World.block_lt_of_cell? w _ hx238_10)).trans hx238_10
         replace hx238_11 := (HB.out.cell (World.block_lt_of_cell? w _ hx238_11)).trans hx238_11
         replace hx238_12 := (HB.out.cell (World.block_lt_of_cell? w _ hx238_12)).trans hx238_12
         replace hx238_13 := (HB.out.cell (World.block_lt_of_cell? w _ hx238_13)).trans hx238_13
         replace hx238_14 := (HB.out.cell (World.block_lt_of_cell? w _ hx238_14)).trans hx238_14
         replace hx238_15 := (HB.out.cell (World.block_lt_of_cell? w _ hx238_15)).trans hx238_15
         replace hx238_16 := (HB.out.cell (World.block_lt_of_cell? w _ hx238_16)).trans hx238_16
         have HR238_6 := Aside0.mk hi238_6
         have HC238_6 := Aside0.mk hl238_6
         clear hi238_6 hl238_6
         have HR238_7 := Aside0.mk hi238_7
         have HC238_7 := Aside0.mk hl238_7
         clear hi238_7 hl238_7
         have HR238_10 := Aside0.mk hi238_10
         have HC238_10 := Aside0.mk hl238_10
         clear hi238_10 hl238_10
         have HR238_11 := Aside0.mk hi238_11
         have HC238_11 := Aside0.mk hl238_11
         clear hi238_11 hl238_11
         have HR238_16 := Aside0.mk hi238_16
         have HC238_16 := Aside0.mk hl238_16
         clear hi238_16 hl238_16
         replace p238 := eq_true p238
         replace q238 := eq_true q238
         clear_value *
         as_aux_lemma =>
          go_wp2_with (first | ((with_reducible refine gate_dst (N := 7) rfl ?_); refine Go.Proofs.YtmneclmdlbihcaaR.box_full_mid ?hg ?hgm ?hg2 (N := 7) ?hd ?hd2 (t := 51) (v := ?vof7) ?ho (cs := #[.int .i64 0, .string (⟨#[]⟩ : ByteArray), .string (⟨#[]⟩ : ByteArray), .bool false, .int .i64 0, .string (⟨#[]⟩ : ByteArray), .slice none 0 0, .slice none 0 0, .int .i64 0, .string (⟨#[]⟩ : ByteArray), .slice none 0 0, .slice none 0 0, .int .i64 0, .string (⟨#[]⟩ : ByteArray), .string (⟨#[]⟩ : ByteArray), .int .i64 0, .slice none 0 0]) (cells := #[.int .i64 ((rd_T51 l0 x11_1).f0), .string ((rd_T51 l0 x11_1).f1), .string ((rd_T51 l0 x11_1).f2), .bool ((rd_T51 l0 x11_1).f3), .int .i64 ((rd_T51 l0 x11_1).f4.f0), .string ((rd_T51 l0 x11_1).f4.f1), .slice A238_6 ((rd_T51 l0 x11_1).f4.f2).length c238_6, .slice A238_7 ((rd_T51 l0 x11_1).f4.f3).length c238_7, .int .i64 ((rd_T51 l0 x11_1).f5.f0), .string ((rd_T51 l0 x11_1).f5.f1), .slice A238_10 ((rd_T51 l0 x11_1).f5.f2).length c238_10, .slice A238_11 ((rd_T51 l0 x11_1).f5.f3).length c238_11, .int .i64 ((rd_T51 l0 x11_1).f6.f0), .string ((rd_T51 l0 x11_1).f6.f1), .string ((rd_T51 l0 x11_1).f6.f2), .int .i64 ((rd_T51 l0 x11_1).f6.f3), .slice A238_16 ((rd_T51 l0 x11_1).f6.f4).length c238_16]) (.int .i64 x11_1) ?hi ?hs ?h1 ?hr ?hrm ?hx ?hv ?_; (case hd => rfl); (case hd2 => rfl); (case ho => rfl); (case hg => rfl); (case hgm => rfl); (case hg2 => rfl); (case hi => kernel_rfl); (case hs => rfl); (case h1 => first | kernel_rfl | rfl); (case hrm => intro p_ w_; first | rfl | (go_simp; done) | (go_simp; rfl)); (case hx => intro p_; first | rfl | (go_simp; done) | (go_simp; rfl)); (case hv => intro p_; first | rfl | (go_simp; done) | (go_simp; rfl)); (case hr => first | (go_simp; done) | (go_simp; rfl)); intro gb239 hg w24 hbox hb; have n0_ := Aside0.mk (Kd.R_below HO_5.out hb); have n1_ := Aside0.mk (below_step HB.out hb); have n2_ := Aside0.mk (hbox); have n3_ := Aside0.mk ((by rw [hg]; exact (below_size HB.out) : w.heap.size ≤ gb239)); have n4_ := Aside0.mk ((by rw [hg]; exact (below_size HB.out) : w.heap.size ≤ gb239)); clear HO_5; clear HB; have HO_5 := n0_; have HB := n1_; have BK239 := n2_; have GW239 := n3_; have GE239 := n4_; clear n0_ n1_ n2_ n3_ n4_; clear hb hbox hg; have hcz25 := blk_cell BK239.out; have hfz25 := blk_frozen BK239.out))
          go_roundg k1
          case measure => have := HK1.out; omega
          case rel => exact ⟨(x5_1), (wrap64 (x11_1 + 1)), (by first | rfl | (simp; done) | (simp [*]; done) | (simp; exact (by intro l; cases l <;> rfl : ∀ l : List UInt8, l.isEmpty = !(l != [])) _)), H', ⟨by have := HK1.out; omega⟩, ⟨by (with_reducible repeat (first | apply Kd.R_alloc | apply Kd.R_drewN | apply Kd.R_drew)); exact HO_5.out⟩, ⟨by repeat (first | (with_reducible first | exact HB.out | apply below_alloc | apply pw_below_drewN | apply below_drew1 | refine below_set ?_ GE239.out) | exact HB.out)⟩⟩
       ·rw [if_neg c11] at H
        have c11b0 : (((rd_T51 l0 x11_1).f0) == 2) = false := beq_eq_false_iff_ne.mpr c11
        have c11b1 : (((rd_T51 l0 x11_1).f0) != 2) = true := bne_iff_ne.mpr c11
        have H' := Aside0.mk H
        clear H
        have p238 : 0 ≤ (x11_1 : Int) := of_decide_eq_true (by first | (with_reducible assumption) | assumption)
        have q238 : x11_1 < (l0.length : Int) := of_decide_eq_true (by first | (with_reducible assumption) | assumption)
        obtain ⟨ad238, A238_6, c238_6, A238_7, c238_7, A238_10, c238_10, A238_11, c238_11, A238_16, c238_16, e238, hx238_0, hx238_1, hx238_2, hx238_3, hx238_4, hx238_5, hx238_6, hx238_7, hx238_8, hx238_9, hx238_10, hx238_11, hx238_12, hx238_13, hx238_14, hx238_15, hx238_16, hl238_6, hi238_6, hl238_7, hi238_7, hl238_10, hi238_10, hl238_11, hi238_11, hl238_16, hi238_16⟩ := at_T51 HR0.out x11_1 p238 q238
        cases e238
        replace hx238_0 := (HB.out.cell (World.block_lt_of_cell? w _ hx238_0)).trans hx238_0
        replace hx238_1 := (HB.out.cell (World.block_lt_of_cell? w _ hx238_1)).trans hx238_1
        replace hx238_2 := (HB.out.cell (World.block_lt_of_cell? w _ hx238_2)).trans hx238_2
        replace hx238_3 := (HB.out.cell (World.block_lt_of_cell? w _ hx238_3)).trans hx238_3
        replace hx238_4 := (HB.out.cell (World.block_lt_of_cell? w _ hx238_4)).trans hx238_4
        replace hx238_5 := (HB.out.cell (World.block_lt_of_cell? w _ hx238_5)).trans hx238_5
        replace hx238_6 := (HB.out.cell (World.block_lt_of_cell? w _ hx238_6)).trans hx238_6
        replace hx238_7 := (HB.out.cell (World.block_lt_of_cell? w _ hx238_7)).trans hx238_7
        replace hx238_8 := (HB.out.cell (World.block_lt_of_cell? w _ hx238_8)).trans hx238_8
        replace hx238_9 := (HB.out.cell (World.block_lt_of_cell? w _ hx238_9)).trans hx238_9
        replace hx238_10 := (HB.out.cell (World.block_lt_of_cell? w _ hx238_10)).trans hx238_10
        replace hx238_11 := (HB.out.cell (World.block_lt_of_cell? w _ hx238_11)).trans hx238_11
        replace hx238_12 := (HB.out.cell (World.block_lt_of_cell? w _ hx238_12)).trans hx238_12
        replace hx238_13 := (HB.out.cell (World.block_lt_of_cell? w _ hx238_13)).trans hx238_13
        replace hx238_14 := (HB.out.cell (World.block_lt_of_cell? w _ hx238_14)).trans hx238_14
        replace hx238_15 := (HB.out.cell (World.block_lt_of_cell? w _ hx238_15)).trans hx238_15
        replace hx238_16 := (HB.out.cell (World.block_lt_of_cell? w _ hx238_16)).trans hx238_16
        have HR238_6 := Aside0.mk hi238_6
        have HC238_6 := Aside0.mk hl238_6
        clear hi238_6 hl238_6
        have HR238_7 := Aside0.mk hi238_7
        have HC238_7 := Aside0.mk hl238_7
        clear hi238_7 hl238_7
        have HR238_10 := Aside0.mk hi238_10
        have HC238_10 := Aside0.mk hl238_10
        clear hi238_10 hl238_10
        have HR238_11 := Aside0.mk hi238_11
        have HC238_11 := Aside0.mk hl238_11
        clear hi238_11 hl238_11
        have HR238_16 := Aside0.mk hi238_16
        have HC238_16 := Aside0.mk hl238_16
        clear hi238_16 hl238_16
        replace p238 := eq_true p238
        replace q238 := eq_true q238
        clear_value *
        as_aux_lemma =>
         go_wp2_with (first | ((with_reducible refine gate_dst (N := 7) rfl ?_); refine Go.Proofs.YtmneclmdlbihcaaR.box_full_mid ?hg ?hgm ?hg2 (N := 7) ?hd ?hd2 (t := 51) (v := ?vof7) ?ho (cs := #[.int .i64 0, .string (⟨#[]⟩ : ByteArray), .string (⟨#[]⟩ : ByteArray), .bool false, .int .i64 0, .string (⟨#[]⟩ : ByteArray), .slice none 0 0, .slice none 0 0, .int .i64 0, .string (⟨#[]⟩ : ByteArray), .slice none 0 0, .slice none 0 0, .int .i64 0, .string (⟨#[]⟩ : ByteArray), .string (⟨#[]⟩ : ByteArray), .int .i64 0, .slice none 0 0]) (cells := #[.int .i64 ((rd_T51 l0 x11_1).f0), .string ((rd_T51 l0 x11_1).f1), .string ((rd_T51 l0 x11_1).f2), .bool ((rd_T51 l0 x11_1).f3), .int .i64 ((rd_T51 l0 x11_1).f4.f0), .string ((rd_T51 l0 x11_1).f4.f1), .slice A238_6 ((rd_T51 l0 x11_1).f4.f2).length c238_6, .slice A238_7 ((rd_T51 l0 x11_1).f4.f3).length c238_7, .int .i64 ((rd_T51 l0 x11_1).f5.f0), .string ((rd_T51 l0 x11_1).f5.f1), .slice A238_10 ((rd_T51 l0 x11_1).f5.f2).length c238_10, .slice A238_11 ((rd_T51 l0 x11_1).f5.f3).length c238_11, .int .i64 ((rd_T51 l0 x11_1).f6.f0), .string ((rd_T51 l0 x11_1).f6.f1), .string ((rd_T51 l0 x11_1).f6.f2), .int .i64 ((rd_T51 l0 x11_1).f6.f3), .slice A238_16 ((rd_T51 l0 x11_1).f6.f4).length c238_16]) (.int .i64 x11_1) ?hi ?hs ?h1 ?hr ?hrm ?hx ?hv ?_; (case hd => rfl); (case hd2 => rfl); (case ho => rfl); (case hg => rfl); (case hgm => rfl); (case hg2 => rfl); (case hi => kernel_rfl); (case hs => rfl); (case h1 => first | kernel_rfl | rfl); (case hrm => intro p_ w_; first | rfl | (go_simp; done) | (go_simp; rfl)); (case hx => intro p_; first | rfl | (go_simp; done) | (go_simp; rfl)); (case hv => intro p_; first | rfl | (go_simp; done) | (go_simp; rfl)); (case hr => first | (go_simp; done) | (go_simp; rfl)); intro gb239 hg w27 hbox hb; have n0_ := Aside0.mk (Kd.R_below HO_5.out hb); have n1_ := Aside0.mk (below_step HB.out hb); have n2_ := Aside0.mk (hbox); have n3_ := Aside0.mk ((by rw [hg]; exact (below_size HB.out) : w.heap.size ≤ gb239)); have n4_ := Aside0.mk ((by rw [hg]; exact (below_size HB.out) : w.heap.size ≤ gb239)); clear HO_5; clear HB; have HO_5 := n0_; have HB := n1_; have BK239 := n2_; have GW239 := n3_; have GE239 := n4_; clear n0_ n1_ n2_ n3_ n4_; clear hb hbox hg; have hcz28 := blk_cell BK239.out; have hfz28 := blk_frozen BK239.out))
         go_roundg k1
         case measure => have := HK1.out; omega
         case rel => exact ⟨(x5_1), (wrap64 (x11_1 + 1)), (by first | rfl | (simp; done) | (simp [*]; done) | (simp; exact (by intro l; cases l <;> rfl : ∀ l : List UInt8, l.isEmpty = !(l != [])) _)), H', ⟨by have := HK1.out; omega⟩, ⟨by (with_reducible repeat (first | apply Kd.R_alloc | apply Kd.R_drewN | apply Kd.R_drew)); exact HO_5.out⟩, ⟨by repeat (first | (with_reducible first | exact HB.out | apply below_alloc | apply pw_below_drewN | apply below_drew1 | refine below_set ?_ GE239.out) | exact HB.out)⟩⟩
     ·rw [if_neg c7] at H
      exact absurd H (by simp)
    ·rw [if_neg c6] at H
     exact absurd H (by simp)
   ·rw [if_neg c5] at H
    have c5b0 : decide (x11_1 < (l0.length : Int)) = false := decide_eq_false c5
    clear c5
    obtain rfl := Option.some.inj H
    go_wp2
    go_ret
    exact ⟨_, by first | rfl | (simp [errW_none, errW_some] <;> rfl) | (simp [*, errW_none, errW_some] <;> rfl), by (with_reducible repeat (first | apply Kd.R_alloc | apply Kd.R_drewN | apply Kd.R_drew)); exact HO_5.out, by repeat (first | (with_reducible first | exact HB.out | apply below_alloc | apply pw_below_drewN | apply below_drew1) | exact HB.out)⟩

end Go.Proofs.Ytmneclmdlbihcaa.QFnExactLockedBy
