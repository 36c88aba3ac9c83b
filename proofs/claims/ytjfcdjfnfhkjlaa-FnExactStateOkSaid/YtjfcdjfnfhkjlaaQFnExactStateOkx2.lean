-- Written by a program of this session (myprint) out of Lean's own print of the translation. Lean checks it.
import Derived.Test.YtjfcdjfnfhkjlaaSteps
import Derived.Test.YtjfcdjfnfhkjlaaQFnExactStateOkx0
import Derived.Test.YtjfcdjfnfhkjlaaQFnExactStateOkx1
namespace Go.Proofs.Ytjfcdjfnfhkjlaa.QFnExactStateOk
open Go.Proofs.YtjfcdjfnfhkjlaaF
open Go.RowKit Go.Proofs.YtjfcdjfnfhkjlaaW.PrintWords Go.Proofs.YtjfcdjfnfhkjlaaW.PrintLast Go.Proofs.YtjfcdjfnfhkjlaaW.PrintMore
attribute [local go_sem] max2_int min2_int max_two min_two max_three min_three max_four min_four   -- for this text's walks alone
set_option linter.unusedVariables false
set_option linter.unusedSimpArgs false

/-! ### spec_StateOk: function 5 -/
mutual
def spec_StateOk.l0 : Nat → Int → List (S36) → Option (Bool)
 | 0, _, _ => none
 | k + 1, x3, x112000 => if x3 < (x112000.length : Int) then (if 0 ≤ x3 then ((spec_l01In.f ((rd_T36 x112000 x3).f0) 1 9999).bind fun t114 => (if t114 = true then (if x3 > 0 then (if 0 ≤ (wrap64 (x3 - 1)) then (if (wrap64 (x3 - 1)) < (x112000.length : Int) then (if ((rd_T36 x112000 (wrap64 (x3 - 1))).f0) ≥ ((rd_T36 x112000 x3).f0) then (spec_StateOk.j1 k x3 true x112000 ((rd_T36 x112000 x3).f0) ((rd_T36 x112000 x3).f1) ((rd_T36 x112000 x3).f2) ((rd_T36 x112000 x3).f3) ((rd_T36 x112000 x3).f4)) else ((spec_WordOk.f k ((rd_T36 x112000 x3).f1)).bind fun t116 => (if t116 = true then ((spec_WordOk.f k ((rd_T36 x112000 x3).f2)).bind fun t117 => (if t117 = true then ((spec_l01In.f ((rd_T36 x112000 x3).f3) 1 10000).bind fun t118 => (spec_StateOk.j1 k x3 (!t118) x112000 ((rd_T36 x112000 x3).f0) ((rd_T36 x112000 x3).f1) ((rd_T36 x112000 x3).f2) ((rd_T36 x112000 x3).f3) ((rd_T36 x112000 x3).f4))) else (spec_StateOk.j1 k x3 true x112000 ((rd_T36 x112000 x3).f0) ((rd_T36 x112000 x3).f1) ((rd_T36 x112000 x3).f2) ((rd_T36 x112000 x3).f3) ((rd_T36 x112000 x3).f4)))) else (spec_StateOk.j1 k x3 true x112000 ((rd_T36 x112000 x3).f0) ((rd_T36 x112000 x3).f1) ((rd_T36 x112000 x3).f2) ((rd_T36 x112000 x3).f3) ((rd_T36 x112000 x3).f4))))) else (none)) else (none)) else ((spec_WordOk.f k ((rd_T36 x112000 x3).f1)).bind fun t119 => (if t119 = true then ((spec_WordOk.f k ((rd_T36 x112000 x3).f2)).bind fun t120 => (if t120 = true then ((spec_l01In.f ((rd_T36 x112000 x3).f3) 1 10000).bind fun t121 => (spec_StateOk.j1 k x3 (!t121) x112000 ((rd_T36 x112000 x3).f0) ((rd_T36 x112000 x3).f1) ((rd_T36 x112000 x3).f2) ((rd_T36 x112000 x3).f3) ((rd_T36 x112000 x3).f4))) else (spec_StateOk.j1 k x3 true x112000 ((rd_T36 x112000 x3).f0) ((rd_T36 x112000 x3).f1) ((rd_T36 x112000 x3).f2) ((rd_T36 x112000 x3).f3) ((rd_T36 x112000 x3).f4)))) else (spec_StateOk.j1 k x3 true x112000 ((rd_T36 x112000 x3).f0) ((rd_T36 x112000 x3).f1) ((rd_T36 x112000 x3).f2) ((rd_T36 x112000 x3).f3) ((rd_T36 x112000 x3).f4))))) else (spec_StateOk.j1 k x3 true x112000 ((rd_T36 x112000 x3).f0) ((rd_T36 x112000 x3).f1) ((rd_T36 x112000 x3).f2) ((rd_T36 x112000 x3).f3) ((rd_T36 x112000 x3).f4)))) else (none)) else (some true)
def spec_StateOk.j1 : Nat → Int → Bool → List (S36) → Int → ByteArray → ByteArray → Int → List (S40) → Option (Bool)
 | 0, _, _, _, _, _, _, _, _ => none
 | k + 1, x3, x57, x112000, x114000, x114001, x114002, x114003, x114004 => if x57 = true then (some false) else (spec_StateOk.l1 k x3 0 x112000 x114000 x114001 x114002 x114003 x114004)
def spec_StateOk.l1 : Nat → Int → Int → List (S36) → Int → ByteArray → ByteArray → Int → List (S40) → Option (Bool)
 | 0, _, _, _, _, _, _, _, _ => none
 | k + 1, x3, x5, x112000, x114000, x114001, x114002, x114003, x114004 => if x5 < x3 then (if 0 ≤ x5 then (if x5 < (x112000.length : Int) then (if ((rd_T36 x112000 x5).f1).toList = x114001.toList then (if ((rd_T36 x112000 x5).f2).toList = x114002.toList then (some false) else (spec_StateOk.l1 k x3 (wrap64 (x5 + 1)) x112000 x114000 x114001 x114002 x114003 x114004)) else (spec_StateOk.l1 k x3 (wrap64 (x5 + 1)) x112000 x114000 x114001 x114002 x114003 x114004)) else (none)) else (none)) else (spec_StateOk.l2 k x3 0 x112000 x114000 x114001 x114002 x114003 x114004)
def spec_StateOk.l2 : Nat → Int → Int → List (S36) → Int → ByteArray → ByteArray → Int → List (S40) → Option (Bool)
 | 0, _, _, _, _, _, _, _, _ => none
 | k + 1, x3, x6, x112000, x114000, x114001, x114002, x114003, x114004 => if x6 < (x114004.length : Int) then (if 0 ≤ x6 then ((spec_l01In.f ((rd_T40 x114004 x6).f0) 1 (wrap64 (x114003 - 1))).bind fun t126 => (if t126 = true then (if x6 > 0 then (if 0 ≤ (wrap64 (x6 - 1)) then (if (wrap64 (x6 - 1)) < (x114004.length : Int) then (if ((rd_T40 x114004 (wrap64 (x6 - 1))).f0) ≥ ((rd_T40 x114004 x6).f0) then (some false) else ((spec_l01In.f ((rd_T40 x114004 x6).f1) 0 7).bind fun t128 => (if t128 = true then (if (((rd_T40 x114004 x6).f2).size : Int) > 100 then (some false) else (spec_StateOk.l2 k x3 (wrap64 (x6 + 1)) x112000 x114000 x114001 x114002 x114003 x114004)) else (some false)))) else (none)) else (none)) else ((spec_l01In.f ((rd_T40 x114004 x6).f1) 0 7).bind fun t129 => (if t129 = true then (if (((rd_T40 x114004 x6).f2).size : Int) > 100 then (some false) else (spec_StateOk.l2 k x3 (wrap64 (x6 + 1)) x112000 x114000 x114001 x114002 x114003 x114004)) else (some false)))) else (some false))) else (none)) else (spec_StateOk.l0 k (wrap64 (x3 + 1)) x112000)
end
def spec_StateOk.f (k : Nat) (l0_0 : List (S36)) : Option (Bool) := spec_StateOk.l0 k 0 l0_0
theorem spec_StateOk.mono_l : ∀ k, (∀ y0 y1, LeO (spec_StateOk.l0 k y0 y1) (spec_StateOk.l0 (k + 1) y0 y1)) ∧ (∀ y0 y1 y2 y3 y4 y5 y6 y7, LeO (spec_StateOk.j1 k y0 y1 y2 y3 y4 y5 y6 y7) (spec_StateOk.j1 (k + 1) y0 y1 y2 y3 y4 y5 y6 y7)) ∧ (∀ y0 y1 y2 y3 y4 y5 y6 y7, LeO (spec_StateOk.l1 k y0 y1 y2 y3 y4 y5 y6 y7) (spec_StateOk.l1 (k + 1) y0 y1 y2 y3 y4 y5 y6 y7)) ∧ (∀ y0 y1 y2 y3 y4 y5 y6 y7, LeO (spec_StateOk.l2 k y0 y1 y2 y3 y4 y5 y6 y7) (spec_StateOk.l2 (k + 1) y0 y1 y2 y3 y4 y5 y6 y7))
 | 0 => ⟨fun _ _ r h => by simp [spec_StateOk.l0] at h, fun _ _ _ _ _ _ _ _ r h => by simp [spec_StateOk.j1] at h, fun _ _ _ _ _ _ _ _ r h => by simp [spec_StateOk.l1] at h, fun _ _ _ _ _ _ _ _ r h => by simp [spec_StateOk.l2] at h⟩
 | k + 1 => by
  obtain ⟨ih0, ih1, ih2, ih3⟩ := spec_StateOk.mono_l k
  refine ⟨?_, ?_, ?_, ?_⟩
  ·intro y0 y1
   unfold spec_StateOk.l0
   repeat' first
   | (with_reducible exact ih0 _ _)
   | (with_reducible exact ih1 _ _ _ _ _ _ _ _)
   | (with_reducible exact ih2 _ _ _ _ _ _ _ _)
   | (with_reducible exact ih3 _ _ _ _ _ _ _ _)
   | (with_reducible exact spec_WordOk.mono _ _)
   | (with_reducible exact LeO.refl _)
   | (with_reducible exact LeO.none _)
   | (with_reducible refine LeO.ite ?_ ?_)
   | (with_reducible refine LeO.bind ?_ (fun _ => ?_))
   | exact ih0 _ _
   | exact ih1 _ _ _ _ _ _ _ _
   | exact ih2 _ _ _ _ _ _ _ _
   | exact ih3 _ _ _ _ _ _ _ _
   | exact spec_WordOk.mono _ _
   | exact LeO.none _
   | refine LeO.ite ?_ ?_
   | refine LeO.bind ?_ (fun _ => ?_)
  ·intro y0 y1 y2 y3 y4 y5 y6 y7
   unfold spec_StateOk.j1
   repeat' first
   | (with_reducible exact ih0 _ _)
   | (with_reducible exact ih1 _ _ _ _ _ _ _ _)
   | (with_reducible exact ih2 _ _ _ _ _ _ _ _)
   | (with_reducible exact ih3 _ _ _ _ _ _ _ _)
   | (with_reducible exact spec_WordOk.mono _ _)
   | (with_reducible exact LeO.refl _)
   | (with_reducible exact LeO.none _)
   | (with_reducible refine LeO.ite ?_ ?_)
   | (with_reducible refine LeO.bind ?_ (fun _ => ?_))
   | exact ih0 _ _
   | exact ih1 _ _ _ _ _ _ _ _
   | exact ih2 _ _ _ _ _ _ _ _
   | exact ih3 _ _ _ _ _ _ _ _
   | exact spec_WordOk.mono _ _
   | exact LeO.none _
   | refine LeO.ite ?_ ?_
   | refine LeO.bind ?_ (fun _ => ?_)
  ·intro y0 y1 y2 y3 y4 y5 y6 y7
   unfold spec_StateOk.l1
   repeat' first
   | (with_reducible exact ih0 _ _)
   | (with_reducible exact ih1 _ _ _ _ _ _ _ _)
   | (with_reducible exact ih2 _ _ _ _ _ _ _ _)
   | (with_reducible exact ih3 _ _ _ _ _ _ _ _)
   | (with_reducible exact spec_WordOk.mono _ _)
   | (with_reducible exact LeO.refl _)
   | (with_reducible exact LeO.none _)
   | (with_reducible refine LeO.ite ?_ ?_)
   | (with_reducible refine LeO.bind ?_ (fun _ => ?_))
   | exact ih0 _ _
   | exact ih1 _ _ _ _ _ _ _ _
   | exact ih2 _ _ _ _ _ _ _ _
   | exact ih3 _ _ _ _ _ _ _ _
   | exact spec_WordOk.mono _ _
   | exact LeO.none _
   | refine LeO.ite ?_ ?_
   | refine LeO.bind ?_ (fun _ => ?_)
  ·intro y0 y1 y2 y3 y4 y5 y6 y7
   unfold spec_StateOk.l2
   repeat' first
   | (with_reducible exact ih0 _ _)
   | (with_reducible exact ih1 _ _ _ _ _ _ _ _)
   | (with_reducible exact ih2 _ _ _ _ _ _ _ _)
   | (with_reducible exact ih3 _ _ _ _ _ _ _ _)
   | (with_reducible exact spec_WordOk.mono _ _)
   | (with_reducible exact LeO.refl _)
   | (with_reducible exact LeO.none _)
   | (with_reducible refine LeO.ite ?_ ?_)
   | (with_reducible refine LeO.bind ?_ (fun _ => ?_))
   | exact ih0 _ _
   | exact ih1 _ _ _ _ _ _ _ _
   | exact ih2 _ _ _ _ _ _ _ _
   | exact ih3 _ _ _ _ _ _ _ _
   | exact spec_WordOk.mono _ _
   | exact LeO.none _
   | refine LeO.ite ?_ ?_
   | refine LeO.bind ?_ (fun _ => ?_)
theorem spec_StateOk.mono : ∀ a0 k, LeO (spec_StateOk.f k a0) (spec_StateOk.f (k + 1) a0) := by
 intro a0 k
 obtain ⟨ih0, ih1, ih2, ih3⟩ := spec_StateOk.mono_l k
 unfold spec_StateOk.f
 repeat' first
   | (with_reducible exact ih0 _ _)
   | (with_reducible exact ih1 _ _ _ _ _ _ _ _)
   | (with_reducible exact ih2 _ _ _ _ _ _ _ _)
   | (with_reducible exact ih3 _ _ _ _ _ _ _ _)
   | (with_reducible exact spec_WordOk.mono _ _)
   | (with_reducible exact LeO.refl _)
   | (with_reducible exact LeO.none _)
   | (with_reducible refine LeO.ite ?_ ?_)
   | (with_reducible refine LeO.bind ?_ (fun _ => ?_))
   | exact ih0 _ _
   | exact ih1 _ _ _ _ _ _ _ _
   | exact ih2 _ _ _ _ _ _ _ _
   | exact ih3 _ _ _ _ _ _ _ _
   | exact spec_WordOk.mono _ _
   | exact LeO.none _
   | refine LeO.ite ?_ ?_
   | refine LeO.bind ?_ (fun _ => ?_)
def spec_StateOk.T5 : Bool × List (List Nat × List Nat) := (true, [([], []), ([0], [0]), ([1], [1]), ([2], [2]), ([3, 2], [3]), ([4], [4]), ([5, 4], [4, 5]), ([6, 4, 4], [4, 6]), ([7], [7]), ([8, 7], [7, 8]), ([7], [7]), ([10, 7], [7, 10]), ([9, 11, 7], [7, 9, 11]), ([12, 7], [7, 12]), ([13, 7], [7, 13]), ([7], [7]), ([15, 7], [7, 15]), ([14, 16, 7], [7, 14, 16]), ([7, 17, 4], [4, 7, 17]), ([4, 18], [4, 18]), ([19, 7], [19]), ([20], [20]), ([21, 20], [20, 21]), ([22, 20, 20], [20, 22]), ([23, 20], [20, 23]), ([20, 24], [20, 24]), ([25, 23], [25]), ([26], [26]), ([27, 26], [26, 27]), ([28, 26, 26], [26, 28]), ([29, 26], [26, 29]), ([26, 30], [26, 30]), ([31, 29], [31]), ([32], [32]), ([33, 32], [32, 33]), ([34, 32, 32], [32, 34]), ([35, 32], [32, 35]), ([32, 36], [32, 36])])
def spec_StateOk.B5 : List Nat := [0, 1, 3, 7, 15, 31, 63, 127, 255, 511, 255, 1279, 4095, 8191, 16383, 255, 33023, 131071, 262143, 524287, 1048575, 2097151, 4194303, 8388607, 16777215, 33554431, 67108863, 134217727, 268435455, 536870911, 1073741823, 2147483647, 4294967295, 8589934591, 17179869183, 34359738367, 68719476735, 137438953471]
theorem spec_StateOk.tab5 : rtab .any (opsOf Try.f5 5) = spec_StateOk.T5 := by kernel_rfl
theorem spec_StateOk.bits5 : waitsOk spec_StateOk.T5.2 spec_StateOk.B5 = true := by kernel_rfl
def spec_StateOk.T10 : Bool × List (List Nat × List Nat) := (true, [([], []), ([0], [0]), ([], []), ([1, 2], [1, 2]), ([3], [3]), ([4], [4]), ([], []), ([6], [6]), ([5, 7], [5, 7]), ([8], [8]), ([9], [9]), ([10, 9], [9, 10]), ([9], [9]), ([11, 12, 9], [9, 11, 12]), ([13, 9], [9, 13]), ([14, 9], [9, 14]), ([9], [9]), ([16, 9], [9, 16]), ([15, 17, 9], [9, 15, 17]), ([9, 18], [9, 18])])
def spec_StateOk.B10 : List Nat := [0, 1, 0, 7, 15, 31, 0, 64, 255, 511, 1023, 2047, 1023, 8191, 16383, 32767, 1023, 66559, 262143, 524287]
theorem spec_StateOk.tab10 : rtab .any (opsOf Try.f5 10) = spec_StateOk.T10 := by kernel_rfl
theorem spec_StateOk.bits10 : waitsOk spec_StateOk.T10.2 spec_StateOk.B10 = true := by kernel_rfl
def spec_StateOk.T16 : Bool × List (List Nat × List Nat) := (true, [([], []), ([0], [0]), ([], []), ([2], [2]), ([3], [3]), ([1, 4], [1, 4]), ([5], [5]), ([6, 5], [6]), ([7], [7]), ([8, 7], [7, 8]), ([9, 7, 7], [7, 9]), ([10], [10]), ([11, 10], [10, 11]), ([10], [10]), ([13, 10], [10, 13]), ([12, 14, 10], [10, 12, 14]), ([15, 10], [10, 15]), ([16, 10], [10, 16]), ([10], [10]), ([18, 10], [10, 18]), ([17, 19, 10], [10, 17, 19]), ([10, 20, 7], [7, 10, 20]), ([7, 21], [7, 21]), ([22, 10], [22]), ([23], [23]), ([24, 23], [23, 24]), ([25, 23, 23], [23, 25]), ([26, 23], [23, 26]), ([23, 27], [23, 27]), ([28, 26], [28]), ([29], [29]), ([30, 29], [29, 30]), ([31, 29], [29, 31]), ([32, 29], [29, 32]), ([29, 33], [29, 33])])
def spec_StateOk.B16 : List Nat := [0, 1, 0, 4, 12, 31, 63, 127, 255, 511, 1023, 2047, 4095, 2047, 10239, 32767, 65535, 131071, 2047, 264191, 1048575, 2097151, 4194303, 8388607, 16777215, 33554431, 67108863, 134217727, 268435455, 536870911, 1073741823, 2147483647, 4294967295, 8589934591, 17179869183]
theorem spec_StateOk.tab16 : rtab .any (opsOf Try.f5 16) = spec_StateOk.T16 := by kernel_rfl
theorem spec_StateOk.bits16 : waitsOk spec_StateOk.T16.2 spec_StateOk.B16 = true := by kernel_rfl
set_option maxHeartbeats 8000000 in
set_option maxRecDepth 100000 in
theorem spec_StateOk.calls (k : Nat) (A0_0 : Option Addr) (c0_0 : Nat) (l0_0 : List (S36)) (r : Bool) (w : World) (hr0_0 : Kd.C k36 w A0_0 l0_0.length l0_0) (hc0_0 : l0_0.length ≤ c0_0) (h : spec_StateOk.f k l0_0 = some r) :
  Calls Try.prog 5 #[.agg #[.slice A0_0 l0_0.length c0_0]] w fun e w' => e = .returned (.bool r) ∧ Below w.heap.size w w' := by
 have hu29 := Try.underlying29
 have hu36 := Try.underlying36
 have hu40 := Try.underlying40
 have HR0_0 := Aside0.mk hr0_0
 have HC0_0 := Aside0.mk hc0_0
 clear hr0_0 hc0_0
 have HB := Aside0.mk (Below.refl w.heap.size w)
 have H : (spec_StateOk.l0 k 0 l0_0) = some r := h
 clear h
 have H' := Aside0.mk H
 clear H
 go_enter Try.func5, Try.ntmps5
 go_wp2_with (first | ((with_reducible refine gate_dst (N := 1) rfl ?_); (try (refine gate_guard (by rfl) ?_; dsimp only)); refine box_event ?hg (N := 1) ?hd (cs := #[.slice A0_0 l0_0.length c0_0]) (t := 29) ?hr ?_; (case hd => rfl); (case hg => rfl); (case hr => first | (go_simp; done) | (go_simp; rfl)); intro gb111 hg w2 hbox hb; have n0_ := Aside0.mk (below_step HB.out hb); have n1_ := Aside0.mk (hbox); have n2_ := Aside0.mk ((by rw [hg]; exact (below_size HB.out) : w.heap.size ≤ gb111)); have n3_ := Aside0.mk ((by rw [hg]; exact (below_size HB.out) : w.heap.size ≤ gb111)); clear HB; have HB := n0_; have BK111 := n1_; have GW111 := n2_; have GE111 := n3_; clear n0_ n1_ n2_ n3_; clear hb hbox hg))
 go_loopg [3] k (fun kq v3 w' => ∃ (x3_1 : Int), v3 = .int .i64 x3_1 ∧ Aside0 (spec_StateOk.l0 kq x3_1 l0_0 = some r) ∧ Aside0 (kq ≤ k) ∧ Aside0 (w'.heap[gb111]? = some (.cells #[(.slice A0_0 l0_0.length c0_0)] 29 (0, 0))) ∧ Aside0 (Below w.heap.size w w'))
 case atStart => exact ⟨(0), (by first | rfl | (simp; done) | (simp [*]; done) | (simp; exact (by intro l; cases l <;> rfl : ∀ l : List UInt8, l.isEmpty = !(l != [])) _)), H', ⟨Nat.le_refl _⟩, ⟨by (with_reducible repeat (first | refine blk_drewN ?_ _ | refine blk_drew ?_ | refine blk_alloc ?_ _)); exact BK111.out⟩, ⟨by repeat (first | (with_reducible first | exact HB.out | apply below_alloc | apply pw_below_drewN | apply below_drew1 | refine below_set ?_ GE111.out) | exact HB.out)⟩⟩
 case round =>
  clear H'
  try clear p2
  obtain ⟨x3_1, rfl, HA, HK1, BK111, HB⟩ := hrel
  cases gk with
  | zero => exact absurd HA.out (by simp [spec_StateOk.l0])
  | succ k1 =>
   have H := HA.out
   clear HA
   simp only [spec_StateOk.l0] at H
   by_cases c3 : x3_1 < (l0_0.length : Int)
   ·rw [if_pos c3] at H
    have c3b0 : decide (x3_1 < (l0_0.length : Int)) = true := decide_eq_true c3
    clear c3
    by_cases c4 : 0 ≤ x3_1
    ·rw [if_pos c4] at H
     have c4b0 : decide (0 ≤ x3_1) = true := decide_eq_true c4
     clear c4
     have HC5 := Aside0.mk H
     clear H
     have hcz6 := blk_cell BK111.out
     have hfz6 := blk_frozen BK111.out
     have p112 : 0 ≤ (x3_1 : Int) := of_decide_eq_true (by first | (with_reducible assumption) | assumption)
     have q112 : x3_1 < (l0_0.length : Int) := of_decide_eq_true (by first | (with_reducible assumption) | assumption)
     obtain ⟨ad112, A112_4, c112_4, e112, hx112_0, hx112_1, hx112_2, hx112_3, hx112_4, hl112_4, hi112_4⟩ := at_T36 HR0_0.out x3_1 p112 q112
     cases e112
     replace hx112_0 := (HB.out.cell (World.block_lt_of_cell? w _ hx112_0)).trans hx112_0
     replace hx112_1 := (HB.out.cell (World.block_lt_of_cell? w _ hx112_1)).trans hx112_1
     replace hx112_2 := (HB.out.cell (World.block_lt_of_cell? w _ hx112_2)).trans hx112_2
     replace hx112_3 := (HB.out.cell (World.block_lt_of_cell? w _ hx112_3)).trans hx112_3
     replace hx112_4 := (HB.out.cell (World.block_lt_of_cell? w _ hx112_4)).trans hx112_4
     have HR112_4 := Aside0.mk hi112_4
     have HC112_4 := Aside0.mk hl112_4
     clear hi112_4 hl112_4
     replace p112 := eq_true p112
     replace q112 := eq_true q112
     go_upto_region 5 with (first | ((with_reducible refine gate_dst (N := 4) rfl ?_); (try (refine gate_guard (by rfl) ?_; dsimp only)); refine Go.Proofs.YtjfcdjfnfhkjlaaR.box_full_event ?hg ?hg2 (N := 4) ?hd ?hd2 (t := 36) (v := ?vof4) ?ho (cs := #[.int .i64 0, .string (⟨#[]⟩ : ByteArray), .string (⟨#[]⟩ : ByteArray), .int .i64 0, .slice none 0 0]) (cells := #[.int .i64 ((rd_T36 l0_0 x3_1).f0), .string ((rd_T36 l0_0 x3_1).f1), .string ((rd_T36 l0_0 x3_1).f2), .int .i64 ((rd_T36 l0_0 x3_1).f3), .slice A112_4 ((rd_T36 l0_0 x3_1).f4).length c112_4]) ?hi ?hs ?h1 ?hr ?hx ?hv ?_; (case hd => rfl); (case hd2 => rfl); (case ho => rfl); (case hg => rfl); (case hg2 => rfl); (case hi => kernel_rfl); (case hs => rfl); (case h1 => first | kernel_rfl | rfl); (case hx => intro p_; first | rfl | (go_simp; done) | (go_simp; rfl)); (case hv => intro p_; first | rfl | (go_simp; done) | (go_simp; rfl)); (case hr => first | (go_simp; done) | (go_simp; rfl)); intro gb113 hg w7 hbox hb; have n0_ := Aside0.mk (blk_below BK111.out hb); have n1_ := Aside0.mk (below_step HB.out hb); have n2_ := Aside0.mk (hbox); have n3_ := Aside0.mk ((by rw [hg]; exact (below_size HB.out) : w.heap.size ≤ gb113)); have n4_ := Aside0.mk ((by rw [hg]; exact (below_size HB.out) : w.heap.size ≤ gb113)); have n5_ := Aside0.mk ((by rw [hg]; exact Nat.ne_of_lt (blk_lt (g := gb111) (o := .cells #[.slice (some ad112) l0_0.length c0_0] 29 (0, 0)) (by (with_reducible repeat (first | refine blk_drewN ?_ _ | refine blk_drew ?_ | refine blk_alloc ?_ _)); exact BK111.out)) : gb111 ≠ gb113)); have n6_ := Aside0.mk ((by rw [hg]; exact Nat.ne_of_gt (blk_lt (g := gb111) (o := .cells #[.slice (some ad112) l0_0.length c0_0] 29 (0, 0)) (by (with_reducible repeat (first | refine blk_drewN ?_ _ | refine blk_drew ?_ | refine blk_alloc ?_ _)); exact BK111.out)) : gb113 ≠ gb111)); clear BK111; clear HB; have BK111 := n0_; have HB := n1_; have BK113 := n2_; have GW113 := n3_; have GE113 := n4_; have NB111_113 := n5_; have NB113_111 := n6_; clear n0_ n1_ n2_ n3_ n4_ n5_ n6_; clear hb hbox hg))
     (try simp only [Act.put, List.setIfInBounds_toArray, List.set_cons_zero, List.set_cons_succ])
     go_cut [57] (fun v57 wc => ∃ (kq : Nat) (x57_4 : Bool), v57 = .bool x57_4 ∧ Aside0 (spec_StateOk.j1 kq x3_1 x57_4 l0_0 ((rd_T36 l0_0 x3_1).f0) ((rd_T36 l0_0 x3_1).f1) ((rd_T36 l0_0 x3_1).f2) ((rd_T36 l0_0 x3_1).f3) ((rd_T36 l0_0 x3_1).f4) = some r) ∧ Aside0 (kq ≤ k1) ∧ Aside0 (wc.heap[gb111]? = some (.cells #[(.slice (some ad112) l0_0.length c0_0)] 29 (0, 0))) ∧ Aside0 (wc.heap[gb113]? = some (.cells #[.int .i64 ((rd_T36 l0_0 x3_1).f0), .string ((rd_T36 l0_0 x3_1).f1), .string ((rd_T36 l0_0 x3_1).f2), .int .i64 ((rd_T36 l0_0 x3_1).f3), (.slice A112_4 ((rd_T36 l0_0 x3_1).f4).length c112_4)] 36 (0, 0))) ∧ Aside0 (Below w.heap.size w wc))
     case first =>
      have H := HC5.out
      clear HC5
      replace H := Option.bind_eq_some_iff.mp H
      obtain ⟨t114, A80, H⟩ := H
      (try set_option simprocs false in dsimp only at H)
      have A8 := Aside0.mk A80
      clear A80
      by_cases c9 : t114 = true
      ·subst c9
       (try rw [if_pos rfl] at H)
       by_cases c10 : x3_1 > 0
       ·rw [if_pos c10] at H
        have c10b0 : decide (0 < x3_1) = true := decide_eq_true c10
        clear c10
        (first | rw [c10b0] | (simp only [i64_w, i32_w]; rw [c10b0]) | skip)
        obtain ⟨ji11, hji11⟩ : ∃ j_ : Int, (wrap64 (x3_1 - 1)) = j_ := ⟨_, rfl⟩
        replace H : (if 0 ≤ (ji11) then (if (ji11) < (l0_0.length : Int) then (if ((rd_T36 l0_0 (ji11)).f0) ≥ ((rd_T36 l0_0 x3_1).f0) then (spec_StateOk.j1 k1 x3_1 true l0_0 ((rd_T36 l0_0 x3_1).f0) ((rd_T36 l0_0 x3_1).f1) ((rd_T36 l0_0 x3_1).f2) ((rd_T36 l0_0 x3_1).f3) ((rd_T36 l0_0 x3_1).f4)) else ((spec_WordOk.f k1 ((rd_T36 l0_0 x3_1).f1)).bind fun t116 => (if t116 = true then ((spec_WordOk.f k1 ((rd_T36 l0_0 x3_1).f2)).bind fun t117 => (if t117 = true then ((spec_l01In.f ((rd_T36 l0_0 x3_1).f3) 1 10000).bind fun t118 => (spec_StateOk.j1 k1 x3_1 (!t118) l0_0 ((rd_T36 l0_0 x3_1).f0) ((rd_T36 l0_0 x3_1).f1) ((rd_T36 l0_0 x3_1).f2) ((rd_T36 l0_0 x3_1).f3) ((rd_T36 l0_0 x3_1).f4))) else (spec_StateOk.j1 k1 x3_1 true l0_0 ((rd_T36 l0_0 x3_1).f0) ((rd_T36 l0_0 x3_1).f1) ((rd_T36 l0_0 x3_1).f2) ((rd_T36 l0_0 x3_1).f3) ((rd_T36 l0_0 x3_1).f4)))) else (spec_StateOk.j1 k1 x3_1 true l0_0 ((rd_T36 l0_0 x3_1).f0) ((rd_T36 l0_0 x3_1).f1) ((rd_T36 l0_0 x3_1).f2) ((rd_T36 l0_0 x3_1).f3) ((rd_T36 l0_0 x3_1).f4))))) else (none)) else (none)) = some r := by first | (rw [hji11] at H; exact H) | (simp only [hji11] at H ⊢; exact H)
        (try rw [hji11] at A8)
        have hji11w : (IntKind.i64.wrap (x3_1 - 1)) = ji11 := (i64_w _).trans hji11
        by_cases c12 : 0 ≤ (ji11)
        ·rw [if_pos c12] at H
         have c12b0 : decide (0 ≤ (ji11)) = true := decide_eq_true c12
         clear c12
         by_cases c13 : (ji11) < (l0_0.length : Int)
         ·rw [if_pos c13] at H
          have c13b0 : decide ((ji11) < (l0_0.length : Int)) = true := decide_eq_true c13
          clear c13
          by_cases c14 : ((rd_T36 l0_0 (ji11)).f0) ≥ ((rd_T36 l0_0 x3_1).f0)
          ·rw [if_pos c14] at H
           have c14b0 : decide (((rd_T36 l0_0 x3_1).f0) ≤ ((rd_T36 l0_0 (ji11)).f0)) = true := decide_eq_true c14
           clear c14
           have H' := Aside0.mk H
           clear H
           try go_wp2
           have n0_ := Aside0.mk (blk_drew BK111.out)
           have n1_ := Aside0.mk (blk_drew BK113.out)
           have n2_ := Aside0.mk (below_drew1 HB.out)
           clear BK111
           clear BK113
           clear HB
           have BK111 := n0_
           have BK113 := n1_
           have HB := n2_
           clear n0_ n1_ n2_
           have p115 : 0 ≤ ((ji11) : Int) := of_decide_eq_true (by first | (with_reducible assumption) | assumption)
           have q115 : (ji11) < (l0_0.length : Int) := of_decide_eq_true (by first | (with_reducible assumption) | assumption)
           obtain ⟨ad115, A115_4, c115_4, e115, hx115_0, hx115_1, hx115_2, hx115_3, hx115_4, hl115_4, hi115_4⟩ := at_T36 HR0_0.out (ji11) p115 q115
           have hw115_4 := hx115_4
           have hw115_3 := hx115_3
           have hw115_2 := hx115_2
           have hw115_1 := hx115_1
           have hw115_0 := hx115_0
           obtain rfl : ad112 = ad115 := (by injection e115)
           replace hx115_0 := (HB.out.cell (World.block_lt_of_cell? w _ hx115_0)).trans hx115_0
           replace hx115_1 := (HB.out.cell (World.block_lt_of_cell? w _ hx115_1)).trans hx115_1
           replace hx115_2 := (HB.out.cell (World.block_lt_of_cell? w _ hx115_2)).trans hx115_2
           replace hx115_3 := (HB.out.cell (World.block_lt_of_cell? w _ hx115_3)).trans hx115_3
           replace hx115_4 := (HB.out.cell (World.block_lt_of_cell? w _ hx115_4)).trans hx115_4
           have HR115_4 := Aside0.mk hi115_4
           have HC115_4 := Aside0.mk hl115_4
           clear hi115_4 hl115_4
           replace p115 := eq_true p115
           replace q115 := eq_true q115
           refine start_ (n := 38) (S := fun w' => w'.cell? ⟨gb113, 0, none⟩ = some (.int .i64 ((rd_T36 l0_0 x3_1).f0)) ∧ w'.cell? ⟨gb113, 1, none⟩ = some (.string ((rd_T36 l0_0 x3_1).f1)) ∧ w'.cell? ⟨gb113, 2, none⟩ = some (.string ((rd_T36 l0_0 x3_1).f2)) ∧ w'.cell? ⟨gb113, 3, none⟩ = some (.int .i64 ((rd_T36 l0_0 x3_1).f3)) ∧ w'.cell? ⟨gb113, 4, none⟩ = some (.slice A112_4 ((rd_T36 l0_0 x3_1).f4).length c112_4) ∧ w'.cell? ⟨gb111, 0, none⟩ = some (.slice (some ad112) l0_0.length c0_0) ∧ w'.cell? (ad112.add (((ji11)).toNat * 5)) = some (.int .i64 ((rd_T36 l0_0 (ji11)).f0)) ∧ w'.cell? ⟨(ad112.add (((ji11)).toNat * 5)).block, (ad112.add (((ji11)).toNat * 5)).off + 1, none⟩ = some (.string ((rd_T36 l0_0 (ji11)).f1)) ∧ w'.cell? ⟨(ad112.add (((ji11)).toNat * 5)).block, (ad112.add (((ji11)).toNat * 5)).off + 2, none⟩ = some (.string ((rd_T36 l0_0 (ji11)).f2)) ∧ w'.cell? ⟨(ad112.add (((ji11)).toNat * 5)).block, (ad112.add (((ji11)).toNat * 5)).off + 3, none⟩ = some (.int .i64 ((rd_T36 l0_0 (ji11)).f3)) ∧ w'.cell? ⟨(ad112.add (((ji11)).toNat * 5)).block, (ad112.add (((ji11)).toNat * 5)).off + 4, none⟩ = some (.slice A115_4 ((rd_T36 l0_0 (ji11)).f4).length c115_4)) (ds := []) (fl 38 0) (by kernel_rfl) rfl rfl ⟨(blk_cell BK113.out 0).trans rfl, (blk_cell BK113.out 1).trans rfl, (blk_cell BK113.out 2).trans rfl, (blk_cell BK113.out 3).trans rfl, (blk_cell BK113.out 4).trans rfl, (blk_cell BK111.out 0).trans rfl, ((HB.out.cell (World.block_lt_of_cell? w _ hw115_0)).trans hw115_0), ((HB.out.cell (World.block_lt_of_cell? w _ hw115_1)).trans hw115_1), ((HB.out.cell (World.block_lt_of_cell? w _ hw115_2)).trans hw115_2), ((HB.out.cell (World.block_lt_of_cell? w _ hw115_3)).trans hw115_3), ((HB.out.cell (World.block_lt_of_cell? w _ hw115_4)).trans hw115_4)⟩ (fun hHeld => ?_); refine with_tabW spec_StateOk.tab5 spec_StateOk.bits5 (fun HT_ HW_ => ?_)
           generalize w7.drew = w15 at BK111 BK113 HB HR115_4 hx115_0 hx115_1 hx115_2 hx115_3 hx115_4 hHeld ⊢
           refine pq_ 0 20 (fl 38 1) HT_.out ?_
           refine tq_ 1 21 (fl 38 3) HT_.out HW_.out hHeld ?_
           refine one_ (i := 2) (N := some 22) (fl 38 7) rfl rfl (one_of HT_.out (by kernel_rfl)) (by decide) (fun K hK => ?_)
           refine goes_ Try.func10 (by kernel_rfl) rfl #[.int .i64 ((rd_T36 l0_0 x3_1).f0), .int .i64 1, .int .i64 9999] (by rfl) rfl rfl (by (try simp only [List.map_toArray, List.map_cons, List.map_nil]); first | done | rfl | (simp only [List.length_drop, List.length_take]; rfl)) ?_
           with_reducible refine (spec_l01In.calls ((rd_T36 l0_0 x3_1).f0) 1 9999 true _ A8.out).mono ?_
           rintro e w' ⟨rfl, ⟨nd, rfl⟩⟩
           refine ⟨_, rfl, ?_⟩
           refine hK.out _ _ ⟨(blk_cell BK113.out 0).trans rfl, (blk_cell BK113.out 1).trans rfl, (blk_cell BK113.out 2).trans rfl, (blk_cell BK113.out 3).trans rfl, (blk_cell BK113.out 4).trans rfl, (blk_cell BK111.out 0).trans rfl, ((HB.out.cell (World.block_lt_of_cell? w _ hw115_0)).trans hw115_0), ((HB.out.cell (World.block_lt_of_cell? w _ hw115_1)).trans hw115_1), ((HB.out.cell (World.block_lt_of_cell? w _ hw115_2)).trans hw115_2), ((HB.out.cell (World.block_lt_of_cell? w _ hw115_3)).trans hw115_3), ((HB.out.cell (World.block_lt_of_cell? w _ hw115_4)).trans hw115_4)⟩ (fun hHeld => ?_)
           clear hK K
           refine norm_ (a' := ?_) ?_ ?_
           rotate_left
           ·show Act.put _ (some 22) _ = _
            simp only [Act.put, List.setIfInBounds_toArray, List.set_cons_zero, List.set_cons_succ, i64_w, i32_w]
            rfl
           refine pq_ 3 23 (fl 38 15) HT_.out ?_
           refine pq_ 4 24 (fl 38 31) HT_.out ?_
           refine pq_ 5 25 (fl 38 63) HT_.out ?_
           refine pq_ 6 26 (fl 38 127) HT_.out ?_
           refine pq_ 7 27 (fl 38 255) HT_.out ?_
           refine pq_ 8 28 (fl 38 511) HT_.out ?_
           refine pq_ 10 30 (fl 38 1535) HT_.out ?_
           refine pq_ 11 31 (fl 38 3583) HT_.out ?_
           refine pq_ 15 35 (fl 38 36351) HT_.out ?_
           refine tq_ 9 29 (fl 38 36863) HT_.out HW_.out hHeld ?_
           refine pq_ 12 32 (fl 38 40959) HT_.out ?_
           refine pq_ 13 33 (fl 38 49151) HT_.out ?_
           refine tq_ 14 34 (fl 38 65535) HT_.out HW_.out hHeld ?_
           refine tq_ 16 36 (fl 38 131071) HT_.out HW_.out hHeld ?_
           refine pq_ 17 37 (fl 38 262143) HT_.out ?_
           refine pq_ 18 38 (fl 38 524287) HT_.out ?_
           refine pq_ 19 39 (fl 38 1048575) HT_.out ?_
           refine pq_ 20 40 (fl 38 2097151) HT_.out ?_
           refine pu_ 21 41 (fl 38 4194303) HT_.out ?_
           refine pu_ 22 42 (fl 38 8388607) HT_.out ?_
           refine pu_ 23 43 (fl 38 16777215) HT_.out ?_
           refine pu_ 24 44 (fl 38 33554431) HT_.out ?_
           refine pq_ 25 45 (fl 38 67108863) HT_.out ?_
           refine pq_ 26 46 (fl 38 134217727) HT_.out ?_
           refine pu_ 27 47 (fl 38 268435455) HT_.out ?_
           refine pu_ 28 48 (fl 38 536870911) HT_.out ?_
           refine pu_ 29 49 (fl 38 1073741823) HT_.out ?_
           refine pu_ 30 50 (fl 38 2147483647) HT_.out ?_
           refine pq_ 31 51 (fl 38 4294967295) HT_.out ?_
           refine pq_ 32 52 (fl 38 8589934591) HT_.out ?_
           refine pu_ 33 53 (fl 38 17179869183) HT_.out ?_
           refine pu_ 34 54 (fl 38 34359738367) HT_.out ?_
           refine pu_ 35 55 (fl 38 68719476735) HT_.out ?_
           refine pu_ 36 56 (fl 38 137438953471) HT_.out ?_
           refine pq_ 37 57 (fl 38 274877906943) HT_.out ?_
           refine done_ (done_of HT_.out (by kernel_rfl)) ?_
           try go_wp2
           go_meet
           case rel => exact ⟨_, (true), (by first | rfl | (simp; done) | (simp [*]; done) | (simp; exact (by intro l; cases l <;> rfl : ∀ l : List UInt8, l.isEmpty = !(l != [])) _)), H', ⟨by have := HK1.out; first | omega | exact Nat.le_refl _⟩, ⟨by (with_reducible repeat (first | refine blk_drewN ?_ _ | refine blk_drew ?_ | refine blk_alloc ?_ _)); exact BK111.out⟩, ⟨by (with_reducible repeat (first | refine blk_drewN ?_ _ | refine blk_drew ?_ | refine blk_alloc ?_ _)); exact BK113.out⟩, ⟨by repeat (first | (with_reducible first | exact HB.out | apply below_alloc | apply pw_below_drewN | apply below_drew1 | refine below_set ?_ GE111.out | refine below_set ?_ GE113.out) | exact HB.out)⟩⟩
          ·rw [if_neg c14] at H
           have c14b0 : decide (((rd_T36 l0_0 x3_1).f0) ≤ ((rd_T36 l0_0 (ji11)).f0)) = false := decide_eq_false c14
           clear c14
           replace H := Option.bind_eq_some_iff.mp H
           obtain ⟨t116, A160, H⟩ := H
           (try set_option simprocs false in dsimp only at H)
           have A16 := Aside0.mk A160
           clear A160
           by_cases c17 : t116 = true
           ·subst c17
            (try rw [if_pos rfl] at H)
            replace H := Option.bind_eq_some_iff.mp H
            obtain ⟨t117, A180, H⟩ := H
            (try set_option simprocs false in dsimp only at H)
            have A18 := Aside0.mk A180
            clear A180
            by_cases c19 : t117 = true
            ·subst c19
             (try rw [if_pos rfl] at H)
             replace H := Option.bind_eq_some_iff.mp H
             obtain ⟨t118, A200, H⟩ := H
             (try set_option simprocs false in dsimp only at H)
             have A20 := Aside0.mk A200
             clear A200
             have H' := Aside0.mk H
             clear H
             try go_wp2
             have n0_ := Aside0.mk (blk_drew BK111.out)
             have n1_ := Aside0.mk (blk_drew BK113.out)
             have n2_ := Aside0.mk (below_drew1 HB.out)
             clear BK111
             clear BK113
             clear HB
             have BK111 := n0_
             have BK113 := n1_
             have HB := n2_
             clear n0_ n1_ n2_
             have p115 : 0 ≤ ((ji11) : Int) := of_decide_eq_true (by first | (with_reducible assumption) | assumption)
             have q115 : (ji11) < (l0_0.length : Int) := of_decide_eq_true (by first | (with_reducible assumption) | assumption)
             obtain ⟨ad115, A115_4, c115_4, e115, hx115_0, hx115_1, hx115_2, hx115_3, hx115_4, hl115_4, hi115_4⟩ := at_T36 HR0_0.out (ji11) p115 q115
             have hw115_4 := hx115_4
             have hw115_3 := hx115_3
             have hw115_2 := hx115_2
             have hw115_1 := hx115_1
             have hw115_0 := hx115_0
             obtain rfl : ad112 = ad115 := (by injection e115)
             replace hx115_0 := (HB.out.cell (World.block_lt_of_cell? w _ hx115_0)).trans hx115_0
             replace hx115_1 := (HB.out.cell (World.block_lt_of_cell? w _ hx115_1)).trans hx115_1
             replace hx115_2 := (HB.out.cell (World.block_lt_of_cell? w _ hx115_2)).trans hx115_2
             replace hx115_3 := (HB.out.cell (World.block_lt_of_cell? w _ hx115_3)).trans hx115_3
             replace hx115_4 := (HB.out.cell (World.block_lt_of_cell? w _ hx115_4)).trans hx115_4
             have HR115_4 := Aside0.mk hi115_4
             have HC115_4 := Aside0.mk hl115_4
             clear hi115_4 hl115_4
             replace p115 := eq_true p115
             replace q115 := eq_true q115
             refine start_ (n := 38) (S := fun w' => w'.cell? ⟨gb113, 0, none⟩ = some (.int .i64 ((rd_T36 l0_0 x3_1).f0)) ∧ w'.cell? ⟨gb113, 1, none⟩ = some (.string ((rd_T36 l0_0 x3_1).f1)) ∧ w'.cell? ⟨gb113, 2, none⟩ = some (.string ((rd_T36 l0_0 x3_1).f2)) ∧ w'.cell? ⟨gb113, 3, none⟩ = some (.int .i64 ((rd_T36 l0_0 x3_1).f3)) ∧ w'.cell? ⟨gb113, 4, none⟩ = some (.slice A112_4 ((rd_T36 l0_0 x3_1).f4).length c112_4) ∧ w'.cell? ⟨gb111, 0, none⟩ = some (.slice (some ad112) l0_0.length c0_0) ∧ w'.cell? (ad112.add (((ji11)).toNat * 5)) = some (.int .i64 ((rd_T36 l0_0 (ji11)).f0)) ∧ w'.cell? ⟨(ad112.add (((ji11)).toNat * 5)).block, (ad112.add (((ji11)).toNat * 5)).off + 1, none⟩ = some (.string ((rd_T36 l0_0 (ji11)).f1)) ∧ w'.cell? ⟨(ad112.add (((ji11)).toNat * 5)).block, (ad112.add (((ji11)).toNat * 5)).off + 2, none⟩ = some (.string ((rd_T36 l0_0 (ji11)).f2)) ∧ w'.cell? ⟨(ad112.add (((ji11)).toNat * 5)).block, (ad112.add (((ji11)).toNat * 5)).off + 3, none⟩ = some (.int .i64 ((rd_T36 l0_0 (ji11)).f3)) ∧ w'.cell? ⟨(ad112.add (((ji11)).toNat * 5)).block, (ad112.add (((ji11)).toNat * 5)).off + 4, none⟩ = some (.slice A115_4 ((rd_T36 l0_0 (ji11)).f4).length c115_4)) (ds := []) (fl 38 0) (by kernel_rfl) rfl rfl ⟨(blk_cell BK113.out 0).trans rfl, (blk_cell BK113.out 1).trans rfl, (blk_cell BK113.out 2).trans rfl, (blk_cell BK113.out 3).trans rfl, (blk_cell BK113.out 4).trans rfl, (blk_cell BK111.out 0).trans rfl, ((HB.out.cell (World.block_lt_of_cell? w _ hw115_0)).trans hw115_0), ((HB.out.cell (World.block_lt_of_cell? w _ hw115_1)).trans hw115_1), ((HB.out.cell (World.block_lt_of_cell? w _ hw115_2)).trans hw115_2), ((HB.out.cell (World.block_lt_of_cell? w _ hw115_3)).trans hw115_3), ((HB.out.cell (World.block_lt_of_cell? w _ hw115_4)).trans hw115_4)⟩ (fun hHeld => ?_); refine with_tabW spec_StateOk.tab5 spec_StateOk.bits5 (fun HT_ HW_ => ?_)
             generalize w7.drew = w21 at BK111 BK113 HB HR115_4 hx115_0 hx115_1 hx115_2 hx115_3 hx115_4 hHeld ⊢
             refine pq_ 0 20 (fl 38 1) HT_.out ?_
             refine tq_ 1 21 (fl 38 3) HT_.out HW_.out hHeld ?_
             refine one_ (i := 2) (N := some 22) (fl 38 7) rfl rfl (one_of HT_.out (by kernel_rfl)) (by decide) (fun K hK => ?_)
             refine goes_ Try.func10 (by kernel_rfl) rfl #[.int .i64 ((rd_T36 l0_0 x3_1).f0), .int .i64 1, .int .i64 9999] (by rfl) rfl rfl (by (try simp only [List.map_toArray, List.map_cons, List.map_nil]); first | done | rfl | (simp only [List.length_drop, List.length_take]; rfl)) ?_
             with_reducible refine (spec_l01In.calls ((rd_T36 l0_0 x3_1).f0) 1 9999 true _ A8.out).mono ?_
             rintro e w' ⟨rfl, ⟨nd, rfl⟩⟩
             refine ⟨_, rfl, ?_⟩
             refine hK.out _ _ ⟨(blk_cell BK113.out 0).trans rfl, (blk_cell BK113.out 1).trans rfl, (blk_cell BK113.out 2).trans rfl, (blk_cell BK113.out 3).trans rfl, (blk_cell BK113.out 4).trans rfl, (blk_cell BK111.out 0).trans rfl, ((HB.out.cell (World.block_lt_of_cell? w _ hw115_0)).trans hw115_0), ((HB.out.cell (World.block_lt_of_cell? w _ hw115_1)).trans hw115_1), ((HB.out.cell (World.block_lt_of_cell? w _ hw115_2)).trans hw115_2), ((HB.out.cell (World.block_lt_of_cell? w _ hw115_3)).trans hw115_3), ((HB.out.cell (World.block_lt_of_cell? w _ hw115_4)).trans hw115_4)⟩ (fun hHeld => ?_)
             clear hK K
             refine norm_ (a' := ?_) ?_ ?_
             rotate_left
             ·show Act.put _ (some 22) _ = _
              simp only [Act.put, List.setIfInBounds_toArray, List.set_cons_zero, List.set_cons_succ, i64_w, i32_w]
              rfl
             refine pq_ 3 23 (fl 38 15) HT_.out ?_
             refine pq_ 4 24 (fl 38 31) HT_.out ?_
             refine pq_ 5 25 (fl 38 63) HT_.out ?_
             refine pq_ 6 26 (fl 38 127) HT_.out ?_
             refine pq_ 7 27 (fl 38 255) HT_.out ?_
             refine pq_ 8 28 (fl 38 511) HT_.out ?_
             refine pq_ 10 30 (fl 38 1535) HT_.out ?_
             refine pq_ 11 31 (fl 38 3583) HT_.out ?_
             refine pq_ 15 35 (fl 38 36351) HT_.out ?_
             refine tq_ 9 29 (fl 38 36863) HT_.out HW_.out hHeld ?_
             refine pq_ 12 32 (fl 38 40959) HT_.out ?_
             refine pq_ 13 33 (fl 38 49151) HT_.out ?_
             refine tq_ 14 34 (fl 38 65535) HT_.out HW_.out hHeld ?_
             refine tq_ 16 36 (fl 38 131071) HT_.out HW_.out hHeld ?_
             refine pq_ 17 37 (fl 38 262143) HT_.out ?_
             refine pq_ 18 38 (fl 38 524287) HT_.out ?_
             refine pq_ 19 39 (fl 38 1048575) HT_.out ?_
             refine pq_ 20 40 (fl 38 2097151) HT_.out ?_
             refine pq_ 21 41 (fl 38 4194303) HT_.out ?_
             refine tq_ 22 42 (fl 38 8388607) HT_.out HW_.out hHeld ?_
             refine one_ (i := 23) (N := some 43) (fl 38 16777215) rfl rfl (one_of HT_.out (by kernel_rfl)) (by decide) (fun K hK => ?_)
             refine goes_ Try.func11 (by kernel_rfl) rfl #[.string ((rd_T36 l0_0 x3_1).f1)] (by rfl) rfl rfl (by (try simp only [List.map_toArray, List.map_cons, List.map_nil]); first | done | rfl | (simp only [List.length_drop, List.length_take]; rfl)) ?_
             with_reducible refine (spec_WordOk.calls k1 ((rd_T36 l0_0 x3_1).f1) true _ A16.out).mono ?_
             rintro e w' ⟨rfl, ⟨nd, rfl⟩⟩
             refine ⟨_, rfl, ?_⟩
             refine hK.out _ _ ⟨(blk_cell BK113.out 0).trans rfl, (blk_cell BK113.out 1).trans rfl, (blk_cell BK113.out 2).trans rfl, (blk_cell BK113.out 3).trans rfl, (blk_cell BK113.out 4).trans rfl, (blk_cell BK111.out 0).trans rfl, ((HB.out.cell (World.block_lt_of_cell? w _ hw115_0)).trans hw115_0), ((HB.out.cell (World.block_lt_of_cell? w _ hw115_1)).trans hw115_1), ((HB.out.cell (World.block_lt_of_cell? w _ hw115_2)).trans hw115_2), ((HB.out.cell (World.block_lt_of_cell? w _ hw115_3)).trans hw115_3), ((HB.out.cell (World.block_lt_of_cell? w _ hw115_4)).trans hw115_4)⟩ (fun hHeld => ?_)
             clear hK K
             refine norm_ (a' := ?_) ?_ ?_
             rotate_left
             ·show Act.put _ (some 43) _ = _
              simp only [Act.put, List.setIfInBounds_toArray, List.set_cons_zero, List.set_cons_succ, i64_w, i32_w]
              rfl
             refine pq_ 24 44 (fl 38 33554431) HT_.out ?_
             refine pq_ 25 45 (fl 38 67108863) HT_.out ?_
             refine pq_ 26 46 (fl 38 134217727) HT_.out ?_
             refine pq_ 27 47 (fl 38 268435455) HT_.out ?_
             refine tq_ 28 48 (fl 38 536870911) HT_.out HW_.out hHeld ?_
             refine one_ (i := 29) (N := some 49) (fl 38 1073741823) rfl rfl (one_of HT_.out (by kernel_rfl)) (by decide) (fun K hK => ?_)
             refine goes_ Try.func11 (by kernel_rfl) rfl #[.string ((rd_T36 l0_0 x3_1).f2)] (by rfl) rfl rfl (by (try simp only [List.map_toArray, List.map_cons, List.map_nil]); first | done | rfl | (simp only [List.length_drop, List.length_take]; rfl)) ?_
             with_reducible refine (spec_WordOk.calls k1 ((rd_T36 l0_0 x3_1).f2) true _ A18.out).mono ?_
             rintro e w' ⟨rfl, ⟨nd, rfl⟩⟩
             refine ⟨_, rfl, ?_⟩
             refine hK.out _ _ ⟨(blk_cell BK113.out 0).trans rfl, (blk_cell BK113.out 1).trans rfl, (blk_cell BK113.out 2).trans rfl, (blk_cell BK113.out 3).trans rfl, (blk_cell BK113.out 4).trans rfl, (blk_cell BK111.out 0).trans rfl, ((HB.out.cell (World.block_lt_of_cell? w _ hw115_0)).trans hw115_0), ((HB.out.cell (World.block_lt_of_cell? w _ hw115_1)).trans hw115_1), ((HB.out.cell (World.block_lt_of_cell? w _ hw115_2)).trans hw115_2), ((HB.out.cell (World.block_lt_of_cell? w _ hw115_3)).trans hw115_3), ((HB.out.cell (World.block_lt_of_cell? w _ hw115_4)).trans hw115_4)⟩ (fun hHeld => ?_)
             clear hK K
             refine norm_ (a' := ?_) ?_ ?_
             rotate_left
             ·show Act.put _ (some 49) _ = _
              simp only [Act.put, List.setIfInBounds_toArray, List.set_cons_zero, List.set_cons_succ, i64_w, i32_w]
              rfl
             refine pq_ 30 50 (fl 38 2147483647) HT_.out ?_
             refine pq_ 31 51 (fl 38 4294967295) HT_.out ?_
             refine pq_ 32 52 (fl 38 8589934591) HT_.out ?_
             refine pq_ 33 53 (fl 38 17179869183) HT_.out ?_
             refine tq_ 34 54 (fl 38 34359738367) HT_.out HW_.out hHeld ?_
             refine one_ (i := 35) (N := some 55) (fl 38 68719476735) rfl rfl (one_of HT_.out (by kernel_rfl)) (by decide) (fun K hK => ?_)
             refine goes_ Try.func10 (by kernel_rfl) rfl #[.int .i64 ((rd_T36 l0_0 x3_1).f3), .int .i64 1, .int .i64 10000] (by rfl) rfl rfl (by (try simp only [List.map_toArray, List.map_cons, List.map_nil]); first | done | rfl | (simp only [List.length_drop, List.length_take]; rfl)) ?_
             with_reducible refine (spec_l01In.calls ((rd_T36 l0_0 x3_1).f3) 1 10000 t118 _ A20.out).mono ?_
             rintro e w' ⟨rfl, ⟨nd, rfl⟩⟩
             refine ⟨_, rfl, ?_⟩
             refine hK.out _ _ ⟨(blk_cell BK113.out 0).trans rfl, (blk_cell BK113.out 1).trans rfl, (blk_cell BK113.out 2).trans rfl, (blk_cell BK113.out 3).trans rfl, (blk_cell BK113.out 4).trans rfl, (blk_cell BK111.out 0).trans rfl, ((HB.out.cell (World.block_lt_of_cell? w _ hw115_0)).trans hw115_0), ((HB.out.cell (World.block_lt_of_cell? w _ hw115_1)).trans hw115_1), ((HB.out.cell (World.block_lt_of_cell? w _ hw115_2)).trans hw115_2), ((HB.out.cell (World.block_lt_of_cell? w _ hw115_3)).trans hw115_3), ((HB.out.cell (World.block_lt_of_cell? w _ hw115_4)).trans hw115_4)⟩ (fun hHeld => ?_)
             clear hK K
             refine norm_ (a' := ?_) ?_ ?_
             rotate_left
             ·show Act.put _ (some 55) _ = _
              simp only [Act.put, List.setIfInBounds_toArray, List.set_cons_zero, List.set_cons_succ, i64_w, i32_w]
              rfl
             refine pq_ 36 56 (fl 38 137438953471) HT_.out ?_
             refine pq_ 37 57 (fl 38 274877906943) HT_.out ?_
             refine done_ (done_of HT_.out (by kernel_rfl)) ?_
             try go_wp2
             go_meet
             case rel => exact ⟨_, (!t118), (by first | rfl | (simp; done) | (simp [*]; done) | (simp; exact (by intro l; cases l <;> rfl : ∀ l : List UInt8, l.isEmpty = !(l != [])) _)), H', ⟨by have := HK1.out; first | omega | exact Nat.le_refl _⟩, ⟨by (with_reducible repeat (first | refine blk_drewN ?_ _ | refine blk_drew ?_ | refine blk_alloc ?_ _)); exact BK111.out⟩, ⟨by (with_reducible repeat (first | refine blk_drewN ?_ _ | refine blk_drew ?_ | refine blk_alloc ?_ _)); exact BK113.out⟩, ⟨by repeat (first | (with_reducible first | exact HB.out | apply below_alloc | apply pw_below_drewN | apply below_drew1 | refine below_set ?_ GE111.out | refine below_set ?_ GE113.out) | exact HB.out)⟩⟩
            ·replace c19 := Bool.eq_false_iff.mpr c19
             subst c19
             (try rw [if_neg (show ¬ (false = true) by decide)] at H)
             have H' := Aside0.mk H
             clear H
             try go_wp2
             have n0_ := Aside0.mk (blk_drew BK111.out)
             have n1_ := Aside0.mk (blk_drew BK113.out)
             have n2_ := Aside0.mk (below_drew1 HB.out)
             clear BK111
             clear BK113
             clear HB
             have BK111 := n0_
             have BK113 := n1_
             have HB := n2_
             clear n0_ n1_ n2_
             have p115 : 0 ≤ ((ji11) : Int) := of_decide_eq_true (by first | (with_reducible assumption) | assumption)
             have q115 : (ji11) < (l0_0.length : Int) := of_decide_eq_true (by first | (with_reducible assumption) | assumption)
             obtain ⟨ad115, A115_4, c115_4, e115, hx115_0, hx115_1, hx115_2, hx115_3, hx115_4, hl115_4, hi115_4⟩ := at_T36 HR0_0.out (ji11) p115 q115
             have hw115_4 := hx115_4
             have hw115_3 := hx115_3
             have hw115_2 := hx115_2
             have hw115_1 := hx115_1
             have hw115_0 := hx115_0
             obtain rfl : ad112 = ad115 := (by injection e115)
             replace hx115_0 := (HB.out.cell (World.block_lt_of_cell? w _ hx115_0)).trans hx115_0
             replace hx115_1 := (HB.out.cell (World.block_lt_of_cell? w _ hx115_1)).trans hx115_1
             replace hx115_2 := (HB.out.cell (World.block_lt_of_cell? w _ hx115_2)).trans hx115_2
             replace hx115_3 := (HB.out.cell (World.block_lt_of_cell? w _ hx115_3)).trans hx115_3
             replace hx115_4 := (HB.out.cell (World.block_lt_of_cell? w _ hx115_4)).trans hx115_4
             have HR115_4 := Aside0.mk hi115_4
             have HC115_4 := Aside0.mk hl115_4
             clear hi115_4 hl115_4
             replace p115 := eq_true p115
             replace q115 := eq_true q115
             refine start_ (n := 38) (S := fun w' => w'.cell? ⟨gb113, 0, none⟩ = some (.int .i64 ((rd_T36 l0_0 x3_1).f0)) ∧ w'.cell? ⟨gb113, 1, none⟩ = some (.string ((rd_T36 l0_0 x3_1).f1)) ∧ w'.cell? ⟨gb113, 2, none⟩ = some (.string ((rd_T36 l0_0 x3_1).f2)) ∧ w'.cell? ⟨gb113, 3, none⟩ = some (.int .i64 ((rd_T36 l0_0 x3_1).f3)) ∧ w'.cell? ⟨gb113, 4, none⟩ = some (.slice A112_4 ((rd_T36 l0_0 x3_1).f4).length c112_4) ∧ w'.cell? ⟨gb111, 0, none⟩ = some (.slice (some ad112) l0_0.length c0_0) ∧ w'.cell? (ad112.add (((ji11)).toNat * 5)) = some (.int .i64 ((rd_T36 l0_0 (ji11)).f0)) ∧ w'.cell? ⟨(ad112.add (((ji11)).toNat * 5)).block, (ad112.add (((ji11)).toNat * 5)).off + 1, none⟩ = some (.string ((rd_T36 l0_0 (ji11)).f1)) ∧ w'.cell? ⟨(ad112.add (((ji11)).toNat * 5)).block, (ad112.add (((ji11)).toNat * 5)).off + 2, none⟩ = some (.string ((rd_T36 l0_0 (ji11)).f2)) ∧ w'.cell? ⟨(ad112.add (((ji11)).toNat * 5)).block, (ad112.add (((ji11)).toNat * 5)).off + 3, none⟩ = some (.int .i64 ((rd_T36 l0_0 (ji11)).f3)) ∧ w'.cell? ⟨(ad112.add (((ji11)).toNat * 5)).block, (ad112.add (((ji11)).toNat * 5)).off + 4, none⟩ = some (.slice A115_4 ((rd_T36 l0_0 (ji11)).f4).length c115_4)) (ds := []) (fl 38 0) (by kernel_rfl) rfl rfl ⟨(blk_cell BK113.out 0).trans rfl, (blk_cell BK113.out 1).trans rfl, (blk_cell BK113.out 2).trans rfl, (blk_cell BK113.out 3).trans rfl, (blk_cell BK113.out 4).trans rfl, (blk_cell BK111.out 0).trans rfl, ((HB.out.cell (World.block_lt_of_cell? w _ hw115_0)).trans hw115_0), ((HB.out.cell (World.block_lt_of_cell? w _ hw115_1)).trans hw115_1), ((HB.out.cell (World.block_lt_of_cell? w _ hw115_2)).trans hw115_2), ((HB.out.cell (World.block_lt_of_cell? w _ hw115_3)).trans hw115_3), ((HB.out.cell (World.block_lt_of_cell? w _ hw115_4)).trans hw115_4)⟩ (fun hHeld => ?_); refine with_tabW spec_StateOk.tab5 spec_StateOk.bits5 (fun HT_ HW_ => ?_)
             generalize w7.drew = w22 at BK111 BK113 HB HR115_4 hx115_0 hx115_1 hx115_2 hx115_3 hx115_4 hHeld ⊢
             refine pq_ 0 20 (fl 38 1) HT_.out ?_
             refine tq_ 1 21 (fl 38 3) HT_.out HW_.out hHeld ?_
             refine one_ (i := 2) (N := some 22) (fl 38 7) rfl rfl (one_of HT_.out (by kernel_rfl)) (by decide) (fun K hK => ?_)
             refine goes_ Try.func10 (by kernel_rfl) rfl #[.int .i64 ((rd_T36 l0_0 x3_1).f0), .int .i64 1, .int .i64 9999] (by rfl) rfl rfl (by (try simp only [List.map_toArray, List.map_cons, List.map_nil]); first | done | rfl | (simp only [List.length_drop, List.length_take]; rfl)) ?_
             with_reducible refine (spec_l01In.calls ((rd_T36 l0_0 x3_1).f0) 1 9999 true _ A8.out).mono ?_
             rintro e w' ⟨rfl, ⟨nd, rfl⟩⟩
             refine ⟨_, rfl, ?_⟩
             refine hK.out _ _ ⟨(blk_cell BK113.out 0).trans rfl, (blk_cell BK113.out 1).trans rfl, (blk_cell BK113.out 2).trans rfl, (blk_cell BK113.out 3).trans rfl, (blk_cell BK113.out 4).trans rfl, (blk_cell BK111.out 0).trans rfl, ((HB.out.cell (World.block_lt_of_cell? w _ hw115_0)).trans hw115_0), ((HB.out.cell (World.block_lt_of_cell? w _ hw115_1)).trans hw115_1), ((HB.out.cell (World.block_lt_of_cell? w _ hw115_2)).trans hw115_2), ((HB.out.cell (World.block_lt_of_cell? w _ hw115_3)).trans hw115_3), ((HB.out.cell (World.block_lt_of_cell? w _ hw115_4)).trans hw115_4)⟩ (fun hHeld => ?_)
             clear hK K
             refine norm_ (a' := ?_) ?_ ?_
             rotate_left
             ·show Act.put _ (some 22) _ = _
              simp only [Act.put, List.setIfInBounds_toArray, List.set_cons_zero, List.set_cons_succ, i64_w, i32_w]
              rfl
             refine pq_ 3 23 (fl 38 15) HT_.out ?_
             refine pq_ 4 24 (fl 38 31) HT_.out ?_
             refine pq_ 5 25 (fl 38 63) HT_.out ?_
             refine pq_ 6 26 (fl 38 127) HT_.out ?_
             refine pq_ 7 27 (fl 38 255) HT_.out ?_
             refine pq_ 8 28 (fl 38 511) HT_.out ?_
             refine pq_ 10 30 (fl 38 1535) HT_.out ?_
             refine pq_ 11 31 (fl 38 3583) HT_.out ?_
             refine pq_ 15 35 (fl 38 36351) HT_.out ?_
             refine tq_ 9 29 (fl 38 36863) HT_.out HW_.out hHeld ?_
             refine pq_ 12 32 (fl 38 40959) HT_.out ?_
             refine pq_ 13 33 (fl 38 49151) HT_.out ?_
             refine tq_ 14 34 (fl 38 65535) HT_.out HW_.out hHeld ?_
             refine tq_ 16 36 (fl 38 131071) HT_.out HW_.out hHeld ?_
             refine pq_ 17 37 (fl 38 262143) HT_.out ?_
             refine pq_ 18 38 (fl 38 524287) HT_.out ?_
             refine pq_ 19 39 (fl 38 1048575) HT_.out ?_
             refine pq_ 20 40 (fl 38 2097151) HT_.out ?_
             refine pq_ 21 41 (fl 38 4194303) HT_.out ?_
             refine tq_ 22 42 (fl 38 8388607) HT_.out HW_.out hHeld ?_
             refine one_ (i := 23) (N := some 43) (fl 38 16777215) rfl rfl (one_of HT_.out (by kernel_rfl)) (by decide) (fun K hK => ?_)
             refine goes_ Try.func11 (by kernel_rfl) rfl #[.string ((rd_T36 l0_0 x3_1).f1)] (by rfl) rfl rfl (by (try simp only [List.map_toArray, List.map_cons, List.map_nil]); first | done | rfl | (simp only [List.length_drop, List.length_take]; rfl)) ?_
             with_reducible refine (spec_WordOk.calls k1 ((rd_T36 l0_0 x3_1).f1) true _ A16.out).mono ?_
             rintro e w' ⟨rfl, ⟨nd, rfl⟩⟩
             refine ⟨_, rfl, ?_⟩
             refine hK.out _ _ ⟨(blk_cell BK113.out 0).trans rfl, (blk_cell BK113.out 1).trans rfl, (blk_cell BK113.out 2).trans rfl, (blk_cell BK113.out 3).trans rfl, (blk_cell BK113.out 4).trans rfl, (blk_cell BK111.out 0).trans rfl, ((HB.out.cell (World.block_lt_of_cell? w _ hw115_0)).trans hw115_0), ((HB.out.cell (World.block_lt_of_cell? w _ hw115_1)).trans hw115_1), ((HB.out.cell (World.block_lt_of_cell? w _ hw115_2)).trans hw115_2), ((HB.out.cell (World.block_lt_of_cell? w _ hw115_3)).trans hw115_3), ((HB.out.cell (World.block_lt_of_cell? w _ hw115_4)).trans hw115_4)⟩ (fun hHeld => ?_)
             clear hK K
             refine norm_ (a' := ?_) ?_ ?_
             rotate_left
             ·show Act.put _ (some 43) _ = _
              simp only [Act.put, List.setIfInBounds_toArray, List.set_cons_zero, List.set_cons_succ, i64_w, i32_w]
              rfl
             refine pq_ 24 44 (fl 38 33554431) HT_.out ?_
             refine pq_ 25 45 (fl 38 67108863) HT_.out ?_
             refine pq_ 26 46 (fl 38 134217727) HT_.out ?_
             refine pq_ 27 47 (fl 38 268435455) HT_.out ?_
             refine tq_ 28 48 (fl 38 536870911) HT_.out HW_.out hHeld ?_
             refine one_ (i := 29) (N := some 49) (fl 38 1073741823) rfl rfl (one_of HT_.out (by kernel_rfl)) (by decide) (fun K hK => ?_)
             refine goes_ Try.func11 (by kernel_rfl) rfl #[.string ((rd_T36 l0_0 x3_1).f2)] (by rfl) rfl rfl (by (try simp only [List.map_toArray, List.map_cons, List.map_nil]); first | done | rfl | (simp only [List.length_drop, List.length_take]; rfl)) ?_
             with_reducible refine (spec_WordOk.calls k1 ((rd_T36 l0_0 x3_1).f2) false _ A18.out).mono ?_
             rintro e w' ⟨rfl, ⟨nd, rfl⟩⟩
             refine ⟨_, rfl, ?_⟩
             refine hK.out _ _ ⟨(blk_cell BK113.out 0).trans rfl, (blk_cell BK113.out 1).trans rfl, (blk_cell BK113.out 2).trans rfl, (blk_cell BK113.out 3).trans rfl, (blk_cell BK113.out 4).trans rfl, (blk_cell BK111.out 0).trans rfl, ((HB.out.cell (World.block_lt_of_cell? w _ hw115_0)).trans hw115_0), ((HB.out.cell (World.block_lt_of_cell? w _ hw115_1)).trans hw115_1), ((HB.out.cell (World.block_lt_of_cell? w _ hw115_2)).trans hw115_2), ((HB.out.cell (World.block_lt_of_cell? w _ hw115_3)).trans hw115_3), ((HB.out.cell (World.block_lt_of_cell? w _ hw115_4)).trans hw115_4)⟩ (fun hHeld => ?_)
             clear hK K
             refine norm_ (a' := ?_) ?_ ?_
             rotate_left
             ·show Act.put _ (some 49) _ = _
              simp only [Act.put, List.setIfInBounds_toArray, List.set_cons_zero, List.set_cons_succ, i64_w, i32_w]
              rfl
             refine pq_ 30 50 (fl 38 2147483647) HT_.out ?_
             refine pq_ 31 51 (fl 38 4294967295) HT_.out ?_
             refine pq_ 32 52 (fl 38 8589934591) HT_.out ?_
             refine pu_ 33 53 (fl 38 17179869183) HT_.out ?_
             refine pu_ 34 54 (fl 38 34359738367) HT_.out ?_
             refine pu_ 35 55 (fl 38 68719476735) HT_.out ?_
             refine pu_ 36 56 (fl 38 137438953471) HT_.out ?_
             refine pq_ 37 57 (fl 38 274877906943) HT_.out ?_
             refine done_ (done_of HT_.out (by kernel_rfl)) ?_
             try go_wp2
             go_meet
             case rel => exact ⟨_, (true), (by first | rfl | (simp; done) | (simp [*]; done) | (simp; exact (by intro l; cases l <;> rfl : ∀ l : List UInt8, l.isEmpty = !(l != [])) _)), H', ⟨by have := HK1.out; first | omega | exact Nat.le_refl _⟩, ⟨by (with_reducible repeat (first | refine blk_drewN ?_ _ | refine blk_drew ?_ | refine blk_alloc ?_ _)); exact BK111.out⟩, ⟨by (with_reducible repeat (first | refine blk_drewN ?_ _ | refine blk_drew ?_ | refine blk_alloc ?_ _)); exact BK113.out⟩, ⟨by repeat (first | (with_reducible first | exact HB.out | apply below_alloc | apply pw_below_drewN | apply below_drew1 | refine below_set ?_ GE111.out | refine below_set ?_ GE113.out) | exact HB.out)⟩⟩
           ·replace c17 := Bool.eq_false_iff.mpr c17
            subst c17
            (try rw [if_neg (show ¬ (false = true) by decide)] at H)
            have H' := Aside0.mk H
            clear H
            try go_wp2
            have n0_ := Aside0.mk (blk_drew BK111.out)
            have n1_ := Aside0.mk (blk_drew BK113.out)
            have n2_ := Aside0.mk (below_drew1 HB.out)
            clear BK111
            clear BK113
            clear HB
            have BK111 := n0_
            have BK113 := n1_
            have HB := n2_
            clear n0_ n1_ n2_
            have p115 : 0 ≤ ((ji11) : Int) := of_decide_eq_true (by first | (with_reducible assumption) | assumption)
            have q115 : (ji11) < (l0_0.length : Int) := of_decide_eq_true (by first | (with_reducible assumption) | assumption)
            obtain ⟨ad115, A115_4, c115_4, e115, hx115_0, hx115_1, hx115_2, hx115_3, hx115_4, hl115_4, hi115_4⟩ := at_T36 HR0_0.out (ji11) p115 q115
            have hw115_4 := hx115_4
            have hw115_3 := hx115_3
            have hw115_2 := hx115_2
            have hw115_1 := hx115_1
            have hw115_0 := hx115_0
            obtain rfl : ad112 = ad115 := (by injection e115)
            replace hx115_0 := (HB.out.cell (World.block_lt_of_cell? w _ hx115_0)).trans hx115_0
            replace hx115_1 := (HB.out.cell (World.block_lt_of_cell? w _ hx115_1)).trans hx115_1
            replace hx115_2 := (HB.out.cell (World.block_lt_of_cell? w _ hx115_2)).trans hx115_2
            replace hx115_3 := (HB.out.cell (World.block_lt_of_cell? w _ hx115_3)).trans hx115_3
            replace hx115_4 := (HB.out.cell (World.block_lt_of_cell? w _ hx115_4)).trans hx115_4
            have HR115_4 := Aside0.mk hi115_4
            have HC115_4 := Aside0.mk hl115_4
            clear hi115_4 hl115_4
            replace p115 := eq_true p115
            replace q115 := eq_true q115
            refine start_ (n := 38) (S := fun w' => w'.cell? ⟨gb113, 0, none⟩ = some (.int .i64 ((rd_T36 l0_0 x3_1).f0)) ∧ w'.cell? ⟨gb113, 1, none⟩ = some (.string ((rd_T36 l0_0 x3_1).f1)) ∧ w'.cell? ⟨gb113, 2, none⟩ = some (.string ((rd_T36 l0_0 x3_1).f2)) ∧ w'.cell? ⟨gb113, 3, none⟩ = some (.int .i64 ((rd_T36 l0_0 x3_1).f3)) ∧ w'.cell? ⟨gb113, 4, none⟩ = some (.slice A112_4 ((rd_T36 l0_0 x3_1).f4).length c112_4) ∧ w'.cell? ⟨gb111, 0, none⟩ = some (.slice (some ad112) l0_0.length c0_0) ∧ w'.cell? (ad112.add (((ji11)).toNat * 5)) = some (.int .i64 ((rd_T36 l0_0 (ji11)).f0)) ∧ w'.cell? ⟨(ad112.add (((ji11)).toNat * 5)).block, (ad112.add (((ji11)).toNat * 5)).off + 1, none⟩ = some (.string ((rd_T36 l0_0 (ji11)).f1)) ∧ w'.cell? ⟨(ad112.add (((ji11)).toNat * 5)).block, (ad112.add (((ji11)).toNat * 5)).off + 2, none⟩ = some (.string ((rd_T36 l0_0 (ji11)).f2)) ∧ w'.cell? ⟨(ad112.add (((ji11)).toNat * 5)).block, (ad112.add (((ji11)).toNat * 5)).off + 3, none⟩ = some (.int .i64 ((rd_T36 l0_0 (ji11)).f3)) ∧ w'.cell? ⟨(ad112.add (((ji11)).toNat * 5)).block, (ad112.add (((ji11)).toNat * 5)).off + 4, none⟩ = some (.slice A115_4 ((rd_T36 l0_0 (ji11)).f4).length c115_4)) (ds := []) (fl 38 0) (by kernel_rfl) rfl rfl ⟨(blk_cell BK113.out 0).trans rfl, (blk_cell BK113.out 1).trans rfl, (blk_cell BK113.out 2).trans rfl, (blk_cell BK113.out 3).trans rfl, (blk_cell BK113.out 4).trans rfl, (blk_cell BK111.out 0).trans rfl, ((HB.out.cell (World.block_lt_of_cell? w _ hw115_0)).trans hw115_0), ((HB.out.cell (World.block_lt_of_cell? w _ hw115_1)).trans hw115_1), ((HB.out.cell (World.block_lt_of_cell? w _ hw115_2)).trans hw115_2), ((HB.out.cell (World.block_lt_of_cell? w _ hw115_3)).trans hw115_3), ((HB.out.cell (World.block_lt_of_cell? w _ hw115_4)).trans hw115_4)⟩ (fun hHeld => ?_); refine with_tabW spec_StateOk.tab5 spec_StateOk.bits5 (fun HT_ HW_ => ?_)
            generalize w7.drew = w23 at BK111 BK113 HB HR115_4 hx115_0 hx115_1 hx115_2 hx115_3 hx115_4 hHeld ⊢
            refine pq_ 0 20 (fl 38 1) HT_.out ?_
            refine tq_ 1 21 (fl 38 3) HT_.out HW_.out hHeld ?_
            refine one_ (i := 2) (N := some 22) (fl 38 7) rfl rfl (one_of HT_.out (by kernel_rfl)) (by decide) (fun K hK => ?_)
            refine goes_ Try.func10 (by kernel_rfl) rfl #[.int .i64 ((rd_T36 l0_0 x3_1).f0), .int .i64 1, .int .i64 9999] (by rfl) rfl rfl (by (try simp only [List.map_toArray, List.map_cons, List.map_nil]); first | done | rfl | (simp only [List.length_drop, List.length_take]; rfl)) ?_
            with_reducible refine (spec_l01In.calls ((rd_T36 l0_0 x3_1).f0) 1 9999 true _ A8.out).mono ?_
            rintro e w' ⟨rfl, ⟨nd, rfl⟩⟩
            refine ⟨_, rfl, ?_⟩
            refine hK.out _ _ ⟨(blk_cell BK113.out 0).trans rfl, (blk_cell BK113.out 1).trans rfl, (blk_cell BK113.out 2).trans rfl, (blk_cell BK113.out 3).trans rfl, (blk_cell BK113.out 4).trans rfl, (blk_cell BK111.out 0).trans rfl, ((HB.out.cell (World.block_lt_of_cell? w _ hw115_0)).trans hw115_0), ((HB.out.cell (World.block_lt_of_cell? w _ hw115_1)).trans hw115_1), ((HB.out.cell (World.block_lt_of_cell? w _ hw115_2)).trans hw115_2), ((HB.out.cell (World.block_lt_of_cell? w _ hw115_3)).trans hw115_3), ((HB.out.cell (World.block_lt_of_cell? w _ hw115_4)).trans hw115_4)⟩ (fun hHeld => ?_)
            clear hK K
            refine norm_ (a' := ?_) ?_ ?_
            rotate_left
            ·show Act.put _ (some 22) _ = _
             simp only [Act.put, List.setIfInBounds_toArray, List.set_cons_zero, List.set_cons_succ, i64_w, i32_w]
             rfl
            refine pq_ 3 23 (fl 38 15) HT_.out ?_
            refine pq_ 4 24 (fl 38 31) HT_.out ?_
            refine pq_ 5 25 (fl 38 63) HT_.out ?_
            refine pq_ 6 26 (fl 38 127) HT_.out ?_
            refine pq_ 7 27 (fl 38 255) HT_.out ?_
            refine pq_ 8 28 (fl 38 511) HT_.out ?_
            refine pq_ 10 30 (fl 38 1535) HT_.out ?_
            refine pq_ 11 31 (fl 38 3583) HT_.out ?_
            refine pq_ 15 35 (fl 38 36351) HT_.out ?_
            refine tq_ 9 29 (fl 38 36863) HT_.out HW_.out hHeld ?_
            refine pq_ 12 32 (fl 38 40959) HT_.out ?_
            refine pq_ 13 33 (fl 38 49151) HT_.out ?_
            refine tq_ 14 34 (fl 38 65535) HT_.out HW_.out hHeld ?_
            refine tq_ 16 36 (fl 38 131071) HT_.out HW_.out hHeld ?_
            refine pq_ 17 37 (fl 38 262143) HT_.out ?_
            refine pq_ 18 38 (fl 38 524287) HT_.out ?_
            refine pq_ 19 39 (fl 38 1048575) HT_.out ?_
            refine pq_ 20 40 (fl 38 2097151) HT_.out ?_
            refine pq_ 21 41 (fl 38 4194303) HT_.out ?_
            refine tq_ 22 42 (fl 38 8388607) HT_.out HW_.out hHeld ?_
            refine one_ (i := 23) (N := some 43) (fl 38 16777215) rfl rfl (one_of HT_.out (by kernel_rfl)) (by decide) (fun K hK => ?_)
            refine goes_ Try.func11 (by kernel_rfl) rfl #[.string ((rd_T36 l0_0 x3_1).f1)] (by rfl) rfl rfl (by (try simp only [List.map_toArray, List.map_cons, List.map_nil]); first | done | rfl | (simp only [List.length_drop, List.length_take]; rfl)) ?_
            with_reducible refine (spec_WordOk.calls k1 ((rd_T36 l0_0 x3_1).f1) false _ A16.out).mono ?_
            rintro e w' ⟨rfl, ⟨nd, rfl⟩⟩
            refine ⟨_, rfl, ?_⟩
            refine hK.out _ _ ⟨(blk_cell BK113.out 0).trans rfl, (blk_cell BK113.out 1).trans rfl, (blk_cell BK113.out 2).trans rfl, (blk_cell BK113.out 3).trans rfl, (blk_cell BK113.out 4).trans rfl, (blk_cell BK111.out 0).trans rfl, ((HB.out.cell (World.block_lt_of_cell? w _ hw115_0)).trans hw115_0), ((HB.out.cell (World.block_lt_of_cell? w _ hw115_1)).trans hw115_1), ((HB.out.cell (World.block_lt_of_cell? w _ hw115_2)).trans hw115_2), ((HB.out.cell (World.block_lt_of_cell? w _ hw115_3)).trans hw115_3), ((HB.out.cell (World.block_lt_of_cell? w _ hw115_4)).trans hw115_4)⟩ (fun hHeld => ?_)
            clear hK K
            refine norm_ (a' := ?_) ?_ ?_
            rotate_left
            ·show Act.put _ (some 43) _ = _
             simp only [Act.put, List.setIfInBounds_toArray, List.set_cons_zero, List.set_cons_succ, i64_w, i32_w]
             rfl
            refine pq_ 24 44 (fl 38 33554431) HT_.out ?_
            refine pq_ 25 45 (fl 38 67108863) HT_.out ?_
            refine pq_ 26 46 (fl 38 134217727) HT_.out ?_
            refine pu_ 27 47 (fl 38 268435455) HT_.out ?_
            refine pu_ 28 48 (fl 38 536870911) HT_.out ?_
            refine pu_ 29 49 (fl 38 1073741823) HT_.out ?_
            refine pu_ 30 50 (fl 38 2147483647) HT_.out ?_
            refine pq_ 31 51 (fl 38 4294967295) HT_.out ?_
            refine pq_ 32 52 (fl 38 8589934591) HT_.out ?_
            refine pu_ 33 53 (fl 38 17179869183) HT_.out ?_
            refine pu_ 34 54 (fl 38 34359738367) HT_.out ?_
            refine pu_ 35 55 (fl 38 68719476735) HT_.out ?_
            refine pu_ 36 56 (fl 38 137438953471) HT_.out ?_
            refine pq_ 37 57 (fl 38 274877906943) HT_.out ?_
            refine done_ (done_of HT_.out (by kernel_rfl)) ?_
            try go_wp2
            go_meet
            case rel => exact ⟨_, (true), (by first | rfl | (simp; done) | (simp [*]; done) | (simp; exact (by intro l; cases l <;> rfl : ∀ l : List UInt8, l.isEmpty = !(l != [])) _)), H', ⟨by have := HK1.out; first | omega | exact Nat.le_refl _⟩, ⟨by (with_reducible repeat (first | refine blk_drewN ?_ _ | refine blk_drew ?_ | refine blk_alloc ?_ _)); exact BK111.out⟩, ⟨by (with_reducible repeat (first | refine blk_drewN ?_ _ | refine blk_drew ?_ | refine blk_alloc ?_ _)); exact BK113.out⟩, ⟨by repeat (first | (with_reducible first | exact HB.out | apply below_alloc | apply pw_below_drewN | apply below_drew1 | refine below_set ?_ GE111.out | refine below_set ?_ GE113.out) | exact HB.out)⟩⟩
         ·rw [if_neg c13] at H
          exact absurd H (by simp)
        ·rw [if_neg c12] at H
         exact absurd H (by simp)
       ·rw [if_neg c10] at H
        have c10b0 : decide (0 < x3_1) = false := decide_eq_false c10
        clear c10
        (first | rw [c10b0] | (simp only [i64_w, i32_w]; rw [c10b0]) | skip)
        replace H := Option.bind_eq_some_iff.mp H
        obtain ⟨t119, A240, H⟩ := H
        (try set_option simprocs false in dsimp only at H)
        have A24 := Aside0.mk A240
        clear A240
        by_cases c25 : t119 = true
        ·subst c25
         (try rw [if_pos rfl] at H)
         replace H := Option.bind_eq_some_iff.mp H
         obtain ⟨t120, A260, H⟩ := H
         (try set_option simprocs false in dsimp only at H)
         have A26 := Aside0.mk A260
         clear A260
         by_cases c27 : t120 = true
         ·subst c27
          (try rw [if_pos rfl] at H)
          replace H := Option.bind_eq_some_iff.mp H
          obtain ⟨t121, A280, H⟩ := H
          (try set_option simprocs false in dsimp only at H)
          have A28 := Aside0.mk A280
          clear A280
          have H' := Aside0.mk H
          clear H
          try go_wp2
          have n0_ := Aside0.mk (blk_drew BK111.out)
          have n1_ := Aside0.mk (blk_drew BK113.out)
          have n2_ := Aside0.mk (below_drew1 HB.out)
          clear BK111
          clear BK113
          clear HB
          have BK111 := n0_
          have BK113 := n1_
          have HB := n2_
          clear n0_ n1_ n2_
          refine start_ (n := 38) (S := fun w' => w'.cell? ⟨gb113, 0, none⟩ = some (.int .i64 ((rd_T36 l0_0 x3_1).f0)) ∧ w'.cell? ⟨gb113, 1, none⟩ = some (.string ((rd_T36 l0_0 x3_1).f1)) ∧ w'.cell? ⟨gb113, 2, none⟩ = some (.string ((rd_T36 l0_0 x3_1).f2)) ∧ w'.cell? ⟨gb113, 3, none⟩ = some (.int .i64 ((rd_T36 l0_0 x3_1).f3)) ∧ w'.cell? ⟨gb113, 4, none⟩ = some (.slice A112_4 ((rd_T36 l0_0 x3_1).f4).length c112_4)) (ds := []) (fl 38 0) (by kernel_rfl) rfl rfl ⟨(blk_cell BK113.out 0).trans rfl, (blk_cell BK113.out 1).trans rfl, (blk_cell BK113.out 2).trans rfl, (blk_cell BK113.out 3).trans rfl, (blk_cell BK113.out 4).trans rfl⟩ (fun hHeld => ?_); refine with_tabW spec_StateOk.tab5 spec_StateOk.bits5 (fun HT_ HW_ => ?_)
          generalize w7.drew = w29 at BK111 BK113 HB hHeld ⊢
          refine pq_ 0 20 (fl 38 1) HT_.out ?_
          refine tq_ 1 21 (fl 38 3) HT_.out HW_.out hHeld ?_
          refine one_ (i := 2) (N := some 22) (fl 38 7) rfl rfl (one_of HT_.out (by kernel_rfl)) (by decide) (fun K hK => ?_)
          refine goes_ Try.func10 (by kernel_rfl) rfl #[.int .i64 ((rd_T36 l0_0 x3_1).f0), .int .i64 1, .int .i64 9999] (by rfl) rfl rfl (by (try simp only [List.map_toArray, List.map_cons, List.map_nil]); first | done | rfl | (simp only [List.length_drop, List.length_take]; rfl)) ?_
          with_reducible refine (spec_l01In.calls ((rd_T36 l0_0 x3_1).f0) 1 9999 true _ A8.out).mono ?_
          rintro e w' ⟨rfl, ⟨nd, rfl⟩⟩
          refine ⟨_, rfl, ?_⟩
          refine hK.out _ _ ⟨(blk_cell BK113.out 0).trans rfl, (blk_cell BK113.out 1).trans rfl, (blk_cell BK113.out 2).trans rfl, (blk_cell BK113.out 3).trans rfl, (blk_cell BK113.out 4).trans rfl⟩ (fun hHeld => ?_)
          clear hK K
          refine norm_ (a' := ?_) ?_ ?_
          rotate_left
          ·show Act.put _ (some 22) _ = _
           simp only [Act.put, List.setIfInBounds_toArray, List.set_cons_zero, List.set_cons_succ, i64_w, i32_w]
           rfl
          refine pq_ 3 23 (fl 38 15) HT_.out ?_
          refine pq_ 4 24 (fl 38 31) HT_.out ?_
          refine pq_ 5 25 (fl 38 63) HT_.out ?_
          refine pq_ 6 26 (fl 38 127) HT_.out ?_
          refine pq_ 7 27 (fl 38 255) HT_.out ?_
          refine pu_ 8 28 (fl 38 511) HT_.out ?_
          refine pu_ 9 29 (fl 38 1023) HT_.out ?_
          refine pu_ 10 30 (fl 38 2047) HT_.out ?_
          refine pu_ 11 31 (fl 38 4095) HT_.out ?_
          refine pu_ 12 32 (fl 38 8191) HT_.out ?_
          refine pu_ 13 33 (fl 38 16383) HT_.out ?_
          refine pu_ 14 34 (fl 38 32767) HT_.out ?_
          refine pu_ 15 35 (fl 38 65535) HT_.out ?_
          refine pu_ 16 36 (fl 38 131071) HT_.out ?_
          refine pu_ 17 37 (fl 38 262143) HT_.out ?_
          refine pq_ 18 38 (fl 38 524287) HT_.out ?_
          refine pq_ 19 39 (fl 38 1048575) HT_.out ?_
          refine pq_ 20 40 (fl 38 2097151) HT_.out ?_
          refine pq_ 21 41 (fl 38 4194303) HT_.out ?_
          refine tq_ 22 42 (fl 38 8388607) HT_.out HW_.out hHeld ?_
          refine one_ (i := 23) (N := some 43) (fl 38 16777215) rfl rfl (one_of HT_.out (by kernel_rfl)) (by decide) (fun K hK => ?_)
          refine goes_ Try.func11 (by kernel_rfl) rfl #[.string ((rd_T36 l0_0 x3_1).f1)] (by rfl) rfl rfl (by (try simp only [List.map_toArray, List.map_cons, List.map_nil]); first | done | rfl | (simp only [List.length_drop, List.length_take]; rfl)) ?_
          with_reducible refine (spec_WordOk.calls k1 ((rd_T36 l0_0 x3_1).f1) true _ A24.out).mono ?_
          rintro e w' ⟨rfl, ⟨nd, rfl⟩⟩
          refine ⟨_, rfl, ?_⟩
          refine hK.out _ _ ⟨(blk_cell BK113.out 0).trans rfl, (blk_cell BK113.out 1).trans rfl, (blk_cell BK113.out 2).trans rfl, (blk_cell BK113.out 3).trans rfl, (blk_cell BK113.out 4).trans rfl⟩ (fun hHeld => ?_)
          clear hK K
          refine norm_ (a' := ?_) ?_ ?_
          rotate_left
          ·show Act.put _ (some 43) _ = _
           simp only [Act.put, List.setIfInBounds_toArray, List.set_cons_zero, List.set_cons_succ, i64_w, i32_w]
           rfl
          refine pq_ 24 44 (fl 38 33554431) HT_.out ?_
          refine pq_ 25 45 (fl 38 67108863) HT_.out ?_
          refine pq_ 26 46 (fl 38 134217727) HT_.out ?_
          refine pq_ 27 47 (fl 38 268435455) HT_.out ?_
          refine tq_ 28 48 (fl 38 536870911) HT_.out HW_.out hHeld ?_
          refine one_ (i := 29) (N := some 49) (fl 38 1073741823) rfl rfl (one_of HT_.out (by kernel_rfl)) (by decide) (fun K hK => ?_)
          refine goes_ Try.func11 (by kernel_rfl) rfl #[.string ((rd_T36 l0_0 x3_1).f2)] (by rfl) rfl rfl (by (try simp only [List.map_toArray, List.map_cons, List.map_nil]); first | done | rfl | (simp only [List.length_drop, List.length_take]; rfl)) ?_
          with_reducible refine (spec_WordOk.calls k1 ((rd_T36 l0_0 x3_1).f2) true _ A26.out).mono ?_
          rintro e w' ⟨rfl, ⟨nd, rfl⟩⟩
          refine ⟨_, rfl, ?_⟩
          refine hK.out _ _ ⟨(blk_cell BK113.out 0).trans rfl, (blk_cell BK113.out 1).trans rfl, (blk_cell BK113.out 2).trans rfl, (blk_cell BK113.out 3).trans rfl, (blk_cell BK113.out 4).trans rfl⟩ (fun hHeld => ?_)
          clear hK K
          refine norm_ (a' := ?_) ?_ ?_
          rotate_left
          ·show Act.put _ (some 49) _ = _
           simp only [Act.put, List.setIfInBounds_toArray, List.set_cons_zero, List.set_cons_succ, i64_w, i32_w]
           rfl
          refine pq_ 30 50 (fl 38 2147483647) HT_.out ?_
          refine pq_ 31 51 (fl 38 4294967295) HT_.out ?_
          refine pq_ 32 52 (fl 38 8589934591) HT_.out ?_
          refine pq_ 33 53 (fl 38 17179869183) HT_.out ?_
          refine tq_ 34 54 (fl 38 34359738367) HT_.out HW_.out hHeld ?_
          refine one_ (i := 35) (N := some 55) (fl 38 68719476735) rfl rfl (one_of HT_.out (by kernel_rfl)) (by decide) (fun K hK => ?_)
          refine goes_ Try.func10 (by kernel_rfl) rfl #[.int .i64 ((rd_T36 l0_0 x3_1).f3), .int .i64 1, .int .i64 10000] (by rfl) rfl rfl (by (try simp only [List.map_toArray, List.map_cons, List.map_nil]); first | done | rfl | (simp only [List.length_drop, List.length_take]; rfl)) ?_
          with_reducible refine (spec_l01In.calls ((rd_T36 l0_0 x3_1).f3) 1 10000 t121 _ A28.out).mono ?_
          rintro e w' ⟨rfl, ⟨nd, rfl⟩⟩
          refine ⟨_, rfl, ?_⟩
          refine hK.out _ _ ⟨(blk_cell BK113.out 0).trans rfl, (blk_cell BK113.out 1).trans rfl, (blk_cell BK113.out 2).trans rfl, (blk_cell BK113.out 3).trans rfl, (blk_cell BK113.out 4).trans rfl⟩ (fun hHeld => ?_)
          clear hK K
          refine norm_ (a' := ?_) ?_ ?_
          rotate_left
          ·show Act.put _ (some 55) _ = _
           simp only [Act.put, List.setIfInBounds_toArray, List.set_cons_zero, List.set_cons_succ, i64_w, i32_w]
           rfl
          refine pq_ 36 56 (fl 38 137438953471) HT_.out ?_
          refine pq_ 37 57 (fl 38 274877906943) HT_.out ?_
          refine done_ (done_of HT_.out (by kernel_rfl)) ?_
          try go_wp2
          go_meet
          case rel => exact ⟨_, (!t121), (by first | rfl | (simp; done) | (simp [*]; done) | (simp; exact (by intro l; cases l <;> rfl : ∀ l : List UInt8, l.isEmpty = !(l != [])) _)), H', ⟨by have := HK1.out; first | omega | exact Nat.le_refl _⟩, ⟨by (with_reducible repeat (first | refine blk_drewN ?_ _ | refine blk_drew ?_ | refine blk_alloc ?_ _)); exact BK111.out⟩, ⟨by (with_reducible repeat (first | refine blk_drewN ?_ _ | refine blk_drew ?_ | refine blk_alloc ?_ _)); exact BK113.out⟩, ⟨by repeat (first | (with_reducible first | exact HB.out | apply below_alloc | apply pw_below_drewN | apply below_drew1 | refine below_set ?_ GE111.out | refine below_set ?_ GE113.out) | exact HB.out)⟩⟩
         ·replace c27 := Bool.eq_false_iff.mpr c27
          subst c27
          (try rw [if_neg (show ¬ (false = true) by decide)] at H)
          have H' := Aside0.mk H
          clear H
          try go_wp2
          have n0_ := Aside0.mk (blk_drew BK111.out)
          have n1_ := Aside0.mk (blk_drew BK113.out)
          have n2_ := Aside0.mk (below_drew1 HB.out)
          clear BK111
          clear BK113
          clear HB
          have BK111 := n0_
          have BK113 := n1_
          have HB := n2_
          clear n0_ n1_ n2_
          refine start_ (n := 38) (S := fun w' => w'.cell? ⟨gb113, 0, none⟩ = some (.int .i64 ((rd_T36 l0_0 x3_1).f0)) ∧ w'.cell? ⟨gb113, 1, none⟩ = some (.string ((rd_T36 l0_0 x3_1).f1)) ∧ w'.cell? ⟨gb113, 2, none⟩ = some (.string ((rd_T36 l0_0 x3_1).f2)) ∧ w'.cell? ⟨gb113, 3, none⟩ = some (.int .i64 ((rd_T36 l0_0 x3_1).f3)) ∧ w'.cell? ⟨gb113, 4, none⟩ = some (.slice A112_4 ((rd_T36 l0_0 x3_1).f4).length c112_4)) (ds := []) (fl 38 0) (by kernel_rfl) rfl rfl ⟨(blk_cell BK113.out 0).trans rfl, (blk_cell BK113.out 1).trans rfl, (blk_cell BK113.out 2).trans rfl, (blk_cell BK113.out 3).trans rfl, (blk_cell BK113.out 4).trans rfl⟩ (fun hHeld => ?_); refine with_tabW spec_StateOk.tab5 spec_StateOk.bits5 (fun HT_ HW_ => ?_)
          generalize w7.drew = w30 at BK111 BK113 HB hHeld ⊢
          refine pq_ 0 20 (fl 38 1) HT_.out ?_
          refine tq_ 1 21 (fl 38 3) HT_.out HW_.out hHeld ?_
          refine one_ (i := 2) (N := some 22) (fl 38 7) rfl rfl (one_of HT_.out (by kernel_rfl)) (by decide) (fun K hK => ?_)
          refine goes_ Try.func10 (by kernel_rfl) rfl #[.int .i64 ((rd_T36 l0_0 x3_1).f0), .int .i64 1, .int .i64 9999] (by rfl) rfl rfl (by (try simp only [List.map_toArray, List.map_cons, List.map_nil]); first | done | rfl | (simp only [List.length_drop, List.length_take]; rfl)) ?_
          with_reducible refine (spec_l01In.calls ((rd_T36 l0_0 x3_1).f0) 1 9999 true _ A8.out).mono ?_
          rintro e w' ⟨rfl, ⟨nd, rfl⟩⟩
          refine ⟨_, rfl, ?_⟩
          refine hK.out _ _ ⟨(blk_cell BK113.out 0).trans rfl, (blk_cell BK113.out 1).trans rfl, (blk_cell BK113.out 2).trans rfl, (blk_cell BK113.out 3).trans rfl, (blk_cell BK113.out 4).trans rfl⟩ (fun hHeld => ?_)
          clear hK K
          refine norm_ (a' := ?_) ?_ ?_
          rotate_left
          ·show Act.put _ (some 22) _ = _
           simp only [Act.put, List.setIfInBounds_toArray, List.set_cons_zero, List.set_cons_succ, i64_w, i32_w]
           rfl
          refine pq_ 3 23 (fl 38 15) HT_.out ?_
          refine pq_ 4 24 (fl 38 31) HT_.out ?_
          refine pq_ 5 25 (fl 38 63) HT_.out ?_
          refine pq_ 6 26 (fl 38 127) HT_.out ?_
          refine pq_ 7 27 (fl 38 255) HT_.out ?_
          refine pu_ 8 28 (fl 38 511) HT_.out ?_
          refine pu_ 9 29 (fl 38 1023) HT_.out ?_
          refine pu_ 10 30 (fl 38 2047) HT_.out ?_
          refine pu_ 11 31 (fl 38 4095) HT_.out ?_
          refine pu_ 12 32 (fl 38 8191) HT_.out ?_
          refine pu_ 13 33 (fl 38 16383) HT_.out ?_
          refine pu_ 14 34 (fl 38 32767) HT_.out ?_
          refine pu_ 15 35 (fl 38 65535) HT_.out ?_
          refine pu_ 16 36 (fl 38 131071) HT_.out ?_
          refine pu_ 17 37 (fl 38 262143) HT_.out ?_
          refine pq_ 18 38 (fl 38 524287) HT_.out ?_
          refine pq_ 19 39 (fl 38 1048575) HT_.out ?_
          refine pq_ 20 40 (fl 38 2097151) HT_.out ?_
          refine pq_ 21 41 (fl 38 4194303) HT_.out ?_
          refine tq_ 22 42 (fl 38 8388607) HT_.out HW_.out hHeld ?_
          refine one_ (i := 23) (N := some 43) (fl 38 16777215) rfl rfl (one_of HT_.out (by kernel_rfl)) (by decide) (fun K hK => ?_)
          refine goes_ Try.func11 (by kernel_rfl) rfl #[.string ((rd_T36 l0_0 x3_1).f1)] (by rfl) rfl rfl (by (try simp only [List.map_toArray, List.map_cons, List.map_nil]); first | done | rfl | (simp only [List.length_drop, List.length_take]; rfl)) ?_
          with_reducible refine (spec_WordOk.calls k1 ((rd_T36 l0_0 x3_1).f1) true _ A24.out).mono ?_
          rintro e w' ⟨rfl, ⟨nd, rfl⟩⟩
          refine ⟨_, rfl, ?_⟩
          refine hK.out _ _ ⟨(blk_cell BK113.out 0).trans rfl, (blk_cell BK113.out 1).trans rfl, (blk_cell BK113.out 2).trans rfl, (blk_cell BK113.out 3).trans rfl, (blk_cell BK113.out 4).trans rfl⟩ (fun hHeld => ?_)
          clear hK K
          refine norm_ (a' := ?_) ?_ ?_
          rotate_left
          ·show Act.put _ (some 43) _ = _
           simp only [Act.put, List.setIfInBounds_toArray, List.set_cons_zero, List.set_cons_succ, i64_w, i32_w]
           rfl
          refine pq_ 24 44 (fl 38 33554431) HT_.out ?_
          refine pq_ 25 45 (fl 38 67108863) HT_.out ?_
          refine pq_ 26 46 (fl 38 134217727) HT_.out ?_
          refine pq_ 27 47 (fl 38 268435455) HT_.out ?_
          refine tq_ 28 48 (fl 38 536870911) HT_.out HW_.out hHeld ?_
          refine one_ (i := 29) (N := some 49) (fl 38 1073741823) rfl rfl (one_of HT_.out (by kernel_rfl)) (by decide) (fun K hK => ?_)
          refine goes_ Try.func11 (by kernel_rfl) rfl #[.string ((rd_T36 l0_0 x3_1).f2)] (by rfl) rfl rfl (by (try simp only [List.map_toArray, List.map_cons, List.map_nil]); first | done | rfl | (simp only [List.length_drop, List.length_take]; rfl)) ?_
          with_reducible refine (spec_WordOk.calls k1 ((rd_T36 l0_0 x3_1).f2) false _ A26.out).mono ?_
          rintro e w' ⟨rfl, ⟨nd, rfl⟩⟩
          refine ⟨_, rfl, ?_⟩
          refine hK.out _ _ ⟨(blk_cell BK113.out 0).trans rfl, (blk_cell BK113.out 1).trans rfl, (blk_cell BK113.out 2).trans rfl, (blk_cell BK113.out 3).trans rfl, (blk_cell BK113.out 4).trans rfl⟩ (fun hHeld => ?_)
          clear hK K
          refine norm_ (a' := ?_) ?_ ?_
          rotate_left
          ·show Act.put _ (some 49) _ = _
           simp only [Act.put, List.setIfInBounds_toArray, List.set_cons_zero, List.set_cons_succ, i64_w, i32_w]
           rfl
          refine pq_ 30 50 (fl 38 2147483647) HT_.out ?_
          refine pq_ 31 51 (fl 38 4294967295) HT_.out ?_
          refine pq_ 32 52 (fl 38 8589934591) HT_.out ?_
          refine pu_ 33 53 (fl 38 17179869183) HT_.out ?_
          refine pu_ 34 54 (fl 38 34359738367) HT_.out ?_
          refine pu_ 35 55 (fl 38 68719476735) HT_.out ?_
          refine pu_ 36 56 (fl 38 137438953471) HT_.out ?_
          refine pq_ 37 57 (fl 38 274877906943) HT_.out ?_
          refine done_ (done_of HT_.out (by kernel_rfl)) ?_
          try go_wp2
          go_meet
          case rel => exact ⟨_, (true), (by first | rfl | (simp; done) | (simp [*]; done) | (simp; exact (by intro l; cases l <;> rfl : ∀ l : List UInt8, l.isEmpty = !(l != [])) _)), H', ⟨by have := HK1.out; first | omega | exact Nat.le_refl _⟩, ⟨by (with_reducible repeat (first | refine blk_drewN ?_ _ | refine blk_drew ?_ | refine blk_alloc ?_ _)); exact BK111.out⟩, ⟨by (with_reducible repeat (first | refine blk_drewN ?_ _ | refine blk_drew ?_ | refine blk_alloc ?_ _)); exact BK113.out⟩, ⟨by repeat (first | (with_reducible first | exact HB.out | apply below_alloc | apply pw_below_drewN | apply below_drew1 | refine below_set ?_ GE111.out | refine below_set ?_ GE113.out) | exact HB.out)⟩⟩
        ·replace c25 := Bool.eq_false_iff.mpr c25
         subst c25
         (try rw [if_neg (show ¬ (false = true) by decide)] at H)
         have H' := Aside0.mk H
         clear H
         try go_wp2
         have n0_ := Aside0.mk (blk_drew BK111.out)
         have n1_ := Aside0.mk (blk_drew BK113.out)
         have n2_ := Aside0.mk (below_drew1 HB.out)
         clear BK111
         clear BK113
         clear HB
         have BK111 := n0_
         have BK113 := n1_
         have HB := n2_
         clear n0_ n1_ n2_
         refine start_ (n := 38) (S := fun w' => w'.cell? ⟨gb113, 0, none⟩ = some (.int .i64 ((rd_T36 l0_0 x3_1).f0)) ∧ w'.cell? ⟨gb113, 1, none⟩ = some (.string ((rd_T36 l0_0 x3_1).f1)) ∧ w'.cell? ⟨gb113, 2, none⟩ = some (.string ((rd_T36 l0_0 x3_1).f2)) ∧ w'.cell? ⟨gb113, 3, none⟩ = some (.int .i64 ((rd_T36 l0_0 x3_1).f3)) ∧ w'.cell? ⟨gb113, 4, none⟩ = some (.slice A112_4 ((rd_T36 l0_0 x3_1).f4).length c112_4)) (ds := []) (fl 38 0) (by kernel_rfl) rfl rfl ⟨(blk_cell BK113.out 0).trans rfl, (blk_cell BK113.out 1).trans rfl, (blk_cell BK113.out 2).trans rfl, (blk_cell BK113.out 3).trans rfl, (blk_cell BK113.out 4).trans rfl⟩ (fun hHeld => ?_); refine with_tabW spec_StateOk.tab5 spec_StateOk.bits5 (fun HT_ HW_ => ?_)
         generalize w7.drew = w31 at BK111 BK113 HB hHeld ⊢
         refine pq_ 0 20 (fl 38 1) HT_.out ?_
         refine tq_ 1 21 (fl 38 3) HT_.out HW_.out hHeld ?_
         refine one_ (i := 2) (N := some 22) (fl 38 7) rfl rfl (one_of HT_.out (by kernel_rfl)) (by decide) (fun K hK => ?_)
         refine goes_ Try.func10 (by kernel_rfl) rfl #[.int .i64 ((rd_T36 l0_0 x3_1).f0), .int .i64 1, .int .i64 9999] (by rfl) rfl rfl (by (try simp only [List.map_toArray, List.map_cons, List.map_nil]); first | done | rfl | (simp only [List.length_drop, List.length_take]; rfl)) ?_
         with_reducible refine (spec_l01In.calls ((rd_T36 l0_0 x3_1).f0) 1 9999 true _ A8.out).mono ?_
         rintro e w' ⟨rfl, ⟨nd, rfl⟩⟩
         refine ⟨_, rfl, ?_⟩
         refine hK.out _ _ ⟨(blk_cell BK113.out 0).trans rfl, (blk_cell BK113.out 1).trans rfl, (blk_cell BK113.out 2).trans rfl, (blk_cell BK113.out 3).trans rfl, (blk_cell BK113.out 4).trans rfl⟩ (fun hHeld => ?_)
         clear hK K
         refine norm_ (a' := ?_) ?_ ?_
         rotate_left
         ·show Act.put _ (some 22) _ = _
          simp only [Act.put, List.setIfInBounds_toArray, List.set_cons_zero, List.set_cons_succ, i64_w, i32_w]
          rfl
         refine pq_ 3 23 (fl 38 15) HT_.out ?_
         refine pq_ 4 24 (fl 38 31) HT_.out ?_
         refine pq_ 5 25 (fl 38 63) HT_.out ?_
         refine pq_ 6 26 (fl 38 127) HT_.out ?_
         refine pq_ 7 27 (fl 38 255) HT_.out ?_
         refine pu_ 8 28 (fl 38 511) HT_.out ?_
         refine pu_ 9 29 (fl 38 1023) HT_.out ?_
         refine pu_ 10 30 (fl 38 2047) HT_.out ?_
         refine pu_ 11 31 (fl 38 4095) HT_.out ?_
         refine pu_ 12 32 (fl 38 8191) HT_.out ?_
         refine pu_ 13 33 (fl 38 16383) HT_.out ?_
         refine pu_ 14 34 (fl 38 32767) HT_.out ?_
         refine pu_ 15 35 (fl 38 65535) HT_.out ?_
         refine pu_ 16 36 (fl 38 131071) HT_.out ?_
         refine pu_ 17 37 (fl 38 262143) HT_.out ?_
         refine pq_ 18 38 (fl 38 524287) HT_.out ?_
         refine pq_ 19 39 (fl 38 1048575) HT_.out ?_
         refine pq_ 20 40 (fl 38 2097151) HT_.out ?_
         refine pq_ 21 41 (fl 38 4194303) HT_.out ?_
         refine tq_ 22 42 (fl 38 8388607) HT_.out HW_.out hHeld ?_
         refine one_ (i := 23) (N := some 43) (fl 38 16777215) rfl rfl (one_of HT_.out (by kernel_rfl)) (by decide) (fun K hK => ?_)
         refine goes_ Try.func11 (by kernel_rfl) rfl #[.string ((rd_T36 l0_0 x3_1).f1)] (by rfl) rfl rfl (by (try simp only [List.map_toArray, List.map_cons, List.map_nil]); first | done | rfl | (simp only [List.length_drop, List.length_take]; rfl)) ?_
         with_reducible refine (spec_WordOk.calls k1 ((rd_T36 l0_0 x3_1).f1) false _ A24.out).mono ?_
         rintro e w' ⟨rfl, ⟨nd, rfl⟩⟩
         refine ⟨_, rfl, ?_⟩
         refine hK.out _ _ ⟨(blk_cell BK113.out 0).trans rfl, (blk_cell BK113.out 1).trans rfl, (blk_cell BK113.out 2).trans rfl, (blk_cell BK113.out 3).trans rfl, (blk_cell BK113.out 4).trans rfl⟩ (fun hHeld => ?_)
         clear hK K
         refine norm_ (a' := ?_) ?_ ?_
         rotate_left
         ·show Act.put _ (some 43) _ = _
          simp only [Act.put, List.setIfInBounds_toArray, List.set_cons_zero, List.set_cons_succ, i64_w, i32_w]
          rfl
         refine pq_ 24 44 (fl 38 33554431) HT_.out ?_
         refine pq_ 25 45 (fl 38 67108863) HT_.out ?_
         refine pq_ 26 46 (fl 38 134217727) HT_.out ?_
         refine pu_ 27 47 (fl 38 268435455) HT_.out ?_
         refine pu_ 28 48 (fl 38 536870911) HT_.out ?_
         refine pu_ 29 49 (fl 38 1073741823) HT_.out ?_
         refine pu_ 30 50 (fl 38 2147483647) HT_.out ?_
         refine pq_ 31 51 (fl 38 4294967295) HT_.out ?_
         refine pq_ 32 52 (fl 38 8589934591) HT_.out ?_
         refine pu_ 33 53 (fl 38 17179869183) HT_.out ?_
         refine pu_ 34 54 (fl 38 34359738367) HT_.out ?_
         refine pu_ 35 55 (fl 38 68719476735) HT_.out ?_
         refine pu_ 36 56 (fl 38 137438953471) HT_.out ?_
         refine pq_ 37 57 (fl 38 274877906943) HT_.out ?_
         refine done_ (done_of HT_.out (by kernel_rfl)) ?_
         try go_wp2
         go_meet
         case rel => exact ⟨_, (true), (by first | rfl | (simp; done) | (simp [*]; done) | (simp; exact (by intro l; cases l <;> rfl : ∀ l : List UInt8, l.isEmpty = !(l != [])) _)), H', ⟨by have := HK1.out; first | omega | exact Nat.le_refl _⟩, ⟨by (with_reducible repeat (first | refine blk_drewN ?_ _ | refine blk_drew ?_ | refine blk_alloc ?_ _)); exact BK111.out⟩, ⟨by (with_reducible repeat (first | refine blk_drewN ?_ _ | refine blk_drew ?_ | refine blk_alloc ?_ _)); exact BK113.out⟩, ⟨by repeat (first | (with_reducible first | exact HB.out | apply below_alloc | apply pw_below_drewN | apply below_drew1 | refine below_set ?_ GE111.out | refine below_set ?_ GE113.out) | exact HB.out)⟩⟩
      ·replace c9 := Bool.eq_false_iff.mpr c9
       subst c9
       (try rw [if_neg (show ¬ (false = true) by decide)] at H)
       have H' := Aside0.mk H
       clear H
       try go_wp2
       have n0_ := Aside0.mk (blk_drew BK111.out)
       have n1_ := Aside0.mk (blk_drew BK113.out)
       have n2_ := Aside0.mk (below_drew1 HB.out)
       clear BK111
       clear BK113
       clear HB
       have BK111 := n0_
       have BK113 := n1_
       have HB := n2_
       clear n0_ n1_ n2_
       refine start_ (n := 38) (S := fun w' => w'.cell? ⟨gb113, 0, none⟩ = some (.int .i64 ((rd_T36 l0_0 x3_1).f0)) ∧ w'.cell? ⟨gb113, 1, none⟩ = some (.string ((rd_T36 l0_0 x3_1).f1)) ∧ w'.cell? ⟨gb113, 2, none⟩ = some (.string ((rd_T36 l0_0 x3_1).f2)) ∧ w'.cell? ⟨gb113, 3, none⟩ = some (.int .i64 ((rd_T36 l0_0 x3_1).f3)) ∧ w'.cell? ⟨gb113, 4, none⟩ = some (.slice A112_4 ((rd_T36 l0_0 x3_1).f4).length c112_4)) (ds := []) (fl 38 0) (by kernel_rfl) rfl rfl ⟨(blk_cell BK113.out 0).trans rfl, (blk_cell BK113.out 1).trans rfl, (blk_cell BK113.out 2).trans rfl, (blk_cell BK113.out 3).trans rfl, (blk_cell BK113.out 4).trans rfl⟩ (fun hHeld => ?_); refine with_tabW spec_StateOk.tab5 spec_StateOk.bits5 (fun HT_ HW_ => ?_)
       generalize w7.drew = w32 at BK111 BK113 HB hHeld ⊢
       refine pq_ 0 20 (fl 38 1) HT_.out ?_
       refine tq_ 1 21 (fl 38 3) HT_.out HW_.out hHeld ?_
       refine one_ (i := 2) (N := some 22) (fl 38 7) rfl rfl (one_of HT_.out (by kernel_rfl)) (by decide) (fun K hK => ?_)
       refine goes_ Try.func10 (by kernel_rfl) rfl #[.int .i64 ((rd_T36 l0_0 x3_1).f0), .int .i64 1, .int .i64 9999] (by rfl) rfl rfl (by (try simp only [List.map_toArray, List.map_cons, List.map_nil]); first | done | rfl | (simp only [List.length_drop, List.length_take]; rfl)) ?_
       with_reducible refine (spec_l01In.calls ((rd_T36 l0_0 x3_1).f0) 1 9999 false _ A8.out).mono ?_
       rintro e w' ⟨rfl, ⟨nd, rfl⟩⟩
       refine ⟨_, rfl, ?_⟩
       refine hK.out _ _ ⟨(blk_cell BK113.out 0).trans rfl, (blk_cell BK113.out 1).trans rfl, (blk_cell BK113.out 2).trans rfl, (blk_cell BK113.out 3).trans rfl, (blk_cell BK113.out 4).trans rfl⟩ (fun hHeld => ?_)
       clear hK K
       refine norm_ (a' := ?_) ?_ ?_
       rotate_left
       ·show Act.put _ (some 22) _ = _
        simp only [Act.put, List.setIfInBounds_toArray, List.set_cons_zero, List.set_cons_succ, i64_w, i32_w]
        rfl
       refine pq_ 3 23 (fl 38 15) HT_.out ?_
       refine pq_ 4 24 (fl 38 31) HT_.out ?_
       refine pu_ 5 25 (fl 38 63) HT_.out ?_
       refine pu_ 6 26 (fl 38 127) HT_.out ?_
       refine pu_ 7 27 (fl 38 255) HT_.out ?_
       refine pu_ 8 28 (fl 38 511) HT_.out ?_
       refine pu_ 9 29 (fl 38 1023) HT_.out ?_
       refine pu_ 10 30 (fl 38 2047) HT_.out ?_
       refine pu_ 11 31 (fl 38 4095) HT_.out ?_
       refine pu_ 12 32 (fl 38 8191) HT_.out ?_
       refine pu_ 13 33 (fl 38 16383) HT_.out ?_
       refine pu_ 14 34 (fl 38 32767) HT_.out ?_
       refine pu_ 15 35 (fl 38 65535) HT_.out ?_
       refine pu_ 16 36 (fl 38 131071) HT_.out ?_
       refine pu_ 17 37 (fl 38 262143) HT_.out ?_
       refine pu_ 18 38 (fl 38 524287) HT_.out ?_
       refine pq_ 19 39 (fl 38 1048575) HT_.out ?_
       refine pq_ 20 40 (fl 38 2097151) HT_.out ?_
       refine pu_ 21 41 (fl 38 4194303) HT_.out ?_
       refine pu_ 22 42 (fl 38 8388607) HT_.out ?_
       refine pu_ 23 43 (fl 38 16777215) HT_.out ?_
       refine pu_ 24 44 (fl 38 33554431) HT_.out ?_
       refine pq_ 25 45 (fl 38 67108863) HT_.out ?_
       refine pq_ 26 46 (fl 38 134217727) HT_.out ?_
       refine pu_ 27 47 (fl 38 268435455) HT_.out ?_
       refine pu_ 28 48 (fl 38 536870911) HT_.out ?_
       refine pu_ 29 49 (fl 38 1073741823) HT_.out ?_
       refine pu_ 30 50 (fl 38 2147483647) HT_.out ?_
       refine pq_ 31 51 (fl 38 4294967295) HT_.out ?_
       refine pq_ 32 52 (fl 38 8589934591) HT_.out ?_
       refine pu_ 33 53 (fl 38 17179869183) HT_.out ?_
       refine pu_ 34 54 (fl 38 34359738367) HT_.out ?_
       refine pu_ 35 55 (fl 38 68719476735) HT_.out ?_
       refine pu_ 36 56 (fl 38 137438953471) HT_.out ?_
       refine pq_ 37 57 (fl 38 274877906943) HT_.out ?_
       refine done_ (done_of HT_.out (by kernel_rfl)) ?_
       try go_wp2
       go_meet
       case rel => exact ⟨_, (true), (by first | rfl | (simp; done) | (simp [*]; done) | (simp; exact (by intro l; cases l <;> rfl : ∀ l : List UInt8, l.isEmpty = !(l != [])) _)), H', ⟨by have := HK1.out; first | omega | exact Nat.le_refl _⟩, ⟨by (with_reducible repeat (first | refine blk_drewN ?_ _ | refine blk_drew ?_ | refine blk_alloc ?_ _)); exact BK111.out⟩, ⟨by (with_reducible repeat (first | refine blk_drewN ?_ _ | refine blk_drew ?_ | refine blk_alloc ?_ _)); exact BK113.out⟩, ⟨by repeat (first | (with_reducible first | exact HB.out | apply below_alloc | apply pw_below_drewN | apply below_drew1 | refine below_set ?_ GE111.out | refine below_set ?_ GE113.out) | exact HB.out)⟩⟩
     case rest =>
      clear HC5
      try clear c1
      try clear c2
      try clear p2
      try clear c9
      try clear c10
      try clear c11
      try clear c25
      obtain ⟨kq, x57_4, rfl, HA, HJ4, BK111, BK113, HB⟩ := hcut
      cases kq with
      | zero => exact absurd HA.out (by simp [spec_StateOk.j1])
      | succ kj4 =>
       have H := HA.out
       clear HA
       simp only [spec_StateOk.j1] at H
       by_cases c33 : x57_4 = true
       ·subst c33
        (try rw [if_pos rfl] at H)
        obtain rfl := Option.some.inj H
        go_wp2
        go_ret
        exact ⟨by first | rfl | (simp [errW_none, errW_some] <;> rfl) | (simp [*, errW_none, errW_some] <;> rfl), by repeat (first | (with_reducible first | exact HB.out | apply below_alloc | apply pw_below_drewN | apply below_drew1 | refine below_set ?_ GE111.out | refine below_set ?_ GE113.out) | exact HB.out)⟩
       ·replace c33 := Bool.eq_false_iff.mpr c33
        subst c33
        (try rw [if_neg (show ¬ (false = true) by decide)] at H)
        have H' := Aside0.mk H
        clear H
        go_wp2
        go_loopg [5] kj4 (fun kq v5 w' => ∃ (x5_3 : Int), v5 = .int .i64 x5_3 ∧ Aside0 (spec_StateOk.l1 kq x3_1 x5_3 l0_0 ((rd_T36 l0_0 x3_1).f0) ((rd_T36 l0_0 x3_1).f1) ((rd_T36 l0_0 x3_1).f2) ((rd_T36 l0_0 x3_1).f3) ((rd_T36 l0_0 x3_1).f4) = some r) ∧ Aside0 (kq ≤ kj4) ∧ Aside0 (w'.heap[gb111]? = some (.cells #[(.slice (some ad112) l0_0.length c0_0)] 29 (0, 0))) ∧ Aside0 (w'.heap[gb113]? = some (.cells #[.int .i64 ((rd_T36 l0_0 x3_1).f0), .string ((rd_T36 l0_0 x3_1).f1), .string ((rd_T36 l0_0 x3_1).f2), .int .i64 ((rd_T36 l0_0 x3_1).f3), (.slice A112_4 ((rd_T36 l0_0 x3_1).f4).length c112_4)] 36 (0, 0))) ∧ Aside0 (Below w.heap.size w w'))
        case atStart => exact ⟨(0), (by first | rfl | (simp; done) | (simp [*]; done) | (simp; exact (by intro l; cases l <;> rfl : ∀ l : List UInt8, l.isEmpty = !(l != [])) _)), H', ⟨Nat.le_refl _⟩, ⟨by (with_reducible repeat (first | refine blk_drewN ?_ _ | refine blk_drew ?_ | refine blk_alloc ?_ _)); exact BK111.out⟩, ⟨by (with_reducible repeat (first | refine blk_drewN ?_ _ | refine blk_drew ?_ | refine blk_alloc ?_ _)); exact BK113.out⟩, ⟨by repeat (first | (with_reducible first | exact HB.out | apply below_alloc | apply pw_below_drewN | apply below_drew1 | refine below_set ?_ GE111.out | refine below_set ?_ GE113.out) | exact HB.out)⟩⟩
        case round =>
         clear H'
         try clear c1
         try clear c2
         try clear p2
         try clear c3
         try clear c9
         try clear c10
         try clear c11
         try clear c25
         try clear c33
         try clear p2
         obtain ⟨x5_3, rfl, HA, HK3, BK111, BK113, HB⟩ := hrel
         cases gk with
         | zero => exact absurd HA.out (by simp [spec_StateOk.l1])
         | succ k3 =>
          have H := HA.out
          clear HA
          simp only [spec_StateOk.l1] at H
          by_cases c34 : x5_3 < x3_1
          ·rw [if_pos c34] at H
           have c34b0 : decide (x5_3 < x3_1) = true := decide_eq_true c34
           clear c34
           by_cases c35 : 0 ≤ x5_3
           ·rw [if_pos c35] at H
            have c35b0 : decide (0 ≤ x5_3) = true := decide_eq_true c35
            clear c35
            by_cases c36 : x5_3 < (l0_0.length : Int)
            ·rw [if_pos c36] at H
             have c36b0 : decide (x5_3 < (l0_0.length : Int)) = true := decide_eq_true c36
             clear c36
             by_cases c37 : ((rd_T36 l0_0 x5_3).f1).toList = ((rd_T36 l0_0 x3_1).f1).toList
             ·rw [if_pos c37] at H
              have c37b0 : (((rd_T36 l0_0 x5_3).f1).toList == ((rd_T36 l0_0 x3_1).f1).toList) = true := beq_iff_eq.mpr c37
              have c37b1 : (((rd_T36 l0_0 x5_3).f1).toList != ((rd_T36 l0_0 x3_1).f1).toList) = false := bne_eq_false_iff_eq.mpr c37
              clear c37
              by_cases c38 : ((rd_T36 l0_0 x5_3).f2).toList = ((rd_T36 l0_0 x3_1).f2).toList
              ·rw [if_pos c38] at H
               have c38b0 : (((rd_T36 l0_0 x5_3).f2).toList == ((rd_T36 l0_0 x3_1).f2).toList) = true := beq_iff_eq.mpr c38
               have c38b1 : (((rd_T36 l0_0 x5_3).f2).toList != ((rd_T36 l0_0 x3_1).f2).toList) = false := bne_eq_false_iff_eq.mpr c38
               clear c38
               obtain rfl := Option.some.inj H
               try go_wp2
               have n0_ := Aside0.mk (blk_drew BK111.out)
               have n1_ := Aside0.mk (blk_drew BK113.out)
               have n2_ := Aside0.mk (below_drew1 HB.out)
               clear BK111
               clear BK113
               clear HB
               have BK111 := n0_
               have BK113 := n1_
               have HB := n2_
               clear n0_ n1_ n2_
               have p122 : 0 ≤ (x5_3 : Int) := of_decide_eq_true (by first | (with_reducible assumption) | assumption)
               have q122 : x5_3 < (l0_0.length : Int) := of_decide_eq_true (by first | (with_reducible assumption) | assumption)
               obtain ⟨ad122, A122_4, c122_4, e122, hx122_0, hx122_1, hx122_2, hx122_3, hx122_4, hl122_4, hi122_4⟩ := at_T36 HR0_0.out x5_3 p122 q122
               have hw122_4 := hx122_4
               have hw122_3 := hx122_3
               have hw122_2 := hx122_2
               have hw122_1 := hx122_1
               have hw122_0 := hx122_0
               obtain rfl : ad112 = ad122 := (by injection e122)
               replace hx122_0 := (HB.out.cell (World.block_lt_of_cell? w _ hx122_0)).trans hx122_0
               replace hx122_1 := (HB.out.cell (World.block_lt_of_cell? w _ hx122_1)).trans hx122_1
               replace hx122_2 := (HB.out.cell (World.block_lt_of_cell? w _ hx122_2)).trans hx122_2
               replace hx122_3 := (HB.out.cell (World.block_lt_of_cell? w _ hx122_3)).trans hx122_3
               replace hx122_4 := (HB.out.cell (World.block_lt_of_cell? w _ hx122_4)).trans hx122_4
               have HR122_4 := Aside0.mk hi122_4
               have HC122_4 := Aside0.mk hl122_4
               clear hi122_4 hl122_4
               replace p122 := eq_true p122
               replace q122 := eq_true q122
               have p123 : 0 ≤ (x5_3 : Int) := of_decide_eq_true (by first | (with_reducible assumption) | assumption)
               have q123 : x5_3 < (l0_0.length : Int) := of_decide_eq_true (by first | (with_reducible assumption) | assumption)
               obtain ⟨ad123, A123_4, c123_4, e123, hx123_0, hx123_1, hx123_2, hx123_3, hx123_4, hl123_4, hi123_4⟩ := at_T36 HR0_0.out x5_3 p123 q123
               have hw123_4 := hx123_4
               have hw123_3 := hx123_3
               have hw123_2 := hx123_2
               have hw123_1 := hx123_1
               have hw123_0 := hx123_0
               obtain rfl : ad112 = ad123 := (by injection e123)
               replace hx123_0 := (HB.out.cell (World.block_lt_of_cell? w _ hx123_0)).trans hx123_0
               replace hx123_1 := (HB.out.cell (World.block_lt_of_cell? w _ hx123_1)).trans hx123_1
               replace hx123_2 := (HB.out.cell (World.block_lt_of_cell? w _ hx123_2)).trans hx123_2
               replace hx123_3 := (HB.out.cell (World.block_lt_of_cell? w _ hx123_3)).trans hx123_3
               replace hx123_4 := (HB.out.cell (World.block_lt_of_cell? w _ hx123_4)).trans hx123_4
               have HR123_4 := Aside0.mk hi123_4
               have HC123_4 := Aside0.mk hl123_4
               clear hi123_4 hl123_4
               replace p123 := eq_true p123
               replace q123 := eq_true q123
               have ea_ := Option.some.inj (hx122_4.symm.trans hx123_4)
               injection ea_ with ea_ en_ ec_
               subst ea_
               subst ec_
               clear en_
               refine start_ (n := 20) (S := fun w' => w'.cell? ⟨gb111, 0, none⟩ = some (.slice (some ad112) l0_0.length c0_0) ∧ w'.cell? ⟨gb113, 0, none⟩ = some (.int .i64 ((rd_T36 l0_0 x3_1).f0)) ∧ w'.cell? ⟨gb113, 1, none⟩ = some (.string ((rd_T36 l0_0 x3_1).f1)) ∧ w'.cell? ⟨gb113, 2, none⟩ = some (.string ((rd_T36 l0_0 x3_1).f2)) ∧ w'.cell? ⟨gb113, 3, none⟩ = some (.int .i64 ((rd_T36 l0_0 x3_1).f3)) ∧ w'.cell? ⟨gb113, 4, none⟩ = some (.slice A112_4 ((rd_T36 l0_0 x3_1).f4).length c112_4) ∧ w'.cell? (ad112.add ((x5_3).toNat * 5)) = some (.int .i64 ((rd_T36 l0_0 x5_3).f0)) ∧ w'.cell? ⟨(ad112.add ((x5_3).toNat * 5)).block, (ad112.add ((x5_3).toNat * 5)).off + 1, none⟩ = some (.string ((rd_T36 l0_0 x5_3).f1)) ∧ w'.cell? ⟨(ad112.add ((x5_3).toNat * 5)).block, (ad112.add ((x5_3).toNat * 5)).off + 2, none⟩ = some (.string ((rd_T36 l0_0 x5_3).f2)) ∧ w'.cell? ⟨(ad112.add ((x5_3).toNat * 5)).block, (ad112.add ((x5_3).toNat * 5)).off + 3, none⟩ = some (.int .i64 ((rd_T36 l0_0 x5_3).f3)) ∧ w'.cell? ⟨(ad112.add ((x5_3).toNat * 5)).block, (ad112.add ((x5_3).toNat * 5)).off + 4, none⟩ = some (.slice A122_4 ((rd_T36 l0_0 x5_3).f4).length c122_4) ∧ w'.cell? (ad112.add ((x5_3).toNat * 5)) = some (.int .i64 ((rd_T36 l0_0 x5_3).f0)) ∧ w'.cell? ⟨(ad112.add ((x5_3).toNat * 5)).block, (ad112.add ((x5_3).toNat * 5)).off + 1, none⟩ = some (.string ((rd_T36 l0_0 x5_3).f1)) ∧ w'.cell? ⟨(ad112.add ((x5_3).toNat * 5)).block, (ad112.add ((x5_3).toNat * 5)).off + 2, none⟩ = some (.string ((rd_T36 l0_0 x5_3).f2)) ∧ w'.cell? ⟨(ad112.add ((x5_3).toNat * 5)).block, (ad112.add ((x5_3).toNat * 5)).off + 3, none⟩ = some (.int .i64 ((rd_T36 l0_0 x5_3).f3)) ∧ w'.cell? ⟨(ad112.add ((x5_3).toNat * 5)).block, (ad112.add ((x5_3).toNat * 5)).off + 4, none⟩ = some (.slice A122_4 ((rd_T36 l0_0 x5_3).f4).length c122_4)) (ds := []) (fl 20 0) (by kernel_rfl) rfl rfl ⟨(blk_cell BK111.out 0).trans rfl, (blk_cell BK113.out 0).trans rfl, (blk_cell BK113.out 1).trans rfl, (blk_cell BK113.out 2).trans rfl, (blk_cell BK113.out 3).trans rfl, (blk_cell BK113.out 4).trans rfl, ((HB.out.cell (World.block_lt_of_cell? w _ hw122_0)).trans hw122_0), ((HB.out.cell (World.block_lt_of_cell? w _ hw122_1)).trans hw122_1), ((HB.out.cell (World.block_lt_of_cell? w _ hw122_2)).trans hw122_2), ((HB.out.cell (World.block_lt_of_cell? w _ hw122_3)).trans hw122_3), ((HB.out.cell (World.block_lt_of_cell? w _ hw122_4)).trans hw122_4), ((HB.out.cell (World.block_lt_of_cell? w _ hw123_0)).trans hw123_0), ((HB.out.cell (World.block_lt_of_cell? w _ hw123_1)).trans hw123_1), ((HB.out.cell (World.block_lt_of_cell? w _ hw123_2)).trans hw123_2), ((HB.out.cell (World.block_lt_of_cell? w _ hw123_3)).trans hw123_3), ((HB.out.cell (World.block_lt_of_cell? w _ hw123_4)).trans hw123_4)⟩ (fun hHeld => ?_); refine with_tabW spec_StateOk.tab10 spec_StateOk.bits10 (fun HT_ HW_ => ?_)
               generalize wr.drew = w39 at BK111 BK113 HB HR122_4 HR123_4 hx122_0 hx122_1 hx122_2 hx122_3 hx122_4 hx123_0 hx123_1 hx123_2 hx123_3 hx123_4 hHeld ⊢
               refine pq_ 0 63 (fl 20 1) HT_.out ?_
               refine pq_ 2 65 (fl 20 5) HT_.out ?_
               refine pq_ 6 69 (fl 20 69) HT_.out ?_
               refine tq_ 1 64 (fl 20 71) HT_.out HW_.out hHeld ?_
               refine pq_ 3 66 (fl 20 79) HT_.out ?_
               refine pq_ 4 67 (fl 20 95) HT_.out ?_
               refine tq_ 5 68 (fl 20 127) HT_.out HW_.out hHeld ?_
               refine tq_ 7 70 (fl 20 255) HT_.out HW_.out hHeld ?_
               refine pq_ 8 71 (fl 20 511) HT_.out ?_
               refine pq_ 9 72 (fl 20 1023) HT_.out ?_
               refine pq_ 10 73 (fl 20 2047) HT_.out ?_
               refine pq_ 12 75 (fl 20 6143) HT_.out ?_
               refine pq_ 16 79 (fl 20 71679) HT_.out ?_
               refine tq_ 11 74 (fl 20 73727) HT_.out HW_.out hHeld ?_
               refine pq_ 13 76 (fl 20 81919) HT_.out ?_
               refine pq_ 14 77 (fl 20 98303) HT_.out ?_
               refine tq_ 15 78 (fl 20 131071) HT_.out HW_.out hHeld ?_
               refine tq_ 17 80 (fl 20 262143) HT_.out HW_.out hHeld ?_
               refine pq_ 18 81 (fl 20 524287) HT_.out ?_
               refine pq_ 19 82 (fl 20 1048575) HT_.out ?_
               refine done_ (done_of HT_.out (by kernel_rfl)) ?_
               try go_wp2
               go_ret
               exact ⟨by first | rfl | (simp [errW_none, errW_some] <;> rfl) | (simp [*, errW_none, errW_some] <;> rfl), by repeat (first | (with_reducible first | exact HB.out | apply below_alloc | apply pw_below_drewN | apply below_drew1 | refine below_set ?_ GE111.out | refine below_set ?_ GE113.out) | exact HB.out)⟩
              ·rw [if_neg c38] at H
               have c38b0 : (((rd_T36 l0_0 x5_3).f2).toList == ((rd_T36 l0_0 x3_1).f2).toList) = false := beq_eq_false_iff_ne.mpr c38
               have c38b1 : (((rd_T36 l0_0 x5_3).f2).toList != ((rd_T36 l0_0 x3_1).f2).toList) = true := bne_iff_ne.mpr c38
               have H' := Aside0.mk H
               clear H
               try go_wp2
               have n0_ := Aside0.mk (blk_drew BK111.out)
               have n1_ := Aside0.mk (blk_drew BK113.out)
               have n2_ := Aside0.mk (below_drew1 HB.out)
               clear BK111
               clear BK113
               clear HB
               have BK111 := n0_
               have BK113 := n1_
               have HB := n2_
               clear n0_ n1_ n2_
               have p122 : 0 ≤ (x5_3 : Int) := of_decide_eq_true (by first | (with_reducible assumption) | assumption)
               have q122 : x5_3 < (l0_0.length : Int) := of_decide_eq_true (by first | (with_reducible assumption) | assumption)
               obtain ⟨ad122, A122_4, c122_4, e122, hx122_0, hx122_1, hx122_2, hx122_3, hx122_4, hl122_4, hi122_4⟩ := at_T36 HR0_0.out x5_3 p122 q122
               have hw122_4 := hx122_4
               have hw122_3 := hx122_3
               have hw122_2 := hx122_2
               have hw122_1 := hx122_1
               have hw122_0 := hx122_0
               obtain rfl : ad112 = ad122 := (by injection e122)
               replace hx122_0 := (HB.out.cell (World.block_lt_of_cell? w _ hx122_0)).trans hx122_0
               replace hx122_1 := (HB.out.cell (World.block_lt_of_cell? w _ hx122_1)).trans hx122_1
               replace hx122_2 := (HB.out.cell (World.block_lt_of_cell? w _ hx122_2)).trans hx122_2
               replace hx122_3 := (HB.out.cell (World.block_lt_of_cell? w _ hx122_3)).trans hx122_3
               replace hx122_4 := (HB.out.cell (World.block_lt_of_cell? w _ hx122_4)).trans hx122_4
               have HR122_4 := Aside0.mk hi122_4
               have HC122_4 := Aside0.mk hl122_4
               clear hi122_4 hl122_4
               replace p122 := eq_true p122
               replace q122 := eq_true q122
               have p123 : 0 ≤ (x5_3 : Int) := of_decide_eq_true (by first | (with_reducible assumption) | assumption)
               have q123 : x5_3 < (l0_0.length : Int) := of_decide_eq_true (by first | (with_reducible assumption) | assumption)
               obtain ⟨ad123, A123_4, c123_4, e123, hx123_0, hx123_1, hx123_2, hx123_3, hx123_4, hl123_4, hi123_4⟩ := at_T36 HR0_0.out x5_3 p123 q123
               have hw123_4 := hx123_4
               have hw123_3 := hx123_3
               have hw123_2 := hx123_2
               have hw123_1 := hx123_1
               have hw123_0 := hx123_0
               obtain rfl : ad112 = ad123 := (by injection e123)
               replace hx123_0 := (HB.out.cell (World.block_lt_of_cell? w _ hx123_0)).trans hx123_0
               replace hx123_1 := (HB.out.cell (World.block_lt_of_cell? w _ hx123_1)).trans hx123_1
               replace hx123_2 := (HB.out.cell (World.block_lt_of_cell? w _ hx123_2)).trans hx123_2
               replace hx123_3 := (HB.out.cell (World.block_lt_of_cell? w _ hx123_3)).trans hx123_3
               replace hx123_4 := (HB.out.cell (World.block_lt_of_cell? w _ hx123_4)).trans hx123_4
               have HR123_4 := Aside0.mk hi123_4
               have HC123_4 := Aside0.mk hl123_4
               clear hi123_4 hl123_4
               replace p123 := eq_true p123
               replace q123 := eq_true q123
               have ea_ := Option.some.inj (hx122_4.symm.trans hx123_4)
               injection ea_ with ea_ en_ ec_
               subst ea_
               subst ec_
               clear en_
               refine start_ (n := 20) (S := fun w' => w'.cell? ⟨gb111, 0, none⟩ = some (.slice (some ad112) l0_0.length c0_0) ∧ w'.cell? ⟨gb113, 0, none⟩ = some (.int .i64 ((rd_T36 l0_0 x3_1).f0)) ∧ w'.cell? ⟨gb113, 1, none⟩ = some (.string ((rd_T36 l0_0 x3_1).f1)) ∧ w'.cell? ⟨gb113, 2, none⟩ = some (.string ((rd_T36 l0_0 x3_1).f2)) ∧ w'.cell? ⟨gb113, 3, none⟩ = some (.int .i64 ((rd_T36 l0_0 x3_1).f3)) ∧ w'.cell? ⟨gb113, 4, none⟩ = some (.slice A112_4 ((rd_T36 l0_0 x3_1).f4).length c112_4) ∧ w'.cell? (ad112.add ((x5_3).toNat * 5)) = some (.int .i64 ((rd_T36 l0_0 x5_3).f0)) ∧ w'.cell? ⟨(ad112.add ((x5_3).toNat * 5)).block, (ad112.add ((x5_3).toNat * 5)).off + 1, none⟩ = some (.string ((rd_T36 l0_0 x5_3).f1)) ∧ w'.cell? ⟨(ad112.add ((x5_3).toNat * 5)).block, (ad112.add ((x5_3).toNat * 5)).off + 2, none⟩ = some (.string ((rd_T36 l0_0 x5_3).f2)) ∧ w'.cell? ⟨(ad112.add ((x5_3).toNat * 5)).block, (ad112.add ((x5_3).toNat * 5)).off + 3, none⟩ = some (.int .i64 ((rd_T36 l0_0 x5_3).f3)) ∧ w'.cell? ⟨(ad112.add ((x5_3).toNat * 5)).block, (ad112.add ((x5_3).toNat * 5)).off + 4, none⟩ = some (.slice A122_4 ((rd_T36 l0_0 x5_3).f4).length c122_4) ∧ w'.cell? (ad112.add ((x5_3).toNat * 5)) = some (.int .i64 ((rd_T36 l0_0 x5_3).f0)) ∧ w'.cell? ⟨(ad112.add ((x5_3).toNat * 5)).block, (ad112.add ((x5_3).toNat * 5)).off + 1, none⟩ = some (.string ((rd_T36 l0_0 x5_3).f1)) ∧ w'.cell? ⟨(ad112.add ((x5_3).toNat * 5)).block, (ad112.add ((x5_3).toNat * 5)).off + 2, none⟩ = some (.string ((rd_T36 l0_0 x5_3).f2)) ∧ w'.cell? ⟨(ad112.add ((x5_3).toNat * 5)).block, (ad112.add ((x5_3).toNat * 5)).off + 3, none⟩ = some (.int .i64 ((rd_T36 l0_0 x5_3).f3)) ∧ w'.cell? ⟨(ad112.add ((x5_3).toNat * 5)).block, (ad112.add ((x5_3).toNat * 5)).off + 4, none⟩ = some (.slice A122_4 ((rd_T36 l0_0 x5_3).f4).length c122_4)) (ds := []) (fl 20 0) (by kernel_rfl) rfl rfl ⟨(blk_cell BK111.out 0).trans rfl, (blk_cell BK113.out 0).trans rfl, (blk_cell BK113.out 1).trans rfl, (blk_cell BK113.out 2).trans rfl, (blk_cell BK113.out 3).trans rfl, (blk_cell BK113.out 4).trans rfl, ((HB.out.cell (World.block_lt_of_cell? w _ hw122_0)).trans hw122_0), ((HB.out.cell (World.block_lt_of_cell? w _ hw122_1)).trans hw122_1), ((HB.out.cell (World.block_lt_of_cell? w _ hw122_2)).trans hw122_2), ((HB.out.cell (World.block_lt_of_cell? w _ hw122_3)).trans hw122_3), ((HB.out.cell (World.block_lt_of_cell? w _ hw122_4)).trans hw122_4), ((HB.out.cell (World.block_lt_of_cell? w _ hw123_0)).trans hw123_0), ((HB.out.cell (World.block_lt_of_cell? w _ hw123_1)).trans hw123_1), ((HB.out.cell (World.block_lt_of_cell? w _ hw123_2)).trans hw123_2), ((HB.out.cell (World.block_lt_of_cell? w _ hw123_3)).trans hw123_3), ((HB.out.cell (World.block_lt_of_cell? w _ hw123_4)).trans hw123_4)⟩ (fun hHeld => ?_); refine with_tabW spec_StateOk.tab10 spec_StateOk.bits10 (fun HT_ HW_ => ?_)
               generalize wr.drew = w40 at BK111 BK113 HB HR122_4 HR123_4 hx122_0 hx122_1 hx122_2 hx122_3 hx122_4 hx123_0 hx123_1 hx123_2 hx123_3 hx123_4 hHeld ⊢
               refine pq_ 0 63 (fl 20 1) HT_.out ?_
               refine pq_ 2 65 (fl 20 5) HT_.out ?_
               refine pq_ 6 69 (fl 20 69) HT_.out ?_
               refine tq_ 1 64 (fl 20 71) HT_.out HW_.out hHeld ?_
               refine pq_ 3 66 (fl 20 79) HT_.out ?_
               refine pq_ 4 67 (fl 20 95) HT_.out ?_
               refine tq_ 5 68 (fl 20 127) HT_.out HW_.out hHeld ?_
               refine tq_ 7 70 (fl 20 255) HT_.out HW_.out hHeld ?_
               refine pq_ 8 71 (fl 20 511) HT_.out ?_
               refine pq_ 9 72 (fl 20 1023) HT_.out ?_
               refine pq_ 10 73 (fl 20 2047) HT_.out ?_
               refine pq_ 12 75 (fl 20 6143) HT_.out ?_
               refine pq_ 16 79 (fl 20 71679) HT_.out ?_
               refine tq_ 11 74 (fl 20 73727) HT_.out HW_.out hHeld ?_
               refine pq_ 13 76 (fl 20 81919) HT_.out ?_
               refine pq_ 14 77 (fl 20 98303) HT_.out ?_
               refine tq_ 15 78 (fl 20 131071) HT_.out HW_.out hHeld ?_
               refine tq_ 17 80 (fl 20 262143) HT_.out HW_.out hHeld ?_
               refine pq_ 18 81 (fl 20 524287) HT_.out ?_
               refine pq_ 19 82 (fl 20 1048575) HT_.out ?_
               refine done_ (done_of HT_.out (by kernel_rfl)) ?_
               try go_wp2
               go_roundg k3
               case measure => have := HK1.out; have := HJ4.out; have := HK3.out; omega
               case rel => exact ⟨(wrap64 (x5_3 + 1)), (by first | rfl | (simp; done) | (simp [*]; done) | (simp; exact (by intro l; cases l <;> rfl : ∀ l : List UInt8, l.isEmpty = !(l != [])) _)), H', ⟨by have := HK1.out; have := HJ4.out; have := HK3.out; omega⟩, ⟨by (with_reducible repeat (first | refine blk_drewN ?_ _ | refine blk_drew ?_ | refine blk_alloc ?_ _)); exact BK111.out⟩, ⟨by (with_reducible repeat (first | refine blk_drewN ?_ _ | refine blk_drew ?_ | refine blk_alloc ?_ _)); exact BK113.out⟩, ⟨by repeat (first | (with_reducible first | exact HB.out | apply below_alloc | apply pw_below_drewN | apply below_drew1 | refine below_set ?_ GE111.out | refine below_set ?_ GE113.out) | exact HB.out)⟩⟩
             ·rw [if_neg c37] at H
              have c37b0 : (((rd_T36 l0_0 x5_3).f1).toList == ((rd_T36 l0_0 x3_1).f1).toList) = false := beq_eq_false_iff_ne.mpr c37
              have c37b1 : (((rd_T36 l0_0 x5_3).f1).toList != ((rd_T36 l0_0 x3_1).f1).toList) = true := bne_iff_ne.mpr c37
              have H' := Aside0.mk H
              clear H
              try go_wp2
              have n0_ := Aside0.mk (blk_drew BK111.out)
              have n1_ := Aside0.mk (blk_drew BK113.out)
              have n2_ := Aside0.mk (below_drew1 HB.out)
              clear BK111
              clear BK113
              clear HB
              have BK111 := n0_
              have BK113 := n1_
              have HB := n2_
              clear n0_ n1_ n2_
              have p122 : 0 ≤ (x5_3 : Int) := of_decide_eq_true (by first | (with_reducible assumption) | assumption)
              have q122 : x5_3 < (l0_0.length : Int) := of_decide_eq_true (by first | (with_reducible assumption) | assumption)
              obtain ⟨ad122, A122_4, c122_4, e122, hx122_0, hx122_1, hx122_2, hx122_3, hx122_4, hl122_4, hi122_4⟩ := at_T36 HR0_0.out x5_3 p122 q122
              have hw122_4 := hx122_4
              have hw122_3 := hx122_3
              have hw122_2 := hx122_2
              have hw122_1 := hx122_1
              have hw122_0 := hx122_0
              obtain rfl : ad112 = ad122 := (by injection e122)
              replace hx122_0 := (HB.out.cell (World.block_lt_of_cell? w _ hx122_0)).trans hx122_0
              replace hx122_1 := (HB.out.cell (World.block_lt_of_cell? w _ hx122_1)).trans hx122_1
              replace hx122_2 := (HB.out.cell (World.block_lt_of_cell? w _ hx122_2)).trans hx122_2
              replace hx122_3 := (HB.out.cell (World.block_lt_of_cell? w _ hx122_3)).trans hx122_3
              replace hx122_4 := (HB.out.cell (World.block_lt_of_cell? w _ hx122_4)).trans hx122_4
              have HR122_4 := Aside0.mk hi122_4
              have HC122_4 := Aside0.mk hl122_4
              clear hi122_4 hl122_4
              replace p122 := eq_true p122
              replace q122 := eq_true q122
              refine start_ (n := 20) (S := fun w' => w'.cell? ⟨gb111, 0, none⟩ = some (.slice (some ad112) l0_0.length c0_0) ∧ w'.cell? ⟨gb113, 0, none⟩ = some (.int .i64 ((rd_T36 l0_0 x3_1).f0)) ∧ w'.cell? ⟨gb113, 1, none⟩ = some (.string ((rd_T36 l0_0 x3_1).f1)) ∧ w'.cell? ⟨gb113, 2, none⟩ = some (.string ((rd_T36 l0_0 x3_1).f2)) ∧ w'.cell? ⟨gb113, 3, none⟩ = some (.int .i64 ((rd_T36 l0_0 x3_1).f3)) ∧ w'.cell? ⟨gb113, 4, none⟩ = some (.slice A112_4 ((rd_T36 l0_0 x3_1).f4).length c112_4) ∧ w'.cell? (ad112.add ((x5_3).toNat * 5)) = some (.int .i64 ((rd_T36 l0_0 x5_3).f0)) ∧ w'.cell? ⟨(ad112.add ((x5_3).toNat * 5)).block, (ad112.add ((x5_3).toNat * 5)).off + 1, none⟩ = some (.string ((rd_T36 l0_0 x5_3).f1)) ∧ w'.cell? ⟨(ad112.add ((x5_3).toNat * 5)).block, (ad112.add ((x5_3).toNat * 5)).off + 2, none⟩ = some (.string ((rd_T36 l0_0 x5_3).f2)) ∧ w'.cell? ⟨(ad112.add ((x5_3).toNat * 5)).block, (ad112.add ((x5_3).toNat * 5)).off + 3, none⟩ = some (.int .i64 ((rd_T36 l0_0 x5_3).f3)) ∧ w'.cell? ⟨(ad112.add ((x5_3).toNat * 5)).block, (ad112.add ((x5_3).toNat * 5)).off + 4, none⟩ = some (.slice A122_4 ((rd_T36 l0_0 x5_3).f4).length c122_4)) (ds := []) (fl 20 0) (by kernel_rfl) rfl rfl ⟨(blk_cell BK111.out 0).trans rfl, (blk_cell BK113.out 0).trans rfl, (blk_cell BK113.out 1).trans rfl, (blk_cell BK113.out 2).trans rfl, (blk_cell BK113.out 3).trans rfl, (blk_cell BK113.out 4).trans rfl, ((HB.out.cell (World.block_lt_of_cell? w _ hw122_0)).trans hw122_0), ((HB.out.cell (World.block_lt_of_cell? w _ hw122_1)).trans hw122_1), ((HB.out.cell (World.block_lt_of_cell? w _ hw122_2)).trans hw122_2), ((HB.out.cell (World.block_lt_of_cell? w _ hw122_3)).trans hw122_3), ((HB.out.cell (World.block_lt_of_cell? w _ hw122_4)).trans hw122_4)⟩ (fun hHeld => ?_); refine with_tabW spec_StateOk.tab10 spec_StateOk.bits10 (fun HT_ HW_ => ?_)
              generalize wr.drew = w41 at BK111 BK113 HB HR122_4 hx122_0 hx122_1 hx122_2 hx122_3 hx122_4 hHeld ⊢
              refine pq_ 0 63 (fl 20 1) HT_.out ?_
              refine pq_ 2 65 (fl 20 5) HT_.out ?_
              refine pq_ 6 69 (fl 20 69) HT_.out ?_
              refine tq_ 1 64 (fl 20 71) HT_.out HW_.out hHeld ?_
              refine pq_ 3 66 (fl 20 79) HT_.out ?_
              refine pq_ 4 67 (fl 20 95) HT_.out ?_
              refine tq_ 5 68 (fl 20 127) HT_.out HW_.out hHeld ?_
              refine tq_ 7 70 (fl 20 255) HT_.out HW_.out hHeld ?_
              refine pq_ 8 71 (fl 20 511) HT_.out ?_
              refine pq_ 9 72 (fl 20 1023) HT_.out ?_
              refine pu_ 10 73 (fl 20 2047) HT_.out ?_
              refine pu_ 11 74 (fl 20 4095) HT_.out ?_
              refine pu_ 12 75 (fl 20 8191) HT_.out ?_
              refine pu_ 13 76 (fl 20 16383) HT_.out ?_
              refine pu_ 14 77 (fl 20 32767) HT_.out ?_
              refine pu_ 15 78 (fl 20 65535) HT_.out ?_
              refine pu_ 16 79 (fl 20 131071) HT_.out ?_
              refine pu_ 17 80 (fl 20 262143) HT_.out ?_
              refine pu_ 18 81 (fl 20 524287) HT_.out ?_
              refine pq_ 19 82 (fl 20 1048575) HT_.out ?_
              refine done_ (done_of HT_.out (by kernel_rfl)) ?_
              try go_wp2
              go_roundg k3
              case measure => have := HK1.out; have := HJ4.out; have := HK3.out; omega
              case rel => exact ⟨(wrap64 (x5_3 + 1)), (by first | rfl | (simp; done) | (simp [*]; done) | (simp; exact (by intro l; cases l <;> rfl : ∀ l : List UInt8, l.isEmpty = !(l != [])) _)), H', ⟨by have := HK1.out; have := HJ4.out; have := HK3.out; omega⟩, ⟨by (with_reducible repeat (first | refine blk_drewN ?_ _ | refine blk_drew ?_ | refine blk_alloc ?_ _)); exact BK111.out⟩, ⟨by (with_reducible repeat (first | refine blk_drewN ?_ _ | refine blk_drew ?_ | refine blk_alloc ?_ _)); exact BK113.out⟩, ⟨by repeat (first | (with_reducible first | exact HB.out | apply below_alloc | apply pw_below_drewN | apply below_drew1 | refine below_set ?_ GE111.out | refine below_set ?_ GE113.out) | exact HB.out)⟩⟩
            ·rw [if_neg c36] at H
             exact absurd H (by simp)
           ·rw [if_neg c35] at H
            exact absurd H (by simp)
          ·rw [if_neg c34] at H
           have c34b0 : decide (x5_3 < x3_1) = false := decide_eq_false c34
           clear c34
           have H' := Aside0.mk H
           clear H
           go_wp2
           go_loopg [6] k3 (fun kq v6 w' => ∃ (x6_4 : Int), v6 = .int .i64 x6_4 ∧ Aside0 (spec_StateOk.l2 kq x3_1 x6_4 l0_0 ((rd_T36 l0_0 x3_1).f0) ((rd_T36 l0_0 x3_1).f1) ((rd_T36 l0_0 x3_1).f2) ((rd_T36 l0_0 x3_1).f3) ((rd_T36 l0_0 x3_1).f4) = some r) ∧ Aside0 (kq ≤ k3) ∧ Aside0 (w'.heap[gb111]? = some (.cells #[(.slice (some ad112) l0_0.length c0_0)] 29 (0, 0))) ∧ Aside0 (w'.heap[gb113]? = some (.cells #[.int .i64 ((rd_T36 l0_0 x3_1).f0), .string ((rd_T36 l0_0 x3_1).f1), .string ((rd_T36 l0_0 x3_1).f2), .int .i64 ((rd_T36 l0_0 x3_1).f3), (.slice A112_4 ((rd_T36 l0_0 x3_1).f4).length c112_4)] 36 (0, 0))) ∧ Aside0 (Below w.heap.size w w'))
           case atStart => exact ⟨(0), (by first | rfl | (simp; done) | (simp [*]; done) | (simp; exact (by intro l; cases l <;> rfl : ∀ l : List UInt8, l.isEmpty = !(l != [])) _)), H', ⟨Nat.le_refl _⟩, ⟨by (with_reducible repeat (first | refine blk_drewN ?_ _ | refine blk_drew ?_ | refine blk_alloc ?_ _)); exact BK111.out⟩, ⟨by (with_reducible repeat (first | refine blk_drewN ?_ _ | refine blk_drew ?_ | refine blk_alloc ?_ _)); exact BK113.out⟩, ⟨by repeat (first | (with_reducible first | exact HB.out | apply below_alloc | apply pw_below_drewN | apply below_drew1 | refine below_set ?_ GE111.out | refine below_set ?_ GE113.out) | exact HB.out)⟩⟩
           case round =>
            clear H'
            try clear c1
            try clear p1
            try clear q1
            try clear hx1
            try clear p2
            try clear c3
            try clear p6
            try clear c11
            try clear c12
            try clear p12
            try clear q12
            try clear hx12
            try clear c34
            try clear c34b0
            try clear c35
            try clear c36
            try clear c37
            try clear c37b0
            try clear c37b1
            try clear c38
            try clear c38b0
            try clear c38b1
            try clear hx122_0
            try clear hx122_1
            try clear hx122_2
            try clear hx122_3
            try clear hx122_4
            try clear hx123_0
            try clear hx123_1
            try clear hx123_2
            try clear hx123_3
            try clear hx123_4
            try clear p122
            try clear p123
            try clear q122
            try clear q123
            obtain ⟨x6_4, rfl, HA, HK4, BK111, BK113, HB⟩ := hrel
            cases gk with
            | zero => exact absurd HA.out (by simp [spec_StateOk.l2])
            | succ k4 =>
             have H := HA.out
             clear HA
             simp only [spec_StateOk.l2] at H
             by_cases c42 : x6_4 < (((rd_T36 l0_0 x3_1).f4).length : Int)
             ·rw [if_pos c42] at H
              have c42b0 : decide (x6_4 < (((rd_T36 l0_0 x3_1).f4).length : Int)) = true := decide_eq_true c42
              clear c42
              by_cases c43 : 0 ≤ x6_4
              ·rw [if_pos c43] at H
               have c43b0 : decide (0 ≤ x6_4) = true := decide_eq_true c43
               clear c43
               replace H := Option.bind_eq_some_iff.mp H
               obtain ⟨t126, A440, H⟩ := H
               (try set_option simprocs false in dsimp only at H)
               have A44 := Aside0.mk A440
               clear A440
               by_cases c45 : t126 = true
               ·subst c45
                (try rw [if_pos rfl] at H)
                by_cases c46 : x6_4 > 0
                ·rw [if_pos c46] at H
                 have c46b0 : decide (0 < x6_4) = true := decide_eq_true c46
                 clear c46
                 obtain ⟨ji47, hji47⟩ : ∃ j_ : Int, (wrap64 (x6_4 - 1)) = j_ := ⟨_, rfl⟩
                 replace H : (if 0 ≤ (ji47) then (if (ji47) < (((rd_T36 l0_0 x3_1).f4).length : Int) then (if ((rd_T40 ((rd_T36 l0_0 x3_1).f4) (ji47)).f0) ≥ ((rd_T40 ((rd_T36 l0_0 x3_1).f4) x6_4).f0) then (some false) else ((spec_l01In.f ((rd_T40 ((rd_T36 l0_0 x3_1).f4) x6_4).f1) 0 7).bind fun t128 => (if t128 = true then (if (((rd_T40 ((rd_T36 l0_0 x3_1).f4) x6_4).f2).size : Int) > 100 then (some false) else (spec_StateOk.l2 k4 x3_1 (wrap64 (x6_4 + 1)) l0_0 ((rd_T36 l0_0 x3_1).f0) ((rd_T36 l0_0 x3_1).f1) ((rd_T36 l0_0 x3_1).f2) ((rd_T36 l0_0 x3_1).f3) ((rd_T36 l0_0 x3_1).f4))) else (some false)))) else (none)) else (none)) = some r := by first | (rw [hji47] at H; exact H) | (simp only [hji47] at H ⊢; exact H)
                 (try rw [hji47] at A44)
                 have hji47w : (IntKind.i64.wrap (x6_4 - 1)) = ji47 := (i64_w _).trans hji47
                 by_cases c48 : 0 ≤ (ji47)
                 ·rw [if_pos c48] at H
                  have c48b0 : decide (0 ≤ (ji47)) = true := decide_eq_true c48
                  clear c48
                  by_cases c49 : (ji47) < (((rd_T36 l0_0 x3_1).f4).length : Int)
                  ·rw [if_pos c49] at H
                   have c49b0 : decide ((ji47) < (((rd_T36 l0_0 x3_1).f4).length : Int)) = true := decide_eq_true c49
                   clear c49
                   by_cases c50 : ((rd_T40 ((rd_T36 l0_0 x3_1).f4) (ji47)).f0) ≥ ((rd_T40 ((rd_T36 l0_0 x3_1).f4) x6_4).f0)
                   ·rw [if_pos c50] at H
                    have c50b0 : decide (((rd_T40 ((rd_T36 l0_0 x3_1).f4) x6_4).f0) ≤ ((rd_T40 ((rd_T36 l0_0 x3_1).f4) (ji47)).f0)) = true := decide_eq_true c50
                    clear c50
                    obtain rfl := Option.some.inj H
                    have hnb51 := NB113_111.out
                    have hnc51 := NB111_113.out
                    have hcz52 := blk_cell BK113.out
                    have hfz52 := blk_frozen BK113.out
                    have p124 : 0 ≤ (x6_4 : Int) := of_decide_eq_true (by first | (with_reducible assumption) | assumption)
                    have q124 : x6_4 < (((rd_T36 l0_0 x3_1).f4).length : Int) := of_decide_eq_true (by first | (with_reducible assumption) | assumption)
                    obtain ⟨ad124, e124, hx124_0, hx124_1, hx124_2⟩ := at_T40 HR112_4.out x6_4 p124 q124
                    cases e124
                    replace hx124_0 := (HB.out.cell (World.block_lt_of_cell? w _ hx124_0)).trans hx124_0
                    replace hx124_1 := (HB.out.cell (World.block_lt_of_cell? w _ hx124_1)).trans hx124_1
                    replace hx124_2 := (HB.out.cell (World.block_lt_of_cell? w _ hx124_2)).trans hx124_2
                    replace p124 := eq_true p124
                    replace q124 := eq_true q124
                    try go_wp2_with (first | ((with_reducible refine gate_dst (N := 7) rfl ?_); (try (refine gate_guard (by rfl) ?_; dsimp only)); refine Go.Proofs.YtjfcdjfnfhkjlaaR.box_full_event ?hg ?hg2 (N := 7) ?hd ?hd2 (t := 40) (v := ?vof7) ?ho (cs := #[.int .i64 0, .int .i64 0, .string (⟨#[]⟩ : ByteArray)]) (cells := #[.int .i64 ((rd_T40 ((rd_T36 l0_0 x3_1).f4) x6_4).f0), .int .i64 ((rd_T40 ((rd_T36 l0_0 x3_1).f4) x6_4).f1), .string ((rd_T40 ((rd_T36 l0_0 x3_1).f4) x6_4).f2)]) ?hi ?hs ?h1 ?hr ?hx ?hv ?_; (case hd => rfl); (case hd2 => rfl); (case ho => rfl); (case hg => rfl); (case hg2 => rfl); (case hi => kernel_rfl); (case hs => rfl); (case h1 => first | kernel_rfl | rfl); (case hx => intro p_; first | rfl | (go_simp; done) | (go_simp; rfl)); (case hv => intro p_; first | rfl | (go_simp; done) | (go_simp; rfl)); (case hr => first | (go_simp; done) | (go_simp; rfl)); intro gb125 hg w53 hbox hb; have n0_ := Aside0.mk (blk_below BK111.out hb); have n1_ := Aside0.mk (blk_below BK113.out hb); have n2_ := Aside0.mk (below_step HB.out hb); have n3_ := Aside0.mk (hbox); have n4_ := Aside0.mk ((by rw [hg]; exact (below_size HB.out) : w.heap.size ≤ gb125)); have n5_ := Aside0.mk ((by rw [hg]; exact (below_size HB.out) : w.heap.size ≤ gb125)); have n6_ := Aside0.mk ((by rw [hg]; exact Nat.ne_of_lt (blk_lt (g := gb111) (o := .cells #[.slice (some ad112) l0_0.length c0_0] 29 (0, 0)) (by (with_reducible repeat (first | refine blk_drewN ?_ _ | refine blk_drew ?_ | refine blk_alloc ?_ _)); exact BK111.out)) : gb111 ≠ gb125)); have n7_ := Aside0.mk ((by rw [hg]; exact Nat.ne_of_gt (blk_lt (g := gb111) (o := .cells #[.slice (some ad112) l0_0.length c0_0] 29 (0, 0)) (by (with_reducible repeat (first | refine blk_drewN ?_ _ | refine blk_drew ?_ | refine blk_alloc ?_ _)); exact BK111.out)) : gb125 ≠ gb111)); have n8_ := Aside0.mk ((by rw [hg]; exact Nat.ne_of_lt (blk_lt (g := gb113) (o := .cells #[.int .i64 ((rd_T36 l0_0 x3_1).f0), .string ((rd_T36 l0_0 x3_1).f1), .string ((rd_T36 l0_0 x3_1).f2), .int .i64 ((rd_T36 l0_0 x3_1).f3), .slice (some ad124) ((rd_T36 l0_0 x3_1).f4).length c112_4] 36 (0, 0)) (by (with_reducible repeat (first | refine blk_drewN ?_ _ | refine blk_drew ?_ | refine blk_alloc ?_ _)); exact BK113.out)) : gb113 ≠ gb125)); have n9_ := Aside0.mk ((by rw [hg]; exact Nat.ne_of_gt (blk_lt (g := gb113) (o := .cells #[.int .i64 ((rd_T36 l0_0 x3_1).f0), .string ((rd_T36 l0_0 x3_1).f1), .string ((rd_T36 l0_0 x3_1).f2), .int .i64 ((rd_T36 l0_0 x3_1).f3), .slice (some ad124) ((rd_T36 l0_0 x3_1).f4).length c112_4] 36 (0, 0)) (by (with_reducible repeat (first | refine blk_drewN ?_ _ | refine blk_drew ?_ | refine blk_alloc ?_ _)); exact BK113.out)) : gb125 ≠ gb113)); clear BK111; clear BK113; clear HB; have BK111 := n0_; have BK113 := n1_; have HB := n2_; have BK125 := n3_; have GW125 := n4_; have GE125 := n5_; have NB111_125 := n6_; have NB125_111 := n7_; have NB113_125 := n8_; have NB125_113 := n9_; clear n0_ n1_ n2_ n3_ n4_ n5_ n6_ n7_ n8_ n9_; clear hb hbox hg))
                    have n0_ := Aside0.mk (blk_drew BK111.out)
                    have n1_ := Aside0.mk (blk_drew BK113.out)
                    have n2_ := Aside0.mk (blk_drew BK125.out)
                    have n3_ := Aside0.mk (below_drew1 HB.out)
                    clear BK111
                    clear BK113
                    clear BK125
                    clear HB
                    have BK111 := n0_
                    have BK113 := n1_
                    have BK125 := n2_
                    have HB := n3_
                    clear n0_ n1_ n2_ n3_
                    have p127 : 0 ≤ ((ji47) : Int) := of_decide_eq_true (by first | (with_reducible assumption) | assumption)
                    have q127 : (ji47) < (((rd_T36 l0_0 x3_1).f4).length : Int) := of_decide_eq_true (by first | (with_reducible assumption) | assumption)
                    obtain ⟨ad127, e127, hx127_0, hx127_1, hx127_2⟩ := at_T40 HR112_4.out (ji47) p127 q127
                    have hw127_2 := hx127_2
                    have hw127_1 := hx127_1
                    have hw127_0 := hx127_0
                    obtain rfl : ad124 = ad127 := (by injection e127)
                    replace hx127_0 := (HB.out.cell (World.block_lt_of_cell? w _ hx127_0)).trans hx127_0
                    replace hx127_1 := (HB.out.cell (World.block_lt_of_cell? w _ hx127_1)).trans hx127_1
                    replace hx127_2 := (HB.out.cell (World.block_lt_of_cell? w _ hx127_2)).trans hx127_2
                    replace p127 := eq_true p127
                    replace q127 := eq_true q127
                    refine start_ (n := 35) (S := fun w' => w'.cell? ⟨gb125, 0, none⟩ = some (.int .i64 ((rd_T40 ((rd_T36 l0_0 x3_1).f4) x6_4).f0)) ∧ w'.cell? ⟨gb125, 1, none⟩ = some (.int .i64 ((rd_T40 ((rd_T36 l0_0 x3_1).f4) x6_4).f1)) ∧ w'.cell? ⟨gb125, 2, none⟩ = some (.string ((rd_T40 ((rd_T36 l0_0 x3_1).f4) x6_4).f2)) ∧ w'.cell? ⟨gb113, 0, none⟩ = some (.int .i64 ((rd_T36 l0_0 x3_1).f0)) ∧ w'.cell? ⟨gb113, 1, none⟩ = some (.string ((rd_T36 l0_0 x3_1).f1)) ∧ w'.cell? ⟨gb113, 2, none⟩ = some (.string ((rd_T36 l0_0 x3_1).f2)) ∧ w'.cell? ⟨gb113, 3, none⟩ = some (.int .i64 ((rd_T36 l0_0 x3_1).f3)) ∧ w'.cell? ⟨gb113, 4, none⟩ = some (.slice (some ad124) ((rd_T36 l0_0 x3_1).f4).length c112_4) ∧ w'.cell? (ad124.add (((ji47)).toNat * 3)) = some (.int .i64 ((rd_T40 ((rd_T36 l0_0 x3_1).f4) (ji47)).f0)) ∧ w'.cell? ⟨(ad124.add (((ji47)).toNat * 3)).block, (ad124.add (((ji47)).toNat * 3)).off + 1, none⟩ = some (.int .i64 ((rd_T40 ((rd_T36 l0_0 x3_1).f4) (ji47)).f1)) ∧ w'.cell? ⟨(ad124.add (((ji47)).toNat * 3)).block, (ad124.add (((ji47)).toNat * 3)).off + 2, none⟩ = some (.string ((rd_T40 ((rd_T36 l0_0 x3_1).f4) (ji47)).f2))) (ds := []) (fl 35 0) (by kernel_rfl) rfl rfl ⟨(blk_cell BK125.out 0).trans rfl, (blk_cell BK125.out 1).trans rfl, (blk_cell BK125.out 2).trans rfl, (blk_cell BK113.out 0).trans rfl, (blk_cell BK113.out 1).trans rfl, (blk_cell BK113.out 2).trans rfl, (blk_cell BK113.out 3).trans rfl, (blk_cell BK113.out 4).trans rfl, ((HB.out.cell (World.block_lt_of_cell? w _ hw127_0)).trans hw127_0), ((HB.out.cell (World.block_lt_of_cell? w _ hw127_1)).trans hw127_1), ((HB.out.cell (World.block_lt_of_cell? w _ hw127_2)).trans hw127_2)⟩ (fun hHeld => ?_); refine with_tabW spec_StateOk.tab16 spec_StateOk.bits16 (fun HT_ HW_ => ?_)
                    generalize w53.drew = w54 at BK111 BK113 BK125 HB hx127_0 hx127_1 hx127_2 hHeld ⊢
                    refine pq_ 0 95 (fl 35 1) HT_.out ?_
                    refine pq_ 2 97 (fl 35 5) HT_.out ?_
                    refine tq_ 1 96 (fl 35 7) HT_.out HW_.out hHeld ?_
                    refine tq_ 3 98 (fl 35 15) HT_.out HW_.out hHeld ?_
                    refine pq_ 4 99 (fl 35 31) HT_.out ?_
                    refine one_ (i := 5) (N := some 100) (fl 35 63) rfl rfl (one_of HT_.out (by kernel_rfl)) (by decide) (fun K hK => ?_)
                    refine goes_ Try.func10 (by kernel_rfl) rfl #[.int .i64 ((rd_T40 ((rd_T36 l0_0 x3_1).f4) x6_4).f0), .int .i64 1, .int .i64 (wrap64 (((rd_T36 l0_0 x3_1).f3) - 1))] (by rfl) rfl rfl (by (try simp only [List.map_toArray, List.map_cons, List.map_nil]); first | done | rfl | (simp only [List.length_drop, List.length_take]; rfl)) ?_
                    with_reducible refine (spec_l01In.calls ((rd_T40 ((rd_T36 l0_0 x3_1).f4) x6_4).f0) 1 (wrap64 (((rd_T36 l0_0 x3_1).f3) - 1)) true _ A44.out).mono ?_
                    rintro e w' ⟨rfl, ⟨nd, rfl⟩⟩
                    refine ⟨_, rfl, ?_⟩
                    refine hK.out _ _ ⟨(blk_cell BK125.out 0).trans rfl, (blk_cell BK125.out 1).trans rfl, (blk_cell BK125.out 2).trans rfl, (blk_cell BK113.out 0).trans rfl, (blk_cell BK113.out 1).trans rfl, (blk_cell BK113.out 2).trans rfl, (blk_cell BK113.out 3).trans rfl, (blk_cell BK113.out 4).trans rfl, ((HB.out.cell (World.block_lt_of_cell? w _ hw127_0)).trans hw127_0), ((HB.out.cell (World.block_lt_of_cell? w _ hw127_1)).trans hw127_1), ((HB.out.cell (World.block_lt_of_cell? w _ hw127_2)).trans hw127_2)⟩ (fun hHeld => ?_)
                    clear hK K
                    refine norm_ (a' := ?_) ?_ ?_
                    rotate_left
                    ·show Act.put _ (some 100) _ = _
                     simp only [Act.put, List.setIfInBounds_toArray, List.set_cons_zero, List.set_cons_succ, i64_w, i32_w]
                     rfl
                    refine pq_ 6 101 (fl 35 127) HT_.out ?_
                    refine pq_ 7 102 (fl 35 255) HT_.out ?_
                    refine pq_ 8 103 (fl 35 511) HT_.out ?_
                    refine pq_ 9 104 (fl 35 1023) HT_.out ?_
                    refine pq_ 10 105 (fl 35 2047) HT_.out ?_
                    refine pq_ 11 106 (fl 35 4095) HT_.out ?_
                    refine pq_ 13 108 (fl 35 12287) HT_.out ?_
                    refine pq_ 14 109 (fl 35 28671) HT_.out ?_
                    refine pq_ 18 113 (fl 35 290815) HT_.out ?_
                    refine tq_ 12 107 (fl 35 294911) HT_.out HW_.out hHeld ?_
                    refine pq_ 15 110 (fl 35 327679) HT_.out ?_
                    refine pq_ 16 111 (fl 35 393215) HT_.out ?_
                    refine tq_ 17 112 (fl 35 524287) HT_.out HW_.out hHeld ?_
                    refine tq_ 19 114 (fl 35 1048575) HT_.out HW_.out hHeld ?_
                    refine pq_ 20 115 (fl 35 2097151) HT_.out ?_
                    refine pq_ 21 116 (fl 35 4194303) HT_.out ?_
                    refine pq_ 22 117 (fl 35 8388607) HT_.out ?_
                    refine pq_ 23 118 (fl 35 16777215) HT_.out ?_
                    refine pu_ 24 119 (fl 35 33554431) HT_.out ?_
                    refine pu_ 25 120 (fl 35 67108863) HT_.out ?_
                    refine pu_ 26 121 (fl 35 134217727) HT_.out ?_
                    refine pu_ 27 122 (fl 35 268435455) HT_.out ?_
                    refine pq_ 28 123 (fl 35 536870911) HT_.out ?_
                    refine pq_ 29 124 (fl 35 1073741823) HT_.out ?_
                    refine pu_ 30 125 (fl 35 2147483647) HT_.out ?_
                    refine pu_ 31 126 (fl 35 4294967295) HT_.out ?_
                    refine pu_ 32 127 (fl 35 8589934591) HT_.out ?_
                    refine pu_ 33 128 (fl 35 17179869183) HT_.out ?_
                    refine pq_ 34 129 (fl 35 34359738367) HT_.out ?_
                    refine done_ (done_of HT_.out (by kernel_rfl)) ?_
                    try go_wp2
                    go_ret
                    exact ⟨by first | rfl | (simp [errW_none, errW_some] <;> rfl) | (simp only [← hji47]; first | rfl | (simp [errW_none, errW_some] <;> rfl)) | (simp [*, errW_none, errW_some] <;> rfl), by repeat (first | (with_reducible first | exact HB.out | apply below_alloc | apply pw_below_drewN | apply below_drew1 | refine below_set ?_ GE111.out | refine below_set ?_ GE113.out | refine below_set ?_ GE125.out) | exact HB.out)⟩
                   ·rw [if_neg c50] at H
                    have c50b0 : decide (((rd_T40 ((rd_T36 l0_0 x3_1).f4) x6_4).f0) ≤ ((rd_T40 ((rd_T36 l0_0 x3_1).f4) (ji47)).f0)) = false := decide_eq_false c50
                    clear c50
                    replace H := Option.bind_eq_some_iff.mp H
                    obtain ⟨t128, A550, H⟩ := H
                    (try set_option simprocs false in dsimp only at H)
                    have A55 := Aside0.mk A550
                    clear A550
                    by_cases c56 : t128 = true
                    ·subst c56
                     (try rw [if_pos rfl] at H)
                     by_cases c57 : (((rd_T40 ((rd_T36 l0_0 x3_1).f4) x6_4).f2).size : Int) > 100
                     ·rw [if_pos c57] at H
                      have c57b0 : decide (100 < (((rd_T40 ((rd_T36 l0_0 x3_1).f4) x6_4).f2).size : Int)) = true := decide_eq_true c57
                      have c57b1 : decide (100 < ((rd_T40 ((rd_T36 l0_0 x3_1).f4) x6_4).f2).size) = true := decide_eq_true (by omega)
                      clear c57
                      obtain rfl := Option.some.inj H
                      have hnb58 := NB113_111.out
                      have hnc58 := NB111_113.out
                      have hcz59 := blk_cell BK113.out
                      have hfz59 := blk_frozen BK113.out
                      have p124 : 0 ≤ (x6_4 : Int) := of_decide_eq_true (by first | (with_reducible assumption) | assumption)
                      have q124 : x6_4 < (((rd_T36 l0_0 x3_1).f4).length : Int) := of_decide_eq_true (by first | (with_reducible assumption) | assumption)
                      obtain ⟨ad124, e124, hx124_0, hx124_1, hx124_2⟩ := at_T40 HR112_4.out x6_4 p124 q124
                      cases e124
                      replace hx124_0 := (HB.out.cell (World.block_lt_of_cell? w _ hx124_0)).trans hx124_0
                      replace hx124_1 := (HB.out.cell (World.block_lt_of_cell? w _ hx124_1)).trans hx124_1
                      replace hx124_2 := (HB.out.cell (World.block_lt_of_cell? w _ hx124_2)).trans hx124_2
                      replace p124 := eq_true p124
                      replace q124 := eq_true q124
                      try go_wp2_with (first | ((with_reducible refine gate_dst (N := 7) rfl ?_); (try (refine gate_guard (by rfl) ?_; dsimp only)); refine Go.Proofs.YtjfcdjfnfhkjlaaR.box_full_event ?hg ?hg2 (N := 7) ?hd ?hd2 (t := 40) (v := ?vof7) ?ho (cs := #[.int .i64 0, .int .i64 0, .string (⟨#[]⟩ : ByteArray)]) (cells := #[.int .i64 ((rd_T40 ((rd_T36 l0_0 x3_1).f4) x6_4).f0), .int .i64 ((rd_T40 ((rd_T36 l0_0 x3_1).f4) x6_4).f1), .string ((rd_T40 ((rd_T36 l0_0 x3_1).f4) x6_4).f2)]) ?hi ?hs ?h1 ?hr ?hx ?hv ?_; (case hd => rfl); (case hd2 => rfl); (case ho => rfl); (case hg => rfl); (case hg2 => rfl); (case hi => kernel_rfl); (case hs => rfl); (case h1 => first | kernel_rfl | rfl); (case hx => intro p_; first | rfl | (go_simp; done) | (go_simp; rfl)); (case hv => intro p_; first | rfl | (go_simp; done) | (go_simp; rfl)); (case hr => first | (go_simp; done) | (go_simp; rfl)); intro gb125 hg w60 hbox hb; have n0_ := Aside0.mk (blk_below BK111.out hb); have n1_ := Aside0.mk (blk_below BK113.out hb); have n2_ := Aside0.mk (below_step HB.out hb); have n3_ := Aside0.mk (hbox); have n4_ := Aside0.mk ((by rw [hg]; exact (below_size HB.out) : w.heap.size ≤ gb125)); have n5_ := Aside0.mk ((by rw [hg]; exact (below_size HB.out) : w.heap.size ≤ gb125)); have n6_ := Aside0.mk ((by rw [hg]; exact Nat.ne_of_lt (blk_lt (g := gb111) (o := .cells #[.slice (some ad112) l0_0.length c0_0] 29 (0, 0)) (by (with_reducible repeat (first | refine blk_drewN ?_ _ | refine blk_drew ?_ | refine blk_alloc ?_ _)); exact BK111.out)) : gb111 ≠ gb125)); have n7_ := Aside0.mk ((by rw [hg]; exact Nat.ne_of_gt (blk_lt (g := gb111) (o := .cells #[.slice (some ad112) l0_0.length c0_0] 29 (0, 0)) (by (with_reducible repeat (first | refine blk_drewN ?_ _ | refine blk_drew ?_ | refine blk_alloc ?_ _)); exact BK111.out)) : gb125 ≠ gb111)); have n8_ := Aside0.mk ((by rw [hg]; exact Nat.ne_of_lt (blk_lt (g := gb113) (o := .cells #[.int .i64 ((rd_T36 l0_0 x3_1).f0), .string ((rd_T36 l0_0 x3_1).f1), .string ((rd_T36 l0_0 x3_1).f2), .int .i64 ((rd_T36 l0_0 x3_1).f3), .slice (some ad124) ((rd_T36 l0_0 x3_1).f4).length c112_4] 36 (0, 0)) (by (with_reducible repeat (first | refine blk_drewN ?_ _ | refine blk_drew ?_ | refine blk_alloc ?_ _)); exact BK113.out)) : gb113 ≠ gb125)); have n9_ := Aside0.mk ((by rw [hg]; exact Nat.ne_of_gt (blk_lt (g := gb113) (o := .cells #[.int .i64 ((rd_T36 l0_0 x3_1).f0), .string ((rd_T36 l0_0 x3_1).f1), .string ((rd_T36 l0_0 x3_1).f2), .int .i64 ((rd_T36 l0_0 x3_1).f3), .slice (some ad124) ((rd_T36 l0_0 x3_1).f4).length c112_4] 36 (0, 0)) (by (with_reducible repeat (first | refine blk_drewN ?_ _ | refine blk_drew ?_ | refine blk_alloc ?_ _)); exact BK113.out)) : gb125 ≠ gb113)); clear BK111; clear BK113; clear HB; have BK111 := n0_; have BK113 := n1_; have HB := n2_; have BK125 := n3_; have GW125 := n4_; have GE125 := n5_; have NB111_125 := n6_; have NB125_111 := n7_; have NB113_125 := n8_; have NB125_113 := n9_; clear n0_ n1_ n2_ n3_ n4_ n5_ n6_ n7_ n8_ n9_; clear hb hbox hg))
                      have n0_ := Aside0.mk (blk_drew BK111.out)
                      have n1_ := Aside0.mk (blk_drew BK113.out)
                      have n2_ := Aside0.mk (blk_drew BK125.out)
                      have n3_ := Aside0.mk (below_drew1 HB.out)
                      clear BK111
                      clear BK113
                      clear BK125
                      clear HB
                      have BK111 := n0_
                      have BK113 := n1_
                      have BK125 := n2_
                      have HB := n3_
                      clear n0_ n1_ n2_ n3_
                      have p127 : 0 ≤ ((ji47) : Int) := of_decide_eq_true (by first | (with_reducible assumption) | assumption)
                      have q127 : (ji47) < (((rd_T36 l0_0 x3_1).f4).length : Int) := of_decide_eq_true (by first | (with_reducible assumption) | assumption)
                      obtain ⟨ad127, e127, hx127_0, hx127_1, hx127_2⟩ := at_T40 HR112_4.out (ji47) p127 q127
                      have hw127_2 := hx127_2
                      have hw127_1 := hx127_1
                      have hw127_0 := hx127_0
                      obtain rfl : ad124 = ad127 := (by injection e127)
                      replace hx127_0 := (HB.out.cell (World.block_lt_of_cell? w _ hx127_0)).trans hx127_0
                      replace hx127_1 := (HB.out.cell (World.block_lt_of_cell? w _ hx127_1)).trans hx127_1
                      replace hx127_2 := (HB.out.cell (World.block_lt_of_cell? w _ hx127_2)).trans hx127_2
                      replace p127 := eq_true p127
                      replace q127 := eq_true q127
                      refine start_ (n := 35) (S := fun w' => w'.cell? ⟨gb125, 0, none⟩ = some (.int .i64 ((rd_T40 ((rd_T36 l0_0 x3_1).f4) x6_4).f0)) ∧ w'.cell? ⟨gb125, 1, none⟩ = some (.int .i64 ((rd_T40 ((rd_T36 l0_0 x3_1).f4) x6_4).f1)) ∧ w'.cell? ⟨gb125, 2, none⟩ = some (.string ((rd_T40 ((rd_T36 l0_0 x3_1).f4) x6_4).f2)) ∧ w'.cell? ⟨gb113, 0, none⟩ = some (.int .i64 ((rd_T36 l0_0 x3_1).f0)) ∧ w'.cell? ⟨gb113, 1, none⟩ = some (.string ((rd_T36 l0_0 x3_1).f1)) ∧ w'.cell? ⟨gb113, 2, none⟩ = some (.string ((rd_T36 l0_0 x3_1).f2)) ∧ w'.cell? ⟨gb113, 3, none⟩ = some (.int .i64 ((rd_T36 l0_0 x3_1).f3)) ∧ w'.cell? ⟨gb113, 4, none⟩ = some (.slice (some ad124) ((rd_T36 l0_0 x3_1).f4).length c112_4) ∧ w'.cell? (ad124.add (((ji47)).toNat * 3)) = some (.int .i64 ((rd_T40 ((rd_T36 l0_0 x3_1).f4) (ji47)).f0)) ∧ w'.cell? ⟨(ad124.add (((ji47)).toNat * 3)).block, (ad124.add (((ji47)).toNat * 3)).off + 1, none⟩ = some (.int .i64 ((rd_T40 ((rd_T36 l0_0 x3_1).f4) (ji47)).f1)) ∧ w'.cell? ⟨(ad124.add (((ji47)).toNat * 3)).block, (ad124.add (((ji47)).toNat * 3)).off + 2, none⟩ = some (.string ((rd_T40 ((rd_T36 l0_0 x3_1).f4) (ji47)).f2))) (ds := []) (fl 35 0) (by kernel_rfl) rfl rfl ⟨(blk_cell BK125.out 0).trans rfl, (blk_cell BK125.out 1).trans rfl, (blk_cell BK125.out 2).trans rfl, (blk_cell BK113.out 0).trans rfl, (blk_cell BK113.out 1).trans rfl, (blk_cell BK113.out 2).trans rfl, (blk_cell BK113.out 3).trans rfl, (blk_cell BK113.out 4).trans rfl, ((HB.out.cell (World.block_lt_of_cell? w _ hw127_0)).trans hw127_0), ((HB.out.cell (World.block_lt_of_cell? w _ hw127_1)).trans hw127_1), ((HB.out.cell (World.block_lt_of_cell? w _ hw127_2)).trans hw127_2)⟩ (fun hHeld => ?_); refine with_tabW spec_StateOk.tab16 spec_StateOk.bits16 (fun HT_ HW_ => ?_)
                      generalize w60.drew = w61 at BK111 BK113 BK125 HB hx127_0 hx127_1 hx127_2 hHeld ⊢
                      refine pq_ 0 95 (fl 35 1) HT_.out ?_
                      refine pq_ 2 97 (fl 35 5) HT_.out ?_
                      refine tq_ 1 96 (fl 35 7) HT_.out HW_.out hHeld ?_
                      refine tq_ 3 98 (fl 35 15) HT_.out HW_.out hHeld ?_
                      refine pq_ 4 99 (fl 35 31) HT_.out ?_
                      refine one_ (i := 5) (N := some 100) (fl 35 63) rfl rfl (one_of HT_.out (by kernel_rfl)) (by decide) (fun K hK => ?_)
                      refine goes_ Try.func10 (by kernel_rfl) rfl #[.int .i64 ((rd_T40 ((rd_T36 l0_0 x3_1).f4) x6_4).f0), .int .i64 1, .int .i64 (wrap64 (((rd_T36 l0_0 x3_1).f3) - 1))] (by rfl) rfl rfl (by (try simp only [List.map_toArray, List.map_cons, List.map_nil]); first | done | rfl | (simp only [List.length_drop, List.length_take]; rfl)) ?_
                      with_reducible refine (spec_l01In.calls ((rd_T40 ((rd_T36 l0_0 x3_1).f4) x6_4).f0) 1 (wrap64 (((rd_T36 l0_0 x3_1).f3) - 1)) true _ A44.out).mono ?_
                      rintro e w' ⟨rfl, ⟨nd, rfl⟩⟩
                      refine ⟨_, rfl, ?_⟩
                      refine hK.out _ _ ⟨(blk_cell BK125.out 0).trans rfl, (blk_cell BK125.out 1).trans rfl, (blk_cell BK125.out 2).trans rfl, (blk_cell BK113.out 0).trans rfl, (blk_cell BK113.out 1).trans rfl, (blk_cell BK113.out 2).trans rfl, (blk_cell BK113.out 3).trans rfl, (blk_cell BK113.out 4).trans rfl, ((HB.out.cell (World.block_lt_of_cell? w _ hw127_0)).trans hw127_0), ((HB.out.cell (World.block_lt_of_cell? w _ hw127_1)).trans hw127_1), ((HB.out.cell (World.block_lt_of_cell? w _ hw127_2)).trans hw127_2)⟩ (fun hHeld => ?_)
                      clear hK K
                      refine norm_ (a' := ?_) ?_ ?_
                      rotate_left
                      ·show Act.put _ (some 100) _ = _
                       simp only [Act.put, List.setIfInBounds_toArray, List.set_cons_zero, List.set_cons_succ, i64_w, i32_w]
                       rfl
                      refine pq_ 6 101 (fl 35 127) HT_.out ?_
                      refine pq_ 7 102 (fl 35 255) HT_.out ?_
                      refine pq_ 8 103 (fl 35 511) HT_.out ?_
                      refine pq_ 9 104 (fl 35 1023) HT_.out ?_
                      refine pq_ 10 105 (fl 35 2047) HT_.out ?_
                      refine pq_ 11 106 (fl 35 4095) HT_.out ?_
                      refine pq_ 13 108 (fl 35 12287) HT_.out ?_
                      refine pq_ 14 109 (fl 35 28671) HT_.out ?_
                      refine pq_ 18 113 (fl 35 290815) HT_.out ?_
                      refine tq_ 12 107 (fl 35 294911) HT_.out HW_.out hHeld ?_
                      refine pq_ 15 110 (fl 35 327679) HT_.out ?_
                      refine pq_ 16 111 (fl 35 393215) HT_.out ?_
                      refine tq_ 17 112 (fl 35 524287) HT_.out HW_.out hHeld ?_
                      refine tq_ 19 114 (fl 35 1048575) HT_.out HW_.out hHeld ?_
                      refine pq_ 20 115 (fl 35 2097151) HT_.out ?_
                      refine pq_ 21 116 (fl 35 4194303) HT_.out ?_
                      refine pq_ 22 117 (fl 35 8388607) HT_.out ?_
                      refine pq_ 23 118 (fl 35 16777215) HT_.out ?_
                      refine pq_ 24 119 (fl 35 33554431) HT_.out ?_
                      refine tq_ 25 120 (fl 35 67108863) HT_.out HW_.out hHeld ?_
                      refine one_ (i := 26) (N := some 121) (fl 35 134217727) rfl rfl (one_of HT_.out (by kernel_rfl)) (by decide) (fun K hK => ?_)
                      refine goes_ Try.func10 (by kernel_rfl) rfl #[.int .i64 ((rd_T40 ((rd_T36 l0_0 x3_1).f4) x6_4).f1), .int .i64 0, .int .i64 7] (by rfl) rfl rfl (by (try simp only [List.map_toArray, List.map_cons, List.map_nil]); first | done | rfl | (simp only [List.length_drop, List.length_take]; rfl)) ?_
                      with_reducible refine (spec_l01In.calls ((rd_T40 ((rd_T36 l0_0 x3_1).f4) x6_4).f1) 0 7 true _ A55.out).mono ?_
                      rintro e w' ⟨rfl, ⟨nd, rfl⟩⟩
                      refine ⟨_, rfl, ?_⟩
                      refine hK.out _ _ ⟨(blk_cell BK125.out 0).trans rfl, (blk_cell BK125.out 1).trans rfl, (blk_cell BK125.out 2).trans rfl, (blk_cell BK113.out 0).trans rfl, (blk_cell BK113.out 1).trans rfl, (blk_cell BK113.out 2).trans rfl, (blk_cell BK113.out 3).trans rfl, (blk_cell BK113.out 4).trans rfl, ((HB.out.cell (World.block_lt_of_cell? w _ hw127_0)).trans hw127_0), ((HB.out.cell (World.block_lt_of_cell? w _ hw127_1)).trans hw127_1), ((HB.out.cell (World.block_lt_of_cell? w _ hw127_2)).trans hw127_2)⟩ (fun hHeld => ?_)
                      clear hK K
                      refine norm_ (a' := ?_) ?_ ?_
                      rotate_left
                      ·show Act.put _ (some 121) _ = _
                       simp only [Act.put, List.setIfInBounds_toArray, List.set_cons_zero, List.set_cons_succ, i64_w, i32_w]
                       rfl
                      refine pq_ 27 122 (fl 35 268435455) HT_.out ?_
                      refine pq_ 28 123 (fl 35 536870911) HT_.out ?_
                      refine pq_ 29 124 (fl 35 1073741823) HT_.out ?_
                      refine pq_ 30 125 (fl 35 2147483647) HT_.out ?_
                      refine tq_ 31 126 (fl 35 4294967295) HT_.out HW_.out hHeld ?_
                      refine pq_ 32 127 (fl 35 8589934591) HT_.out ?_
                      refine pq_ 33 128 (fl 35 17179869183) HT_.out ?_
                      refine pq_ 34 129 (fl 35 34359738367) HT_.out ?_
                      refine done_ (done_of HT_.out (by kernel_rfl)) ?_
                      try go_wp2
                      go_ret
                      exact ⟨by first | rfl | (simp [errW_none, errW_some] <;> rfl) | (simp only [← hji47]; first | rfl | (simp [errW_none, errW_some] <;> rfl)) | (simp [*, errW_none, errW_some] <;> rfl), by repeat (first | (with_reducible first | exact HB.out | apply below_alloc | apply pw_below_drewN | apply below_drew1 | refine below_set ?_ GE111.out | refine below_set ?_ GE113.out | refine below_set ?_ GE125.out) | exact HB.out)⟩
                     ·rw [if_neg c57] at H
                      have c57b0 : decide (100 < (((rd_T40 ((rd_T36 l0_0 x3_1).f4) x6_4).f2).size : Int)) = false := decide_eq_false c57
                      have c57b1 : decide (100 < ((rd_T40 ((rd_T36 l0_0 x3_1).f4) x6_4).f2).size) = false := decide_eq_false (by omega)
                      clear c57
                      have H' := Aside0.mk H
                      clear H
                      have hnb62 := NB113_111.out
                      have hnc62 := NB111_113.out
                      have hcz63 := blk_cell BK113.out
                      have hfz63 := blk_frozen BK113.out
                      have p124 : 0 ≤ (x6_4 : Int) := of_decide_eq_true (by first | (with_reducible assumption) | assumption)
                      have q124 : x6_4 < (((rd_T36 l0_0 x3_1).f4).length : Int) := of_decide_eq_true (by first | (with_reducible assumption) | assumption)
                      obtain ⟨ad124, e124, hx124_0, hx124_1, hx124_2⟩ := at_T40 HR112_4.out x6_4 p124 q124
                      cases e124
                      replace hx124_0 := (HB.out.cell (World.block_lt_of_cell? w _ hx124_0)).trans hx124_0
                      replace hx124_1 := (HB.out.cell (World.block_lt_of_cell? w _ hx124_1)).trans hx124_1
                      replace hx124_2 := (HB.out.cell (World.block_lt_of_cell? w _ hx124_2)).trans hx124_2
                      replace p124 := eq_true p124
                      replace q124 := eq_true q124
                      try go_wp2_with (first | ((with_reducible refine gate_dst (N := 7) rfl ?_); (try (refine gate_guard (by rfl) ?_; dsimp only)); refine Go.Proofs.YtjfcdjfnfhkjlaaR.box_full_event ?hg ?hg2 (N := 7) ?hd ?hd2 (t := 40) (v := ?vof7) ?ho (cs := #[.int .i64 0, .int .i64 0, .string (⟨#[]⟩ : ByteArray)]) (cells := #[.int .i64 ((rd_T40 ((rd_T36 l0_0 x3_1).f4) x6_4).f0), .int .i64 ((rd_T40 ((rd_T36 l0_0 x3_1).f4) x6_4).f1), .string ((rd_T40 ((rd_T36 l0_0 x3_1).f4) x6_4).f2)]) ?hi ?hs ?h1 ?hr ?hx ?hv ?_; (case hd => rfl); (case hd2 => rfl); (case ho => rfl); (case hg => rfl); (case hg2 => rfl); (case hi => kernel_rfl); (case hs => rfl); (case h1 => first | kernel_rfl | rfl); (case hx => intro p_; first | rfl | (go_simp; done) | (go_simp; rfl)); (case hv => intro p_; first | rfl | (go_simp; done) | (go_simp; rfl)); (case hr => first | (go_simp; done) | (go_simp; rfl)); intro gb125 hg w64 hbox hb; have n0_ := Aside0.mk (blk_below BK111.out hb); have n1_ := Aside0.mk (blk_below BK113.out hb); have n2_ := Aside0.mk (below_step HB.out hb); have n3_ := Aside0.mk (hbox); have n4_ := Aside0.mk ((by rw [hg]; exact (below_size HB.out) : w.heap.size ≤ gb125)); have n5_ := Aside0.mk ((by rw [hg]; exact (below_size HB.out) : w.heap.size ≤ gb125)); have n6_ := Aside0.mk ((by rw [hg]; exact Nat.ne_of_lt (blk_lt (g := gb111) (o := .cells #[.slice (some ad112) l0_0.length c0_0] 29 (0, 0)) (by (with_reducible repeat (first | refine blk_drewN ?_ _ | refine blk_drew ?_ | refine blk_alloc ?_ _)); exact BK111.out)) : gb111 ≠ gb125)); have n7_ := Aside0.mk ((by rw [hg]; exact Nat.ne_of_gt (blk_lt (g := gb111) (o := .cells #[.slice (some ad112) l0_0.length c0_0] 29 (0, 0)) (by (with_reducible repeat (first | refine blk_drewN ?_ _ | refine blk_drew ?_ | refine blk_alloc ?_ _)); exact BK111.out)) : gb125 ≠ gb111)); have n8_ := Aside0.mk ((by rw [hg]; exact Nat.ne_of_lt (blk_lt (g := gb113) (o := .cells #[.int .i64 ((rd_T36 l0_0 x3_1).f0), .string ((rd_T36 l0_0 x3_1).f1), .string ((rd_T36 l0_0 x3_1).f2), .int .i64 ((rd_T36 l0_0 x3_1).f3), .slice (some ad124) ((rd_T36 l0_0 x3_1).f4).length c112_4] 36 (0, 0)) (by (with_reducible repeat (first | refine blk_drewN ?_ _ | refine blk_drew ?_ | refine blk_alloc ?_ _)); exact BK113.out)) : gb113 ≠ gb125)); have n9_ := Aside0.mk ((by rw [hg]; exact Nat.ne_of_gt (blk_lt (g := gb113) (o := .cells #[.int .i64 ((rd_T36 l0_0 x3_1).f0), .string ((rd_T36 l0_0 x3_1).f1), .string ((rd_T36 l0_0 x3_1).f2), .int .i64 ((rd_T36 l0_0 x3_1).f3), .slice (some ad124) ((rd_T36 l0_0 x3_1).f4).length c112_4] 36 (0, 0)) (by (with_reducible repeat (first | refine blk_drewN ?_ _ | refine blk_drew ?_ | refine blk_alloc ?_ _)); exact BK113.out)) : gb125 ≠ gb113)); clear BK111; clear BK113; clear HB; have BK111 := n0_; have BK113 := n1_; have HB := n2_; have BK125 := n3_; have GW125 := n4_; have GE125 := n5_; have NB111_125 := n6_; have NB125_111 := n7_; have NB113_125 := n8_; have NB125_113 := n9_; clear n0_ n1_ n2_ n3_ n4_ n5_ n6_ n7_ n8_ n9_; clear hb hbox hg))
                      have n0_ := Aside0.mk (blk_drew BK111.out)
                      have n1_ := Aside0.mk (blk_drew BK113.out)
                      have n2_ := Aside0.mk (blk_drew BK125.out)
                      have n3_ := Aside0.mk (below_drew1 HB.out)
                      clear BK111
                      clear BK113
                      clear BK125
                      clear HB
                      have BK111 := n0_
                      have BK113 := n1_
                      have BK125 := n2_
                      have HB := n3_
                      clear n0_ n1_ n2_ n3_
                      have p127 : 0 ≤ ((ji47) : Int) := of_decide_eq_true (by first | (with_reducible assumption) | assumption)
                      have q127 : (ji47) < (((rd_T36 l0_0 x3_1).f4).length : Int) := of_decide_eq_true (by first | (with_reducible assumption) | assumption)
                      obtain ⟨ad127, e127, hx127_0, hx127_1, hx127_2⟩ := at_T40 HR112_4.out (ji47) p127 q127
                      have hw127_2 := hx127_2
                      have hw127_1 := hx127_1
                      have hw127_0 := hx127_0
                      obtain rfl : ad124 = ad127 := (by injection e127)
                      replace hx127_0 := (HB.out.cell (World.block_lt_of_cell? w _ hx127_0)).trans hx127_0
                      replace hx127_1 := (HB.out.cell (World.block_lt_of_cell? w _ hx127_1)).trans hx127_1
                      replace hx127_2 := (HB.out.cell (World.block_lt_of_cell? w _ hx127_2)).trans hx127_2
                      replace p127 := eq_true p127
                      replace q127 := eq_true q127
                      refine start_ (n := 35) (S := fun w' => w'.cell? ⟨gb125, 0, none⟩ = some (.int .i64 ((rd_T40 ((rd_T36 l0_0 x3_1).f4) x6_4).f0)) ∧ w'.cell? ⟨gb125, 1, none⟩ = some (.int .i64 ((rd_T40 ((rd_T36 l0_0 x3_1).f4) x6_4).f1)) ∧ w'.cell? ⟨gb125, 2, none⟩ = some (.string ((rd_T40 ((rd_T36 l0_0 x3_1).f4) x6_4).f2)) ∧ w'.cell? ⟨gb113, 0, none⟩ = some (.int .i64 ((rd_T36 l0_0 x3_1).f0)) ∧ w'.cell? ⟨gb113, 1, none⟩ = some (.string ((rd_T36 l0_0 x3_1).f1)) ∧ w'.cell? ⟨gb113, 2, none⟩ = some (.string ((rd_T36 l0_0 x3_1).f2)) ∧ w'.cell? ⟨gb113, 3, none⟩ = some (.int .i64 ((rd_T36 l0_0 x3_1).f3)) ∧ w'.cell? ⟨gb113, 4, none⟩ = some (.slice (some ad124) ((rd_T36 l0_0 x3_1).f4).length c112_4) ∧ w'.cell? (ad124.add (((ji47)).toNat * 3)) = some (.int .i64 ((rd_T40 ((rd_T36 l0_0 x3_1).f4) (ji47)).f0)) ∧ w'.cell? ⟨(ad124.add (((ji47)).toNat * 3)).block, (ad124.add (((ji47)).toNat * 3)).off + 1, none⟩ = some (.int .i64 ((rd_T40 ((rd_T36 l0_0 x3_1).f4) (ji47)).f1)) ∧ w'.cell? ⟨(ad124.add (((ji47)).toNat * 3)).block, (ad124.add (((ji47)).toNat * 3)).off + 2, none⟩ = some (.string ((rd_T40 ((rd_T36 l0_0 x3_1).f4) (ji47)).f2))) (ds := []) (fl 35 0) (by kernel_rfl) rfl rfl ⟨(blk_cell BK125.out 0).trans rfl, (blk_cell BK125.out 1).trans rfl, (blk_cell BK125.out 2).trans rfl, (blk_cell BK113.out 0).trans rfl, (blk_cell BK113.out 1).trans rfl, (blk_cell BK113.out 2).trans rfl, (blk_cell BK113.out 3).trans rfl, (blk_cell BK113.out 4).trans rfl, ((HB.out.cell (World.block_lt_of_cell? w _ hw127_0)).trans hw127_0), ((HB.out.cell (World.block_lt_of_cell? w _ hw127_1)).trans hw127_1), ((HB.out.cell (World.block_lt_of_cell? w _ hw127_2)).trans hw127_2)⟩ (fun hHeld => ?_); refine with_tabW spec_StateOk.tab16 spec_StateOk.bits16 (fun HT_ HW_ => ?_)
                      generalize w64.drew = w65 at BK111 BK113 BK125 HB hx127_0 hx127_1 hx127_2 hHeld ⊢
                      refine pq_ 0 95 (fl 35 1) HT_.out ?_
                      refine pq_ 2 97 (fl 35 5) HT_.out ?_
                      refine tq_ 1 96 (fl 35 7) HT_.out HW_.out hHeld ?_
                      refine tq_ 3 98 (fl 35 15) HT_.out HW_.out hHeld ?_
                      refine pq_ 4 99 (fl 35 31) HT_.out ?_
                      refine one_ (i := 5) (N := some 100) (fl 35 63) rfl rfl (one_of HT_.out (by kernel_rfl)) (by decide) (fun K hK => ?_)
                      refine goes_ Try.func10 (by kernel_rfl) rfl #[.int .i64 ((rd_T40 ((rd_T36 l0_0 x3_1).f4) x6_4).f0), .int .i64 1, .int .i64 (wrap64 (((rd_T36 l0_0 x3_1).f3) - 1))] (by rfl) rfl rfl (by (try simp only [List.map_toArray, List.map_cons, List.map_nil]); first | done | rfl | (simp only [List.length_drop, List.length_take]; rfl)) ?_
                      with_reducible refine (spec_l01In.calls ((rd_T40 ((rd_T36 l0_0 x3_1).f4) x6_4).f0) 1 (wrap64 (((rd_T36 l0_0 x3_1).f3) - 1)) true _ A44.out).mono ?_
                      rintro e w' ⟨rfl, ⟨nd, rfl⟩⟩
                      refine ⟨_, rfl, ?_⟩
                      refine hK.out _ _ ⟨(blk_cell BK125.out 0).trans rfl, (blk_cell BK125.out 1).trans rfl, (blk_cell BK125.out 2).trans rfl, (blk_cell BK113.out 0).trans rfl, (blk_cell BK113.out 1).trans rfl, (blk_cell BK113.out 2).trans rfl, (blk_cell BK113.out 3).trans rfl, (blk_cell BK113.out 4).trans rfl, ((HB.out.cell (World.block_lt_of_cell? w _ hw127_0)).trans hw127_0), ((HB.out.cell (World.block_lt_of_cell? w _ hw127_1)).trans hw127_1), ((HB.out.cell (World.block_lt_of_cell? w _ hw127_2)).trans hw127_2)⟩ (fun hHeld => ?_)
                      clear hK K
                      refine norm_ (a' := ?_) ?_ ?_
                      rotate_left
                      ·show Act.put _ (some 100) _ = _
                       simp only [Act.put, List.setIfInBounds_toArray, List.set_cons_zero, List.set_cons_succ, i64_w, i32_w]
                       rfl
                      refine pq_ 6 101 (fl 35 127) HT_.out ?_
                      refine pq_ 7 102 (fl 35 255) HT_.out ?_
                      refine pq_ 8 103 (fl 35 511) HT_.out ?_
                      refine pq_ 9 104 (fl 35 1023) HT_.out ?_
                      refine pq_ 10 105 (fl 35 2047) HT_.out ?_
                      refine pq_ 11 106 (fl 35 4095) HT_.out ?_
                      refine pq_ 13 108 (fl 35 12287) HT_.out ?_
                      refine pq_ 14 109 (fl 35 28671) HT_.out ?_
                      refine pq_ 18 113 (fl 35 290815) HT_.out ?_
                      refine tq_ 12 107 (fl 35 294911) HT_.out HW_.out hHeld ?_
                      refine pq_ 15 110 (fl 35 327679) HT_.out ?_
                      refine pq_ 16 111 (fl 35 393215) HT_.out ?_
                      refine tq_ 17 112 (fl 35 524287) HT_.out HW_.out hHeld ?_
                      refine tq_ 19 114 (fl 35 1048575) HT_.out HW_.out hHeld ?_
                      refine pq_ 20 115 (fl 35 2097151) HT_.out ?_
                      refine pq_ 21 116 (fl 35 4194303) HT_.out ?_
                      refine pq_ 22 117 (fl 35 8388607) HT_.out ?_
                      refine pq_ 23 118 (fl 35 16777215) HT_.out ?_
                      refine pq_ 24 119 (fl 35 33554431) HT_.out ?_
                      refine tq_ 25 120 (fl 35 67108863) HT_.out HW_.out hHeld ?_
                      refine one_ (i := 26) (N := some 121) (fl 35 134217727) rfl rfl (one_of HT_.out (by kernel_rfl)) (by decide) (fun K hK => ?_)
                      refine goes_ Try.func10 (by kernel_rfl) rfl #[.int .i64 ((rd_T40 ((rd_T36 l0_0 x3_1).f4) x6_4).f1), .int .i64 0, .int .i64 7] (by rfl) rfl rfl (by (try simp only [List.map_toArray, List.map_cons, List.map_nil]); first | done | rfl | (simp only [List.length_drop, List.length_take]; rfl)) ?_
                      with_reducible refine (spec_l01In.calls ((rd_T40 ((rd_T36 l0_0 x3_1).f4) x6_4).f1) 0 7 true _ A55.out).mono ?_
                      rintro e w' ⟨rfl, ⟨nd, rfl⟩⟩
                      refine ⟨_, rfl, ?_⟩
                      refine hK.out _ _ ⟨(blk_cell BK125.out 0).trans rfl, (blk_cell BK125.out 1).trans rfl, (blk_cell BK125.out 2).trans rfl, (blk_cell BK113.out 0).trans rfl, (blk_cell BK113.out 1).trans rfl, (blk_cell BK113.out 2).trans rfl, (blk_cell BK113.out 3).trans rfl, (blk_cell BK113.out 4).trans rfl, ((HB.out.cell (World.block_lt_of_cell? w _ hw127_0)).trans hw127_0), ((HB.out.cell (World.block_lt_of_cell? w _ hw127_1)).trans hw127_1), ((HB.out.cell (World.block_lt_of_cell? w _ hw127_2)).trans hw127_2)⟩ (fun hHeld => ?_)
                      clear hK K
                      refine norm_ (a' := ?_) ?_ ?_
                      rotate_left
                      ·show Act.put _ (some 121) _ = _
                       simp only [Act.put, List.setIfInBounds_toArray, List.set_cons_zero, List.set_cons_succ, i64_w, i32_w]
                       rfl
                      refine pq_ 27 122 (fl 35 268435455) HT_.out ?_
                      refine pq_ 28 123 (fl 35 536870911) HT_.out ?_
                      refine pq_ 29 124 (fl 35 1073741823) HT_.out ?_
                      refine pq_ 30 125 (fl 35 2147483647) HT_.out ?_
                      refine tq_ 31 126 (fl 35 4294967295) HT_.out HW_.out hHeld ?_
                      refine pq_ 32 127 (fl 35 8589934591) HT_.out ?_
                      refine pq_ 33 128 (fl 35 17179869183) HT_.out ?_
                      refine pq_ 34 129 (fl 35 34359738367) HT_.out ?_
                      refine done_ (done_of HT_.out (by kernel_rfl)) ?_
                      try go_wp2
                      go_roundg k4
                      case measure => have := HK1.out; have := HJ4.out; have := HK3.out; have := HK4.out; omega
                      case rel => exact ⟨(wrap64 (x6_4 + 1)), (by first | rfl | (simp; done) | (simp [*]; done) | (simp; exact (by intro l; cases l <;> rfl : ∀ l : List UInt8, l.isEmpty = !(l != [])) _)), H', ⟨by have := HK1.out; have := HJ4.out; have := HK3.out; have := HK4.out; omega⟩, ⟨by (with_reducible repeat (first | refine blk_drewN ?_ _ | refine blk_drew ?_ | refine blk_alloc ?_ _)); exact BK111.out⟩, ⟨by (with_reducible repeat (first | refine blk_drewN ?_ _ | refine blk_drew ?_ | refine blk_alloc ?_ _)); exact BK113.out⟩, ⟨by repeat (first | (with_reducible first | exact HB.out | apply below_alloc | apply pw_below_drewN | apply below_drew1 | refine below_set ?_ GE111.out | refine below_set ?_ GE113.out | refine below_set ?_ GE125.out) | exact HB.out)⟩⟩
                    ·replace c56 := Bool.eq_false_iff.mpr c56
                     subst c56
                     (try rw [if_neg (show ¬ (false = true) by decide)] at H)
                     obtain rfl := Option.some.inj H
                     have hnb66 := NB113_111.out
                     have hnc66 := NB111_113.out
                     have hcz67 := blk_cell BK113.out
                     have hfz67 := blk_frozen BK113.out
                     have p124 : 0 ≤ (x6_4 : Int) := of_decide_eq_true (by first | (with_reducible assumption) | assumption)
                     have q124 : x6_4 < (((rd_T36 l0_0 x3_1).f4).length : Int) := of_decide_eq_true (by first | (with_reducible assumption) | assumption)
                     obtain ⟨ad124, e124, hx124_0, hx124_1, hx124_2⟩ := at_T40 HR112_4.out x6_4 p124 q124
                     cases e124
                     replace hx124_0 := (HB.out.cell (World.block_lt_of_cell? w _ hx124_0)).trans hx124_0
                     replace hx124_1 := (HB.out.cell (World.block_lt_of_cell? w _ hx124_1)).trans hx124_1
                     replace hx124_2 := (HB.out.cell (World.block_lt_of_cell? w _ hx124_2)).trans hx124_2
                     replace p124 := eq_true p124
                     replace q124 := eq_true q124
                     try go_wp2_with (first | ((with_reducible refine gate_dst (N := 7) rfl ?_); (try (refine gate_guard (by rfl) ?_; dsimp only)); refine Go.Proofs.YtjfcdjfnfhkjlaaR.box_full_event ?hg ?hg2 (N := 7) ?hd ?hd2 (t := 40) (v := ?vof7) ?ho (cs := #[.int .i64 0, .int .i64 0, .string (⟨#[]⟩ : ByteArray)]) (cells := #[.int .i64 ((rd_T40 ((rd_T36 l0_0 x3_1).f4) x6_4).f0), .int .i64 ((rd_T40 ((rd_T36 l0_0 x3_1).f4) x6_4).f1), .string ((rd_T40 ((rd_T36 l0_0 x3_1).f4) x6_4).f2)]) ?hi ?hs ?h1 ?hr ?hx ?hv ?_; (case hd => rfl); (case hd2 => rfl); (case ho => rfl); (case hg => rfl); (case hg2 => rfl); (case hi => kernel_rfl); (case hs => rfl); (case h1 => first | kernel_rfl | rfl); (case hx => intro p_; first | rfl | (go_simp; done) | (go_simp; rfl)); (case hv => intro p_; first | rfl | (go_simp; done) | (go_simp; rfl)); (case hr => first | (go_simp; done) | (go_simp; rfl)); intro gb125 hg w68 hbox hb; have n0_ := Aside0.mk (blk_below BK111.out hb); have n1_ := Aside0.mk (blk_below BK113.out hb); have n2_ := Aside0.mk (below_step HB.out hb); have n3_ := Aside0.mk (hbox); have n4_ := Aside0.mk ((by rw [hg]; exact (below_size HB.out) : w.heap.size ≤ gb125)); have n5_ := Aside0.mk ((by rw [hg]; exact (below_size HB.out) : w.heap.size ≤ gb125)); have n6_ := Aside0.mk ((by rw [hg]; exact Nat.ne_of_lt (blk_lt (g := gb111) (o := .cells #[.slice (some ad112) l0_0.length c0_0] 29 (0, 0)) (by (with_reducible repeat (first | refine blk_drewN ?_ _ | refine blk_drew ?_ | refine blk_alloc ?_ _)); exact BK111.out)) : gb111 ≠ gb125)); have n7_ := Aside0.mk ((by rw [hg]; exact Nat.ne_of_gt (blk_lt (g := gb111) (o := .cells #[.slice (some ad112) l0_0.length c0_0] 29 (0, 0)) (by (with_reducible repeat (first | refine blk_drewN ?_ _ | refine blk_drew ?_ | refine blk_alloc ?_ _)); exact BK111.out)) : gb125 ≠ gb111)); have n8_ := Aside0.mk ((by rw [hg]; exact Nat.ne_of_lt (blk_lt (g := gb113) (o := .cells #[.int .i64 ((rd_T36 l0_0 x3_1).f0), .string ((rd_T36 l0_0 x3_1).f1), .string ((rd_T36 l0_0 x3_1).f2), .int .i64 ((rd_T36 l0_0 x3_1).f3), .slice (some ad124) ((rd_T36 l0_0 x3_1).f4).length c112_4] 36 (0, 0)) (by (with_reducible repeat (first | refine blk_drewN ?_ _ | refine blk_drew ?_ | refine blk_alloc ?_ _)); exact BK113.out)) : gb113 ≠ gb125)); have n9_ := Aside0.mk ((by rw [hg]; exact Nat.ne_of_gt (blk_lt (g := gb113) (o := .cells #[.int .i64 ((rd_T36 l0_0 x3_1).f0), .string ((rd_T36 l0_0 x3_1).f1), .string ((rd_T36 l0_0 x3_1).f2), .int .i64 ((rd_T36 l0_0 x3_1).f3), .slice (some ad124) ((rd_T36 l0_0 x3_1).f4).length c112_4] 36 (0, 0)) (by (with_reducible repeat (first | refine blk_drewN ?_ _ | refine blk_drew ?_ | refine blk_alloc ?_ _)); exact BK113.out)) : gb125 ≠ gb113)); clear BK111; clear BK113; clear HB; have BK111 := n0_; have BK113 := n1_; have HB := n2_; have BK125 := n3_; have GW125 := n4_; have GE125 := n5_; have NB111_125 := n6_; have NB125_111 := n7_; have NB113_125 := n8_; have NB125_113 := n9_; clear n0_ n1_ n2_ n3_ n4_ n5_ n6_ n7_ n8_ n9_; clear hb hbox hg))
                     have n0_ := Aside0.mk (blk_drew BK111.out)
                     have n1_ := Aside0.mk (blk_drew BK113.out)
                     have n2_ := Aside0.mk (blk_drew BK125.out)
                     have n3_ := Aside0.mk (below_drew1 HB.out)
                     clear BK111
                     clear BK113
                     clear BK125
                     clear HB
                     have BK111 := n0_
                     have BK113 := n1_
                     have BK125 := n2_
                     have HB := n3_
                     clear n0_ n1_ n2_ n3_
                     have p127 : 0 ≤ ((ji47) : Int) := of_decide_eq_true (by first | (with_reducible assumption) | assumption)
                     have q127 : (ji47) < (((rd_T36 l0_0 x3_1).f4).length : Int) := of_decide_eq_true (by first | (with_reducible assumption) | assumption)
                     obtain ⟨ad127, e127, hx127_0, hx127_1, hx127_2⟩ := at_T40 HR112_4.out (ji47) p127 q127
                     have hw127_2 := hx127_2
                     have hw127_1 := hx127_1
                     have hw127_0 := hx127_0
                     obtain rfl : ad124 = ad127 := (by injection e127)
                     replace hx127_0 := (HB.out.cell (World.block_lt_of_cell? w _ hx127_0)).trans hx127_0
                     replace hx127_1 := (HB.out.cell (World.block_lt_of_cell? w _ hx127_1)).trans hx127_1
                     replace hx127_2 := (HB.out.cell (World.block_lt_of_cell? w _ hx127_2)).trans hx127_2
                     replace p127 := eq_true p127
                     replace q127 := eq_true q127
                     refine start_ (n := 35) (S := fun w' => w'.cell? ⟨gb125, 0, none⟩ = some (.int .i64 ((rd_T40 ((rd_T36 l0_0 x3_1).f4) x6_4).f0)) ∧ w'.cell? ⟨gb125, 1, none⟩ = some (.int .i64 ((rd_T40 ((rd_T36 l0_0 x3_1).f4) x6_4).f1)) ∧ w'.cell? ⟨gb125, 2, none⟩ = some (.string ((rd_T40 ((rd_T36 l0_0 x3_1).f4) x6_4).f2)) ∧ w'.cell? ⟨gb113, 0, none⟩ = some (.int .i64 ((rd_T36 l0_0 x3_1).f0)) ∧ w'.cell? ⟨gb113, 1, none⟩ = some (.string ((rd_T36 l0_0 x3_1).f1)) ∧ w'.cell? ⟨gb113, 2, none⟩ = some (.string ((rd_T36 l0_0 x3_1).f2)) ∧ w'.cell? ⟨gb113, 3, none⟩ = some (.int .i64 ((rd_T36 l0_0 x3_1).f3)) ∧ w'.cell? ⟨gb113, 4, none⟩ = some (.slice (some ad124) ((rd_T36 l0_0 x3_1).f4).length c112_4) ∧ w'.cell? (ad124.add (((ji47)).toNat * 3)) = some (.int .i64 ((rd_T40 ((rd_T36 l0_0 x3_1).f4) (ji47)).f0)) ∧ w'.cell? ⟨(ad124.add (((ji47)).toNat * 3)).block, (ad124.add (((ji47)).toNat * 3)).off + 1, none⟩ = some (.int .i64 ((rd_T40 ((rd_T36 l0_0 x3_1).f4) (ji47)).f1)) ∧ w'.cell? ⟨(ad124.add (((ji47)).toNat * 3)).block, (ad124.add (((ji47)).toNat * 3)).off + 2, none⟩ = some (.string ((rd_T40 ((rd_T36 l0_0 x3_1).f4) (ji47)).f2))) (ds := []) (fl 35 0) (by kernel_rfl) rfl rfl ⟨(blk_cell BK125.out 0).trans rfl, (blk_cell BK125.out 1).trans rfl, (blk_cell BK125.out 2).trans rfl, (blk_cell BK113.out 0).trans rfl, (blk_cell BK113.out 1).trans rfl, (blk_cell BK113.out 2).trans rfl, (blk_cell BK113.out 3).trans rfl, (blk_cell BK113.out 4).trans rfl, ((HB.out.cell (World.block_lt_of_cell? w _ hw127_0)).trans hw127_0), ((HB.out.cell (World.block_lt_of_cell? w _ hw127_1)).trans hw127_1), ((HB.out.cell (World.block_lt_of_cell? w _ hw127_2)).trans hw127_2)⟩ (fun hHeld => ?_); refine with_tabW spec_StateOk.tab16 spec_StateOk.bits16 (fun HT_ HW_ => ?_)
                     generalize w68.drew = w69 at BK111 BK113 BK125 HB hx127_0 hx127_1 hx127_2 hHeld ⊢
                     refine pq_ 0 95 (fl 35 1) HT_.out ?_
                     refine pq_ 2 97 (fl 35 5) HT_.out ?_
                     refine tq_ 1 96 (fl 35 7) HT_.out HW_.out hHeld ?_
                     refine tq_ 3 98 (fl 35 15) HT_.out HW_.out hHeld ?_
                     refine pq_ 4 99 (fl 35 31) HT_.out ?_
                     refine one_ (i := 5) (N := some 100) (fl 35 63) rfl rfl (one_of HT_.out (by kernel_rfl)) (by decide) (fun K hK => ?_)
                     refine goes_ Try.func10 (by kernel_rfl) rfl #[.int .i64 ((rd_T40 ((rd_T36 l0_0 x3_1).f4) x6_4).f0), .int .i64 1, .int .i64 (wrap64 (((rd_T36 l0_0 x3_1).f3) - 1))] (by rfl) rfl rfl (by (try simp only [List.map_toArray, List.map_cons, List.map_nil]); first | done | rfl | (simp only [List.length_drop, List.length_take]; rfl)) ?_
                     with_reducible refine (spec_l01In.calls ((rd_T40 ((rd_T36 l0_0 x3_1).f4) x6_4).f0) 1 (wrap64 (((rd_T36 l0_0 x3_1).f3) - 1)) true _ A44.out).mono ?_
                     rintro e w' ⟨rfl, ⟨nd, rfl⟩⟩
                     refine ⟨_, rfl, ?_⟩
                     refine hK.out _ _ ⟨(blk_cell BK125.out 0).trans rfl, (blk_cell BK125.out 1).trans rfl, (blk_cell BK125.out 2).trans rfl, (blk_cell BK113.out 0).trans rfl, (blk_cell BK113.out 1).trans rfl, (blk_cell BK113.out 2).trans rfl, (blk_cell BK113.out 3).trans rfl, (blk_cell BK113.out 4).trans rfl, ((HB.out.cell (World.block_lt_of_cell? w _ hw127_0)).trans hw127_0), ((HB.out.cell (World.block_lt_of_cell? w _ hw127_1)).trans hw127_1), ((HB.out.cell (World.block_lt_of_cell? w _ hw127_2)).trans hw127_2)⟩ (fun hHeld => ?_)
                     clear hK K
                     refine norm_ (a' := ?_) ?_ ?_
                     rotate_left
                     ·show Act.put _ (some 100) _ = _
                      simp only [Act.put, List.setIfInBounds_toArray, List.set_cons_zero, List.set_cons_succ, i64_w, i32_w]
                      rfl
                     refine pq_ 6 101 (fl 35 127) HT_.out ?_
                     refine pq_ 7 102 (fl 35 255) HT_.out ?_
                     refine pq_ 8 103 (fl 35 511) HT_.out ?_
                     refine pq_ 9 104 (fl 35 1023) HT_.out ?_
                     refine pq_ 10 105 (fl 35 2047) HT_.out ?_
                     refine pq_ 11 106 (fl 35 4095) HT_.out ?_
                     refine pq_ 13 108 (fl 35 12287) HT_.out ?_
                     refine pq_ 14 109 (fl 35 28671) HT_.out ?_
                     refine pq_ 18 113 (fl 35 290815) HT_.out ?_
                     refine tq_ 12 107 (fl 35 294911) HT_.out HW_.out hHeld ?_
                     refine pq_ 15 110 (fl 35 327679) HT_.out ?_
                     refine pq_ 16 111 (fl 35 393215) HT_.out ?_
                     refine tq_ 17 112 (fl 35 524287) HT_.out HW_.out hHeld ?_
                     refine tq_ 19 114 (fl 35 1048575) HT_.out HW_.out hHeld ?_
                     refine pq_ 20 115 (fl 35 2097151) HT_.out ?_
                     refine pq_ 21 116 (fl 35 4194303) HT_.out ?_
                     refine pq_ 22 117 (fl 35 8388607) HT_.out ?_
                     refine pq_ 23 118 (fl 35 16777215) HT_.out ?_
                     refine pq_ 24 119 (fl 35 33554431) HT_.out ?_
                     refine tq_ 25 120 (fl 35 67108863) HT_.out HW_.out hHeld ?_
                     refine one_ (i := 26) (N := some 121) (fl 35 134217727) rfl rfl (one_of HT_.out (by kernel_rfl)) (by decide) (fun K hK => ?_)
                     refine goes_ Try.func10 (by kernel_rfl) rfl #[.int .i64 ((rd_T40 ((rd_T36 l0_0 x3_1).f4) x6_4).f1), .int .i64 0, .int .i64 7] (by rfl) rfl rfl (by (try simp only [List.map_toArray, List.map_cons, List.map_nil]); first | done | rfl | (simp only [List.length_drop, List.length_take]; rfl)) ?_
                     with_reducible refine (spec_l01In.calls ((rd_T40 ((rd_T36 l0_0 x3_1).f4) x6_4).f1) 0 7 false _ A55.out).mono ?_
                     rintro e w' ⟨rfl, ⟨nd, rfl⟩⟩
                     refine ⟨_, rfl, ?_⟩
                     refine hK.out _ _ ⟨(blk_cell BK125.out 0).trans rfl, (blk_cell BK125.out 1).trans rfl, (blk_cell BK125.out 2).trans rfl, (blk_cell BK113.out 0).trans rfl, (blk_cell BK113.out 1).trans rfl, (blk_cell BK113.out 2).trans rfl, (blk_cell BK113.out 3).trans rfl, (blk_cell BK113.out 4).trans rfl, ((HB.out.cell (World.block_lt_of_cell? w _ hw127_0)).trans hw127_0), ((HB.out.cell (World.block_lt_of_cell? w _ hw127_1)).trans hw127_1), ((HB.out.cell (World.block_lt_of_cell? w _ hw127_2)).trans hw127_2)⟩ (fun hHeld => ?_)
                     clear hK K
                     refine norm_ (a' := ?_) ?_ ?_
                     rotate_left
                     ·show Act.put _ (some 121) _ = _
                      simp only [Act.put, List.setIfInBounds_toArray, List.set_cons_zero, List.set_cons_succ, i64_w, i32_w]
                      rfl
                     refine pq_ 27 122 (fl 35 268435455) HT_.out ?_
                     refine pq_ 28 123 (fl 35 536870911) HT_.out ?_
                     refine pq_ 29 124 (fl 35 1073741823) HT_.out ?_
                     refine pu_ 30 125 (fl 35 2147483647) HT_.out ?_
                     refine pu_ 31 126 (fl 35 4294967295) HT_.out ?_
                     refine pu_ 32 127 (fl 35 8589934591) HT_.out ?_
                     refine pu_ 33 128 (fl 35 17179869183) HT_.out ?_
                     refine pq_ 34 129 (fl 35 34359738367) HT_.out ?_
                     refine done_ (done_of HT_.out (by kernel_rfl)) ?_
                     try go_wp2
                     go_ret
                     exact ⟨by first | rfl | (simp [errW_none, errW_some] <;> rfl) | (simp only [← hji47]; first | rfl | (simp [errW_none, errW_some] <;> rfl)) | (simp [*, errW_none, errW_some] <;> rfl), by repeat (first | (with_reducible first | exact HB.out | apply below_alloc | apply pw_below_drewN | apply below_drew1 | refine below_set ?_ GE111.out | refine below_set ?_ GE113.out | refine below_set ?_ GE125.out) | exact HB.out)⟩
                  ·rw [if_neg c49] at H
                   exact absurd H (by simp)
                 ·rw [if_neg c48] at H
                  exact absurd H (by simp)
                ·rw [if_neg c46] at H
                 have c46b0 : decide (0 < x6_4) = false := decide_eq_false c46
                 clear c46
                 replace H := Option.bind_eq_some_iff.mp H
                 obtain ⟨t129, A700, H⟩ := H
                 (try set_option simprocs false in dsimp only at H)
                 have A70 := Aside0.mk A700
                 clear A700
                 by_cases c71 : t129 = true
                 ·subst c71
                  (try rw [if_pos rfl] at H)
                  by_cases c72 : (((rd_T40 ((rd_T36 l0_0 x3_1).f4) x6_4).f2).size : Int) > 100
                  ·rw [if_pos c72] at H
                   have c72b0 : decide (100 < (((rd_T40 ((rd_T36 l0_0 x3_1).f4) x6_4).f2).size : Int)) = true := decide_eq_true c72
                   have c72b1 : decide (100 < ((rd_T40 ((rd_T36 l0_0 x3_1).f4) x6_4).f2).size) = true := decide_eq_true (by omega)
                   clear c72
                   obtain rfl := Option.some.inj H
                   have hnb73 := NB113_111.out
                   have hnc73 := NB111_113.out
                   have hcz74 := blk_cell BK113.out
                   have hfz74 := blk_frozen BK113.out
                   have p124 : 0 ≤ (x6_4 : Int) := of_decide_eq_true (by first | (with_reducible assumption) | assumption)
                   have q124 : x6_4 < (((rd_T36 l0_0 x3_1).f4).length : Int) := of_decide_eq_true (by first | (with_reducible assumption) | assumption)
                   obtain ⟨ad124, e124, hx124_0, hx124_1, hx124_2⟩ := at_T40 HR112_4.out x6_4 p124 q124
                   cases e124
                   replace hx124_0 := (HB.out.cell (World.block_lt_of_cell? w _ hx124_0)).trans hx124_0
                   replace hx124_1 := (HB.out.cell (World.block_lt_of_cell? w _ hx124_1)).trans hx124_1
                   replace hx124_2 := (HB.out.cell (World.block_lt_of_cell? w _ hx124_2)).trans hx124_2
                   replace p124 := eq_true p124
                   replace q124 := eq_true q124
                   try go_wp2_with (first | ((with_reducible refine gate_dst (N := 7) rfl ?_); (try (refine gate_guard (by rfl) ?_; dsimp only)); refine Go.Proofs.YtjfcdjfnfhkjlaaR.box_full_event ?hg ?hg2 (N := 7) ?hd ?hd2 (t := 40) (v := ?vof7) ?ho (cs := #[.int .i64 0, .int .i64 0, .string (⟨#[]⟩ : ByteArray)]) (cells := #[.int .i64 ((rd_T40 ((rd_T36 l0_0 x3_1).f4) x6_4).f0), .int .i64 ((rd_T40 ((rd_T36 l0_0 x3_1).f4) x6_4).f1), .string ((rd_T40 ((rd_T36 l0_0 x3_1).f4) x6_4).f2)]) ?hi ?hs ?h1 ?hr ?hx ?hv ?_; (case hd => rfl); (case hd2 => rfl); (case ho => rfl); (case hg => rfl); (case hg2 => rfl); (case hi => kernel_rfl); (case hs => rfl); (case h1 => first | kernel_rfl | rfl); (case hx => intro p_; first | rfl | (go_simp; done) | (go_simp; rfl)); (case hv => intro p_; first | rfl | (go_simp; done) | (go_simp; rfl)); (case hr => first | (go_simp; done) | (go_simp; rfl)); intro gb125 hg w75 hbox hb; have n0_ := Aside0.mk (blk_below BK111.out hb); have n1_ := Aside0.mk (blk_below BK113.out hb); have n2_ := Aside0.mk (below_step HB.out hb); have n3_ := Aside0.mk (hbox); have n4_ := Aside0.mk ((by rw [hg]; exact (below_size HB.out) : w.heap.size ≤ gb125)); have n5_ := Aside0.mk ((by rw [hg]; exact (below_size HB.out) : w.heap.size ≤ gb125)); have n6_ := Aside0.mk ((by rw [hg]; exact Nat.ne_of_lt (blk_lt (g := gb111) (o := .cells #[.slice (some ad112) l0_0.length c0_0] 29 (0, 0)) (by (with_reducible repeat (first | refine blk_drewN ?_ _ | refine blk_drew ?_ | refine blk_alloc ?_ _)); exact BK111.out)) : gb111 ≠ gb125)); have n7_ := Aside0.mk ((by rw [hg]; exact Nat.ne_of_gt (blk_lt (g := gb111) (o := .cells #[.slice (some ad112) l0_0.length c0_0] 29 (0, 0)) (by (with_reducible repeat (first | refine blk_drewN ?_ _ | refine blk_drew ?_ | refine blk_alloc ?_ _)); exact BK111.out)) : gb125 ≠ gb111)); have n8_ := Aside0.mk ((by rw [hg]; exact Nat.ne_of_lt (blk_lt (g := gb113) (o := .cells #[.int .i64 ((rd_T36 l0_0 x3_1).f0), .string ((rd_T36 l0_0 x3_1).f1), .string ((rd_T36 l0_0 x3_1).f2), .int .i64 ((rd_T36 l0_0 x3_1).f3), .slice (some ad124) ((rd_T36 l0_0 x3_1).f4).length c112_4] 36 (0, 0)) (by (with_reducible repeat (first | refine blk_drewN ?_ _ | refine blk_drew ?_ | refine blk_alloc ?_ _)); exact BK113.out)) : gb113 ≠ gb125)); have n9_ := Aside0.mk ((by rw [hg]; exact Nat.ne_of_gt (blk_lt (g := gb113) (o := .cells #[.int .i64 ((rd_T36 l0_0 x3_1).f0), .string ((rd_T36 l0_0 x3_1).f1), .string ((rd_T36 l0_0 x3_1).f2), .int .i64 ((rd_T36 l0_0 x3_1).f3), .slice (some ad124) ((rd_T36 l0_0 x3_1).f4).length c112_4] 36 (0, 0)) (by (with_reducible repeat (first | refine blk_drewN ?_ _ | refine blk_drew ?_ | refine blk_alloc ?_ _)); exact BK113.out)) : gb125 ≠ gb113)); clear BK111; clear BK113; clear HB; have BK111 := n0_; have BK113 := n1_; have HB := n2_; have BK125 := n3_; have GW125 := n4_; have GE125 := n5_; have NB111_125 := n6_; have NB125_111 := n7_; have NB113_125 := n8_; have NB125_113 := n9_; clear n0_ n1_ n2_ n3_ n4_ n5_ n6_ n7_ n8_ n9_; clear hb hbox hg))
                   have n0_ := Aside0.mk (blk_drew BK111.out)
                   have n1_ := Aside0.mk (blk_drew BK113.out)
                   have n2_ := Aside0.mk (blk_drew BK125.out)
                   have n3_ := Aside0.mk (below_drew1 HB.out)
                   clear BK111
                   clear BK113
                   clear BK125
                   clear HB
                   have BK111 := n0_
                   have BK113 := n1_
                   have BK125 := n2_
                   have HB := n3_
                   clear n0_ n1_ n2_ n3_
                   refine start_ (n := 35) (S := fun w' => w'.cell? ⟨gb125, 0, none⟩ = some (.int .i64 ((rd_T40 ((rd_T36 l0_0 x3_1).f4) x6_4).f0)) ∧ w'.cell? ⟨gb125, 1, none⟩ = some (.int .i64 ((rd_T40 ((rd_T36 l0_0 x3_1).f4) x6_4).f1)) ∧ w'.cell? ⟨gb125, 2, none⟩ = some (.string ((rd_T40 ((rd_T36 l0_0 x3_1).f4) x6_4).f2)) ∧ w'.cell? ⟨gb113, 0, none⟩ = some (.int .i64 ((rd_T36 l0_0 x3_1).f0)) ∧ w'.cell? ⟨gb113, 1, none⟩ = some (.string ((rd_T36 l0_0 x3_1).f1)) ∧ w'.cell? ⟨gb113, 2, none⟩ = some (.string ((rd_T36 l0_0 x3_1).f2)) ∧ w'.cell? ⟨gb113, 3, none⟩ = some (.int .i64 ((rd_T36 l0_0 x3_1).f3)) ∧ w'.cell? ⟨gb113, 4, none⟩ = some (.slice (some ad124) ((rd_T36 l0_0 x3_1).f4).length c112_4)) (ds := []) (fl 35 0) (by kernel_rfl) rfl rfl ⟨(blk_cell BK125.out 0).trans rfl, (blk_cell BK125.out 1).trans rfl, (blk_cell BK125.out 2).trans rfl, (blk_cell BK113.out 0).trans rfl, (blk_cell BK113.out 1).trans rfl, (blk_cell BK113.out 2).trans rfl, (blk_cell BK113.out 3).trans rfl, (blk_cell BK113.out 4).trans rfl⟩ (fun hHeld => ?_); refine with_tabW spec_StateOk.tab16 spec_StateOk.bits16 (fun HT_ HW_ => ?_)
                   generalize w75.drew = w76 at BK111 BK113 BK125 HB hHeld ⊢
                   refine pq_ 0 95 (fl 35 1) HT_.out ?_
                   refine pq_ 2 97 (fl 35 5) HT_.out ?_
                   refine tq_ 1 96 (fl 35 7) HT_.out HW_.out hHeld ?_
                   refine tq_ 3 98 (fl 35 15) HT_.out HW_.out hHeld ?_
                   refine pq_ 4 99 (fl 35 31) HT_.out ?_
                   refine one_ (i := 5) (N := some 100) (fl 35 63) rfl rfl (one_of HT_.out (by kernel_rfl)) (by decide) (fun K hK => ?_)
                   refine goes_ Try.func10 (by kernel_rfl) rfl #[.int .i64 ((rd_T40 ((rd_T36 l0_0 x3_1).f4) x6_4).f0), .int .i64 1, .int .i64 (wrap64 (((rd_T36 l0_0 x3_1).f3) - 1))] (by rfl) rfl rfl (by (try simp only [List.map_toArray, List.map_cons, List.map_nil]); first | done | rfl | (simp only [List.length_drop, List.length_take]; rfl)) ?_
                   with_reducible refine (spec_l01In.calls ((rd_T40 ((rd_T36 l0_0 x3_1).f4) x6_4).f0) 1 (wrap64 (((rd_T36 l0_0 x3_1).f3) - 1)) true _ A44.out).mono ?_
                   rintro e w' ⟨rfl, ⟨nd, rfl⟩⟩
                   refine ⟨_, rfl, ?_⟩
                   refine hK.out _ _ ⟨(blk_cell BK125.out 0).trans rfl, (blk_cell BK125.out 1).trans rfl, (blk_cell BK125.out 2).trans rfl, (blk_cell BK113.out 0).trans rfl, (blk_cell BK113.out 1).trans rfl, (blk_cell BK113.out 2).trans rfl, (blk_cell BK113.out 3).trans rfl, (blk_cell BK113.out 4).trans rfl⟩ (fun hHeld => ?_)
                   clear hK K
                   refine norm_ (a' := ?_) ?_ ?_
                   rotate_left
                   ·show Act.put _ (some 100) _ = _
                    simp only [Act.put, List.setIfInBounds_toArray, List.set_cons_zero, List.set_cons_succ, i64_w, i32_w]
                    rfl
                   refine pq_ 6 101 (fl 35 127) HT_.out ?_
                   refine pq_ 7 102 (fl 35 255) HT_.out ?_
                   refine pq_ 8 103 (fl 35 511) HT_.out ?_
                   refine pq_ 9 104 (fl 35 1023) HT_.out ?_
                   refine pq_ 10 105 (fl 35 2047) HT_.out ?_
                   refine pu_ 11 106 (fl 35 4095) HT_.out ?_
                   refine pu_ 12 107 (fl 35 8191) HT_.out ?_
                   refine pu_ 13 108 (fl 35 16383) HT_.out ?_
                   refine pu_ 14 109 (fl 35 32767) HT_.out ?_
                   refine pu_ 15 110 (fl 35 65535) HT_.out ?_
                   refine pu_ 16 111 (fl 35 131071) HT_.out ?_
                   refine pu_ 17 112 (fl 35 262143) HT_.out ?_
                   refine pu_ 18 113 (fl 35 524287) HT_.out ?_
                   refine pu_ 19 114 (fl 35 1048575) HT_.out ?_
                   refine pu_ 20 115 (fl 35 2097151) HT_.out ?_
                   refine pq_ 21 116 (fl 35 4194303) HT_.out ?_
                   refine pq_ 22 117 (fl 35 8388607) HT_.out ?_
                   refine pq_ 23 118 (fl 35 16777215) HT_.out ?_
                   refine pq_ 24 119 (fl 35 33554431) HT_.out ?_
                   refine tq_ 25 120 (fl 35 67108863) HT_.out HW_.out hHeld ?_
                   refine one_ (i := 26) (N := some 121) (fl 35 134217727) rfl rfl (one_of HT_.out (by kernel_rfl)) (by decide) (fun K hK => ?_)
                   refine goes_ Try.func10 (by kernel_rfl) rfl #[.int .i64 ((rd_T40 ((rd_T36 l0_0 x3_1).f4) x6_4).f1), .int .i64 0, .int .i64 7] (by rfl) rfl rfl (by (try simp only [List.map_toArray, List.map_cons, List.map_nil]); first | done | rfl | (simp only [List.length_drop, List.length_take]; rfl)) ?_
                   with_reducible refine (spec_l01In.calls ((rd_T40 ((rd_T36 l0_0 x3_1).f4) x6_4).f1) 0 7 true _ A70.out).mono ?_
                   rintro e w' ⟨rfl, ⟨nd, rfl⟩⟩
                   refine ⟨_, rfl, ?_⟩
                   refine hK.out _ _ ⟨(blk_cell BK125.out 0).trans rfl, (blk_cell BK125.out 1).trans rfl, (blk_cell BK125.out 2).trans rfl, (blk_cell BK113.out 0).trans rfl, (blk_cell BK113.out 1).trans rfl, (blk_cell BK113.out 2).trans rfl, (blk_cell BK113.out 3).trans rfl, (blk_cell BK113.out 4).trans rfl⟩ (fun hHeld => ?_)
                   clear hK K
                   refine norm_ (a' := ?_) ?_ ?_
                   rotate_left
                   ·show Act.put _ (some 121) _ = _
                    simp only [Act.put, List.setIfInBounds_toArray, List.set_cons_zero, List.set_cons_succ, i64_w, i32_w]
                    rfl
                   refine pq_ 27 122 (fl 35 268435455) HT_.out ?_
                   refine pq_ 28 123 (fl 35 536870911) HT_.out ?_
                   refine pq_ 29 124 (fl 35 1073741823) HT_.out ?_
                   refine pq_ 30 125 (fl 35 2147483647) HT_.out ?_
                   refine tq_ 31 126 (fl 35 4294967295) HT_.out HW_.out hHeld ?_
                   refine pq_ 32 127 (fl 35 8589934591) HT_.out ?_
                   refine pq_ 33 128 (fl 35 17179869183) HT_.out ?_
                   refine pq_ 34 129 (fl 35 34359738367) HT_.out ?_
                   refine done_ (done_of HT_.out (by kernel_rfl)) ?_
                   try go_wp2
                   go_ret
                   exact ⟨by first | rfl | (simp [errW_none, errW_some] <;> rfl) | (simp [*, errW_none, errW_some] <;> rfl), by repeat (first | (with_reducible first | exact HB.out | apply below_alloc | apply pw_below_drewN | apply below_drew1 | refine below_set ?_ GE111.out | refine below_set ?_ GE113.out | refine below_set ?_ GE125.out) | exact HB.out)⟩
                  ·rw [if_neg c72] at H
                   have c72b0 : decide (100 < (((rd_T40 ((rd_T36 l0_0 x3_1).f4) x6_4).f2).size : Int)) = false := decide_eq_false c72
                   have c72b1 : decide (100 < ((rd_T40 ((rd_T36 l0_0 x3_1).f4) x6_4).f2).size) = false := decide_eq_false (by omega)
                   clear c72
                   have H' := Aside0.mk H
                   clear H
                   have hnb77 := NB113_111.out
                   have hnc77 := NB111_113.out
                   have hcz78 := blk_cell BK113.out
                   have hfz78 := blk_frozen BK113.out
                   have p124 : 0 ≤ (x6_4 : Int) := of_decide_eq_true (by first | (with_reducible assumption) | assumption)
                   have q124 : x6_4 < (((rd_T36 l0_0 x3_1).f4).length : Int) := of_decide_eq_true (by first | (with_reducible assumption) | assumption)
                   obtain ⟨ad124, e124, hx124_0, hx124_1, hx124_2⟩ := at_T40 HR112_4.out x6_4 p124 q124
                   cases e124
                   replace hx124_0 := (HB.out.cell (World.block_lt_of_cell? w _ hx124_0)).trans hx124_0
                   replace hx124_1 := (HB.out.cell (World.block_lt_of_cell? w _ hx124_1)).trans hx124_1
                   replace hx124_2 := (HB.out.cell (World.block_lt_of_cell? w _ hx124_2)).trans hx124_2
                   replace p124 := eq_true p124
                   replace q124 := eq_true q124
                   try go_wp2_with (first | ((with_reducible refine gate_dst (N := 7) rfl ?_); (try (refine gate_guard (by rfl) ?_; dsimp only)); refine Go.Proofs.YtjfcdjfnfhkjlaaR.box_full_event ?hg ?hg2 (N := 7) ?hd ?hd2 (t := 40) (v := ?vof7) ?ho (cs := #[.int .i64 0, .int .i64 0, .string (⟨#[]⟩ : ByteArray)]) (cells := #[.int .i64 ((rd_T40 ((rd_T36 l0_0 x3_1).f4) x6_4).f0), .int .i64 ((rd_T40 ((rd_T36 l0_0 x3_1).f4) x6_4).f1), .string ((rd_T40 ((rd_T36 l0_0 x3_1).f4) x6_4).f2)]) ?hi ?hs ?h1 ?hr ?hx ?hv ?_; (case hd => rfl); (case hd2 => rfl); (case ho => rfl); (case hg => rfl); (case hg2 => rfl); (case hi => kernel_rfl); (case hs => rfl); (case h1 => first | kernel_rfl | rfl); (case hx => intro p_; first | rfl | (go_simp; done) | (go_simp; rfl)); (case hv => intro p_; first | rfl | (go_simp; done) | (go_simp; rfl)); (case hr => first | (go_simp; done) | (go_simp; rfl)); intro gb125 hg w79 hbox hb; have n0_ := Aside0.mk (blk_below BK111.out hb); have n1_ := Aside0.mk (blk_below BK113.out hb); have n2_ := Aside0.mk (below_step HB.out hb); have n3_ := Aside0.mk (hbox); have n4_ := Aside0.mk ((by rw [hg]; exact (below_size HB.out) : w.heap.size ≤ gb125)); have n5_ := Aside0.mk ((by rw [hg]; exact (below_size HB.out) : w.heap.size ≤ gb125)); have n6_ := Aside0.mk ((by rw [hg]; exact Nat.ne_of_lt (blk_lt (g := gb111) (o := .cells #[.slice (some ad112) l0_0.length c0_0] 29 (0, 0)) (by (with_reducible repeat (first | refine blk_drewN ?_ _ | refine blk_drew ?_ | refine blk_alloc ?_ _)); exact BK111.out)) : gb111 ≠ gb125)); have n7_ := Aside0.mk ((by rw [hg]; exact Nat.ne_of_gt (blk_lt (g := gb111) (o := .cells #[.slice (some ad112) l0_0.length c0_0] 29 (0, 0)) (by (with_reducible repeat (first | refine blk_drewN ?_ _ | refine blk_drew ?_ | refine blk_alloc ?_ _)); exact BK111.out)) : gb125 ≠ gb111)); have n8_ := Aside0.mk ((by rw [hg]; exact Nat.ne_of_lt (blk_lt (g := gb113) (o := .cells #[.int .i64 ((rd_T36 l0_0 x3_1).f0), .string ((rd_T36 l0_0 x3_1).f1), .string ((rd_T36 l0_0 x3_1).f2), .int .i64 ((rd_T36 l0_0 x3_1).f3), .slice (some ad124) ((rd_T36 l0_0 x3_1).f4).length c112_4] 36 (0, 0)) (by (with_reducible repeat (first | refine blk_drewN ?_ _ | refine blk_drew ?_ | refine blk_alloc ?_ _)); exact BK113.out)) : gb113 ≠ gb125)); have n9_ := Aside0.mk ((by rw [hg]; exact Nat.ne_of_gt (blk_lt (g := gb113) (o := .cells #[.int .i64 ((rd_T36 l0_0 x3_1).f0), .string ((rd_T36 l0_0 x3_1).f1), .string ((rd_T36 l0_0 x3_1).f2), .int .i64 ((rd_T36 l0_0 x3_1).f3), .slice (some ad124) ((rd_T36 l0_0 x3_1).f4).length c112_4] 36 (0, 0)) (by (with_reducible repeat (first | refine blk_drewN ?_ _ | refine blk_drew ?_ | refine blk_alloc ?_ _)); exact BK113.out)) : gb125 ≠ gb113)); clear BK111; clear BK113; clear HB; have BK111 := n0_; have BK113 := n1_; have HB := n2_; have BK125 := n3_; have GW125 := n4_; have GE125 := n5_; have NB111_125 := n6_; have NB125_111 := n7_; have NB113_125 := n8_; have NB125_113 := n9_; clear n0_ n1_ n2_ n3_ n4_ n5_ n6_ n7_ n8_ n9_; clear hb hbox hg))
                   have n0_ := Aside0.mk (blk_drew BK111.out)
                   have n1_ := Aside0.mk (blk_drew BK113.out)
                   have n2_ := Aside0.mk (blk_drew BK125.out)
                   have n3_ := Aside0.mk (below_drew1 HB.out)
                   clear BK111
                   clear BK113
                   clear BK125
                   clear HB
                   have BK111 := n0_
                   have BK113 := n1_
                   have BK125 := n2_
                   have HB := n3_
                   clear n0_ n1_ n2_ n3_
                   refine start_ (n := 35) (S := fun w' => w'.cell? ⟨gb125, 0, none⟩ = some (.int .i64 ((rd_T40 ((rd_T36 l0_0 x3_1).f4) x6_4).f0)) ∧ w'.cell? ⟨gb125, 1, none⟩ = some (.int .i64 ((rd_T40 ((rd_T36 l0_0 x3_1).f4) x6_4).f1)) ∧ w'.cell? ⟨gb125, 2, none⟩ = some (.string ((rd_T40 ((rd_T36 l0_0 x3_1).f4) x6_4).f2)) ∧ w'.cell? ⟨gb113, 0, none⟩ = some (.int .i64 ((rd_T36 l0_0 x3_1).f0)) ∧ w'.cell? ⟨gb113, 1, none⟩ = some (.string ((rd_T36 l0_0 x3_1).f1)) ∧ w'.cell? ⟨gb113, 2, none⟩ = some (.string ((rd_T36 l0_0 x3_1).f2)) ∧ w'.cell? ⟨gb113, 3, none⟩ = some (.int .i64 ((rd_T36 l0_0 x3_1).f3)) ∧ w'.cell? ⟨gb113, 4, none⟩ = some (.slice (some ad124) ((rd_T36 l0_0 x3_1).f4).length c112_4)) (ds := []) (fl 35 0) (by kernel_rfl) rfl rfl ⟨(blk_cell BK125.out 0).trans rfl, (blk_cell BK125.out 1).trans rfl, (blk_cell BK125.out 2).trans rfl, (blk_cell BK113.out 0).trans rfl, (blk_cell BK113.out 1).trans rfl, (blk_cell BK113.out 2).trans rfl, (blk_cell BK113.out 3).trans rfl, (blk_cell BK113.out 4).trans rfl⟩ (fun hHeld => ?_); refine with_tabW spec_StateOk.tab16 spec_StateOk.bits16 (fun HT_ HW_ => ?_)
                   generalize w79.drew = w80 at BK111 BK113 BK125 HB hHeld ⊢
                   refine pq_ 0 95 (fl 35 1) HT_.out ?_
                   refine pq_ 2 97 (fl 35 5) HT_.out ?_
                   refine tq_ 1 96 (fl 35 7) HT_.out HW_.out hHeld ?_
                   refine tq_ 3 98 (fl 35 15) HT_.out HW_.out hHeld ?_
                   refine pq_ 4 99 (fl 35 31) HT_.out ?_
                   refine one_ (i := 5) (N := some 100) (fl 35 63) rfl rfl (one_of HT_.out (by kernel_rfl)) (by decide) (fun K hK => ?_)
                   refine goes_ Try.func10 (by kernel_rfl) rfl #[.int .i64 ((rd_T40 ((rd_T36 l0_0 x3_1).f4) x6_4).f0), .int .i64 1, .int .i64 (wrap64 (((rd_T36 l0_0 x3_1).f3) - 1))] (by rfl) rfl rfl (by (try simp only [List.map_toArray, List.map_cons, List.map_nil]); first | done | rfl | (simp only [List.length_drop, List.length_take]; rfl)) ?_
                   with_reducible refine (spec_l01In.calls ((rd_T40 ((rd_T36 l0_0 x3_1).f4) x6_4).f0) 1 (wrap64 (((rd_T36 l0_0 x3_1).f3) - 1)) true _ A44.out).mono ?_
                   rintro e w' ⟨rfl, ⟨nd, rfl⟩⟩
                   refine ⟨_, rfl, ?_⟩
                   refine hK.out _ _ ⟨(blk_cell BK125.out 0).trans rfl, (blk_cell BK125.out 1).trans rfl, (blk_cell BK125.out 2).trans rfl, (blk_cell BK113.out 0).trans rfl, (blk_cell BK113.out 1).trans rfl, (blk_cell BK113.out 2).trans rfl, (blk_cell BK113.out 3).trans rfl, (blk_cell BK113.out 4).trans rfl⟩ (fun hHeld => ?_)
                   clear hK K
                   refine norm_ (a' := ?_) ?_ ?_
                   rotate_left
                   ·show Act.put _ (some 100) _ = _
                    simp only [Act.put, List.setIfInBounds_toArray, List.set_cons_zero, List.set_cons_succ, i64_w, i32_w]
                    rfl
                   refine pq_ 6 101 (fl 35 127) HT_.out ?_
                   refine pq_ 7 102 (fl 35 255) HT_.out ?_
                   refine pq_ 8 103 (fl 35 511) HT_.out ?_
                   refine pq_ 9 104 (fl 35 1023) HT_.out ?_
                   refine pq_ 10 105 (fl 35 2047) HT_.out ?_
                   refine pu_ 11 106 (fl 35 4095) HT_.out ?_
                   refine pu_ 12 107 (fl 35 8191) HT_.out ?_
                   refine pu_ 13 108 (fl 35 16383) HT_.out ?_
                   refine pu_ 14 109 (fl 35 32767) HT_.out ?_
                   refine pu_ 15 110 (fl 35 65535) HT_.out ?_
                   refine pu_ 16 111 (fl 35 131071) HT_.out ?_
                   refine pu_ 17 112 (fl 35 262143) HT_.out ?_
                   refine pu_ 18 113 (fl 35 524287) HT_.out ?_
                   refine pu_ 19 114 (fl 35 1048575) HT_.out ?_
                   refine pu_ 20 115 (fl 35 2097151) HT_.out ?_
                   refine pq_ 21 116 (fl 35 4194303) HT_.out ?_
                   refine pq_ 22 117 (fl 35 8388607) HT_.out ?_
                   refine pq_ 23 118 (fl 35 16777215) HT_.out ?_
                   refine pq_ 24 119 (fl 35 33554431) HT_.out ?_
                   refine tq_ 25 120 (fl 35 67108863) HT_.out HW_.out hHeld ?_
                   refine one_ (i := 26) (N := some 121) (fl 35 134217727) rfl rfl (one_of HT_.out (by kernel_rfl)) (by decide) (fun K hK => ?_)
                   refine goes_ Try.func10 (by kernel_rfl) rfl #[.int .i64 ((rd_T40 ((rd_T36 l0_0 x3_1).f4) x6_4).f1), .int .i64 0, .int .i64 7] (by rfl) rfl rfl (by (try simp only [List.map_toArray, List.map_cons, List.map_nil]); first | done | rfl | (simp only [List.length_drop, List.length_take]; rfl)) ?_
                   with_reducible refine (spec_l01In.calls ((rd_T40 ((rd_T36 l0_0 x3_1).f4) x6_4).f1) 0 7 true _ A70.out).mono ?_
                   rintro e w' ⟨rfl, ⟨nd, rfl⟩⟩
                   refine ⟨_, rfl, ?_⟩
                   refine hK.out _ _ ⟨(blk_cell BK125.out 0).trans rfl, (blk_cell BK125.out 1).trans rfl, (blk_cell BK125.out 2).trans rfl, (blk_cell BK113.out 0).trans rfl, (blk_cell BK113.out 1).trans rfl, (blk_cell BK113.out 2).trans rfl, (blk_cell BK113.out 3).trans rfl, (blk_cell BK113.out 4).trans rfl⟩ (fun hHeld => ?_)
                   clear hK K
                   refine norm_ (a' := ?_) ?_ ?_
                   rotate_left
                   ·show Act.put _ (some 121) _ = _
                    simp only [Act.put, List.setIfInBounds_toArray, List.set_cons_zero, List.set_cons_succ, i64_w, i32_w]
                    rfl
                   refine pq_ 27 122 (fl 35 268435455) HT_.out ?_
                   refine pq_ 28 123 (fl 35 536870911) HT_.out ?_
                   refine pq_ 29 124 (fl 35 1073741823) HT_.out ?_
                   refine pq_ 30 125 (fl 35 2147483647) HT_.out ?_
                   refine tq_ 31 126 (fl 35 4294967295) HT_.out HW_.out hHeld ?_
                   refine pq_ 32 127 (fl 35 8589934591) HT_.out ?_
                   refine pq_ 33 128 (fl 35 17179869183) HT_.out ?_
                   refine pq_ 34 129 (fl 35 34359738367) HT_.out ?_
                   refine done_ (done_of HT_.out (by kernel_rfl)) ?_
                   try go_wp2
                   go_roundg k4
                   case measure => have := HK1.out; have := HJ4.out; have := HK3.out; have := HK4.out; omega
                   case rel => exact ⟨(wrap64 (x6_4 + 1)), (by first | rfl | (simp; done) | (simp [*]; done) | (simp; exact (by intro l; cases l <;> rfl : ∀ l : List UInt8, l.isEmpty = !(l != [])) _)), H', ⟨by have := HK1.out; have := HJ4.out; have := HK3.out; have := HK4.out; omega⟩, ⟨by (with_reducible repeat (first | refine blk_drewN ?_ _ | refine blk_drew ?_ | refine blk_alloc ?_ _)); exact BK111.out⟩, ⟨by (with_reducible repeat (first | refine blk_drewN ?_ _ | refine blk_drew ?_ | refine blk_alloc ?_ _)); exact BK113.out⟩, ⟨by repeat (first | (with_reducible first | exact HB.out | apply below_alloc | apply pw_below_drewN | apply below_drew1 | refine below_set ?_ GE111.out | refine below_set ?_ GE113.out | refine below_set ?_ GE125.out) | exact HB.out)⟩⟩
                 ·replace c71 := Bool.eq_false_iff.mpr c71
                  subst c71
                  (try rw [if_neg (show ¬ (false = true) by decide)] at H)
                  obtain rfl := Option.some.inj H
                  have hnb81 := NB113_111.out
                  have hnc81 := NB111_113.out
                  have hcz82 := blk_cell BK113.out
                  have hfz82 := blk_frozen BK113.out
                  have p124 : 0 ≤ (x6_4 : Int) := of_decide_eq_true (by first | (with_reducible assumption) | assumption)
                  have q124 : x6_4 < (((rd_T36 l0_0 x3_1).f4).length : Int) := of_decide_eq_true (by first | (with_reducible assumption) | assumption)
                  obtain ⟨ad124, e124, hx124_0, hx124_1, hx124_2⟩ := at_T40 HR112_4.out x6_4 p124 q124
                  cases e124
                  replace hx124_0 := (HB.out.cell (World.block_lt_of_cell? w _ hx124_0)).trans hx124_0
                  replace hx124_1 := (HB.out.cell (World.block_lt_of_cell? w _ hx124_1)).trans hx124_1
                  replace hx124_2 := (HB.out.cell (World.block_lt_of_cell? w _ hx124_2)).trans hx124_2
                  replace p124 := eq_true p124
                  replace q124 := eq_true q124
                  try go_wp2_with (first | ((with_reducible refine gate_dst (N := 7) rfl ?_); (try (refine gate_guard (by rfl) ?_; dsimp only)); refine Go.Proofs.YtjfcdjfnfhkjlaaR.box_full_event ?hg ?hg2 (N := 7) ?hd ?hd2 (t := 40) (v := ?vof7) ?ho (cs := #[.int .i64 0, .int .i64 0, .string (⟨#[]⟩ : ByteArray)]) (cells := #[.int .i64 ((rd_T40 ((rd_T36 l0_0 x3_1).f4) x6_4).f0), .int .i64 ((rd_T40 ((rd_T36 l0_0 x3_1).f4) x6_4).f1), .string ((rd_T40 ((rd_T36 l0_0 x3_1).f4) x6_4).f2)]) ?hi ?hs ?h1 ?hr ?hx ?hv ?_; (case hd => rfl); (case hd2 => rfl); (case ho => rfl); (case hg => rfl); (case hg2 => rfl); (case hi => kernel_rfl); (case hs => rfl); (case h1 => first | kernel_rfl | rfl); (case hx => intro p_; first | rfl | (go_simp; done) | (go_simp; rfl)); (case hv => intro p_; first | rfl | (go_simp; done) | (go_simp; rfl)); (case hr => first | (go_simp; done) | (go_simp; rfl)); intro gb125 hg w83 hbox hb; have n0_ := Aside0.mk (blk_below BK111.out hb); have n1_ := Aside0.mk (blk_below BK113.out hb); have n2_ := Aside0.mk (below_step HB.out hb); have n3_ := Aside0.mk (hbox); have n4_ := Aside0.mk ((by rw [hg]; exact (below_size HB.out) : w.heap.size ≤ gb125)); have n5_ := Aside0.mk ((by rw [hg]; exact (below_size HB.out) : w.heap.size ≤ gb125)); have n6_ := Aside0.mk ((by rw [hg]; exact Nat.ne_of_lt (blk_lt (g := gb111) (o := .cells #[.slice (some ad112) l0_0.length c0_0] 29 (0, 0)) (by (with_reducible repeat (first | refine blk_drewN ?_ _ | refine blk_drew ?_ | refine blk_alloc ?_ _)); exact BK111.out)) : gb111 ≠ gb125)); have n7_ := Aside0.mk ((by rw [hg]; exact Nat.ne_of_gt (blk_lt (g := gb111) (o := .cells #[.slice (some ad112) l0_0.length c0_0] 29 (0, 0)) (by (with_reducible repeat (first | refine blk_drewN ?_ _ | refine blk_drew ?_ | refine blk_alloc ?_ _)); exact BK111.out)) : gb125 ≠ gb111)); have n8_ := Aside0.mk ((by rw [hg]; exact Nat.ne_of_lt (blk_lt (g := gb113) (o := .cells #[.int .i64 ((rd_T36 l0_0 x3_1).f0), .string ((rd_T36 l0_0 x3_1).f1), .string ((rd_T36 l0_0 x3_1).f2), .int .i64 ((rd_T36 l0_0 x3_1).f3), .slice (some ad124) ((rd_T36 l0_0 x3_1).f4).length c112_4] 36 (0, 0)) (by (with_reducible repeat (first | refine blk_drewN ?_ _ | refine blk_drew ?_ | refine blk_alloc ?_ _)); exact BK113.out)) : gb113 ≠ gb125)); have n9_ := Aside0.mk ((by rw [hg]; exact Nat.ne_of_gt (blk_lt (g := gb113) (o := .cells #[.int .i64 ((rd_T36 l0_0 x3_1).f0), .string ((rd_T36 l0_0 x3_1).f1), .string ((rd_T36 l0_0 x3_1).f2), .int .i64 ((rd_T36 l0_0 x3_1).f3), .slice (some ad124) ((rd_T36 l0_0 x3_1).f4).length c112_4] 36 (0, 0)) (by (with_reducible repeat (first | refine blk_drewN ?_ _ | refine blk_drew ?_ | refine blk_alloc ?_ _)); exact BK113.out)) : gb125 ≠ gb113)); clear BK111; clear BK113; clear HB; have BK111 := n0_; have BK113 := n1_; have HB := n2_; have BK125 := n3_; have GW125 := n4_; have GE125 := n5_; have NB111_125 := n6_; have NB125_111 := n7_; have NB113_125 := n8_; have NB125_113 := n9_; clear n0_ n1_ n2_ n3_ n4_ n5_ n6_ n7_ n8_ n9_; clear hb hbox hg))
                  have n0_ := Aside0.mk (blk_drew BK111.out)
                  have n1_ := Aside0.mk (blk_drew BK113.out)
                  have n2_ := Aside0.mk (blk_drew BK125.out)
                  have n3_ := Aside0.mk (below_drew1 HB.out)
                  clear BK111
                  clear BK113
                  clear BK125
                  clear HB
                  have BK111 := n0_
                  have BK113 := n1_
                  have BK125 := n2_
                  have HB := n3_
                  clear n0_ n1_ n2_ n3_
                  refine start_ (n := 35) (S := fun w' => w'.cell? ⟨gb125, 0, none⟩ = some (.int .i64 ((rd_T40 ((rd_T36 l0_0 x3_1).f4) x6_4).f0)) ∧ w'.cell? ⟨gb125, 1, none⟩ = some (.int .i64 ((rd_T40 ((rd_T36 l0_0 x3_1).f4) x6_4).f1)) ∧ w'.cell? ⟨gb125, 2, none⟩ = some (.string ((rd_T40 ((rd_T36 l0_0 x3_1).f4) x6_4).f2)) ∧ w'.cell? ⟨gb113, 0, none⟩ = some (.int .i64 ((rd_T36 l0_0 x3_1).f0)) ∧ w'.cell? ⟨gb113, 1, none⟩ = some (.string ((rd_T36 l0_0 x3_1).f1)) ∧ w'.cell? ⟨gb113, 2, none⟩ = some (.string ((rd_T36 l0_0 x3_1).f2)) ∧ w'.cell? ⟨gb113, 3, none⟩ = some (.int .i64 ((rd_T36 l0_0 x3_1).f3)) ∧ w'.cell? ⟨gb113, 4, none⟩ = some (.slice (some ad124) ((rd_T36 l0_0 x3_1).f4).length c112_4)) (ds := []) (fl 35 0) (by kernel_rfl) rfl rfl ⟨(blk_cell BK125.out 0).trans rfl, (blk_cell BK125.out 1).trans rfl, (blk_cell BK125.out 2).trans rfl, (blk_cell BK113.out 0).trans rfl, (blk_cell BK113.out 1).trans rfl, (blk_cell BK113.out 2).trans rfl, (blk_cell BK113.out 3).trans rfl, (blk_cell BK113.out 4).trans rfl⟩ (fun hHeld => ?_); refine with_tabW spec_StateOk.tab16 spec_StateOk.bits16 (fun HT_ HW_ => ?_)
                  generalize w83.drew = w84 at BK111 BK113 BK125 HB hHeld ⊢
                  refine pq_ 0 95 (fl 35 1) HT_.out ?_
                  refine pq_ 2 97 (fl 35 5) HT_.out ?_
                  refine tq_ 1 96 (fl 35 7) HT_.out HW_.out hHeld ?_
                  refine tq_ 3 98 (fl 35 15) HT_.out HW_.out hHeld ?_
                  refine pq_ 4 99 (fl 35 31) HT_.out ?_
                  refine one_ (i := 5) (N := some 100) (fl 35 63) rfl rfl (one_of HT_.out (by kernel_rfl)) (by decide) (fun K hK => ?_)
                  refine goes_ Try.func10 (by kernel_rfl) rfl #[.int .i64 ((rd_T40 ((rd_T36 l0_0 x3_1).f4) x6_4).f0), .int .i64 1, .int .i64 (wrap64 (((rd_T36 l0_0 x3_1).f3) - 1))] (by rfl) rfl rfl (by (try simp only [List.map_toArray, List.map_cons, List.map_nil]); first | done | rfl | (simp only [List.length_drop, List.length_take]; rfl)) ?_
                  with_reducible refine (spec_l01In.calls ((rd_T40 ((rd_T36 l0_0 x3_1).f4) x6_4).f0) 1 (wrap64 (((rd_T36 l0_0 x3_1).f3) - 1)) true _ A44.out).mono ?_
                  rintro e w' ⟨rfl, ⟨nd, rfl⟩⟩
                  refine ⟨_, rfl, ?_⟩
                  refine hK.out _ _ ⟨(blk_cell BK125.out 0).trans rfl, (blk_cell BK125.out 1).trans rfl, (blk_cell BK125.out 2).trans rfl, (blk_cell BK113.out 0).trans rfl, (blk_cell BK113.out 1).trans rfl, (blk_cell BK113.out 2).trans rfl, (blk_cell BK113.out 3).trans rfl, (blk_cell BK113.out 4).trans rfl⟩ (fun hHeld => ?_)
                  clear hK K
                  refine norm_ (a' := ?_) ?_ ?_
                  rotate_left
                  ·show Act.put _ (some 100) _ = _
                   simp only [Act.put, List.setIfInBounds_toArray, List.set_cons_zero, List.set_cons_succ, i64_w, i32_w]
                   rfl
                  refine pq_ 6 101 (fl 35 127) HT_.out ?_
                  refine pq_ 7 102 (fl 35 255) HT_.out ?_
                  refine pq_ 8 103 (fl 35 511) HT_.out ?_
                  refine pq_ 9 104 (fl 35 1023) HT_.out ?_
                  refine pq_ 10 105 (fl 35 2047) HT_.out ?_
                  refine pu_ 11 106 (fl 35 4095) HT_.out ?_
                  refine pu_ 12 107 (fl 35 8191) HT_.out ?_
                  refine pu_ 13 108 (fl 35 16383) HT_.out ?_
                  refine pu_ 14 109 (fl 35 32767) HT_.out ?_
                  refine pu_ 15 110 (fl 35 65535) HT_.out ?_
                  refine pu_ 16 111 (fl 35 131071) HT_.out ?_
                  refine pu_ 17 112 (fl 35 262143) HT_.out ?_
                  refine pu_ 18 113 (fl 35 524287) HT_.out ?_
                  refine pu_ 19 114 (fl 35 1048575) HT_.out ?_
                  refine pu_ 20 115 (fl 35 2097151) HT_.out ?_
                  refine pq_ 21 116 (fl 35 4194303) HT_.out ?_
                  refine pq_ 22 117 (fl 35 8388607) HT_.out ?_
                  refine pq_ 23 118 (fl 35 16777215) HT_.out ?_
                  refine pq_ 24 119 (fl 35 33554431) HT_.out ?_
                  refine tq_ 25 120 (fl 35 67108863) HT_.out HW_.out hHeld ?_
                  refine one_ (i := 26) (N := some 121) (fl 35 134217727) rfl rfl (one_of HT_.out (by kernel_rfl)) (by decide) (fun K hK => ?_)
                  refine goes_ Try.func10 (by kernel_rfl) rfl #[.int .i64 ((rd_T40 ((rd_T36 l0_0 x3_1).f4) x6_4).f1), .int .i64 0, .int .i64 7] (by rfl) rfl rfl (by (try simp only [List.map_toArray, List.map_cons, List.map_nil]); first | done | rfl | (simp only [List.length_drop, List.length_take]; rfl)) ?_
                  with_reducible refine (spec_l01In.calls ((rd_T40 ((rd_T36 l0_0 x3_1).f4) x6_4).f1) 0 7 false _ A70.out).mono ?_
                  rintro e w' ⟨rfl, ⟨nd, rfl⟩⟩
                  refine ⟨_, rfl, ?_⟩
                  refine hK.out _ _ ⟨(blk_cell BK125.out 0).trans rfl, (blk_cell BK125.out 1).trans rfl, (blk_cell BK125.out 2).trans rfl, (blk_cell BK113.out 0).trans rfl, (blk_cell BK113.out 1).trans rfl, (blk_cell BK113.out 2).trans rfl, (blk_cell BK113.out 3).trans rfl, (blk_cell BK113.out 4).trans rfl⟩ (fun hHeld => ?_)
                  clear hK K
                  refine norm_ (a' := ?_) ?_ ?_
                  rotate_left
                  ·show Act.put _ (some 121) _ = _
                   simp only [Act.put, List.setIfInBounds_toArray, List.set_cons_zero, List.set_cons_succ, i64_w, i32_w]
                   rfl
                  refine pq_ 27 122 (fl 35 268435455) HT_.out ?_
                  refine pq_ 28 123 (fl 35 536870911) HT_.out ?_
                  refine pq_ 29 124 (fl 35 1073741823) HT_.out ?_
                  refine pu_ 30 125 (fl 35 2147483647) HT_.out ?_
                  refine pu_ 31 126 (fl 35 4294967295) HT_.out ?_
                  refine pu_ 32 127 (fl 35 8589934591) HT_.out ?_
                  refine pu_ 33 128 (fl 35 17179869183) HT_.out ?_
                  refine pq_ 34 129 (fl 35 34359738367) HT_.out ?_
                  refine done_ (done_of HT_.out (by kernel_rfl)) ?_
                  try go_wp2
                  go_ret
                  exact ⟨by first | rfl | (simp [errW_none, errW_some] <;> rfl) | (simp [*, errW_none, errW_some] <;> rfl), by repeat (first | (with_reducible first | exact HB.out | apply below_alloc | apply pw_below_drewN | apply below_drew1 | refine below_set ?_ GE111.out | refine below_set ?_ GE113.out | refine below_set ?_ GE125.out) | exact HB.out)⟩
               ·replace c45 := Bool.eq_false_iff.mpr c45
                subst c45
                (try rw [if_neg (show ¬ (false = true) by decide)] at H)
                obtain rfl := Option.some.inj H
                have hnb85 := NB113_111.out
                have hnc85 := NB111_113.out
                have hcz86 := blk_cell BK113.out
                have hfz86 := blk_frozen BK113.out
                have p124 : 0 ≤ (x6_4 : Int) := of_decide_eq_true (by first | (with_reducible assumption) | assumption)
                have q124 : x6_4 < (((rd_T36 l0_0 x3_1).f4).length : Int) := of_decide_eq_true (by first | (with_reducible assumption) | assumption)
                obtain ⟨ad124, e124, hx124_0, hx124_1, hx124_2⟩ := at_T40 HR112_4.out x6_4 p124 q124
                cases e124
                replace hx124_0 := (HB.out.cell (World.block_lt_of_cell? w _ hx124_0)).trans hx124_0
                replace hx124_1 := (HB.out.cell (World.block_lt_of_cell? w _ hx124_1)).trans hx124_1
                replace hx124_2 := (HB.out.cell (World.block_lt_of_cell? w _ hx124_2)).trans hx124_2
                replace p124 := eq_true p124
                replace q124 := eq_true q124
                try go_wp2_with (first | ((with_reducible refine gate_dst (N := 7) rfl ?_); (try (refine gate_guard (by rfl) ?_; dsimp only)); refine Go.Proofs.YtjfcdjfnfhkjlaaR.box_full_event ?hg ?hg2 (N := 7) ?hd ?hd2 (t := 40) (v := ?vof7) ?ho (cs := #[.int .i64 0, .int .i64 0, .string (⟨#[]⟩ : ByteArray)]) (cells := #[.int .i64 ((rd_T40 ((rd_T36 l0_0 x3_1).f4) x6_4).f0), .int .i64 ((rd_T40 ((rd_T36 l0_0 x3_1).f4) x6_4).f1), .string ((rd_T40 ((rd_T36 l0_0 x3_1).f4) x6_4).f2)]) ?hi ?hs ?h1 ?hr ?hx ?hv ?_; (case hd => rfl); (case hd2 => rfl); (case ho => rfl); (case hg => rfl); (case hg2 => rfl); (case hi => kernel_rfl); (case hs => rfl); (case h1 => first | kernel_rfl | rfl); (case hx => intro p_; first | rfl | (go_simp; done) | (go_simp; rfl)); (case hv => intro p_; first | rfl | (go_simp; done) | (go_simp; rfl)); (case hr => first | (go_simp; done) | (go_simp; rfl)); intro gb125 hg w87 hbox hb; have n0_ := Aside0.mk (blk_below BK111.out hb); have n1_ := Aside0.mk (blk_below BK113.out hb); have n2_ := Aside0.mk (below_step HB.out hb); have n3_ := Aside0.mk (hbox); have n4_ := Aside0.mk ((by rw [hg]; exact (below_size HB.out) : w.heap.size ≤ gb125)); have n5_ := Aside0.mk ((by rw [hg]; exact (below_size HB.out) : w.heap.size ≤ gb125)); have n6_ := Aside0.mk ((by rw [hg]; exact Nat.ne_of_lt (blk_lt (g := gb111) (o := .cells #[.slice (some ad112) l0_0.length c0_0] 29 (0, 0)) (by (with_reducible repeat (first | refine blk_drewN ?_ _ | refine blk_drew ?_ | refine blk_alloc ?_ _)); exact BK111.out)) : gb111 ≠ gb125)); have n7_ := Aside0.mk ((by rw [hg]; exact Nat.ne_of_gt (blk_lt (g := gb111) (o := .cells #[.slice (some ad112) l0_0.length c0_0] 29 (0, 0)) (by (with_reducible repeat (first | refine blk_drewN ?_ _ | refine blk_drew ?_ | refine blk_alloc ?_ _)); exact BK111.out)) : gb125 ≠ gb111)); have n8_ := Aside0.mk ((by rw [hg]; exact Nat.ne_of_lt (blk_lt (g := gb113) (o := .cells #[.int .i64 ((rd_T36 l0_0 x3_1).f0), .string ((rd_T36 l0_0 x3_1).f1), .string ((rd_T36 l0_0 x3_1).f2), .int .i64 ((rd_T36 l0_0 x3_1).f3), .slice (some ad124) ((rd_T36 l0_0 x3_1).f4).length c112_4] 36 (0, 0)) (by (with_reducible repeat (first | refine blk_drewN ?_ _ | refine blk_drew ?_ | refine blk_alloc ?_ _)); exact BK113.out)) : gb113 ≠ gb125)); have n9_ := Aside0.mk ((by rw [hg]; exact Nat.ne_of_gt (blk_lt (g := gb113) (o := .cells #[.int .i64 ((rd_T36 l0_0 x3_1).f0), .string ((rd_T36 l0_0 x3_1).f1), .string ((rd_T36 l0_0 x3_1).f2), .int .i64 ((rd_T36 l0_0 x3_1).f3), .slice (some ad124) ((rd_T36 l0_0 x3_1).f4).length c112_4] 36 (0, 0)) (by (with_reducible repeat (first | refine blk_drewN ?_ _ | refine blk_drew ?_ | refine blk_alloc ?_ _)); exact BK113.out)) : gb125 ≠ gb113)); clear BK111; clear BK113; clear HB; have BK111 := n0_; have BK113 := n1_; have HB := n2_; have BK125 := n3_; have GW125 := n4_; have GE125 := n5_; have NB111_125 := n6_; have NB125_111 := n7_; have NB113_125 := n8_; have NB125_113 := n9_; clear n0_ n1_ n2_ n3_ n4_ n5_ n6_ n7_ n8_ n9_; clear hb hbox hg))
                have n0_ := Aside0.mk (blk_drew BK111.out)
                have n1_ := Aside0.mk (blk_drew BK113.out)
                have n2_ := Aside0.mk (blk_drew BK125.out)
                have n3_ := Aside0.mk (below_drew1 HB.out)
                clear BK111
                clear BK113
                clear BK125
                clear HB
                have BK111 := n0_
                have BK113 := n1_
                have BK125 := n2_
                have HB := n3_
                clear n0_ n1_ n2_ n3_
                refine start_ (n := 35) (S := fun w' => w'.cell? ⟨gb125, 0, none⟩ = some (.int .i64 ((rd_T40 ((rd_T36 l0_0 x3_1).f4) x6_4).f0)) ∧ w'.cell? ⟨gb125, 1, none⟩ = some (.int .i64 ((rd_T40 ((rd_T36 l0_0 x3_1).f4) x6_4).f1)) ∧ w'.cell? ⟨gb125, 2, none⟩ = some (.string ((rd_T40 ((rd_T36 l0_0 x3_1).f4) x6_4).f2)) ∧ w'.cell? ⟨gb113, 0, none⟩ = some (.int .i64 ((rd_T36 l0_0 x3_1).f0)) ∧ w'.cell? ⟨gb113, 1, none⟩ = some (.string ((rd_T36 l0_0 x3_1).f1)) ∧ w'.cell? ⟨gb113, 2, none⟩ = some (.string ((rd_T36 l0_0 x3_1).f2)) ∧ w'.cell? ⟨gb113, 3, none⟩ = some (.int .i64 ((rd_T36 l0_0 x3_1).f3)) ∧ w'.cell? ⟨gb113, 4, none⟩ = some (.slice (some ad124) ((rd_T36 l0_0 x3_1).f4).length c112_4)) (ds := []) (fl 35 0) (by kernel_rfl) rfl rfl ⟨(blk_cell BK125.out 0).trans rfl, (blk_cell BK125.out 1).trans rfl, (blk_cell BK125.out 2).trans rfl, (blk_cell BK113.out 0).trans rfl, (blk_cell BK113.out 1).trans rfl, (blk_cell BK113.out 2).trans rfl, (blk_cell BK113.out 3).trans rfl, (blk_cell BK113.out 4).trans rfl⟩ (fun hHeld => ?_); refine with_tabW spec_StateOk.tab16 spec_StateOk.bits16 (fun HT_ HW_ => ?_)
                generalize w87.drew = w88 at BK111 BK113 BK125 HB hHeld ⊢
                refine pq_ 0 95 (fl 35 1) HT_.out ?_
                refine pq_ 2 97 (fl 35 5) HT_.out ?_
                refine tq_ 1 96 (fl 35 7) HT_.out HW_.out hHeld ?_
                refine tq_ 3 98 (fl 35 15) HT_.out HW_.out hHeld ?_
                refine pq_ 4 99 (fl 35 31) HT_.out ?_
                refine one_ (i := 5) (N := some 100) (fl 35 63) rfl rfl (one_of HT_.out (by kernel_rfl)) (by decide) (fun K hK => ?_)
                refine goes_ Try.func10 (by kernel_rfl) rfl #[.int .i64 ((rd_T40 ((rd_T36 l0_0 x3_1).f4) x6_4).f0), .int .i64 1, .int .i64 (wrap64 (((rd_T36 l0_0 x3_1).f3) - 1))] (by rfl) rfl rfl (by (try simp only [List.map_toArray, List.map_cons, List.map_nil]); first | done | rfl | (simp only [List.length_drop, List.length_take]; rfl)) ?_
                with_reducible refine (spec_l01In.calls ((rd_T40 ((rd_T36 l0_0 x3_1).f4) x6_4).f0) 1 (wrap64 (((rd_T36 l0_0 x3_1).f3) - 1)) false _ A44.out).mono ?_
                rintro e w' ⟨rfl, ⟨nd, rfl⟩⟩
                refine ⟨_, rfl, ?_⟩
                refine hK.out _ _ ⟨(blk_cell BK125.out 0).trans rfl, (blk_cell BK125.out 1).trans rfl, (blk_cell BK125.out 2).trans rfl, (blk_cell BK113.out 0).trans rfl, (blk_cell BK113.out 1).trans rfl, (blk_cell BK113.out 2).trans rfl, (blk_cell BK113.out 3).trans rfl, (blk_cell BK113.out 4).trans rfl⟩ (fun hHeld => ?_)
                clear hK K
                refine norm_ (a' := ?_) ?_ ?_
                rotate_left
                ·show Act.put _ (some 100) _ = _
                 simp only [Act.put, List.setIfInBounds_toArray, List.set_cons_zero, List.set_cons_succ, i64_w, i32_w]
                 rfl
                refine pq_ 6 101 (fl 35 127) HT_.out ?_
                refine pq_ 7 102 (fl 35 255) HT_.out ?_
                refine pu_ 8 103 (fl 35 511) HT_.out ?_
                refine pu_ 9 104 (fl 35 1023) HT_.out ?_
                refine pu_ 10 105 (fl 35 2047) HT_.out ?_
                refine pu_ 11 106 (fl 35 4095) HT_.out ?_
                refine pu_ 12 107 (fl 35 8191) HT_.out ?_
                refine pu_ 13 108 (fl 35 16383) HT_.out ?_
                refine pu_ 14 109 (fl 35 32767) HT_.out ?_
                refine pu_ 15 110 (fl 35 65535) HT_.out ?_
                refine pu_ 16 111 (fl 35 131071) HT_.out ?_
                refine pu_ 17 112 (fl 35 262143) HT_.out ?_
                refine pu_ 18 113 (fl 35 524287) HT_.out ?_
                refine pu_ 19 114 (fl 35 1048575) HT_.out ?_
                refine pu_ 20 115 (fl 35 2097151) HT_.out ?_
                refine pu_ 21 116 (fl 35 4194303) HT_.out ?_
                refine pq_ 22 117 (fl 35 8388607) HT_.out ?_
                refine pq_ 23 118 (fl 35 16777215) HT_.out ?_
                refine pu_ 24 119 (fl 35 33554431) HT_.out ?_
                refine pu_ 25 120 (fl 35 67108863) HT_.out ?_
                refine pu_ 26 121 (fl 35 134217727) HT_.out ?_
                refine pu_ 27 122 (fl 35 268435455) HT_.out ?_
                refine pq_ 28 123 (fl 35 536870911) HT_.out ?_
                refine pq_ 29 124 (fl 35 1073741823) HT_.out ?_
                refine pu_ 30 125 (fl 35 2147483647) HT_.out ?_
                refine pu_ 31 126 (fl 35 4294967295) HT_.out ?_
                refine pu_ 32 127 (fl 35 8589934591) HT_.out ?_
                refine pu_ 33 128 (fl 35 17179869183) HT_.out ?_
                refine pq_ 34 129 (fl 35 34359738367) HT_.out ?_
                refine done_ (done_of HT_.out (by kernel_rfl)) ?_
                try go_wp2
                go_ret
                exact ⟨by first | rfl | (simp [errW_none, errW_some] <;> rfl) | (simp [*, errW_none, errW_some] <;> rfl), by repeat (first | (with_reducible first | exact HB.out | apply below_alloc | apply pw_below_drewN | apply below_drew1 | refine below_set ?_ GE111.out | refine below_set ?_ GE113.out | refine below_set ?_ GE125.out) | exact HB.out)⟩
              ·rw [if_neg c43] at H
               exact absurd H (by simp)
             ·rw [if_neg c42] at H
              have c42b0 : decide (x6_4 < (((rd_T36 l0_0 x3_1).f4).length : Int)) = false := decide_eq_false c42
              clear c42
              have H' := Aside0.mk H
              clear H
              have hnb89 := NB113_111.out
              have hnc89 := NB111_113.out
              have hcz90 := blk_cell BK113.out
              have hfz90 := blk_frozen BK113.out
              go_wp2
              go_roundg k4
              case measure => have := HK1.out; have := HJ4.out; have := HK3.out; have := HK4.out; omega
              case rel => exact ⟨(wrap64 (x3_1 + 1)), (by first | rfl | (simp; done) | (simp [*]; done) | (simp; exact (by intro l; cases l <;> rfl : ∀ l : List UInt8, l.isEmpty = !(l != [])) _)), H', ⟨by have := HK1.out; have := HJ4.out; have := HK3.out; have := HK4.out; omega⟩, ⟨by (with_reducible repeat (first | refine blk_drewN ?_ _ | refine blk_drew ?_ | refine blk_alloc ?_ _)); exact BK111.out⟩, ⟨by repeat (first | (with_reducible first | exact HB.out | apply below_alloc | apply pw_below_drewN | apply below_drew1 | refine below_set ?_ GE111.out | refine below_set ?_ GE113.out) | exact HB.out)⟩⟩
    ·rw [if_neg c4] at H
     exact absurd H (by simp)
   ·rw [if_neg c3] at H
    have c3b0 : decide (x3_1 < (l0_0.length : Int)) = false := decide_eq_false c3
    clear c3
    obtain rfl := Option.some.inj H
    have hcz91 := blk_cell BK111.out
    have hfz91 := blk_frozen BK111.out
    go_wp2
    go_ret
    exact ⟨by first | rfl | (simp [errW_none, errW_some] <;> rfl) | (simp [*, errW_none, errW_some] <;> rfl), by repeat (first | (with_reducible first | exact HB.out | apply below_alloc | apply pw_below_drewN | apply below_drew1 | refine below_set ?_ GE111.out) | exact HB.out)⟩

end Go.Proofs.Ytjfcdjfnfhkjlaa.QFnExactStateOk
