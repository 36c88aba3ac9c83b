-- Written by a program of this session (myprint) out of Lean's own print of the translation. Lean checks it.
import Derived.Test.YtjfcdjfnfhkjlaaSteps
import Derived.Test.YtjfcdjfnfhkjlaaQFnExactStateOkx0
import Derived.Test.YtjfcdjfnfhkjlaaQFnExactStateOkx3
namespace Go.Proofs.Ytjfcdjfnfhkjlaa.QFnExactStateOk
open Go.Proofs.YtjfcdjfnfhkjlaaF
open Go.RowKit Go.Proofs.YtjfcdjfnfhkjlaaW.PrintWords Go.Proofs.YtjfcdjfnfhkjlaaW.PrintLast Go.Proofs.YtjfcdjfnfhkjlaaW.PrintMore
attribute [local go_sem] max2_int min2_int max_two min_two max_three min_three max_four min_four   -- for this text's walks alone
set_option linter.unusedVariables false
set_option linter.unusedSimpArgs false

/-! ### impl_StateOk: function 7 -/
mutual
def impl_StateOk.l0 : Nat → List (S36) → Int → Int → List (S36) → Option (Bool)
 | 0, _, _, _, _ => none
 | k + 1, x8, x9, x10, x168000 => if x10 < x9 then (if 0 ≤ x10 then (if x10 < (x8.length : Int) then ((impl_in.f ((rd_T36 x8 x10).f0) 1 9999).bind fun t170 => (if t170 = true then ((impl_WordOk.f k ((rd_T36 x8 x10).f1)).bind fun t171 => (if t171 = true then ((impl_WordOk.f k ((rd_T36 x8 x10).f2)).bind fun t172 => (if t172 = true then ((impl_in.f ((rd_T36 x8 x10).f3) 1 10000).bind fun t173 => (if t173 = true then (if x10 > 0 then (if 0 ≤ (wrap64 (x10 - 1)) then (if (wrap64 (x10 - 1)) < (x168000.length : Int) then (impl_StateOk.j1 k x10 x8 x9 x10 (decide (((rd_T36 x168000 (wrap64 (x10 - 1))).f0) ≥ ((rd_T36 x8 x10).f0))) x168000 ((rd_T36 x8 x10).f0) ((rd_T36 x8 x10).f1) ((rd_T36 x8 x10).f2) ((rd_T36 x8 x10).f3) ((rd_T36 x8 x10).f4)) else (none)) else (none)) else (impl_StateOk.j1 k x10 x8 x9 x10 false x168000 ((rd_T36 x8 x10).f0) ((rd_T36 x8 x10).f1) ((rd_T36 x8 x10).f2) ((rd_T36 x8 x10).f3) ((rd_T36 x8 x10).f4))) else (impl_StateOk.j1 k x10 x8 x9 x10 true x168000 ((rd_T36 x8 x10).f0) ((rd_T36 x8 x10).f1) ((rd_T36 x8 x10).f2) ((rd_T36 x8 x10).f3) ((rd_T36 x8 x10).f4)))) else (impl_StateOk.j1 k x10 x8 x9 x10 true x168000 ((rd_T36 x8 x10).f0) ((rd_T36 x8 x10).f1) ((rd_T36 x8 x10).f2) ((rd_T36 x8 x10).f3) ((rd_T36 x8 x10).f4)))) else (impl_StateOk.j1 k x10 x8 x9 x10 true x168000 ((rd_T36 x8 x10).f0) ((rd_T36 x8 x10).f1) ((rd_T36 x8 x10).f2) ((rd_T36 x8 x10).f3) ((rd_T36 x8 x10).f4)))) else (impl_StateOk.j1 k x10 x8 x9 x10 true x168000 ((rd_T36 x8 x10).f0) ((rd_T36 x8 x10).f1) ((rd_T36 x8 x10).f2) ((rd_T36 x8 x10).f3) ((rd_T36 x8 x10).f4)))) else (none)) else (none)) else (some true)
def impl_StateOk.j1 : Nat → Int → List (S36) → Int → Int → Bool → List (S36) → Int → ByteArray → ByteArray → Int → List (S40) → Option (Bool)
 | 0, _, _, _, _, _, _, _, _, _, _, _ => none
 | k + 1, x3, x8, x9, x10, x52, x168000, x170000, x170001, x170002, x170003, x170004 => if x52 = true then (some false) else (if 0 ≤ x3 then (if x3 ≤ (x168000.length : Int) then ((impl_Box.f k (x168000.take (x3 : Int).toNat) x170001 x170002).bind fun t179 => (if t179 = true then (some false) else (impl_StateOk.l1 k x8 x9 x10 x170004 (x170004.length : Int) 0 x168000 x170000 x170001 x170002 x170003 x170004))) else (none)) else (none))
def impl_StateOk.l1 : Nat → List (S36) → Int → Int → List (S40) → Int → Int → List (S36) → Int → ByteArray → ByteArray → Int → List (S40) → Option (Bool)
 | 0, _, _, _, _, _, _, _, _, _, _, _, _ => none
 | k + 1, x8, x9, x10, x60, x61, x62, x168000, x170000, x170001, x170002, x170003, x170004 => if x62 < x61 then (if 0 ≤ x62 then (if x62 < (x60.length : Int) then ((impl_in.f ((rd_T40 x60 x62).f0) 1 (wrap64 (x170003 - 1))).bind fun t182 => (if t182 = true then ((impl_in.f ((rd_T40 x60 x62).f1) 0 7).bind fun t183 => (if t183 = true then (if (((rd_T40 x60 x62).f2).size : Int) > 100 then (some false) else (if x62 > 0 then (if 0 ≤ (wrap64 (x62 - 1)) then (if (wrap64 (x62 - 1)) < (x170004.length : Int) then (if ((rd_T40 x170004 (wrap64 (x62 - 1))).f0) ≥ ((rd_T40 x60 x62).f0) then (some false) else (impl_StateOk.l1 k x8 x9 x10 x60 x61 (wrap64 (x62 + 1)) x168000 x170000 x170001 x170002 x170003 x170004)) else (none)) else (none)) else (impl_StateOk.l1 k x8 x9 x10 x60 x61 (wrap64 (x62 + 1)) x168000 x170000 x170001 x170002 x170003 x170004))) else (some false))) else (some false))) else (none)) else (none)) else (impl_StateOk.l0 k x8 x9 (wrap64 (x10 + 1)) x168000)
end
def impl_StateOk.f (k : Nat) (l0_0 : List (S36)) : Option (Bool) := impl_StateOk.l0 k l0_0 (l0_0.length : Int) 0 l0_0
theorem impl_StateOk.mono_l : ∀ k, (∀ y0 y1 y2 y3, LeO (impl_StateOk.l0 k y0 y1 y2 y3) (impl_StateOk.l0 (k + 1) y0 y1 y2 y3)) ∧ (∀ y0 y1 y2 y3 y4 y5 y6 y7 y8 y9 y10, LeO (impl_StateOk.j1 k y0 y1 y2 y3 y4 y5 y6 y7 y8 y9 y10) (impl_StateOk.j1 (k + 1) y0 y1 y2 y3 y4 y5 y6 y7 y8 y9 y10)) ∧ (∀ y0 y1 y2 y3 y4 y5 y6 y7 y8 y9 y10 y11, LeO (impl_StateOk.l1 k y0 y1 y2 y3 y4 y5 y6 y7 y8 y9 y10 y11) (impl_StateOk.l1 (k + 1) y0 y1 y2 y3 y4 y5 y6 y7 y8 y9 y10 y11))
 | 0 => ⟨fun _ _ _ _ r h => by simp [impl_StateOk.l0] at h, fun _ _ _ _ _ _ _ _ _ _ _ r h => by simp [impl_StateOk.j1] at h, fun _ _ _ _ _ _ _ _ _ _ _ _ r h => by simp [impl_StateOk.l1] at h⟩
 | k + 1 => by
  obtain ⟨ih0, ih1, ih2⟩ := impl_StateOk.mono_l k
  refine ⟨?_, ?_, ?_⟩
  ·intro y0 y1 y2 y3
   unfold impl_StateOk.l0
   repeat' first
   | (with_reducible exact ih0 _ _ _ _)
   | (with_reducible exact ih1 _ _ _ _ _ _ _ _ _ _ _)
   | (with_reducible exact ih2 _ _ _ _ _ _ _ _ _ _ _ _)
   | (with_reducible exact impl_Box.mono _ _ _ _)
   | (with_reducible exact impl_WordOk.mono _ _)
   | (with_reducible exact LeO.refl _)
   | (with_reducible exact LeO.none _)
   | (with_reducible refine LeO.ite ?_ ?_)
   | (with_reducible refine LeO.bind ?_ (fun _ => ?_))
   | exact ih0 _ _ _ _
   | exact ih1 _ _ _ _ _ _ _ _ _ _ _
   | exact ih2 _ _ _ _ _ _ _ _ _ _ _ _
   | exact impl_Box.mono _ _ _ _
   | exact impl_WordOk.mono _ _
   | exact LeO.none _
   | refine LeO.ite ?_ ?_
   | refine LeO.bind ?_ (fun _ => ?_)
  ·intro y0 y1 y2 y3 y4 y5 y6 y7 y8 y9 y10
   unfold impl_StateOk.j1
   repeat' first
   | (with_reducible exact ih0 _ _ _ _)
   | (with_reducible exact ih1 _ _ _ _ _ _ _ _ _ _ _)
   | (with_reducible exact ih2 _ _ _ _ _ _ _ _ _ _ _ _)
   | (with_reducible exact impl_Box.mono _ _ _ _)
   | (with_reducible exact impl_WordOk.mono _ _)
   | (with_reducible exact LeO.refl _)
   | (with_reducible exact LeO.none _)
   | (with_reducible refine LeO.ite ?_ ?_)
   | (with_reducible refine LeO.bind ?_ (fun _ => ?_))
   | exact ih0 _ _ _ _
   | exact ih1 _ _ _ _ _ _ _ _ _ _ _
   | exact ih2 _ _ _ _ _ _ _ _ _ _ _ _
   | exact impl_Box.mono _ _ _ _
   | exact impl_WordOk.mono _ _
   | exact LeO.none _
   | refine LeO.ite ?_ ?_
   | refine LeO.bind ?_ (fun _ => ?_)
  ·intro y0 y1 y2 y3 y4 y5 y6 y7 y8 y9 y10 y11
   unfold impl_StateOk.l1
   repeat' first
   | (with_reducible exact ih0 _ _ _ _)
   | (with_reducible exact ih1 _ _ _ _ _ _ _ _ _ _ _)
   | (with_reducible exact ih2 _ _ _ _ _ _ _ _ _ _ _ _)
   | (with_reducible exact impl_Box.mono _ _ _ _)
   | (with_reducible exact impl_WordOk.mono _ _)
   | (with_reducible exact LeO.refl _)
   | (with_reducible exact LeO.none _)
   | (with_reducible refine LeO.ite ?_ ?_)
   | (with_reducible refine LeO.bind ?_ (fun _ => ?_))
   | exact ih0 _ _ _ _
   | exact ih1 _ _ _ _ _ _ _ _ _ _ _
   | exact ih2 _ _ _ _ _ _ _ _ _ _ _ _
   | exact impl_Box.mono _ _ _ _
   | exact impl_WordOk.mono _ _
   | exact LeO.none _
   | refine LeO.ite ?_ ?_
   | refine LeO.bind ?_ (fun _ => ?_)
theorem impl_StateOk.mono : ∀ a0 k, LeO (impl_StateOk.f k a0) (impl_StateOk.f (k + 1) a0) := by
 intro a0 k
 obtain ⟨ih0, ih1, ih2⟩ := impl_StateOk.mono_l k
 unfold impl_StateOk.f
 repeat' first
   | (with_reducible exact ih0 _ _ _ _)
   | (with_reducible exact ih1 _ _ _ _ _ _ _ _ _ _ _)
   | (with_reducible exact ih2 _ _ _ _ _ _ _ _ _ _ _ _)
   | (with_reducible exact impl_Box.mono _ _ _ _)
   | (with_reducible exact impl_WordOk.mono _ _)
   | (with_reducible exact LeO.refl _)
   | (with_reducible exact LeO.none _)
   | (with_reducible refine LeO.ite ?_ ?_)
   | (with_reducible refine LeO.bind ?_ (fun _ => ?_))
   | exact ih0 _ _ _ _
   | exact ih1 _ _ _ _ _ _ _ _ _ _ _
   | exact ih2 _ _ _ _ _ _ _ _ _ _ _ _
   | exact impl_Box.mono _ _ _ _
   | exact impl_WordOk.mono _ _
   | exact LeO.none _
   | refine LeO.ite ?_ ?_
   | refine LeO.bind ?_ (fun _ => ?_)
def impl_StateOk.T4 : Bool × List (List Nat × List Nat) := (true, [([], []), ([0], [0]), ([1], [1]), ([2], [2]), ([3, 2], [3]), ([4], [4]), ([5, 4], [4, 5]), ([6, 4, 4], [4, 6]), ([7, 4], [4, 7]), ([4, 8], [4, 8]), ([9, 7], [9]), ([10], [10]), ([11, 10], [10, 11]), ([12, 10, 10], [10, 12]), ([13, 10], [10, 13]), ([10, 14], [10, 14]), ([15, 13], [15]), ([16], [16]), ([17, 16], [16, 17]), ([18, 16, 16], [16, 18]), ([19, 16], [16, 19]), ([16, 20], [16, 20]), ([21, 19], [21]), ([22], [22]), ([23, 22], [22, 23]), ([24, 22, 22], [22, 24]), ([25], [25]), ([26, 25], [25, 26]), ([25], [25]), ([28, 25], [25, 28]), ([27, 29, 25], [25, 27, 29]), ([30, 25], [25, 30]), ([31, 25], [25, 31]), ([25], [25]), ([33, 25], [25, 33]), ([32, 34, 25], [25, 32, 34]), ([25, 35, 22], [22, 25, 35]), ([22, 36], [22, 36])])
def impl_StateOk.B4 : List Nat := [0, 1, 3, 7, 15, 31, 63, 127, 255, 511, 1023, 2047, 4095, 8191, 16383, 32767, 65535, 131071, 262143, 524287, 1048575, 2097151, 4194303, 8388607, 16777215, 33554431, 67108863, 134217727, 67108863, 335544319, 1073741823, 2147483647, 4294967295, 67108863, 8657043455, 34359738367, 68719476735, 137438953471]
theorem impl_StateOk.tab4 : rtab .any (opsOf Try.f7 4) = impl_StateOk.T4 := by kernel_rfl
theorem impl_StateOk.bits4 : waitsOk impl_StateOk.T4.2 impl_StateOk.B4 = true := by kernel_rfl
def impl_StateOk.T11 : Bool × List (List Nat × List Nat) := (true, [([], []), ([0], [0]), ([], []), ([2], [2]), ([3], [3]), ([1, 4], [1, 4]), ([5], [5]), ([6, 5], [6]), ([7], [7]), ([8, 7], [7, 8]), ([9, 7, 7], [7, 9]), ([10, 7], [7, 10]), ([7, 11], [7, 11]), ([12, 10], [12]), ([13], [13]), ([14, 13], [13, 14]), ([15, 13], [13, 15]), ([16, 13], [13, 16]), ([13, 17], [13, 17]), ([18, 13], [18]), ([19], [19]), ([20, 19], [19, 20]), ([21, 19, 19], [19, 21]), ([22], [22]), ([23, 22], [22, 23]), ([22], [22]), ([25, 22], [22, 25]), ([24, 26, 22], [22, 24, 26]), ([27, 22], [22, 27]), ([28, 22], [22, 28]), ([22], [22]), ([30, 22], [22, 30]), ([29, 31, 22], [22, 29, 31]), ([22, 32, 19], [19, 22, 32]), ([19, 33], [19, 33])])
def impl_StateOk.B11 : List Nat := [0, 1, 0, 4, 12, 31, 63, 127, 255, 511, 1023, 2047, 4095, 8191, 16383, 32767, 65535, 131071, 262143, 524287, 1048575, 2097151, 4194303, 8388607, 16777215, 8388607, 41943039, 134217727, 268435455, 536870911, 8388607, 1082130431, 4294967295, 8589934591, 17179869183]
theorem impl_StateOk.tab11 : rtab .any (opsOf Try.f7 11) = impl_StateOk.T11 := by kernel_rfl
theorem impl_StateOk.bits11 : waitsOk impl_StateOk.T11.2 impl_StateOk.B11 = true := by kernel_rfl
set_option maxHeartbeats 8000000 in
set_option maxRecDepth 100000 in
theorem impl_StateOk.calls (k : Nat) (A0_0 : Option Addr) (c0_0 : Nat) (l0_0 : List (S36)) (r : Bool) (w : World) (hr0_0 : Kd.C k36 w A0_0 l0_0.length l0_0) (hc0_0 : l0_0.length ≤ c0_0) (h : impl_StateOk.f k l0_0 = some r) :
  Calls Try.prog 7 #[.agg #[.slice A0_0 l0_0.length c0_0]] w fun e w' => e = .returned (.bool r) ∧ Below w.heap.size w w' := by
 have hu29 := Try.underlying29
 have hu36 := Try.underlying36
 have hu40 := Try.underlying40
 have HR0_0 := Aside0.mk hr0_0
 have HC0_0 := Aside0.mk hc0_0
 clear hr0_0 hc0_0
 have HB := Aside0.mk (Below.refl w.heap.size w)
 have H : (impl_StateOk.l0 k l0_0 (l0_0.length : Int) 0 l0_0) = some r := h
 clear h
 have H' := Aside0.mk H
 clear H
 go_enter Try.func7, Try.ntmps7
 go_wp2_with (first | ((with_reducible refine gate_dst (N := 1) rfl ?_); (try (refine gate_guard (by rfl) ?_; dsimp only)); refine box_event ?hg (N := 1) ?hd (cs := #[.slice A0_0 l0_0.length c0_0]) (t := 29) ?hr ?_; (case hd => rfl); (case hg => rfl); (case hr => first | (go_simp; done) | (go_simp; rfl)); intro gb167 hg w2 hbox hb; have n0_ := Aside0.mk (below_step HB.out hb); have n1_ := Aside0.mk (hbox); have n2_ := Aside0.mk ((by rw [hg]; exact (below_size HB.out) : w.heap.size ≤ gb167)); have n3_ := Aside0.mk ((by rw [hg]; exact (below_size HB.out) : w.heap.size ≤ gb167)); clear HB; have HB := n0_; have BK167 := n1_; have GW167 := n2_; have GE167 := n3_; clear n0_ n1_ n2_ n3_; clear hb hbox hg; have hcz3 := blk_cell BK167.out; have hfz3 := blk_frozen BK167.out))
 go_loopg [10] k (fun kq v10 w' => ∃ (x10_1 : Int), v10 = .int .i64 x10_1 ∧ Aside0 (impl_StateOk.l0 kq l0_0 (l0_0.length : Int) x10_1 l0_0 = some r) ∧ Aside0 (kq ≤ k) ∧ Aside0 (w'.heap[gb167]? = some (.cells #[(.slice A0_0 l0_0.length c0_0)] 29 (0, 0))) ∧ Aside0 (Below w.heap.size w w'))
 case atStart => exact ⟨(0), (by first | rfl | (simp; done) | (simp [*]; done) | (simp; exact (by intro l; cases l <;> rfl : ∀ l : List UInt8, l.isEmpty = !(l != [])) _)), H', ⟨Nat.le_refl _⟩, ⟨by (with_reducible repeat (first | refine blk_drewN ?_ _ | refine blk_drew ?_ | refine blk_alloc ?_ _)); exact BK167.out⟩, ⟨by repeat (first | (with_reducible first | exact HB.out | apply below_alloc | apply pw_below_drewN | apply below_drew1 | refine below_set ?_ GE167.out) | exact HB.out)⟩⟩
 case round =>
  clear H'
  try clear p2
  try clear hcz3_0
  try clear hfz3_0
  obtain ⟨x10_1, rfl, HA, HK1, BK167, HB⟩ := hrel
  cases gk with
  | zero => exact absurd HA.out (by simp [impl_StateOk.l0])
  | succ k1 =>
   have H := HA.out
   clear HA
   simp only [impl_StateOk.l0] at H
   by_cases c4 : x10_1 < (l0_0.length : Int)
   ·rw [if_pos c4] at H
    have c4b0 : decide (x10_1 < (l0_0.length : Int)) = true := decide_eq_true c4
    clear c4
    by_cases c5 : 0 ≤ x10_1
    ·rw [if_pos c5] at H
     have c5b0 : decide (0 ≤ x10_1) = true := decide_eq_true c5
     clear c5
     by_cases c6 : x10_1 < (l0_0.length : Int)
     ·rw [if_pos c6] at H
      have c6b0 : decide (x10_1 < (l0_0.length : Int)) = true := decide_eq_true c6
      clear c6
      have HC7 := Aside0.mk H
      clear H
      have p168 : 0 ≤ (x10_1 : Int) := of_decide_eq_true (by first | (with_reducible assumption) | assumption)
      have q168 : x10_1 < (l0_0.length : Int) := of_decide_eq_true (by first | (with_reducible assumption) | assumption)
      obtain ⟨ad168, A168_4, c168_4, e168, hx168_0, hx168_1, hx168_2, hx168_3, hx168_4, hl168_4, hi168_4⟩ := at_T36 HR0_0.out x10_1 p168 q168
      cases e168
      replace hx168_0 := (HB.out.cell (World.block_lt_of_cell? w _ hx168_0)).trans hx168_0
      replace hx168_1 := (HB.out.cell (World.block_lt_of_cell? w _ hx168_1)).trans hx168_1
      replace hx168_2 := (HB.out.cell (World.block_lt_of_cell? w _ hx168_2)).trans hx168_2
      replace hx168_3 := (HB.out.cell (World.block_lt_of_cell? w _ hx168_3)).trans hx168_3
      replace hx168_4 := (HB.out.cell (World.block_lt_of_cell? w _ hx168_4)).trans hx168_4
      have HR168_4 := Aside0.mk hi168_4
      have HC168_4 := Aside0.mk hl168_4
      clear hi168_4 hl168_4
      replace p168 := eq_true p168
      replace q168 := eq_true q168
      go_upto_region 4 with (first | ((with_reducible refine gate_dst (N := 4) rfl ?_); (try (refine gate_guard (by rfl) ?_; dsimp only)); refine box_event ?hg (N := 4) ?hd (cs := #[.int .i64 0, .string (⟨#[]⟩ : ByteArray), .string (⟨#[]⟩ : ByteArray), .int .i64 0, .slice none 0 0]) (t := 36) ?hr ?_; (case hd => rfl); (case hg => rfl); (case hr => first | (go_simp; done) | (go_simp; rfl)); intro gb169 hg w8 hbox hb; have n0_ := Aside0.mk (blk_below BK167.out hb); have n1_ := Aside0.mk (below_step HB.out hb); have n2_ := Aside0.mk (hbox); have n3_ := Aside0.mk ((by rw [hg]; exact (below_size HB.out) : w.heap.size ≤ gb169)); have n4_ := Aside0.mk ((by rw [hg]; exact (below_size HB.out) : w.heap.size ≤ gb169)); have n5_ := Aside0.mk ((by rw [hg]; exact Nat.ne_of_lt (blk_lt (g := gb167) (o := .cells #[.slice (some ad168) l0_0.length c0_0] 29 (0, 0)) (by (with_reducible repeat (first | refine blk_drewN ?_ _ | refine blk_drew ?_ | refine blk_alloc ?_ _)); exact BK167.out)) : gb167 ≠ gb169)); have n6_ := Aside0.mk ((by rw [hg]; exact Nat.ne_of_gt (blk_lt (g := gb167) (o := .cells #[.slice (some ad168) l0_0.length c0_0] 29 (0, 0)) (by (with_reducible repeat (first | refine blk_drewN ?_ _ | refine blk_drew ?_ | refine blk_alloc ?_ _)); exact BK167.out)) : gb169 ≠ gb167)); clear BK167; clear HB; have BK167 := n0_; have HB := n1_; have BK169 := n2_; have GW169 := n3_; have GE169 := n4_; have NB167_169 := n5_; have NB169_167 := n6_; clear n0_ n1_ n2_ n3_ n4_ n5_ n6_; clear hb hbox hg) | ((with_reducible refine gate_store (t := 36) (p := 4) rfl ?_); refine Go.Proofs.YtjfcdjfnfhkjlaaR.store_part_event ?hg (t := 36) 4 (v := ?vo_w9) ?ho ?hn gb169 0 (.agg #[.int .i64 ((rd_T36 l0_0 x10_1).f0), .string ((rd_T36 l0_0 x10_1).f1), .string ((rd_T36 l0_0 x10_1).f2), .int .i64 ((rd_T36 l0_0 x10_1).f3), .slice A168_4 ((rd_T36 l0_0 x10_1).f4).length c168_4]) #[.int .i64 ((rd_T36 l0_0 x10_1).f0), .string ((rd_T36 l0_0 x10_1).f1), .string ((rd_T36 l0_0 x10_1).f2), .int .i64 ((rd_T36 l0_0 x10_1).f3), .slice A168_4 ((rd_T36 l0_0 x10_1).f4).length c168_4] #[.int .i64 0, .string (⟨#[]⟩ : ByteArray), .string (⟨#[]⟩ : ByteArray), .int .i64 0, .slice none 0 0] #[.int .i64 ((rd_T36 l0_0 x10_1).f0), .string ((rd_T36 l0_0 x10_1).f1), .string ((rd_T36 l0_0 x10_1).f2), .int .i64 ((rd_T36 l0_0 x10_1).f3), .slice A168_4 ((rd_T36 l0_0 x10_1).f4).length c168_4] 36 ?hx ?hy rfl BK169.out ?hi (Nat.le_of_ble_eq_true rfl) ?h1 ?hc ?_; (case ho => rfl); (case hg => rfl); (case hn => rfl); (case hi => kernel_rfl); (case h1 => first | kernel_rfl | rfl); (case hc => kernel_rfl); (case hx => first | rfl | (go_simp; done) | (go_simp; rfl)); (case hy => first | rfl | (go_simp; done) | (go_simp; rfl)); intro w9 hbox hbut; have n0_ := Aside0.mk ((hbut.other NB167_169.out).trans BK167.out); have n1_ := Aside0.mk (hbox); have n2_ := Aside0.mk (HB.out.trans (hbut.below GE169.out)); clear BK167; clear BK169; clear HB; have BK167 := n0_; have BK169 := n1_; have HB := n2_; clear n0_ n1_ n2_; clear hbox hbut))
      (try simp only [Act.put, List.setIfInBounds_toArray, List.set_cons_zero, List.set_cons_succ])
      go_cut [52] (fun v52 wc => ∃ (kq : Nat) (x52_6 : Bool), v52 = .bool x52_6 ∧ Aside0 (impl_StateOk.j1 kq x10_1 l0_0 (l0_0.length : Int) x10_1 x52_6 l0_0 ((rd_T36 l0_0 x10_1).f0) ((rd_T36 l0_0 x10_1).f1) ((rd_T36 l0_0 x10_1).f2) ((rd_T36 l0_0 x10_1).f3) ((rd_T36 l0_0 x10_1).f4) = some r) ∧ Aside0 (kq ≤ k1) ∧ Aside0 (wc.heap[gb167]? = some (.cells #[(.slice (some ad168) l0_0.length c0_0)] 29 (0, 0))) ∧ Aside0 (wc.heap[gb169]? = some (.cells #[.int .i64 ((rd_T36 l0_0 x10_1).f0), .string ((rd_T36 l0_0 x10_1).f1), .string ((rd_T36 l0_0 x10_1).f2), .int .i64 ((rd_T36 l0_0 x10_1).f3), (.slice A168_4 ((rd_T36 l0_0 x10_1).f4).length c168_4)] 36 (0, 0))) ∧ Aside0 (Below w.heap.size w wc))
      case first =>
       have H := HC7.out
       clear HC7
       replace H := Option.bind_eq_some_iff.mp H
       obtain ⟨t170, A100, H⟩ := H
       (try set_option simprocs false in dsimp only at H)
       have A10 := Aside0.mk A100
       clear A100
       by_cases c11 : t170 = true
       ·subst c11
        (try rw [if_pos rfl] at H)
        replace H := Option.bind_eq_some_iff.mp H
        obtain ⟨t171, A120, H⟩ := H
        (try set_option simprocs false in dsimp only at H)
        have A12 := Aside0.mk A120
        clear A120
        by_cases c13 : t171 = true
        ·subst c13
         (try rw [if_pos rfl] at H)
         replace H := Option.bind_eq_some_iff.mp H
         obtain ⟨t172, A140, H⟩ := H
         (try set_option simprocs false in dsimp only at H)
         have A14 := Aside0.mk A140
         clear A140
         by_cases c15 : t172 = true
         ·subst c15
          (try rw [if_pos rfl] at H)
          replace H := Option.bind_eq_some_iff.mp H
          obtain ⟨t173, A160, H⟩ := H
          (try set_option simprocs false in dsimp only at H)
          have A16 := Aside0.mk A160
          clear A160
          by_cases c17 : t173 = true
          ·subst c17
           (try rw [if_pos rfl] at H)
           by_cases c18 : x10_1 > 0
           ·rw [if_pos c18] at H
            have c18b0 : decide (0 < x10_1) = true := decide_eq_true c18
            clear c18
            (first | rw [c18b0] | (simp only [i64_w, i32_w]; rw [c18b0]) | skip)
            obtain ⟨ji19, hji19⟩ : ∃ j_ : Int, (wrap64 (x10_1 - 1)) = j_ := ⟨_, rfl⟩
            replace H : (if 0 ≤ (ji19) then (if (ji19) < (l0_0.length : Int) then (impl_StateOk.j1 k1 x10_1 l0_0 (l0_0.length : Int) x10_1 (decide (((rd_T36 l0_0 (ji19)).f0) ≥ ((rd_T36 l0_0 x10_1).f0))) l0_0 ((rd_T36 l0_0 x10_1).f0) ((rd_T36 l0_0 x10_1).f1) ((rd_T36 l0_0 x10_1).f2) ((rd_T36 l0_0 x10_1).f3) ((rd_T36 l0_0 x10_1).f4)) else (none)) else (none)) = some r := by first | (rw [hji19] at H; exact H) | (simp only [hji19] at H ⊢; exact H)
            (try rw [hji19] at A10)
            (try rw [hji19] at A12)
            (try rw [hji19] at A14)
            (try rw [hji19] at A16)
            have hji19w : (IntKind.i64.wrap (x10_1 - 1)) = ji19 := (i64_w _).trans hji19
            by_cases c20 : 0 ≤ (ji19)
            ·rw [if_pos c20] at H
             have c20b0 : decide (0 ≤ (ji19)) = true := decide_eq_true c20
             clear c20
             by_cases c21 : (ji19) < (l0_0.length : Int)
             ·rw [if_pos c21] at H
              have c21b0 : decide ((ji19) < (l0_0.length : Int)) = true := decide_eq_true c21
              clear c21
              have H' := Aside0.mk H
              clear H
              try go_wp2
              have n0_ := Aside0.mk (blk_drew BK167.out)
              have n1_ := Aside0.mk (blk_drew BK169.out)
              have n2_ := Aside0.mk (below_drew1 HB.out)
              clear BK167
              clear BK169
              clear HB
              have BK167 := n0_
              have BK169 := n1_
              have HB := n2_
              clear n0_ n1_ n2_
              have p174 : 0 ≤ ((ji19) : Int) := of_decide_eq_true (by first | (with_reducible assumption) | assumption)
              have q174 : (ji19) < (l0_0.length : Int) := of_decide_eq_true (by first | (with_reducible assumption) | assumption)
              obtain ⟨ad174, A174_4, c174_4, e174, hx174_0, hx174_1, hx174_2, hx174_3, hx174_4, hl174_4, hi174_4⟩ := at_T36 HR0_0.out (ji19) p174 q174
              have hw174_4 := hx174_4
              have hw174_3 := hx174_3
              have hw174_2 := hx174_2
              have hw174_1 := hx174_1
              have hw174_0 := hx174_0
              obtain rfl : ad168 = ad174 := (by injection e174)
              replace hx174_0 := (HB.out.cell (World.block_lt_of_cell? w _ hx174_0)).trans hx174_0
              replace hx174_1 := (HB.out.cell (World.block_lt_of_cell? w _ hx174_1)).trans hx174_1
              replace hx174_2 := (HB.out.cell (World.block_lt_of_cell? w _ hx174_2)).trans hx174_2
              replace hx174_3 := (HB.out.cell (World.block_lt_of_cell? w _ hx174_3)).trans hx174_3
              replace hx174_4 := (HB.out.cell (World.block_lt_of_cell? w _ hx174_4)).trans hx174_4
              have HR174_4 := Aside0.mk hi174_4
              have HC174_4 := Aside0.mk hl174_4
              clear hi174_4 hl174_4
              replace p174 := eq_true p174
              replace q174 := eq_true q174
              refine start_ (n := 38) (S := fun w' => w'.cell? ⟨gb169, 0, none⟩ = some (.int .i64 ((rd_T36 l0_0 x10_1).f0)) ∧ w'.cell? ⟨gb169, 1, none⟩ = some (.string ((rd_T36 l0_0 x10_1).f1)) ∧ w'.cell? ⟨gb169, 2, none⟩ = some (.string ((rd_T36 l0_0 x10_1).f2)) ∧ w'.cell? ⟨gb169, 3, none⟩ = some (.int .i64 ((rd_T36 l0_0 x10_1).f3)) ∧ w'.cell? ⟨gb169, 4, none⟩ = some (.slice A168_4 ((rd_T36 l0_0 x10_1).f4).length c168_4) ∧ w'.cell? ⟨gb167, 0, none⟩ = some (.slice (some ad168) l0_0.length c0_0) ∧ w'.cell? (ad168.add (((ji19)).toNat * 5)) = some (.int .i64 ((rd_T36 l0_0 (ji19)).f0)) ∧ w'.cell? ⟨(ad168.add (((ji19)).toNat * 5)).block, (ad168.add (((ji19)).toNat * 5)).off + 1, none⟩ = some (.string ((rd_T36 l0_0 (ji19)).f1)) ∧ w'.cell? ⟨(ad168.add (((ji19)).toNat * 5)).block, (ad168.add (((ji19)).toNat * 5)).off + 2, none⟩ = some (.string ((rd_T36 l0_0 (ji19)).f2)) ∧ w'.cell? ⟨(ad168.add (((ji19)).toNat * 5)).block, (ad168.add (((ji19)).toNat * 5)).off + 3, none⟩ = some (.int .i64 ((rd_T36 l0_0 (ji19)).f3)) ∧ w'.cell? ⟨(ad168.add (((ji19)).toNat * 5)).block, (ad168.add (((ji19)).toNat * 5)).off + 4, none⟩ = some (.slice A174_4 ((rd_T36 l0_0 (ji19)).f4).length c174_4)) (ds := []) (fl 38 0) (by kernel_rfl) rfl rfl ⟨(blk_cell BK169.out 0).trans rfl, (blk_cell BK169.out 1).trans rfl, (blk_cell BK169.out 2).trans rfl, (blk_cell BK169.out 3).trans rfl, (blk_cell BK169.out 4).trans rfl, (blk_cell BK167.out 0).trans rfl, ((HB.out.cell (World.block_lt_of_cell? w _ hw174_0)).trans hw174_0), ((HB.out.cell (World.block_lt_of_cell? w _ hw174_1)).trans hw174_1), ((HB.out.cell (World.block_lt_of_cell? w _ hw174_2)).trans hw174_2), ((HB.out.cell (World.block_lt_of_cell? w _ hw174_3)).trans hw174_3), ((HB.out.cell (World.block_lt_of_cell? w _ hw174_4)).trans hw174_4)⟩ (fun hHeld => ?_); refine with_tabW impl_StateOk.tab4 impl_StateOk.bits4 (fun HT_ HW_ => ?_)
              generalize w9.drew = w22 at BK167 BK169 HB HR174_4 hx174_0 hx174_1 hx174_2 hx174_3 hx174_4 hHeld ⊢
              refine pq_ 0 15 (fl 38 1) HT_.out ?_
              refine tq_ 1 16 (fl 38 3) HT_.out HW_.out hHeld ?_
              refine one_ (i := 2) (N := some 17) (fl 38 7) rfl rfl (one_of HT_.out (by kernel_rfl)) (by decide) (fun K hK => ?_)
              refine goes_ Try.func13 (by kernel_rfl) rfl #[.int .i64 ((rd_T36 l0_0 x10_1).f0), .int .i64 1, .int .i64 9999] (by rfl) rfl rfl (by (try simp only [List.map_toArray, List.map_cons, List.map_nil]); first | done | rfl | (simp only [List.length_drop, List.length_take]; rfl)) ?_
              with_reducible refine (impl_in.calls ((rd_T36 l0_0 x10_1).f0) 1 9999 true _ A10.out).mono ?_
              rintro e w' ⟨rfl, ⟨nd, rfl⟩⟩
              refine ⟨_, rfl, ?_⟩
              refine hK.out _ _ ⟨(blk_cell BK169.out 0).trans rfl, (blk_cell BK169.out 1).trans rfl, (blk_cell BK169.out 2).trans rfl, (blk_cell BK169.out 3).trans rfl, (blk_cell BK169.out 4).trans rfl, (blk_cell BK167.out 0).trans rfl, ((HB.out.cell (World.block_lt_of_cell? w _ hw174_0)).trans hw174_0), ((HB.out.cell (World.block_lt_of_cell? w _ hw174_1)).trans hw174_1), ((HB.out.cell (World.block_lt_of_cell? w _ hw174_2)).trans hw174_2), ((HB.out.cell (World.block_lt_of_cell? w _ hw174_3)).trans hw174_3), ((HB.out.cell (World.block_lt_of_cell? w _ hw174_4)).trans hw174_4)⟩ (fun hHeld => ?_)
              clear hK K
              refine norm_ (a' := ?_) ?_ ?_
              rotate_left
              ·show Act.put _ (some 17) _ = _
               simp only [Act.put, List.setIfInBounds_toArray, List.set_cons_zero, List.set_cons_succ, i64_w, i32_w]
               rfl
              refine pq_ 3 18 (fl 38 15) HT_.out ?_
              refine pq_ 4 19 (fl 38 31) HT_.out ?_
              refine pq_ 5 20 (fl 38 63) HT_.out ?_
              refine tq_ 6 21 (fl 38 127) HT_.out HW_.out hHeld ?_
              refine one_ (i := 7) (N := some 22) (fl 38 255) rfl rfl (one_of HT_.out (by kernel_rfl)) (by decide) (fun K hK => ?_)
              refine goes_ Try.func14 (by kernel_rfl) rfl #[.string ((rd_T36 l0_0 x10_1).f1)] (by rfl) rfl rfl (by (try simp only [List.map_toArray, List.map_cons, List.map_nil]); first | done | rfl | (simp only [List.length_drop, List.length_take]; rfl)) ?_
              with_reducible refine (impl_WordOk.calls k1 ((rd_T36 l0_0 x10_1).f1) true _ A12.out).mono ?_
              rintro e w' ⟨rfl, ⟨nd, rfl⟩⟩
              refine ⟨_, rfl, ?_⟩
              refine hK.out _ _ ⟨(blk_cell BK169.out 0).trans rfl, (blk_cell BK169.out 1).trans rfl, (blk_cell BK169.out 2).trans rfl, (blk_cell BK169.out 3).trans rfl, (blk_cell BK169.out 4).trans rfl, (blk_cell BK167.out 0).trans rfl, ((HB.out.cell (World.block_lt_of_cell? w _ hw174_0)).trans hw174_0), ((HB.out.cell (World.block_lt_of_cell? w _ hw174_1)).trans hw174_1), ((HB.out.cell (World.block_lt_of_cell? w _ hw174_2)).trans hw174_2), ((HB.out.cell (World.block_lt_of_cell? w _ hw174_3)).trans hw174_3), ((HB.out.cell (World.block_lt_of_cell? w _ hw174_4)).trans hw174_4)⟩ (fun hHeld => ?_)
              clear hK K
              refine norm_ (a' := ?_) ?_ ?_
              rotate_left
              ·show Act.put _ (some 22) _ = _
               simp only [Act.put, List.setIfInBounds_toArray, List.set_cons_zero, List.set_cons_succ, i64_w, i32_w]
               rfl
              refine pq_ 8 23 (fl 38 511) HT_.out ?_
              refine pq_ 9 24 (fl 38 1023) HT_.out ?_
              refine pq_ 10 25 (fl 38 2047) HT_.out ?_
              refine pq_ 11 26 (fl 38 4095) HT_.out ?_
              refine tq_ 12 27 (fl 38 8191) HT_.out HW_.out hHeld ?_
              refine one_ (i := 13) (N := some 28) (fl 38 16383) rfl rfl (one_of HT_.out (by kernel_rfl)) (by decide) (fun K hK => ?_)
              refine goes_ Try.func14 (by kernel_rfl) rfl #[.string ((rd_T36 l0_0 x10_1).f2)] (by rfl) rfl rfl (by (try simp only [List.map_toArray, List.map_cons, List.map_nil]); first | done | rfl | (simp only [List.length_drop, List.length_take]; rfl)) ?_
              with_reducible refine (impl_WordOk.calls k1 ((rd_T36 l0_0 x10_1).f2) true _ A14.out).mono ?_
              rintro e w' ⟨rfl, ⟨nd, rfl⟩⟩
              refine ⟨_, rfl, ?_⟩
              refine hK.out _ _ ⟨(blk_cell BK169.out 0).trans rfl, (blk_cell BK169.out 1).trans rfl, (blk_cell BK169.out 2).trans rfl, (blk_cell BK169.out 3).trans rfl, (blk_cell BK169.out 4).trans rfl, (blk_cell BK167.out 0).trans rfl, ((HB.out.cell (World.block_lt_of_cell? w _ hw174_0)).trans hw174_0), ((HB.out.cell (World.block_lt_of_cell? w _ hw174_1)).trans hw174_1), ((HB.out.cell (World.block_lt_of_cell? w _ hw174_2)).trans hw174_2), ((HB.out.cell (World.block_lt_of_cell? w _ hw174_3)).trans hw174_3), ((HB.out.cell (World.block_lt_of_cell? w _ hw174_4)).trans hw174_4)⟩ (fun hHeld => ?_)
              clear hK K
              refine norm_ (a' := ?_) ?_ ?_
              rotate_left
              ·show Act.put _ (some 28) _ = _
               simp only [Act.put, List.setIfInBounds_toArray, List.set_cons_zero, List.set_cons_succ, i64_w, i32_w]
               rfl
              refine pq_ 14 29 (fl 38 32767) HT_.out ?_
              refine pq_ 15 30 (fl 38 65535) HT_.out ?_
              refine pq_ 16 31 (fl 38 131071) HT_.out ?_
              refine pq_ 17 32 (fl 38 262143) HT_.out ?_
              refine tq_ 18 33 (fl 38 524287) HT_.out HW_.out hHeld ?_
              refine one_ (i := 19) (N := some 34) (fl 38 1048575) rfl rfl (one_of HT_.out (by kernel_rfl)) (by decide) (fun K hK => ?_)
              refine goes_ Try.func13 (by kernel_rfl) rfl #[.int .i64 ((rd_T36 l0_0 x10_1).f3), .int .i64 1, .int .i64 10000] (by rfl) rfl rfl (by (try simp only [List.map_toArray, List.map_cons, List.map_nil]); first | done | rfl | (simp only [List.length_drop, List.length_take]; rfl)) ?_
              with_reducible refine (impl_in.calls ((rd_T36 l0_0 x10_1).f3) 1 10000 true _ A16.out).mono ?_
              rintro e w' ⟨rfl, ⟨nd, rfl⟩⟩
              refine ⟨_, rfl, ?_⟩
              refine hK.out _ _ ⟨(blk_cell BK169.out 0).trans rfl, (blk_cell BK169.out 1).trans rfl, (blk_cell BK169.out 2).trans rfl, (blk_cell BK169.out 3).trans rfl, (blk_cell BK169.out 4).trans rfl, (blk_cell BK167.out 0).trans rfl, ((HB.out.cell (World.block_lt_of_cell? w _ hw174_0)).trans hw174_0), ((HB.out.cell (World.block_lt_of_cell? w _ hw174_1)).trans hw174_1), ((HB.out.cell (World.block_lt_of_cell? w _ hw174_2)).trans hw174_2), ((HB.out.cell (World.block_lt_of_cell? w _ hw174_3)).trans hw174_3), ((HB.out.cell (World.block_lt_of_cell? w _ hw174_4)).trans hw174_4)⟩ (fun hHeld => ?_)
              clear hK K
              refine norm_ (a' := ?_) ?_ ?_
              rotate_left
              ·show Act.put _ (some 34) _ = _
               simp only [Act.put, List.setIfInBounds_toArray, List.set_cons_zero, List.set_cons_succ, i64_w, i32_w]
               rfl
              refine pq_ 20 35 (fl 38 2097151) HT_.out ?_
              refine pq_ 21 36 (fl 38 4194303) HT_.out ?_
              refine pq_ 22 37 (fl 38 8388607) HT_.out ?_
              refine pq_ 23 38 (fl 38 16777215) HT_.out ?_
              refine pq_ 24 39 (fl 38 33554431) HT_.out ?_
              refine pq_ 25 40 (fl 38 67108863) HT_.out ?_
              refine pq_ 26 41 (fl 38 134217727) HT_.out ?_
              refine pq_ 28 43 (fl 38 402653183) HT_.out ?_
              refine pq_ 29 44 (fl 38 939524095) HT_.out ?_
              refine pq_ 33 48 (fl 38 9529458687) HT_.out ?_
              refine tq_ 27 42 (fl 38 9663676415) HT_.out HW_.out hHeld ?_
              refine pq_ 30 45 (fl 38 10737418239) HT_.out ?_
              refine pq_ 31 46 (fl 38 12884901887) HT_.out ?_
              refine tq_ 32 47 (fl 38 17179869183) HT_.out HW_.out hHeld ?_
              refine tq_ 34 49 (fl 38 34359738367) HT_.out HW_.out hHeld ?_
              refine pq_ 35 50 (fl 38 68719476735) HT_.out ?_
              refine pq_ 36 51 (fl 38 137438953471) HT_.out ?_
              refine pq_ 37 52 (fl 38 274877906943) HT_.out ?_
              refine done_ (done_of HT_.out (by kernel_rfl)) ?_
              try go_wp2
              go_meet
              case rel => exact ⟨_, (decide (((rd_T36 l0_0 (ji19)).f0) ≥ ((rd_T36 l0_0 x10_1).f0))), (by first | rfl | (simp; done) | (simp only [← hji19] <;> (first | rfl | simp)) | (simp [*]; done) | (simp; exact (by intro l; cases l <;> rfl : ∀ l : List UInt8, l.isEmpty = !(l != [])) _)), H', ⟨by have := HK1.out; first | omega | exact Nat.le_refl _⟩, ⟨by (with_reducible repeat (first | refine blk_drewN ?_ _ | refine blk_drew ?_ | refine blk_alloc ?_ _)); exact BK167.out⟩, ⟨by (with_reducible repeat (first | refine blk_drewN ?_ _ | refine blk_drew ?_ | refine blk_alloc ?_ _)); exact BK169.out⟩, ⟨by repeat (first | (with_reducible first | exact HB.out | apply below_alloc | apply pw_below_drewN | apply below_drew1 | refine below_set ?_ GE167.out | refine below_set ?_ GE169.out) | exact HB.out)⟩⟩
             ·rw [if_neg c21] at H
              exact absurd H (by simp)
            ·rw [if_neg c20] at H
             exact absurd H (by simp)
           ·rw [if_neg c18] at H
            have c18b0 : decide (0 < x10_1) = false := decide_eq_false c18
            clear c18
            (first | rw [c18b0] | (simp only [i64_w, i32_w]; rw [c18b0]) | skip)
            have H' := Aside0.mk H
            clear H
            try go_wp2
            have n0_ := Aside0.mk (blk_drew BK167.out)
            have n1_ := Aside0.mk (blk_drew BK169.out)
            have n2_ := Aside0.mk (below_drew1 HB.out)
            clear BK167
            clear BK169
            clear HB
            have BK167 := n0_
            have BK169 := n1_
            have HB := n2_
            clear n0_ n1_ n2_
            refine start_ (n := 38) (S := fun w' => w'.cell? ⟨gb169, 0, none⟩ = some (.int .i64 ((rd_T36 l0_0 x10_1).f0)) ∧ w'.cell? ⟨gb169, 1, none⟩ = some (.string ((rd_T36 l0_0 x10_1).f1)) ∧ w'.cell? ⟨gb169, 2, none⟩ = some (.string ((rd_T36 l0_0 x10_1).f2)) ∧ w'.cell? ⟨gb169, 3, none⟩ = some (.int .i64 ((rd_T36 l0_0 x10_1).f3)) ∧ w'.cell? ⟨gb169, 4, none⟩ = some (.slice A168_4 ((rd_T36 l0_0 x10_1).f4).length c168_4)) (ds := []) (fl 38 0) (by kernel_rfl) rfl rfl ⟨(blk_cell BK169.out 0).trans rfl, (blk_cell BK169.out 1).trans rfl, (blk_cell BK169.out 2).trans rfl, (blk_cell BK169.out 3).trans rfl, (blk_cell BK169.out 4).trans rfl⟩ (fun hHeld => ?_); refine with_tabW impl_StateOk.tab4 impl_StateOk.bits4 (fun HT_ HW_ => ?_)
            generalize w9.drew = w23 at BK167 BK169 HB hHeld ⊢
            refine pq_ 0 15 (fl 38 1) HT_.out ?_
            refine tq_ 1 16 (fl 38 3) HT_.out HW_.out hHeld ?_
            refine one_ (i := 2) (N := some 17) (fl 38 7) rfl rfl (one_of HT_.out (by kernel_rfl)) (by decide) (fun K hK => ?_)
            refine goes_ Try.func13 (by kernel_rfl) rfl #[.int .i64 ((rd_T36 l0_0 x10_1).f0), .int .i64 1, .int .i64 9999] (by rfl) rfl rfl (by (try simp only [List.map_toArray, List.map_cons, List.map_nil]); first | done | rfl | (simp only [List.length_drop, List.length_take]; rfl)) ?_
            with_reducible refine (impl_in.calls ((rd_T36 l0_0 x10_1).f0) 1 9999 true _ A10.out).mono ?_
            rintro e w' ⟨rfl, ⟨nd, rfl⟩⟩
            refine ⟨_, rfl, ?_⟩
            refine hK.out _ _ ⟨(blk_cell BK169.out 0).trans rfl, (blk_cell BK169.out 1).trans rfl, (blk_cell BK169.out 2).trans rfl, (blk_cell BK169.out 3).trans rfl, (blk_cell BK169.out 4).trans rfl⟩ (fun hHeld => ?_)
            clear hK K
            refine norm_ (a' := ?_) ?_ ?_
            rotate_left
            ·show Act.put _ (some 17) _ = _
             simp only [Act.put, List.setIfInBounds_toArray, List.set_cons_zero, List.set_cons_succ, i64_w, i32_w]
             rfl
            refine pq_ 3 18 (fl 38 15) HT_.out ?_
            refine pq_ 4 19 (fl 38 31) HT_.out ?_
            refine pq_ 5 20 (fl 38 63) HT_.out ?_
            refine tq_ 6 21 (fl 38 127) HT_.out HW_.out hHeld ?_
            refine one_ (i := 7) (N := some 22) (fl 38 255) rfl rfl (one_of HT_.out (by kernel_rfl)) (by decide) (fun K hK => ?_)
            refine goes_ Try.func14 (by kernel_rfl) rfl #[.string ((rd_T36 l0_0 x10_1).f1)] (by rfl) rfl rfl (by (try simp only [List.map_toArray, List.map_cons, List.map_nil]); first | done | rfl | (simp only [List.length_drop, List.length_take]; rfl)) ?_
            with_reducible refine (impl_WordOk.calls k1 ((rd_T36 l0_0 x10_1).f1) true _ A12.out).mono ?_
            rintro e w' ⟨rfl, ⟨nd, rfl⟩⟩
            refine ⟨_, rfl, ?_⟩
            refine hK.out _ _ ⟨(blk_cell BK169.out 0).trans rfl, (blk_cell BK169.out 1).trans rfl, (blk_cell BK169.out 2).trans rfl, (blk_cell BK169.out 3).trans rfl, (blk_cell BK169.out 4).trans rfl⟩ (fun hHeld => ?_)
            clear hK K
            refine norm_ (a' := ?_) ?_ ?_
            rotate_left
            ·show Act.put _ (some 22) _ = _
             simp only [Act.put, List.setIfInBounds_toArray, List.set_cons_zero, List.set_cons_succ, i64_w, i32_w]
             rfl
            refine pq_ 8 23 (fl 38 511) HT_.out ?_
            refine pq_ 9 24 (fl 38 1023) HT_.out ?_
            refine pq_ 10 25 (fl 38 2047) HT_.out ?_
            refine pq_ 11 26 (fl 38 4095) HT_.out ?_
            refine tq_ 12 27 (fl 38 8191) HT_.out HW_.out hHeld ?_
            refine one_ (i := 13) (N := some 28) (fl 38 16383) rfl rfl (one_of HT_.out (by kernel_rfl)) (by decide) (fun K hK => ?_)
            refine goes_ Try.func14 (by kernel_rfl) rfl #[.string ((rd_T36 l0_0 x10_1).f2)] (by rfl) rfl rfl (by (try simp only [List.map_toArray, List.map_cons, List.map_nil]); first | done | rfl | (simp only [List.length_drop, List.length_take]; rfl)) ?_
            with_reducible refine (impl_WordOk.calls k1 ((rd_T36 l0_0 x10_1).f2) true _ A14.out).mono ?_
            rintro e w' ⟨rfl, ⟨nd, rfl⟩⟩
            refine ⟨_, rfl, ?_⟩
            refine hK.out _ _ ⟨(blk_cell BK169.out 0).trans rfl, (blk_cell BK169.out 1).trans rfl, (blk_cell BK169.out 2).trans rfl, (blk_cell BK169.out 3).trans rfl, (blk_cell BK169.out 4).trans rfl⟩ (fun hHeld => ?_)
            clear hK K
            refine norm_ (a' := ?_) ?_ ?_
            rotate_left
            ·show Act.put _ (some 28) _ = _
             simp only [Act.put, List.setIfInBounds_toArray, List.set_cons_zero, List.set_cons_succ, i64_w, i32_w]
             rfl
            refine pq_ 14 29 (fl 38 32767) HT_.out ?_
            refine pq_ 15 30 (fl 38 65535) HT_.out ?_
            refine pq_ 16 31 (fl 38 131071) HT_.out ?_
            refine pq_ 17 32 (fl 38 262143) HT_.out ?_
            refine tq_ 18 33 (fl 38 524287) HT_.out HW_.out hHeld ?_
            refine one_ (i := 19) (N := some 34) (fl 38 1048575) rfl rfl (one_of HT_.out (by kernel_rfl)) (by decide) (fun K hK => ?_)
            refine goes_ Try.func13 (by kernel_rfl) rfl #[.int .i64 ((rd_T36 l0_0 x10_1).f3), .int .i64 1, .int .i64 10000] (by rfl) rfl rfl (by (try simp only [List.map_toArray, List.map_cons, List.map_nil]); first | done | rfl | (simp only [List.length_drop, List.length_take]; rfl)) ?_
            with_reducible refine (impl_in.calls ((rd_T36 l0_0 x10_1).f3) 1 10000 true _ A16.out).mono ?_
            rintro e w' ⟨rfl, ⟨nd, rfl⟩⟩
            refine ⟨_, rfl, ?_⟩
            refine hK.out _ _ ⟨(blk_cell BK169.out 0).trans rfl, (blk_cell BK169.out 1).trans rfl, (blk_cell BK169.out 2).trans rfl, (blk_cell BK169.out 3).trans rfl, (blk_cell BK169.out 4).trans rfl⟩ (fun hHeld => ?_)
            clear hK K
            refine norm_ (a' := ?_) ?_ ?_
            rotate_left
            ·show Act.put _ (some 34) _ = _
             simp only [Act.put, List.setIfInBounds_toArray, List.set_cons_zero, List.set_cons_succ, i64_w, i32_w]
             rfl
            refine pq_ 20 35 (fl 38 2097151) HT_.out ?_
            refine pq_ 21 36 (fl 38 4194303) HT_.out ?_
            refine pq_ 22 37 (fl 38 8388607) HT_.out ?_
            refine pq_ 23 38 (fl 38 16777215) HT_.out ?_
            refine pq_ 24 39 (fl 38 33554431) HT_.out ?_
            refine pq_ 25 40 (fl 38 67108863) HT_.out ?_
            refine pu_ 26 41 (fl 38 134217727) HT_.out ?_
            refine pu_ 27 42 (fl 38 268435455) HT_.out ?_
            refine pu_ 28 43 (fl 38 536870911) HT_.out ?_
            refine pu_ 29 44 (fl 38 1073741823) HT_.out ?_
            refine pu_ 30 45 (fl 38 2147483647) HT_.out ?_
            refine pu_ 31 46 (fl 38 4294967295) HT_.out ?_
            refine pu_ 32 47 (fl 38 8589934591) HT_.out ?_
            refine pu_ 33 48 (fl 38 17179869183) HT_.out ?_
            refine pu_ 34 49 (fl 38 34359738367) HT_.out ?_
            refine pu_ 35 50 (fl 38 68719476735) HT_.out ?_
            refine pq_ 36 51 (fl 38 137438953471) HT_.out ?_
            refine pq_ 37 52 (fl 38 274877906943) HT_.out ?_
            refine done_ (done_of HT_.out (by kernel_rfl)) ?_
            try go_wp2
            go_meet
            case rel => exact ⟨_, (false), (by first | rfl | (simp; done) | (simp [*]; done) | (simp; exact (by intro l; cases l <;> rfl : ∀ l : List UInt8, l.isEmpty = !(l != [])) _)), H', ⟨by have := HK1.out; first | omega | exact Nat.le_refl _⟩, ⟨by (with_reducible repeat (first | refine blk_drewN ?_ _ | refine blk_drew ?_ | refine blk_alloc ?_ _)); exact BK167.out⟩, ⟨by (with_reducible repeat (first | refine blk_drewN ?_ _ | refine blk_drew ?_ | refine blk_alloc ?_ _)); exact BK169.out⟩, ⟨by repeat (first | (with_reducible first | exact HB.out | apply below_alloc | apply pw_below_drewN | apply below_drew1 | refine below_set ?_ GE167.out | refine below_set ?_ GE169.out) | exact HB.out)⟩⟩
          ·replace c17 := Bool.eq_false_iff.mpr c17
           subst c17
           (try rw [if_neg (show ¬ (false = true) by decide)] at H)
           have H' := Aside0.mk H
           clear H
           try go_wp2
           have n0_ := Aside0.mk (blk_drew BK167.out)
           have n1_ := Aside0.mk (blk_drew BK169.out)
           have n2_ := Aside0.mk (below_drew1 HB.out)
           clear BK167
           clear BK169
           clear HB
           have BK167 := n0_
           have BK169 := n1_
           have HB := n2_
           clear n0_ n1_ n2_
           refine start_ (n := 38) (S := fun w' => w'.cell? ⟨gb169, 0, none⟩ = some (.int .i64 ((rd_T36 l0_0 x10_1).f0)) ∧ w'.cell? ⟨gb169, 1, none⟩ = some (.string ((rd_T36 l0_0 x10_1).f1)) ∧ w'.cell? ⟨gb169, 2, none⟩ = some (.string ((rd_T36 l0_0 x10_1).f2)) ∧ w'.cell? ⟨gb169, 3, none⟩ = some (.int .i64 ((rd_T36 l0_0 x10_1).f3)) ∧ w'.cell? ⟨gb169, 4, none⟩ = some (.slice A168_4 ((rd_T36 l0_0 x10_1).f4).length c168_4)) (ds := []) (fl 38 0) (by kernel_rfl) rfl rfl ⟨(blk_cell BK169.out 0).trans rfl, (blk_cell BK169.out 1).trans rfl, (blk_cell BK169.out 2).trans rfl, (blk_cell BK169.out 3).trans rfl, (blk_cell BK169.out 4).trans rfl⟩ (fun hHeld => ?_); refine with_tabW impl_StateOk.tab4 impl_StateOk.bits4 (fun HT_ HW_ => ?_)
           generalize w9.drew = w24 at BK167 BK169 HB hHeld ⊢
           refine pq_ 0 15 (fl 38 1) HT_.out ?_
           refine tq_ 1 16 (fl 38 3) HT_.out HW_.out hHeld ?_
           refine one_ (i := 2) (N := some 17) (fl 38 7) rfl rfl (one_of HT_.out (by kernel_rfl)) (by decide) (fun K hK => ?_)
           refine goes_ Try.func13 (by kernel_rfl) rfl #[.int .i64 ((rd_T36 l0_0 x10_1).f0), .int .i64 1, .int .i64 9999] (by rfl) rfl rfl (by (try simp only [List.map_toArray, List.map_cons, List.map_nil]); first | done | rfl | (simp only [List.length_drop, List.length_take]; rfl)) ?_
           with_reducible refine (impl_in.calls ((rd_T36 l0_0 x10_1).f0) 1 9999 true _ A10.out).mono ?_
           rintro e w' ⟨rfl, ⟨nd, rfl⟩⟩
           refine ⟨_, rfl, ?_⟩
           refine hK.out _ _ ⟨(blk_cell BK169.out 0).trans rfl, (blk_cell BK169.out 1).trans rfl, (blk_cell BK169.out 2).trans rfl, (blk_cell BK169.out 3).trans rfl, (blk_cell BK169.out 4).trans rfl⟩ (fun hHeld => ?_)
           clear hK K
           refine norm_ (a' := ?_) ?_ ?_
           rotate_left
           ·show Act.put _ (some 17) _ = _
            simp only [Act.put, List.setIfInBounds_toArray, List.set_cons_zero, List.set_cons_succ, i64_w, i32_w]
            rfl
           refine pq_ 3 18 (fl 38 15) HT_.out ?_
           refine pq_ 4 19 (fl 38 31) HT_.out ?_
           refine pq_ 5 20 (fl 38 63) HT_.out ?_
           refine tq_ 6 21 (fl 38 127) HT_.out HW_.out hHeld ?_
           refine one_ (i := 7) (N := some 22) (fl 38 255) rfl rfl (one_of HT_.out (by kernel_rfl)) (by decide) (fun K hK => ?_)
           refine goes_ Try.func14 (by kernel_rfl) rfl #[.string ((rd_T36 l0_0 x10_1).f1)] (by rfl) rfl rfl (by (try simp only [List.map_toArray, List.map_cons, List.map_nil]); first | done | rfl | (simp only [List.length_drop, List.length_take]; rfl)) ?_
           with_reducible refine (impl_WordOk.calls k1 ((rd_T36 l0_0 x10_1).f1) true _ A12.out).mono ?_
           rintro e w' ⟨rfl, ⟨nd, rfl⟩⟩
           refine ⟨_, rfl, ?_⟩
           refine hK.out _ _ ⟨(blk_cell BK169.out 0).trans rfl, (blk_cell BK169.out 1).trans rfl, (blk_cell BK169.out 2).trans rfl, (blk_cell BK169.out 3).trans rfl, (blk_cell BK169.out 4).trans rfl⟩ (fun hHeld => ?_)
           clear hK K
           refine norm_ (a' := ?_) ?_ ?_
           rotate_left
           ·show Act.put _ (some 22) _ = _
            simp only [Act.put, List.setIfInBounds_toArray, List.set_cons_zero, List.set_cons_succ, i64_w, i32_w]
            rfl
           refine pq_ 8 23 (fl 38 511) HT_.out ?_
           refine pq_ 9 24 (fl 38 1023) HT_.out ?_
           refine pq_ 10 25 (fl 38 2047) HT_.out ?_
           refine pq_ 11 26 (fl 38 4095) HT_.out ?_
           refine tq_ 12 27 (fl 38 8191) HT_.out HW_.out hHeld ?_
           refine one_ (i := 13) (N := some 28) (fl 38 16383) rfl rfl (one_of HT_.out (by kernel_rfl)) (by decide) (fun K hK => ?_)
           refine goes_ Try.func14 (by kernel_rfl) rfl #[.string ((rd_T36 l0_0 x10_1).f2)] (by rfl) rfl rfl (by (try simp only [List.map_toArray, List.map_cons, List.map_nil]); first | done | rfl | (simp only [List.length_drop, List.length_take]; rfl)) ?_
           with_reducible refine (impl_WordOk.calls k1 ((rd_T36 l0_0 x10_1).f2) true _ A14.out).mono ?_
           rintro e w' ⟨rfl, ⟨nd, rfl⟩⟩
           refine ⟨_, rfl, ?_⟩
           refine hK.out _ _ ⟨(blk_cell BK169.out 0).trans rfl, (blk_cell BK169.out 1).trans rfl, (blk_cell BK169.out 2).trans rfl, (blk_cell BK169.out 3).trans rfl, (blk_cell BK169.out 4).trans rfl⟩ (fun hHeld => ?_)
           clear hK K
           refine norm_ (a' := ?_) ?_ ?_
           rotate_left
           ·show Act.put _ (some 28) _ = _
            simp only [Act.put, List.setIfInBounds_toArray, List.set_cons_zero, List.set_cons_succ, i64_w, i32_w]
            rfl
           refine pq_ 14 29 (fl 38 32767) HT_.out ?_
           refine pq_ 15 30 (fl 38 65535) HT_.out ?_
           refine pq_ 16 31 (fl 38 131071) HT_.out ?_
           refine pq_ 17 32 (fl 38 262143) HT_.out ?_
           refine tq_ 18 33 (fl 38 524287) HT_.out HW_.out hHeld ?_
           refine one_ (i := 19) (N := some 34) (fl 38 1048575) rfl rfl (one_of HT_.out (by kernel_rfl)) (by decide) (fun K hK => ?_)
           refine goes_ Try.func13 (by kernel_rfl) rfl #[.int .i64 ((rd_T36 l0_0 x10_1).f3), .int .i64 1, .int .i64 10000] (by rfl) rfl rfl (by (try simp only [List.map_toArray, List.map_cons, List.map_nil]); first | done | rfl | (simp only [List.length_drop, List.length_take]; rfl)) ?_
           with_reducible refine (impl_in.calls ((rd_T36 l0_0 x10_1).f3) 1 10000 false _ A16.out).mono ?_
           rintro e w' ⟨rfl, ⟨nd, rfl⟩⟩
           refine ⟨_, rfl, ?_⟩
           refine hK.out _ _ ⟨(blk_cell BK169.out 0).trans rfl, (blk_cell BK169.out 1).trans rfl, (blk_cell BK169.out 2).trans rfl, (blk_cell BK169.out 3).trans rfl, (blk_cell BK169.out 4).trans rfl⟩ (fun hHeld => ?_)
           clear hK K
           refine norm_ (a' := ?_) ?_ ?_
           rotate_left
           ·show Act.put _ (some 34) _ = _
            simp only [Act.put, List.setIfInBounds_toArray, List.set_cons_zero, List.set_cons_succ, i64_w, i32_w]
            rfl
           refine pq_ 20 35 (fl 38 2097151) HT_.out ?_
           refine pq_ 21 36 (fl 38 4194303) HT_.out ?_
           refine pq_ 22 37 (fl 38 8388607) HT_.out ?_
           refine pu_ 23 38 (fl 38 16777215) HT_.out ?_
           refine pu_ 24 39 (fl 38 33554431) HT_.out ?_
           refine pu_ 25 40 (fl 38 67108863) HT_.out ?_
           refine pu_ 26 41 (fl 38 134217727) HT_.out ?_
           refine pu_ 27 42 (fl 38 268435455) HT_.out ?_
           refine pu_ 28 43 (fl 38 536870911) HT_.out ?_
           refine pu_ 29 44 (fl 38 1073741823) HT_.out ?_
           refine pu_ 30 45 (fl 38 2147483647) HT_.out ?_
           refine pu_ 31 46 (fl 38 4294967295) HT_.out ?_
           refine pu_ 32 47 (fl 38 8589934591) HT_.out ?_
           refine pu_ 33 48 (fl 38 17179869183) HT_.out ?_
           refine pu_ 34 49 (fl 38 34359738367) HT_.out ?_
           refine pu_ 35 50 (fl 38 68719476735) HT_.out ?_
           refine pu_ 36 51 (fl 38 137438953471) HT_.out ?_
           refine pq_ 37 52 (fl 38 274877906943) HT_.out ?_
           refine done_ (done_of HT_.out (by kernel_rfl)) ?_
           try go_wp2
           go_meet
           case rel => exact ⟨_, (true), (by first | rfl | (simp; done) | (simp [*]; done) | (simp; exact (by intro l; cases l <;> rfl : ∀ l : List UInt8, l.isEmpty = !(l != [])) _)), H', ⟨by have := HK1.out; first | omega | exact Nat.le_refl _⟩, ⟨by (with_reducible repeat (first | refine blk_drewN ?_ _ | refine blk_drew ?_ | refine blk_alloc ?_ _)); exact BK167.out⟩, ⟨by (with_reducible repeat (first | refine blk_drewN ?_ _ | refine blk_drew ?_ | refine blk_alloc ?_ _)); exact BK169.out⟩, ⟨by repeat (first | (with_reducible first | exact HB.out | apply below_alloc | apply pw_below_drewN | apply below_drew1 | refine below_set ?_ GE167.out | refine below_set ?_ GE169.out) | exact HB.out)⟩⟩
         ·replace c15 := Bool.eq_false_iff.mpr c15
          subst c15
          (try rw [if_neg (show ¬ (false = true) by decide)] at H)
          have H' := Aside0.mk H
          clear H
          try go_wp2
          have n0_ := Aside0.mk (blk_drew BK167.out)
          have n1_ := Aside0.mk (blk_drew BK169.out)
          have n2_ := Aside0.mk (below_drew1 HB.out)
          clear BK167
          clear BK169
          clear HB
          have BK167 := n0_
          have BK169 := n1_
          have HB := n2_
          clear n0_ n1_ n2_
          refine start_ (n := 38) (S := fun w' => w'.cell? ⟨gb169, 0, none⟩ = some (.int .i64 ((rd_T36 l0_0 x10_1).f0)) ∧ w'.cell? ⟨gb169, 1, none⟩ = some (.string ((rd_T36 l0_0 x10_1).f1)) ∧ w'.cell? ⟨gb169, 2, none⟩ = some (.string ((rd_T36 l0_0 x10_1).f2)) ∧ w'.cell? ⟨gb169, 3, none⟩ = some (.int .i64 ((rd_T36 l0_0 x10_1).f3)) ∧ w'.cell? ⟨gb169, 4, none⟩ = some (.slice A168_4 ((rd_T36 l0_0 x10_1).f4).length c168_4)) (ds := []) (fl 38 0) (by kernel_rfl) rfl rfl ⟨(blk_cell BK169.out 0).trans rfl, (blk_cell BK169.out 1).trans rfl, (blk_cell BK169.out 2).trans rfl, (blk_cell BK169.out 3).trans rfl, (blk_cell BK169.out 4).trans rfl⟩ (fun hHeld => ?_); refine with_tabW impl_StateOk.tab4 impl_StateOk.bits4 (fun HT_ HW_ => ?_)
          generalize w9.drew = w25 at BK167 BK169 HB hHeld ⊢
          refine pq_ 0 15 (fl 38 1) HT_.out ?_
          refine tq_ 1 16 (fl 38 3) HT_.out HW_.out hHeld ?_
          refine one_ (i := 2) (N := some 17) (fl 38 7) rfl rfl (one_of HT_.out (by kernel_rfl)) (by decide) (fun K hK => ?_)
          refine goes_ Try.func13 (by kernel_rfl) rfl #[.int .i64 ((rd_T36 l0_0 x10_1).f0), .int .i64 1, .int .i64 9999] (by rfl) rfl rfl (by (try simp only [List.map_toArray, List.map_cons, List.map_nil]); first | done | rfl | (simp only [List.length_drop, List.length_take]; rfl)) ?_
          with_reducible refine (impl_in.calls ((rd_T36 l0_0 x10_1).f0) 1 9999 true _ A10.out).mono ?_
          rintro e w' ⟨rfl, ⟨nd, rfl⟩⟩
          refine ⟨_, rfl, ?_⟩
          refine hK.out _ _ ⟨(blk_cell BK169.out 0).trans rfl, (blk_cell BK169.out 1).trans rfl, (blk_cell BK169.out 2).trans rfl, (blk_cell BK169.out 3).trans rfl, (blk_cell BK169.out 4).trans rfl⟩ (fun hHeld => ?_)
          clear hK K
          refine norm_ (a' := ?_) ?_ ?_
          rotate_left
          ·show Act.put _ (some 17) _ = _
           simp only [Act.put, List.setIfInBounds_toArray, List.set_cons_zero, List.set_cons_succ, i64_w, i32_w]
           rfl
          refine pq_ 3 18 (fl 38 15) HT_.out ?_
          refine pq_ 4 19 (fl 38 31) HT_.out ?_
          refine pq_ 5 20 (fl 38 63) HT_.out ?_
          refine tq_ 6 21 (fl 38 127) HT_.out HW_.out hHeld ?_
          refine one_ (i := 7) (N := some 22) (fl 38 255) rfl rfl (one_of HT_.out (by kernel_rfl)) (by decide) (fun K hK => ?_)
          refine goes_ Try.func14 (by kernel_rfl) rfl #[.string ((rd_T36 l0_0 x10_1).f1)] (by rfl) rfl rfl (by (try simp only [List.map_toArray, List.map_cons, List.map_nil]); first | done | rfl | (simp only [List.length_drop, List.length_take]; rfl)) ?_
          with_reducible refine (impl_WordOk.calls k1 ((rd_T36 l0_0 x10_1).f1) true _ A12.out).mono ?_
          rintro e w' ⟨rfl, ⟨nd, rfl⟩⟩
          refine ⟨_, rfl, ?_⟩
          refine hK.out _ _ ⟨(blk_cell BK169.out 0).trans rfl, (blk_cell BK169.out 1).trans rfl, (blk_cell BK169.out 2).trans rfl, (blk_cell BK169.out 3).trans rfl, (blk_cell BK169.out 4).trans rfl⟩ (fun hHeld => ?_)
          clear hK K
          refine norm_ (a' := ?_) ?_ ?_
          rotate_left
          ·show Act.put _ (some 22) _ = _
           simp only [Act.put, List.setIfInBounds_toArray, List.set_cons_zero, List.set_cons_succ, i64_w, i32_w]
           rfl
          refine pq_ 8 23 (fl 38 511) HT_.out ?_
          refine pq_ 9 24 (fl 38 1023) HT_.out ?_
          refine pq_ 10 25 (fl 38 2047) HT_.out ?_
          refine pq_ 11 26 (fl 38 4095) HT_.out ?_
          refine tq_ 12 27 (fl 38 8191) HT_.out HW_.out hHeld ?_
          refine one_ (i := 13) (N := some 28) (fl 38 16383) rfl rfl (one_of HT_.out (by kernel_rfl)) (by decide) (fun K hK => ?_)
          refine goes_ Try.func14 (by kernel_rfl) rfl #[.string ((rd_T36 l0_0 x10_1).f2)] (by rfl) rfl rfl (by (try simp only [List.map_toArray, List.map_cons, List.map_nil]); first | done | rfl | (simp only [List.length_drop, List.length_take]; rfl)) ?_
          with_reducible refine (impl_WordOk.calls k1 ((rd_T36 l0_0 x10_1).f2) false _ A14.out).mono ?_
          rintro e w' ⟨rfl, ⟨nd, rfl⟩⟩
          refine ⟨_, rfl, ?_⟩
          refine hK.out _ _ ⟨(blk_cell BK169.out 0).trans rfl, (blk_cell BK169.out 1).trans rfl, (blk_cell BK169.out 2).trans rfl, (blk_cell BK169.out 3).trans rfl, (blk_cell BK169.out 4).trans rfl⟩ (fun hHeld => ?_)
          clear hK K
          refine norm_ (a' := ?_) ?_ ?_
          rotate_left
          ·show Act.put _ (some 28) _ = _
           simp only [Act.put, List.setIfInBounds_toArray, List.set_cons_zero, List.set_cons_succ, i64_w, i32_w]
           rfl
          refine pq_ 14 29 (fl 38 32767) HT_.out ?_
          refine pq_ 15 30 (fl 38 65535) HT_.out ?_
          refine pq_ 16 31 (fl 38 131071) HT_.out ?_
          refine pu_ 17 32 (fl 38 262143) HT_.out ?_
          refine pu_ 18 33 (fl 38 524287) HT_.out ?_
          refine pu_ 19 34 (fl 38 1048575) HT_.out ?_
          refine pu_ 20 35 (fl 38 2097151) HT_.out ?_
          refine pq_ 21 36 (fl 38 4194303) HT_.out ?_
          refine pq_ 22 37 (fl 38 8388607) HT_.out ?_
          refine pu_ 23 38 (fl 38 16777215) HT_.out ?_
          refine pu_ 24 39 (fl 38 33554431) HT_.out ?_
          refine pu_ 25 40 (fl 38 67108863) HT_.out ?_
          refine pu_ 26 41 (fl 38 134217727) HT_.out ?_
          refine pu_ 27 42 (fl 38 268435455) HT_.out ?_
          refine pu_ 28 43 (fl 38 536870911) HT_.out ?_
          refine pu_ 29 44 (fl 38 1073741823) HT_.out ?_
          refine pu_ 30 45 (fl 38 2147483647) HT_.out ?_
          refine pu_ 31 46 (fl 38 4294967295) HT_.out ?_
          refine pu_ 32 47 (fl 38 8589934591) HT_.out ?_
          refine pu_ 33 48 (fl 38 17179869183) HT_.out ?_
          refine pu_ 34 49 (fl 38 34359738367) HT_.out ?_
          refine pu_ 35 50 (fl 38 68719476735) HT_.out ?_
          refine pu_ 36 51 (fl 38 137438953471) HT_.out ?_
          refine pq_ 37 52 (fl 38 274877906943) HT_.out ?_
          refine done_ (done_of HT_.out (by kernel_rfl)) ?_
          try go_wp2
          go_meet
          case rel => exact ⟨_, (true), (by first | rfl | (simp; done) | (simp [*]; done) | (simp; exact (by intro l; cases l <;> rfl : ∀ l : List UInt8, l.isEmpty = !(l != [])) _)), H', ⟨by have := HK1.out; first | omega | exact Nat.le_refl _⟩, ⟨by (with_reducible repeat (first | refine blk_drewN ?_ _ | refine blk_drew ?_ | refine blk_alloc ?_ _)); exact BK167.out⟩, ⟨by (with_reducible repeat (first | refine blk_drewN ?_ _ | refine blk_drew ?_ | refine blk_alloc ?_ _)); exact BK169.out⟩, ⟨by repeat (first | (with_reducible first | exact HB.out | apply below_alloc | apply pw_below_drewN | apply below_drew1 | refine below_set ?_ GE167.out | refine below_set ?_ GE169.out) | exact HB.out)⟩⟩
        ·replace c13 := Bool.eq_false_iff.mpr c13
         subst c13
         (try rw [if_neg (show ¬ (false = true) by decide)] at H)
         have H' := Aside0.mk H
         clear H
         try go_wp2
         have n0_ := Aside0.mk (blk_drew BK167.out)
         have n1_ := Aside0.mk (blk_drew BK169.out)
         have n2_ := Aside0.mk (below_drew1 HB.out)
         clear BK167
         clear BK169
         clear HB
         have BK167 := n0_
         have BK169 := n1_
         have HB := n2_
         clear n0_ n1_ n2_
         refine start_ (n := 38) (S := fun w' => w'.cell? ⟨gb169, 0, none⟩ = some (.int .i64 ((rd_T36 l0_0 x10_1).f0)) ∧ w'.cell? ⟨gb169, 1, none⟩ = some (.string ((rd_T36 l0_0 x10_1).f1)) ∧ w'.cell? ⟨gb169, 2, none⟩ = some (.string ((rd_T36 l0_0 x10_1).f2)) ∧ w'.cell? ⟨gb169, 3, none⟩ = some (.int .i64 ((rd_T36 l0_0 x10_1).f3)) ∧ w'.cell? ⟨gb169, 4, none⟩ = some (.slice A168_4 ((rd_T36 l0_0 x10_1).f4).length c168_4)) (ds := []) (fl 38 0) (by kernel_rfl) rfl rfl ⟨(blk_cell BK169.out 0).trans rfl, (blk_cell BK169.out 1).trans rfl, (blk_cell BK169.out 2).trans rfl, (blk_cell BK169.out 3).trans rfl, (blk_cell BK169.out 4).trans rfl⟩ (fun hHeld => ?_); refine with_tabW impl_StateOk.tab4 impl_StateOk.bits4 (fun HT_ HW_ => ?_)
         generalize w9.drew = w26 at BK167 BK169 HB hHeld ⊢
         refine pq_ 0 15 (fl 38 1) HT_.out ?_
         refine tq_ 1 16 (fl 38 3) HT_.out HW_.out hHeld ?_
         refine one_ (i := 2) (N := some 17) (fl 38 7) rfl rfl (one_of HT_.out (by kernel_rfl)) (by decide) (fun K hK => ?_)
         refine goes_ Try.func13 (by kernel_rfl) rfl #[.int .i64 ((rd_T36 l0_0 x10_1).f0), .int .i64 1, .int .i64 9999] (by rfl) rfl rfl (by (try simp only [List.map_toArray, List.map_cons, List.map_nil]); first | done | rfl | (simp only [List.length_drop, List.length_take]; rfl)) ?_
         with_reducible refine (impl_in.calls ((rd_T36 l0_0 x10_1).f0) 1 9999 true _ A10.out).mono ?_
         rintro e w' ⟨rfl, ⟨nd, rfl⟩⟩
         refine ⟨_, rfl, ?_⟩
         refine hK.out _ _ ⟨(blk_cell BK169.out 0).trans rfl, (blk_cell BK169.out 1).trans rfl, (blk_cell BK169.out 2).trans rfl, (blk_cell BK169.out 3).trans rfl, (blk_cell BK169.out 4).trans rfl⟩ (fun hHeld => ?_)
         clear hK K
         refine norm_ (a' := ?_) ?_ ?_
         rotate_left
         ·show Act.put _ (some 17) _ = _
          simp only [Act.put, List.setIfInBounds_toArray, List.set_cons_zero, List.set_cons_succ, i64_w, i32_w]
          rfl
         refine pq_ 3 18 (fl 38 15) HT_.out ?_
         refine pq_ 4 19 (fl 38 31) HT_.out ?_
         refine pq_ 5 20 (fl 38 63) HT_.out ?_
         refine tq_ 6 21 (fl 38 127) HT_.out HW_.out hHeld ?_
         refine one_ (i := 7) (N := some 22) (fl 38 255) rfl rfl (one_of HT_.out (by kernel_rfl)) (by decide) (fun K hK => ?_)
         refine goes_ Try.func14 (by kernel_rfl) rfl #[.string ((rd_T36 l0_0 x10_1).f1)] (by rfl) rfl rfl (by (try simp only [List.map_toArray, List.map_cons, List.map_nil]); first | done | rfl | (simp only [List.length_drop, List.length_take]; rfl)) ?_
         with_reducible refine (impl_WordOk.calls k1 ((rd_T36 l0_0 x10_1).f1) false _ A12.out).mono ?_
         rintro e w' ⟨rfl, ⟨nd, rfl⟩⟩
         refine ⟨_, rfl, ?_⟩
         refine hK.out _ _ ⟨(blk_cell BK169.out 0).trans rfl, (blk_cell BK169.out 1).trans rfl, (blk_cell BK169.out 2).trans rfl, (blk_cell BK169.out 3).trans rfl, (blk_cell BK169.out 4).trans rfl⟩ (fun hHeld => ?_)
         clear hK K
         refine norm_ (a' := ?_) ?_ ?_
         rotate_left
         ·show Act.put _ (some 22) _ = _
          simp only [Act.put, List.setIfInBounds_toArray, List.set_cons_zero, List.set_cons_succ, i64_w, i32_w]
          rfl
         refine pq_ 8 23 (fl 38 511) HT_.out ?_
         refine pq_ 9 24 (fl 38 1023) HT_.out ?_
         refine pq_ 10 25 (fl 38 2047) HT_.out ?_
         refine pu_ 11 26 (fl 38 4095) HT_.out ?_
         refine pu_ 12 27 (fl 38 8191) HT_.out ?_
         refine pu_ 13 28 (fl 38 16383) HT_.out ?_
         refine pu_ 14 29 (fl 38 32767) HT_.out ?_
         refine pq_ 15 30 (fl 38 65535) HT_.out ?_
         refine pq_ 16 31 (fl 38 131071) HT_.out ?_
         refine pu_ 17 32 (fl 38 262143) HT_.out ?_
         refine pu_ 18 33 (fl 38 524287) HT_.out ?_
         refine pu_ 19 34 (fl 38 1048575) HT_.out ?_
         refine pu_ 20 35 (fl 38 2097151) HT_.out ?_
         refine pq_ 21 36 (fl 38 4194303) HT_.out ?_
         refine pq_ 22 37 (fl 38 8388607) HT_.out ?_
         refine pu_ 23 38 (fl 38 16777215) HT_.out ?_
         refine pu_ 24 39 (fl 38 33554431) HT_.out ?_
         refine pu_ 25 40 (fl 38 67108863) HT_.out ?_
         refine pu_ 26 41 (fl 38 134217727) HT_.out ?_
         refine pu_ 27 42 (fl 38 268435455) HT_.out ?_
         refine pu_ 28 43 (fl 38 536870911) HT_.out ?_
         refine pu_ 29 44 (fl 38 1073741823) HT_.out ?_
         refine pu_ 30 45 (fl 38 2147483647) HT_.out ?_
         refine pu_ 31 46 (fl 38 4294967295) HT_.out ?_
         refine pu_ 32 47 (fl 38 8589934591) HT_.out ?_
         refine pu_ 33 48 (fl 38 17179869183) HT_.out ?_
         refine pu_ 34 49 (fl 38 34359738367) HT_.out ?_
         refine pu_ 35 50 (fl 38 68719476735) HT_.out ?_
         refine pu_ 36 51 (fl 38 137438953471) HT_.out ?_
         refine pq_ 37 52 (fl 38 274877906943) HT_.out ?_
         refine done_ (done_of HT_.out (by kernel_rfl)) ?_
         try go_wp2
         go_meet
         case rel => exact ⟨_, (true), (by first | rfl | (simp; done) | (simp [*]; done) | (simp; exact (by intro l; cases l <;> rfl : ∀ l : List UInt8, l.isEmpty = !(l != [])) _)), H', ⟨by have := HK1.out; first | omega | exact Nat.le_refl _⟩, ⟨by (with_reducible repeat (first | refine blk_drewN ?_ _ | refine blk_drew ?_ | refine blk_alloc ?_ _)); exact BK167.out⟩, ⟨by (with_reducible repeat (first | refine blk_drewN ?_ _ | refine blk_drew ?_ | refine blk_alloc ?_ _)); exact BK169.out⟩, ⟨by repeat (first | (with_reducible first | exact HB.out | apply below_alloc | apply pw_below_drewN | apply below_drew1 | refine below_set ?_ GE167.out | refine below_set ?_ GE169.out) | exact HB.out)⟩⟩
       ·replace c11 := Bool.eq_false_iff.mpr c11
        subst c11
        (try rw [if_neg (show ¬ (false = true) by decide)] at H)
        have H' := Aside0.mk H
        clear H
        try go_wp2
        have n0_ := Aside0.mk (blk_drew BK167.out)
        have n1_ := Aside0.mk (blk_drew BK169.out)
        have n2_ := Aside0.mk (below_drew1 HB.out)
        clear BK167
        clear BK169
        clear HB
        have BK167 := n0_
        have BK169 := n1_
        have HB := n2_
        clear n0_ n1_ n2_
        refine start_ (n := 38) (S := fun w' => w'.cell? ⟨gb169, 0, none⟩ = some (.int .i64 ((rd_T36 l0_0 x10_1).f0)) ∧ w'.cell? ⟨gb169, 1, none⟩ = some (.string ((rd_T36 l0_0 x10_1).f1)) ∧ w'.cell? ⟨gb169, 2, none⟩ = some (.string ((rd_T36 l0_0 x10_1).f2)) ∧ w'.cell? ⟨gb169, 3, none⟩ = some (.int .i64 ((rd_T36 l0_0 x10_1).f3)) ∧ w'.cell? ⟨gb169, 4, none⟩ = some (.slice A168_4 ((rd_T36 l0_0 x10_1).f4).length c168_4)) (ds := []) (fl 38 0) (by kernel_rfl) rfl rfl ⟨(blk_cell BK169.out 0).trans rfl, (blk_cell BK169.out 1).trans rfl, (blk_cell BK169.out 2).trans rfl, (blk_cell BK169.out 3).trans rfl, (blk_cell BK169.out 4).trans rfl⟩ (fun hHeld => ?_); refine with_tabW impl_StateOk.tab4 impl_StateOk.bits4 (fun HT_ HW_ => ?_)
        generalize w9.drew = w27 at BK167 BK169 HB hHeld ⊢
        refine pq_ 0 15 (fl 38 1) HT_.out ?_
        refine tq_ 1 16 (fl 38 3) HT_.out HW_.out hHeld ?_
        refine one_ (i := 2) (N := some 17) (fl 38 7) rfl rfl (one_of HT_.out (by kernel_rfl)) (by decide) (fun K hK => ?_)
        refine goes_ Try.func13 (by kernel_rfl) rfl #[.int .i64 ((rd_T36 l0_0 x10_1).f0), .int .i64 1, .int .i64 9999] (by rfl) rfl rfl (by (try simp only [List.map_toArray, List.map_cons, List.map_nil]); first | done | rfl | (simp only [List.length_drop, List.length_take]; rfl)) ?_
        with_reducible refine (impl_in.calls ((rd_T36 l0_0 x10_1).f0) 1 9999 false _ A10.out).mono ?_
        rintro e w' ⟨rfl, ⟨nd, rfl⟩⟩
        refine ⟨_, rfl, ?_⟩
        refine hK.out _ _ ⟨(blk_cell BK169.out 0).trans rfl, (blk_cell BK169.out 1).trans rfl, (blk_cell BK169.out 2).trans rfl, (blk_cell BK169.out 3).trans rfl, (blk_cell BK169.out 4).trans rfl⟩ (fun hHeld => ?_)
        clear hK K
        refine norm_ (a' := ?_) ?_ ?_
        rotate_left
        ·show Act.put _ (some 17) _ = _
         simp only [Act.put, List.setIfInBounds_toArray, List.set_cons_zero, List.set_cons_succ, i64_w, i32_w]
         rfl
        refine pq_ 3 18 (fl 38 15) HT_.out ?_
        refine pq_ 4 19 (fl 38 31) HT_.out ?_
        refine pu_ 5 20 (fl 38 63) HT_.out ?_
        refine pu_ 6 21 (fl 38 127) HT_.out ?_
        refine pu_ 7 22 (fl 38 255) HT_.out ?_
        refine pu_ 8 23 (fl 38 511) HT_.out ?_
        refine pq_ 9 24 (fl 38 1023) HT_.out ?_
        refine pq_ 10 25 (fl 38 2047) HT_.out ?_
        refine pu_ 11 26 (fl 38 4095) HT_.out ?_
        refine pu_ 12 27 (fl 38 8191) HT_.out ?_
        refine pu_ 13 28 (fl 38 16383) HT_.out ?_
        refine pu_ 14 29 (fl 38 32767) HT_.out ?_
        refine pq_ 15 30 (fl 38 65535) HT_.out ?_
        refine pq_ 16 31 (fl 38 131071) HT_.out ?_
        refine pu_ 17 32 (fl 38 262143) HT_.out ?_
        refine pu_ 18 33 (fl 38 524287) HT_.out ?_
        refine pu_ 19 34 (fl 38 1048575) HT_.out ?_
        refine pu_ 20 35 (fl 38 2097151) HT_.out ?_
        refine pq_ 21 36 (fl 38 4194303) HT_.out ?_
        refine pq_ 22 37 (fl 38 8388607) HT_.out ?_
        refine pu_ 23 38 (fl 38 16777215) HT_.out ?_
        refine pu_ 24 39 (fl 38 33554431) HT_.out ?_
        refine pu_ 25 40 (fl 38 67108863) HT_.out ?_
        refine pu_ 26 41 (fl 38 134217727) HT_.out ?_
        refine pu_ 27 42 (fl 38 268435455) HT_.out ?_
        refine pu_ 28 43 (fl 38 536870911) HT_.out ?_
        refine pu_ 29 44 (fl 38 1073741823) HT_.out ?_
        refine pu_ 30 45 (fl 38 2147483647) HT_.out ?_
        refine pu_ 31 46 (fl 38 4294967295) HT_.out ?_
        refine pu_ 32 47 (fl 38 8589934591) HT_.out ?_
        refine pu_ 33 48 (fl 38 17179869183) HT_.out ?_
        refine pu_ 34 49 (fl 38 34359738367) HT_.out ?_
        refine pu_ 35 50 (fl 38 68719476735) HT_.out ?_
        refine pu_ 36 51 (fl 38 137438953471) HT_.out ?_
        refine pq_ 37 52 (fl 38 274877906943) HT_.out ?_
        refine done_ (done_of HT_.out (by kernel_rfl)) ?_
        try go_wp2
        go_meet
        case rel => exact ⟨_, (true), (by first | rfl | (simp; done) | (simp [*]; done) | (simp; exact (by intro l; cases l <;> rfl : ∀ l : List UInt8, l.isEmpty = !(l != [])) _)), H', ⟨by have := HK1.out; first | omega | exact Nat.le_refl _⟩, ⟨by (with_reducible repeat (first | refine blk_drewN ?_ _ | refine blk_drew ?_ | refine blk_alloc ?_ _)); exact BK167.out⟩, ⟨by (with_reducible repeat (first | refine blk_drewN ?_ _ | refine blk_drew ?_ | refine blk_alloc ?_ _)); exact BK169.out⟩, ⟨by repeat (first | (with_reducible first | exact HB.out | apply below_alloc | apply pw_below_drewN | apply below_drew1 | refine below_set ?_ GE167.out | refine below_set ?_ GE169.out) | exact HB.out)⟩⟩
      case rest =>
       clear HC7
       try clear c1
       try clear p2
       try clear c11
       try clear c13
       try clear c14
       try clear c16
       obtain ⟨kq, x52_6, rfl, HA, HJ6, BK167, BK169, HB⟩ := hcut
       cases kq with
       | zero => exact absurd HA.out (by simp [impl_StateOk.j1])
       | succ kj6 =>
        have H := HA.out
        clear HA
        simp only [impl_StateOk.j1] at H
        by_cases c28 : x52_6 = true
        ·subst c28
         (try rw [if_pos rfl] at H)
         obtain rfl := Option.some.inj H
         go_wp2
         go_ret
         exact ⟨by first | rfl | (simp [errW_none, errW_some] <;> rfl) | (simp [*, errW_none, errW_some] <;> rfl), by repeat (first | (with_reducible first | exact HB.out | apply below_alloc | apply pw_below_drewN | apply below_drew1 | refine below_set ?_ GE167.out | refine below_set ?_ GE169.out) | exact HB.out)⟩
        ·replace c28 := Bool.eq_false_iff.mpr c28
         subst c28
         (try rw [if_neg (show ¬ (false = true) by decide)] at H)
         by_cases c29 : 0 ≤ x10_1
         ·rw [if_pos c29] at H
          have c29b0 := eq_true c29
          have c29b1 : decide (0 ≤ x10_1) = true := decide_eq_true c29
          clear c29
          by_cases c30 : x10_1 ≤ (l0_0.length : Int)
          ·rw [if_pos c30] at H
           have c30b0 := eq_true c30
           have c30b1 : decide (x10_1 ≤ (l0_0.length : Int)) = true := decide_eq_true c30
           clear c30
           obtain ⟨y175, hy175⟩ : ∃ y_ : List (S36), y_ = (l0_0.take (x10_1 : Int).toNat) := ⟨_, rfl⟩
           replace H : ((impl_Box.f kj6 y175 ((rd_T36 l0_0 x10_1).f1) ((rd_T36 l0_0 x10_1).f2)).bind fun t179 => (if t179 = true then (some false) else (impl_StateOk.l1 kj6 l0_0 (l0_0.length : Int) x10_1 ((rd_T36 l0_0 x10_1).f4) (((rd_T36 l0_0 x10_1).f4).length : Int) 0 l0_0 ((rd_T36 l0_0 x10_1).f0) ((rd_T36 l0_0 x10_1).f1) ((rd_T36 l0_0 x10_1).f2) ((rd_T36 l0_0 x10_1).f3) ((rd_T36 l0_0 x10_1).f4)))) = some r := by first | (rw [hy175]; with_reducible exact H) | (have H2_ := (Option.bind_some _ _).symm.trans H; rw [hy175]; with_reducible exact H2_) | (have H2_ := (Option.bind_some _ _).symm.trans H; with_reducible exact H2_) | with_reducible exact H | (rw [hy175]; exact H) | exact H
           have Ny175 := Aside0.mk hy175
           clear hy175
           replace H := Option.bind_eq_some_iff.mp H
           obtain ⟨t179, A310, H⟩ := H
           (try set_option simprocs false in dsimp only at H)
           have A31 := Aside0.mk A310
           clear A310
           by_cases c32 : t179 = true
           ·subst c32
            (try rw [if_pos rfl] at H)
            obtain rfl := Option.some.inj H
            have hnb33 := NB167_169.out
            have hnc33 := NB169_167.out
            have hcz34 := blk_cell BK167.out
            have hfz34 := blk_frozen BK167.out
            have q35 : (x10_1 : Int) ≤ ((l0_0.length : Int) : Int) := of_decide_eq_true (by first | (with_reducible assumption) | assumption)
            obtain ⟨i035, hi035, _, hsz35, _⟩ := info_parts info36
            have hroom35 : l0_0.length ≤ c0_0 := HC0_0.out
            have hC35 : Kd.C k36 _ (some ad168) l0_0.length l0_0 := HR0_0.out
            have hcut35 := cut_to (P := Try.prog) 27 36 .i64 Try.underlying27 hi035 (some ad168) l0_0.length c0_0 x10_1 (of_decide_eq_true (by first | (with_reducible assumption) | assumption)) q35 hroom35
            have hr35 := Kd.C_take (m := (x10_1 : Int).toNat) hC35 (by omega)
            have hy35 : y175.length = (x10_1 : Int).toNat := (by rw [Ny175.out, List.length_take]; omega)
            rw [← Ny175.out] at hr35
            rw [← hy35] at hcut35
            have HR178 := Aside0.mk hr35
            have HC178 := Aside0.mk (show y175.length ≤ c0_0 from by omega)
            clear hr35 hC35 hroom35 hi035 hsz35
            have KY35 := Aside0.mk hy35
            clear hy35
            replace q35 := eq_true q35
            have hcz36 := blk_cell BK169.out
            have hfz36 := blk_frozen BK169.out
            go_wp2_with (first | ((with_reducible refine gate_callee (f := 15) rfl ?_); refine goesL_ (some 58) rfl rfl Try.func15 (by kernel_rfl) rfl #[.slice (some ad168) y175.length c0_0, .func (.func 16) #[] #[.pointer (some ⟨gb169, 0, none⟩)]] rfl (by (try simp only [List.map_toArray, List.map_cons, List.map_nil]); first | done | rfl | (simp only [List.length_drop, List.length_take]; rfl)) ?_; (with_reducible refine (impl_Box.calls kj6 _ _ y175 ((rd_T36 l0_0 x10_1).f1) ((rd_T36 l0_0 x10_1).f2) true _ ?side1 ?side2 ?side3 A31.out).mono ?_); (case side1 => exact (Kd.C_below HR178.out HB.out)); (case side2 => exact HC178.out); (case side3 => exact ⟨_, _, _, by (with_reducible repeat (first | refine blk_drewN ?_ _ | refine blk_drew ?_ | refine blk_alloc ?_ _)); exact BK169.out⟩); rintro e w37 ⟨rfl, hb⟩; refine ⟨_, rfl, ?_⟩; have n0_ := Aside0.mk (blk_below BK167.out hb); have n1_ := Aside0.mk (blk_below BK169.out hb); have n2_ := Aside0.mk (below_step HB.out hb); clear BK167; clear BK169; clear HB; have BK167 := n0_; have BK169 := n1_; have HB := n2_; clear n0_ n1_ n2_; (try clear hb); (try clear hb2); (try clear hk); (try clear hi)))
            go_ret
            exact ⟨by first | rfl | (simp [errW_none, errW_some] <;> rfl) | (simp [*, errW_none, errW_some] <;> rfl), by repeat (first | (with_reducible first | exact HB.out | apply below_alloc | apply pw_below_drewN | apply below_drew1 | refine below_set ?_ GE167.out | refine below_set ?_ GE169.out) | exact HB.out)⟩
           ·replace c32 := Bool.eq_false_iff.mpr c32
            subst c32
            (try rw [if_neg (show ¬ (false = true) by decide)] at H)
            have H' := Aside0.mk H
            clear H
            have hnb38 := NB167_169.out
            have hnc38 := NB169_167.out
            have hcz39 := blk_cell BK167.out
            have hfz39 := blk_frozen BK167.out
            have q40 : (x10_1 : Int) ≤ ((l0_0.length : Int) : Int) := of_decide_eq_true (by first | (with_reducible assumption) | assumption)
            obtain ⟨i040, hi040, _, hsz40, _⟩ := info_parts info36
            have hroom40 : l0_0.length ≤ c0_0 := HC0_0.out
            have hC40 : Kd.C k36 _ (some ad168) l0_0.length l0_0 := HR0_0.out
            have hcut40 := cut_to (P := Try.prog) 27 36 .i64 Try.underlying27 hi040 (some ad168) l0_0.length c0_0 x10_1 (of_decide_eq_true (by first | (with_reducible assumption) | assumption)) q40 hroom40
            have hr40 := Kd.C_take (m := (x10_1 : Int).toNat) hC40 (by omega)
            have hy40 : y175.length = (x10_1 : Int).toNat := (by rw [Ny175.out, List.length_take]; omega)
            rw [← Ny175.out] at hr40
            rw [← hy40] at hcut40
            have HR178 := Aside0.mk hr40
            have HC178 := Aside0.mk (show y175.length ≤ c0_0 from by omega)
            clear hr40 hC40 hroom40 hi040 hsz40
            have KY40 := Aside0.mk hy40
            clear hy40
            replace q40 := eq_true q40
            have hcz41 := blk_cell BK169.out
            have hfz41 := blk_frozen BK169.out
            go_wp2_with (first | ((with_reducible refine gate_callee (f := 15) rfl ?_); refine goesL_ (some 58) rfl rfl Try.func15 (by kernel_rfl) rfl #[.slice (some ad168) y175.length c0_0, .func (.func 16) #[] #[.pointer (some ⟨gb169, 0, none⟩)]] rfl (by (try simp only [List.map_toArray, List.map_cons, List.map_nil]); first | done | rfl | (simp only [List.length_drop, List.length_take]; rfl)) ?_; (with_reducible refine (impl_Box.calls kj6 _ _ y175 ((rd_T36 l0_0 x10_1).f1) ((rd_T36 l0_0 x10_1).f2) false _ ?side1 ?side2 ?side3 A31.out).mono ?_); (case side1 => exact (Kd.C_below HR178.out HB.out)); (case side2 => exact HC178.out); (case side3 => exact ⟨_, _, _, by (with_reducible repeat (first | refine blk_drewN ?_ _ | refine blk_drew ?_ | refine blk_alloc ?_ _)); exact BK169.out⟩); rintro e w42 ⟨rfl, hb⟩; refine ⟨_, rfl, ?_⟩; have n0_ := Aside0.mk (blk_below BK167.out hb); have n1_ := Aside0.mk (blk_below BK169.out hb); have n2_ := Aside0.mk (below_step HB.out hb); clear BK167; clear BK169; clear HB; have BK167 := n0_; have BK169 := n1_; have HB := n2_; clear n0_ n1_ n2_; (try clear hb); (try clear hb2); (try clear hk); (try clear hi); have hcz43 := blk_cell BK169.out; have hfz43 := blk_frozen BK169.out))
            go_loopg [62] kj6 (fun kq v62 w' => ∃ (x62_3 : Int), v62 = .int .i64 x62_3 ∧ Aside0 (impl_StateOk.l1 kq l0_0 (l0_0.length : Int) x10_1 ((rd_T36 l0_0 x10_1).f4) (((rd_T36 l0_0 x10_1).f4).length : Int) x62_3 l0_0 ((rd_T36 l0_0 x10_1).f0) ((rd_T36 l0_0 x10_1).f1) ((rd_T36 l0_0 x10_1).f2) ((rd_T36 l0_0 x10_1).f3) ((rd_T36 l0_0 x10_1).f4) = some r) ∧ Aside0 (kq ≤ kj6) ∧ Aside0 (w'.heap[gb167]? = some (.cells #[(.slice (some ad168) l0_0.length c0_0)] 29 (0, 0))) ∧ Aside0 (w'.heap[gb169]? = some (.cells #[.int .i64 ((rd_T36 l0_0 x10_1).f0), .string ((rd_T36 l0_0 x10_1).f1), .string ((rd_T36 l0_0 x10_1).f2), .int .i64 ((rd_T36 l0_0 x10_1).f3), (.slice A168_4 ((rd_T36 l0_0 x10_1).f4).length c168_4)] 36 (0, 0))) ∧ Aside0 (Below w.heap.size w w'))
            case atStart => exact ⟨(0), (by first | rfl | (simp; done) | (simp [*]; done) | (simp; exact (by intro l; cases l <;> rfl : ∀ l : List UInt8, l.isEmpty = !(l != [])) _)), H', ⟨Nat.le_refl _⟩, ⟨by (with_reducible repeat (first | refine blk_drewN ?_ _ | refine blk_drew ?_ | refine blk_alloc ?_ _)); exact BK167.out⟩, ⟨by (with_reducible repeat (first | refine blk_drewN ?_ _ | refine blk_drew ?_ | refine blk_alloc ?_ _)); exact BK169.out⟩, ⟨by repeat (first | (with_reducible first | exact HB.out | apply below_alloc | apply pw_below_drewN | apply below_drew1 | refine below_set ?_ GE167.out | refine below_set ?_ GE169.out) | exact HB.out)⟩⟩
            case round =>
             clear H'
             try clear c1
             try clear c2
             try clear p2
             try clear c3
             try clear q3
             try clear q4
             try clear c11
             try clear c13
             try clear c14
             try clear c15
             try clear c16
             try clear c28
             try clear c29
             try clear c29b0
             try clear c29b1
             try clear c30
             try clear c30b0
             try clear c30b1
             try clear c32
             try clear c33
             try clear q35
             try clear c38
             try clear q40
             try clear hcz34
             try clear hcz36
             try clear hcz39
             try clear hcz41
             try clear hcz43_0
             try clear hcz43_1
             try clear hcz43_2
             try clear hcz43_3
             try clear hcz43_4
             try clear hfz34
             try clear hfz36
             try clear hfz39
             try clear hfz41
             try clear hfz43_0
             try clear hfz43_1
             try clear hfz43_2
             try clear hfz43_3
             try clear hfz43_4
             try clear p2
             try clear q35
             try clear q40
             obtain ⟨x62_3, rfl, HA, HK3, BK167, BK169, HB⟩ := hrel
             cases gk with
             | zero => exact absurd HA.out (by simp [impl_StateOk.l1])
             | succ k3 =>
              have H := HA.out
              clear HA
              simp only [impl_StateOk.l1] at H
              by_cases c44 : x62_3 < (((rd_T36 l0_0 x10_1).f4).length : Int)
              ·rw [if_pos c44] at H
               have c44b0 : decide (x62_3 < (((rd_T36 l0_0 x10_1).f4).length : Int)) = true := decide_eq_true c44
               clear c44
               by_cases c45 : 0 ≤ x62_3
               ·rw [if_pos c45] at H
                have c45b0 : decide (0 ≤ x62_3) = true := decide_eq_true c45
                clear c45
                by_cases c46 : x62_3 < (((rd_T36 l0_0 x10_1).f4).length : Int)
                ·rw [if_pos c46] at H
                 have c46b0 : decide (x62_3 < (((rd_T36 l0_0 x10_1).f4).length : Int)) = true := decide_eq_true c46
                 clear c46
                 replace H := Option.bind_eq_some_iff.mp H
                 obtain ⟨t182, A470, H⟩ := H
                 (try set_option simprocs false in dsimp only at H)
                 have A47 := Aside0.mk A470
                 clear A470
                 by_cases c48 : t182 = true
                 ·subst c48
                  (try rw [if_pos rfl] at H)
                  replace H := Option.bind_eq_some_iff.mp H
                  obtain ⟨t183, A490, H⟩ := H
                  (try set_option simprocs false in dsimp only at H)
                  have A49 := Aside0.mk A490
                  clear A490
                  by_cases c50 : t183 = true
                  ·subst c50
                   (try rw [if_pos rfl] at H)
                   by_cases c51 : (((rd_T40 ((rd_T36 l0_0 x10_1).f4) x62_3).f2).size : Int) > 100
                   ·rw [if_pos c51] at H
                    have c51b0 : decide (100 < (((rd_T40 ((rd_T36 l0_0 x10_1).f4) x62_3).f2).size : Int)) = true := decide_eq_true c51
                    have c51b1 : decide (100 < ((rd_T40 ((rd_T36 l0_0 x10_1).f4) x62_3).f2).size) = true := decide_eq_true (by omega)
                    clear c51
                    obtain rfl := Option.some.inj H
                    have p180 : 0 ≤ (x62_3 : Int) := of_decide_eq_true (by first | (with_reducible assumption) | assumption)
                    have q180 : x62_3 < (((rd_T36 l0_0 x10_1).f4).length : Int) := of_decide_eq_true (by first | (with_reducible assumption) | assumption)
                    obtain ⟨ad180, e180, hx180_0, hx180_1, hx180_2⟩ := at_T40 HR168_4.out x62_3 p180 q180
                    cases e180
                    replace hx180_0 := (HB.out.cell (World.block_lt_of_cell? w _ hx180_0)).trans hx180_0
                    replace hx180_1 := (HB.out.cell (World.block_lt_of_cell? w _ hx180_1)).trans hx180_1
                    replace hx180_2 := (HB.out.cell (World.block_lt_of_cell? w _ hx180_2)).trans hx180_2
                    replace p180 := eq_true p180
                    replace q180 := eq_true q180
                    try go_wp2_with (first | ((with_reducible refine gate_dst (N := 6) rfl ?_); (try (refine gate_guard (by rfl) ?_; dsimp only)); refine box_event ?hg (N := 6) ?hd (cs := #[.int .i64 0, .int .i64 0, .string (⟨#[]⟩ : ByteArray)]) (t := 40) ?hr ?_; (case hd => rfl); (case hg => rfl); (case hr => first | (go_simp; done) | (go_simp; rfl)); intro gb181 hg w52 hbox hb; have n0_ := Aside0.mk (blk_below BK167.out hb); have n1_ := Aside0.mk (blk_below BK169.out hb); have n2_ := Aside0.mk (below_step HB.out hb); have n3_ := Aside0.mk (hbox); have n4_ := Aside0.mk ((by rw [hg]; exact (below_size HB.out) : w.heap.size ≤ gb181)); have n5_ := Aside0.mk ((by rw [hg]; exact (below_size HB.out) : w.heap.size ≤ gb181)); have n6_ := Aside0.mk ((by rw [hg]; exact Nat.ne_of_lt (blk_lt (g := gb167) (o := .cells #[.slice (some ad168) l0_0.length c0_0] 29 (0, 0)) (by (with_reducible repeat (first | refine blk_drewN ?_ _ | refine blk_drew ?_ | refine blk_alloc ?_ _)); exact BK167.out)) : gb167 ≠ gb181)); have n7_ := Aside0.mk ((by rw [hg]; exact Nat.ne_of_gt (blk_lt (g := gb167) (o := .cells #[.slice (some ad168) l0_0.length c0_0] 29 (0, 0)) (by (with_reducible repeat (first | refine blk_drewN ?_ _ | refine blk_drew ?_ | refine blk_alloc ?_ _)); exact BK167.out)) : gb181 ≠ gb167)); have n8_ := Aside0.mk ((by rw [hg]; exact Nat.ne_of_lt (blk_lt (g := gb169) (o := .cells #[.int .i64 ((rd_T36 l0_0 x10_1).f0), .string ((rd_T36 l0_0 x10_1).f1), .string ((rd_T36 l0_0 x10_1).f2), .int .i64 ((rd_T36 l0_0 x10_1).f3), .slice (some ad180) ((rd_T36 l0_0 x10_1).f4).length c168_4] 36 (0, 0)) (by (with_reducible repeat (first | refine blk_drewN ?_ _ | refine blk_drew ?_ | refine blk_alloc ?_ _)); exact BK169.out)) : gb169 ≠ gb181)); have n9_ := Aside0.mk ((by rw [hg]; exact Nat.ne_of_gt (blk_lt (g := gb169) (o := .cells #[.int .i64 ((rd_T36 l0_0 x10_1).f0), .string ((rd_T36 l0_0 x10_1).f1), .string ((rd_T36 l0_0 x10_1).f2), .int .i64 ((rd_T36 l0_0 x10_1).f3), .slice (some ad180) ((rd_T36 l0_0 x10_1).f4).length c168_4] 36 (0, 0)) (by (with_reducible repeat (first | refine blk_drewN ?_ _ | refine blk_drew ?_ | refine blk_alloc ?_ _)); exact BK169.out)) : gb181 ≠ gb169)); clear BK167; clear BK169; clear HB; have BK167 := n0_; have BK169 := n1_; have HB := n2_; have BK181 := n3_; have GW181 := n4_; have GE181 := n5_; have NB167_181 := n6_; have NB181_167 := n7_; have NB169_181 := n8_; have NB181_169 := n9_; clear n0_ n1_ n2_ n3_ n4_ n5_ n6_ n7_ n8_ n9_; clear hb hbox hg) | ((with_reducible refine gate_store (t := 40) (p := 6) rfl ?_); refine Go.Proofs.YtjfcdjfnfhkjlaaR.store_part_event ?hg (t := 40) 6 (v := ?vo_w53) ?ho ?hn gb181 0 (.agg #[.int .i64 ((rd_T40 ((rd_T36 l0_0 x10_1).f4) x62_3).f0), .int .i64 ((rd_T40 ((rd_T36 l0_0 x10_1).f4) x62_3).f1), .string ((rd_T40 ((rd_T36 l0_0 x10_1).f4) x62_3).f2)]) #[.int .i64 ((rd_T40 ((rd_T36 l0_0 x10_1).f4) x62_3).f0), .int .i64 ((rd_T40 ((rd_T36 l0_0 x10_1).f4) x62_3).f1), .string ((rd_T40 ((rd_T36 l0_0 x10_1).f4) x62_3).f2)] #[.int .i64 0, .int .i64 0, .string (⟨#[]⟩ : ByteArray)] #[.int .i64 ((rd_T40 ((rd_T36 l0_0 x10_1).f4) x62_3).f0), .int .i64 ((rd_T40 ((rd_T36 l0_0 x10_1).f4) x62_3).f1), .string ((rd_T40 ((rd_T36 l0_0 x10_1).f4) x62_3).f2)] 40 ?hx ?hy rfl BK181.out ?hi (Nat.le_of_ble_eq_true rfl) ?h1 ?hc ?_; (case ho => rfl); (case hg => rfl); (case hn => rfl); (case hi => kernel_rfl); (case h1 => first | kernel_rfl | rfl); (case hc => kernel_rfl); (case hx => first | rfl | (go_simp; done) | (go_simp; rfl)); (case hy => first | rfl | (go_simp; done) | (go_simp; rfl)); intro w53 hbox hbut; have n0_ := Aside0.mk ((hbut.other NB167_181.out).trans BK167.out); have n1_ := Aside0.mk ((hbut.other NB169_181.out).trans BK169.out); have n2_ := Aside0.mk (hbox); have n3_ := Aside0.mk (HB.out.trans (hbut.below GE181.out)); clear BK167; clear BK169; clear BK181; clear HB; have BK167 := n0_; have BK169 := n1_; have BK181 := n2_; have HB := n3_; clear n0_ n1_ n2_ n3_; clear hbox hbut))
                    have n0_ := Aside0.mk (blk_drew BK167.out)
                    have n1_ := Aside0.mk (blk_drew BK169.out)
                    have n2_ := Aside0.mk (blk_drew BK181.out)
                    have n3_ := Aside0.mk (below_drew1 HB.out)
                    clear BK167
                    clear BK169
                    clear BK181
                    clear HB
                    have BK167 := n0_
                    have BK169 := n1_
                    have BK181 := n2_
                    have HB := n3_
                    clear n0_ n1_ n2_ n3_
                    refine start_ (n := 35) (S := fun w' => w'.cell? ⟨gb181, 0, none⟩ = some (.int .i64 ((rd_T40 ((rd_T36 l0_0 x10_1).f4) x62_3).f0)) ∧ w'.cell? ⟨gb181, 1, none⟩ = some (.int .i64 ((rd_T40 ((rd_T36 l0_0 x10_1).f4) x62_3).f1)) ∧ w'.cell? ⟨gb181, 2, none⟩ = some (.string ((rd_T40 ((rd_T36 l0_0 x10_1).f4) x62_3).f2)) ∧ w'.cell? ⟨gb169, 0, none⟩ = some (.int .i64 ((rd_T36 l0_0 x10_1).f0)) ∧ w'.cell? ⟨gb169, 1, none⟩ = some (.string ((rd_T36 l0_0 x10_1).f1)) ∧ w'.cell? ⟨gb169, 2, none⟩ = some (.string ((rd_T36 l0_0 x10_1).f2)) ∧ w'.cell? ⟨gb169, 3, none⟩ = some (.int .i64 ((rd_T36 l0_0 x10_1).f3)) ∧ w'.cell? ⟨gb169, 4, none⟩ = some (.slice (some ad180) ((rd_T36 l0_0 x10_1).f4).length c168_4)) (ds := []) (fl 35 0) (by kernel_rfl) rfl rfl ⟨(blk_cell BK181.out 0).trans rfl, (blk_cell BK181.out 1).trans rfl, (blk_cell BK181.out 2).trans rfl, (blk_cell BK169.out 0).trans rfl, (blk_cell BK169.out 1).trans rfl, (blk_cell BK169.out 2).trans rfl, (blk_cell BK169.out 3).trans rfl, (blk_cell BK169.out 4).trans rfl⟩ (fun hHeld => ?_); refine with_tabW impl_StateOk.tab11 impl_StateOk.bits11 (fun HT_ HW_ => ?_)
                    generalize w53.drew = w54 at BK167 BK169 BK181 HB hHeld ⊢
                    refine pq_ 0 67 (fl 35 1) HT_.out ?_
                    refine pq_ 2 69 (fl 35 5) HT_.out ?_
                    refine tq_ 1 68 (fl 35 7) HT_.out HW_.out hHeld ?_
                    refine tq_ 3 70 (fl 35 15) HT_.out HW_.out hHeld ?_
                    refine pq_ 4 71 (fl 35 31) HT_.out ?_
                    refine one_ (i := 5) (N := some 72) (fl 35 63) rfl rfl (one_of HT_.out (by kernel_rfl)) (by decide) (fun K hK => ?_)
                    refine goes_ Try.func13 (by kernel_rfl) rfl #[.int .i64 ((rd_T40 ((rd_T36 l0_0 x10_1).f4) x62_3).f0), .int .i64 1, .int .i64 (wrap64 (((rd_T36 l0_0 x10_1).f3) - 1))] (by rfl) rfl rfl (by (try simp only [List.map_toArray, List.map_cons, List.map_nil]); first | done | rfl | (simp only [List.length_drop, List.length_take]; rfl)) ?_
                    with_reducible refine (impl_in.calls ((rd_T40 ((rd_T36 l0_0 x10_1).f4) x62_3).f0) 1 (wrap64 (((rd_T36 l0_0 x10_1).f3) - 1)) true _ A47.out).mono ?_
                    rintro e w' ⟨rfl, ⟨nd, rfl⟩⟩
                    refine ⟨_, rfl, ?_⟩
                    refine hK.out _ _ ⟨(blk_cell BK181.out 0).trans rfl, (blk_cell BK181.out 1).trans rfl, (blk_cell BK181.out 2).trans rfl, (blk_cell BK169.out 0).trans rfl, (blk_cell BK169.out 1).trans rfl, (blk_cell BK169.out 2).trans rfl, (blk_cell BK169.out 3).trans rfl, (blk_cell BK169.out 4).trans rfl⟩ (fun hHeld => ?_)
                    clear hK K
                    refine norm_ (a' := ?_) ?_ ?_
                    rotate_left
                    ·show Act.put _ (some 72) _ = _
                     simp only [Act.put, List.setIfInBounds_toArray, List.set_cons_zero, List.set_cons_succ, i64_w, i32_w]
                     rfl
                    refine pq_ 6 73 (fl 35 127) HT_.out ?_
                    refine pq_ 7 74 (fl 35 255) HT_.out ?_
                    refine pq_ 8 75 (fl 35 511) HT_.out ?_
                    refine tq_ 9 76 (fl 35 1023) HT_.out HW_.out hHeld ?_
                    refine one_ (i := 10) (N := some 77) (fl 35 2047) rfl rfl (one_of HT_.out (by kernel_rfl)) (by decide) (fun K hK => ?_)
                    refine goes_ Try.func13 (by kernel_rfl) rfl #[.int .i64 ((rd_T40 ((rd_T36 l0_0 x10_1).f4) x62_3).f1), .int .i64 0, .int .i64 7] (by rfl) rfl rfl (by (try simp only [List.map_toArray, List.map_cons, List.map_nil]); first | done | rfl | (simp only [List.length_drop, List.length_take]; rfl)) ?_
                    with_reducible refine (impl_in.calls ((rd_T40 ((rd_T36 l0_0 x10_1).f4) x62_3).f1) 0 7 true _ A49.out).mono ?_
                    rintro e w' ⟨rfl, ⟨nd, rfl⟩⟩
                    refine ⟨_, rfl, ?_⟩
                    refine hK.out _ _ ⟨(blk_cell BK181.out 0).trans rfl, (blk_cell BK181.out 1).trans rfl, (blk_cell BK181.out 2).trans rfl, (blk_cell BK169.out 0).trans rfl, (blk_cell BK169.out 1).trans rfl, (blk_cell BK169.out 2).trans rfl, (blk_cell BK169.out 3).trans rfl, (blk_cell BK169.out 4).trans rfl⟩ (fun hHeld => ?_)
                    clear hK K
                    refine norm_ (a' := ?_) ?_ ?_
                    rotate_left
                    ·show Act.put _ (some 77) _ = _
                     simp only [Act.put, List.setIfInBounds_toArray, List.set_cons_zero, List.set_cons_succ, i64_w, i32_w]
                     rfl
                    refine pq_ 11 78 (fl 35 4095) HT_.out ?_
                    refine pq_ 12 79 (fl 35 8191) HT_.out ?_
                    refine pq_ 13 80 (fl 35 16383) HT_.out ?_
                    refine pq_ 14 81 (fl 35 32767) HT_.out ?_
                    refine tq_ 15 82 (fl 35 65535) HT_.out HW_.out hHeld ?_
                    refine pq_ 16 83 (fl 35 131071) HT_.out ?_
                    refine pq_ 17 84 (fl 35 262143) HT_.out ?_
                    refine pq_ 18 85 (fl 35 524287) HT_.out ?_
                    refine pq_ 19 86 (fl 35 1048575) HT_.out ?_
                    refine pu_ 20 87 (fl 35 2097151) HT_.out ?_
                    refine pu_ 21 88 (fl 35 4194303) HT_.out ?_
                    refine pu_ 22 89 (fl 35 8388607) HT_.out ?_
                    refine pu_ 23 90 (fl 35 16777215) HT_.out ?_
                    refine pu_ 24 91 (fl 35 33554431) HT_.out ?_
                    refine pu_ 25 92 (fl 35 67108863) HT_.out ?_
                    refine pu_ 26 93 (fl 35 134217727) HT_.out ?_
                    refine pu_ 27 94 (fl 35 268435455) HT_.out ?_
                    refine pu_ 28 95 (fl 35 536870911) HT_.out ?_
                    refine pu_ 29 96 (fl 35 1073741823) HT_.out ?_
                    refine pu_ 30 97 (fl 35 2147483647) HT_.out ?_
                    refine pu_ 31 98 (fl 35 4294967295) HT_.out ?_
                    refine pu_ 32 99 (fl 35 8589934591) HT_.out ?_
                    refine pu_ 33 100 (fl 35 17179869183) HT_.out ?_
                    refine pq_ 34 101 (fl 35 34359738367) HT_.out ?_
                    refine done_ (done_of HT_.out (by kernel_rfl)) ?_
                    try go_wp2
                    go_ret
                    exact ⟨by first | rfl | (simp [errW_none, errW_some] <;> rfl) | (simp [*, errW_none, errW_some] <;> rfl), by repeat (first | (with_reducible first | exact HB.out | apply below_alloc | apply pw_below_drewN | apply below_drew1 | refine below_set ?_ GE167.out | refine below_set ?_ GE169.out | refine below_set ?_ GE181.out) | exact HB.out)⟩
                   ·rw [if_neg c51] at H
                    have c51b0 : decide (100 < (((rd_T40 ((rd_T36 l0_0 x10_1).f4) x62_3).f2).size : Int)) = false := decide_eq_false c51
                    have c51b1 : decide (100 < ((rd_T40 ((rd_T36 l0_0 x10_1).f4) x62_3).f2).size) = false := decide_eq_false (by omega)
                    clear c51
                    by_cases c55 : x62_3 > 0
                    ·rw [if_pos c55] at H
                     have c55b0 : decide (0 < x62_3) = true := decide_eq_true c55
                     clear c55
                     obtain ⟨ji56, hji56⟩ : ∃ j_ : Int, (wrap64 (x62_3 - 1)) = j_ := ⟨_, rfl⟩
                     replace H : (if 0 ≤ (ji56) then (if (ji56) < (((rd_T36 l0_0 x10_1).f4).length : Int) then (if ((rd_T40 ((rd_T36 l0_0 x10_1).f4) (ji56)).f0) ≥ ((rd_T40 ((rd_T36 l0_0 x10_1).f4) x62_3).f0) then (some false) else (impl_StateOk.l1 k3 l0_0 (l0_0.length : Int) x10_1 ((rd_T36 l0_0 x10_1).f4) (((rd_T36 l0_0 x10_1).f4).length : Int) (wrap64 (x62_3 + 1)) l0_0 ((rd_T36 l0_0 x10_1).f0) ((rd_T36 l0_0 x10_1).f1) ((rd_T36 l0_0 x10_1).f2) ((rd_T36 l0_0 x10_1).f3) ((rd_T36 l0_0 x10_1).f4))) else (none)) else (none)) = some r := by first | (rw [hji56] at H; exact H) | (simp only [hji56] at H ⊢; exact H)
                     (try rw [hji56] at A47)
                     (try rw [hji56] at A49)
                     have hji56w : (IntKind.i64.wrap (x62_3 - 1)) = ji56 := (i64_w _).trans hji56
                     by_cases c57 : 0 ≤ (ji56)
                     ·rw [if_pos c57] at H
                      have c57b0 : decide (0 ≤ (ji56)) = true := decide_eq_true c57
                      clear c57
                      by_cases c58 : (ji56) < (((rd_T36 l0_0 x10_1).f4).length : Int)
                      ·rw [if_pos c58] at H
                       have c58b0 : decide ((ji56) < (((rd_T36 l0_0 x10_1).f4).length : Int)) = true := decide_eq_true c58
                       clear c58
                       by_cases c59 : ((rd_T40 ((rd_T36 l0_0 x10_1).f4) (ji56)).f0) ≥ ((rd_T40 ((rd_T36 l0_0 x10_1).f4) x62_3).f0)
                       ·rw [if_pos c59] at H
                        have c59b0 : decide (((rd_T40 ((rd_T36 l0_0 x10_1).f4) x62_3).f0) ≤ ((rd_T40 ((rd_T36 l0_0 x10_1).f4) (ji56)).f0)) = true := decide_eq_true c59
                        clear c59
                        obtain rfl := Option.some.inj H
                        have p180 : 0 ≤ (x62_3 : Int) := of_decide_eq_true (by first | (with_reducible assumption) | assumption)
                        have q180 : x62_3 < (((rd_T36 l0_0 x10_1).f4).length : Int) := of_decide_eq_true (by first | (with_reducible assumption) | assumption)
                        obtain ⟨ad180, e180, hx180_0, hx180_1, hx180_2⟩ := at_T40 HR168_4.out x62_3 p180 q180
                        cases e180
                        replace hx180_0 := (HB.out.cell (World.block_lt_of_cell? w _ hx180_0)).trans hx180_0
                        replace hx180_1 := (HB.out.cell (World.block_lt_of_cell? w _ hx180_1)).trans hx180_1
                        replace hx180_2 := (HB.out.cell (World.block_lt_of_cell? w _ hx180_2)).trans hx180_2
                        replace p180 := eq_true p180
                        replace q180 := eq_true q180
                        try go_wp2_with (first | ((with_reducible refine gate_dst (N := 6) rfl ?_); (try (refine gate_guard (by rfl) ?_; dsimp only)); refine box_event ?hg (N := 6) ?hd (cs := #[.int .i64 0, .int .i64 0, .string (⟨#[]⟩ : ByteArray)]) (t := 40) ?hr ?_; (case hd => rfl); (case hg => rfl); (case hr => first | (go_simp; done) | (go_simp; rfl)); intro gb181 hg w60 hbox hb; have n0_ := Aside0.mk (blk_below BK167.out hb); have n1_ := Aside0.mk (blk_below BK169.out hb); have n2_ := Aside0.mk (below_step HB.out hb); have n3_ := Aside0.mk (hbox); have n4_ := Aside0.mk ((by rw [hg]; exact (below_size HB.out) : w.heap.size ≤ gb181)); have n5_ := Aside0.mk ((by rw [hg]; exact (below_size HB.out) : w.heap.size ≤ gb181)); have n6_ := Aside0.mk ((by rw [hg]; exact Nat.ne_of_lt (blk_lt (g := gb167) (o := .cells #[.slice (some ad168) l0_0.length c0_0] 29 (0, 0)) (by (with_reducible repeat (first | refine blk_drewN ?_ _ | refine blk_drew ?_ | refine blk_alloc ?_ _)); exact BK167.out)) : gb167 ≠ gb181)); have n7_ := Aside0.mk ((by rw [hg]; exact Nat.ne_of_gt (blk_lt (g := gb167) (o := .cells #[.slice (some ad168) l0_0.length c0_0] 29 (0, 0)) (by (with_reducible repeat (first | refine blk_drewN ?_ _ | refine blk_drew ?_ | refine blk_alloc ?_ _)); exact BK167.out)) : gb181 ≠ gb167)); have n8_ := Aside0.mk ((by rw [hg]; exact Nat.ne_of_lt (blk_lt (g := gb169) (o := .cells #[.int .i64 ((rd_T36 l0_0 x10_1).f0), .string ((rd_T36 l0_0 x10_1).f1), .string ((rd_T36 l0_0 x10_1).f2), .int .i64 ((rd_T36 l0_0 x10_1).f3), .slice (some ad180) ((rd_T36 l0_0 x10_1).f4).length c168_4] 36 (0, 0)) (by (with_reducible repeat (first | refine blk_drewN ?_ _ | refine blk_drew ?_ | refine blk_alloc ?_ _)); exact BK169.out)) : gb169 ≠ gb181)); have n9_ := Aside0.mk ((by rw [hg]; exact Nat.ne_of_gt (blk_lt (g := gb169) (o := .cells #[.int .i64 ((rd_T36 l0_0 x10_1).f0), .string ((rd_T36 l0_0 x10_1).f1), .string ((rd_T36 l0_0 x10_1).f2), .int .i64 ((rd_T36 l0_0 x10_1).f3), .slice (some ad180) ((rd_T36 l0_0 x10_1).f4).length c168_4] 36 (0, 0)) (by (with_reducible repeat (first | refine blk_drewN ?_ _ | refine blk_drew ?_ | refine blk_alloc ?_ _)); exact BK169.out)) : gb181 ≠ gb169)); clear BK167; clear BK169; clear HB; have BK167 := n0_; have BK169 := n1_; have HB := n2_; have BK181 := n3_; have GW181 := n4_; have GE181 := n5_; have NB167_181 := n6_; have NB181_167 := n7_; have NB169_181 := n8_; have NB181_169 := n9_; clear n0_ n1_ n2_ n3_ n4_ n5_ n6_ n7_ n8_ n9_; clear hb hbox hg) | ((with_reducible refine gate_store (t := 40) (p := 6) rfl ?_); refine Go.Proofs.YtjfcdjfnfhkjlaaR.store_part_event ?hg (t := 40) 6 (v := ?vo_w61) ?ho ?hn gb181 0 (.agg #[.int .i64 ((rd_T40 ((rd_T36 l0_0 x10_1).f4) x62_3).f0), .int .i64 ((rd_T40 ((rd_T36 l0_0 x10_1).f4) x62_3).f1), .string ((rd_T40 ((rd_T36 l0_0 x10_1).f4) x62_3).f2)]) #[.int .i64 ((rd_T40 ((rd_T36 l0_0 x10_1).f4) x62_3).f0), .int .i64 ((rd_T40 ((rd_T36 l0_0 x10_1).f4) x62_3).f1), .string ((rd_T40 ((rd_T36 l0_0 x10_1).f4) x62_3).f2)] #[.int .i64 0, .int .i64 0, .string (⟨#[]⟩ : ByteArray)] #[.int .i64 ((rd_T40 ((rd_T36 l0_0 x10_1).f4) x62_3).f0), .int .i64 ((rd_T40 ((rd_T36 l0_0 x10_1).f4) x62_3).f1), .string ((rd_T40 ((rd_T36 l0_0 x10_1).f4) x62_3).f2)] 40 ?hx ?hy rfl BK181.out ?hi (Nat.le_of_ble_eq_true rfl) ?h1 ?hc ?_; (case ho => rfl); (case hg => rfl); (case hn => rfl); (case hi => kernel_rfl); (case h1 => first | kernel_rfl | rfl); (case hc => kernel_rfl); (case hx => first | rfl | (go_simp; done) | (go_simp; rfl)); (case hy => first | rfl | (go_simp; done) | (go_simp; rfl)); intro w61 hbox hbut; have n0_ := Aside0.mk ((hbut.other NB167_181.out).trans BK167.out); have n1_ := Aside0.mk ((hbut.other NB169_181.out).trans BK169.out); have n2_ := Aside0.mk (hbox); have n3_ := Aside0.mk (HB.out.trans (hbut.below GE181.out)); clear BK167; clear BK169; clear BK181; clear HB; have BK167 := n0_; have BK169 := n1_; have BK181 := n2_; have HB := n3_; clear n0_ n1_ n2_ n3_; clear hbox hbut))
                        have n0_ := Aside0.mk (blk_drew BK167.out)
                        have n1_ := Aside0.mk (blk_drew BK169.out)
                        have n2_ := Aside0.mk (blk_drew BK181.out)
                        have n3_ := Aside0.mk (below_drew1 HB.out)
                        clear BK167
                        clear BK169
                        clear BK181
                        clear HB
                        have BK167 := n0_
                        have BK169 := n1_
                        have BK181 := n2_
                        have HB := n3_
                        clear n0_ n1_ n2_ n3_
                        have p184 : 0 ≤ ((ji56) : Int) := of_decide_eq_true (by first | (with_reducible assumption) | assumption)
                        have q184 : (ji56) < (((rd_T36 l0_0 x10_1).f4).length : Int) := of_decide_eq_true (by first | (with_reducible assumption) | assumption)
                        obtain ⟨ad184, e184, hx184_0, hx184_1, hx184_2⟩ := at_T40 HR168_4.out (ji56) p184 q184
                        have hw184_2 := hx184_2
                        have hw184_1 := hx184_1
                        have hw184_0 := hx184_0
                        obtain rfl : ad180 = ad184 := (by injection e184)
                        replace hx184_0 := (HB.out.cell (World.block_lt_of_cell? w _ hx184_0)).trans hx184_0
                        replace hx184_1 := (HB.out.cell (World.block_lt_of_cell? w _ hx184_1)).trans hx184_1
                        replace hx184_2 := (HB.out.cell (World.block_lt_of_cell? w _ hx184_2)).trans hx184_2
                        replace p184 := eq_true p184
                        replace q184 := eq_true q184
                        refine start_ (n := 35) (S := fun w' => w'.cell? ⟨gb181, 0, none⟩ = some (.int .i64 ((rd_T40 ((rd_T36 l0_0 x10_1).f4) x62_3).f0)) ∧ w'.cell? ⟨gb181, 1, none⟩ = some (.int .i64 ((rd_T40 ((rd_T36 l0_0 x10_1).f4) x62_3).f1)) ∧ w'.cell? ⟨gb181, 2, none⟩ = some (.string ((rd_T40 ((rd_T36 l0_0 x10_1).f4) x62_3).f2)) ∧ w'.cell? ⟨gb169, 0, none⟩ = some (.int .i64 ((rd_T36 l0_0 x10_1).f0)) ∧ w'.cell? ⟨gb169, 1, none⟩ = some (.string ((rd_T36 l0_0 x10_1).f1)) ∧ w'.cell? ⟨gb169, 2, none⟩ = some (.string ((rd_T36 l0_0 x10_1).f2)) ∧ w'.cell? ⟨gb169, 3, none⟩ = some (.int .i64 ((rd_T36 l0_0 x10_1).f3)) ∧ w'.cell? ⟨gb169, 4, none⟩ = some (.slice (some ad180) ((rd_T36 l0_0 x10_1).f4).length c168_4) ∧ w'.cell? (ad180.add (((ji56)).toNat * 3)) = some (.int .i64 ((rd_T40 ((rd_T36 l0_0 x10_1).f4) (ji56)).f0)) ∧ w'.cell? ⟨(ad180.add (((ji56)).toNat * 3)).block, (ad180.add (((ji56)).toNat * 3)).off + 1, none⟩ = some (.int .i64 ((rd_T40 ((rd_T36 l0_0 x10_1).f4) (ji56)).f1)) ∧ w'.cell? ⟨(ad180.add (((ji56)).toNat * 3)).block, (ad180.add (((ji56)).toNat * 3)).off + 2, none⟩ = some (.string ((rd_T40 ((rd_T36 l0_0 x10_1).f4) (ji56)).f2))) (ds := []) (fl 35 0) (by kernel_rfl) rfl rfl ⟨(blk_cell BK181.out 0).trans rfl, (blk_cell BK181.out 1).trans rfl, (blk_cell BK181.out 2).trans rfl, (blk_cell BK169.out 0).trans rfl, (blk_cell BK169.out 1).trans rfl, (blk_cell BK169.out 2).trans rfl, (blk_cell BK169.out 3).trans rfl, (blk_cell BK169.out 4).trans rfl, ((HB.out.cell (World.block_lt_of_cell? w _ hw184_0)).trans hw184_0), ((HB.out.cell (World.block_lt_of_cell? w _ hw184_1)).trans hw184_1), ((HB.out.cell (World.block_lt_of_cell? w _ hw184_2)).trans hw184_2)⟩ (fun hHeld => ?_); refine with_tabW impl_StateOk.tab11 impl_StateOk.bits11 (fun HT_ HW_ => ?_)
                        generalize w61.drew = w62 at BK167 BK169 BK181 HB hx184_0 hx184_1 hx184_2 hHeld ⊢
                        refine pq_ 0 67 (fl 35 1) HT_.out ?_
                        refine pq_ 2 69 (fl 35 5) HT_.out ?_
                        refine tq_ 1 68 (fl 35 7) HT_.out HW_.out hHeld ?_
                        refine tq_ 3 70 (fl 35 15) HT_.out HW_.out hHeld ?_
                        refine pq_ 4 71 (fl 35 31) HT_.out ?_
                        refine one_ (i := 5) (N := some 72) (fl 35 63) rfl rfl (one_of HT_.out (by kernel_rfl)) (by decide) (fun K hK => ?_)
                        refine goes_ Try.func13 (by kernel_rfl) rfl #[.int .i64 ((rd_T40 ((rd_T36 l0_0 x10_1).f4) x62_3).f0), .int .i64 1, .int .i64 (wrap64 (((rd_T36 l0_0 x10_1).f3) - 1))] (by rfl) rfl rfl (by (try simp only [List.map_toArray, List.map_cons, List.map_nil]); first | done | rfl | (simp only [List.length_drop, List.length_take]; rfl)) ?_
                        with_reducible refine (impl_in.calls ((rd_T40 ((rd_T36 l0_0 x10_1).f4) x62_3).f0) 1 (wrap64 (((rd_T36 l0_0 x10_1).f3) - 1)) true _ A47.out).mono ?_
                        rintro e w' ⟨rfl, ⟨nd, rfl⟩⟩
                        refine ⟨_, rfl, ?_⟩
                        refine hK.out _ _ ⟨(blk_cell BK181.out 0).trans rfl, (blk_cell BK181.out 1).trans rfl, (blk_cell BK181.out 2).trans rfl, (blk_cell BK169.out 0).trans rfl, (blk_cell BK169.out 1).trans rfl, (blk_cell BK169.out 2).trans rfl, (blk_cell BK169.out 3).trans rfl, (blk_cell BK169.out 4).trans rfl, ((HB.out.cell (World.block_lt_of_cell? w _ hw184_0)).trans hw184_0), ((HB.out.cell (World.block_lt_of_cell? w _ hw184_1)).trans hw184_1), ((HB.out.cell (World.block_lt_of_cell? w _ hw184_2)).trans hw184_2)⟩ (fun hHeld => ?_)
                        clear hK K
                        refine norm_ (a' := ?_) ?_ ?_
                        rotate_left
                        ·show Act.put _ (some 72) _ = _
                         simp only [Act.put, List.setIfInBounds_toArray, List.set_cons_zero, List.set_cons_succ, i64_w, i32_w]
                         rfl
                        refine pq_ 6 73 (fl 35 127) HT_.out ?_
                        refine pq_ 7 74 (fl 35 255) HT_.out ?_
                        refine pq_ 8 75 (fl 35 511) HT_.out ?_
                        refine tq_ 9 76 (fl 35 1023) HT_.out HW_.out hHeld ?_
                        refine one_ (i := 10) (N := some 77) (fl 35 2047) rfl rfl (one_of HT_.out (by kernel_rfl)) (by decide) (fun K hK => ?_)
                        refine goes_ Try.func13 (by kernel_rfl) rfl #[.int .i64 ((rd_T40 ((rd_T36 l0_0 x10_1).f4) x62_3).f1), .int .i64 0, .int .i64 7] (by rfl) rfl rfl (by (try simp only [List.map_toArray, List.map_cons, List.map_nil]); first | done | rfl | (simp only [List.length_drop, List.length_take]; rfl)) ?_
                        with_reducible refine (impl_in.calls ((rd_T40 ((rd_T36 l0_0 x10_1).f4) x62_3).f1) 0 7 true _ A49.out).mono ?_
                        rintro e w' ⟨rfl, ⟨nd, rfl⟩⟩
                        refine ⟨_, rfl, ?_⟩
                        refine hK.out _ _ ⟨(blk_cell BK181.out 0).trans rfl, (blk_cell BK181.out 1).trans rfl, (blk_cell BK181.out 2).trans rfl, (blk_cell BK169.out 0).trans rfl, (blk_cell BK169.out 1).trans rfl, (blk_cell BK169.out 2).trans rfl, (blk_cell BK169.out 3).trans rfl, (blk_cell BK169.out 4).trans rfl, ((HB.out.cell (World.block_lt_of_cell? w _ hw184_0)).trans hw184_0), ((HB.out.cell (World.block_lt_of_cell? w _ hw184_1)).trans hw184_1), ((HB.out.cell (World.block_lt_of_cell? w _ hw184_2)).trans hw184_2)⟩ (fun hHeld => ?_)
                        clear hK K
                        refine norm_ (a' := ?_) ?_ ?_
                        rotate_left
                        ·show Act.put _ (some 77) _ = _
                         simp only [Act.put, List.setIfInBounds_toArray, List.set_cons_zero, List.set_cons_succ, i64_w, i32_w]
                         rfl
                        refine pq_ 11 78 (fl 35 4095) HT_.out ?_
                        refine pq_ 12 79 (fl 35 8191) HT_.out ?_
                        refine pq_ 13 80 (fl 35 16383) HT_.out ?_
                        refine pq_ 14 81 (fl 35 32767) HT_.out ?_
                        refine tq_ 15 82 (fl 35 65535) HT_.out HW_.out hHeld ?_
                        refine pq_ 16 83 (fl 35 131071) HT_.out ?_
                        refine pq_ 17 84 (fl 35 262143) HT_.out ?_
                        refine pq_ 18 85 (fl 35 524287) HT_.out ?_
                        refine pq_ 19 86 (fl 35 1048575) HT_.out ?_
                        refine pq_ 20 87 (fl 35 2097151) HT_.out ?_
                        refine pq_ 21 88 (fl 35 4194303) HT_.out ?_
                        refine pq_ 22 89 (fl 35 8388607) HT_.out ?_
                        refine pq_ 23 90 (fl 35 16777215) HT_.out ?_
                        refine pq_ 25 92 (fl 35 50331647) HT_.out ?_
                        refine pq_ 26 93 (fl 35 117440511) HT_.out ?_
                        refine pq_ 30 97 (fl 35 1191182335) HT_.out ?_
                        refine tq_ 24 91 (fl 35 1207959551) HT_.out HW_.out hHeld ?_
                        refine pq_ 27 94 (fl 35 1342177279) HT_.out ?_
                        refine pq_ 28 95 (fl 35 1610612735) HT_.out ?_
                        refine tq_ 29 96 (fl 35 2147483647) HT_.out HW_.out hHeld ?_
                        refine tq_ 31 98 (fl 35 4294967295) HT_.out HW_.out hHeld ?_
                        refine pq_ 32 99 (fl 35 8589934591) HT_.out ?_
                        refine pq_ 33 100 (fl 35 17179869183) HT_.out ?_
                        refine pq_ 34 101 (fl 35 34359738367) HT_.out ?_
                        refine done_ (done_of HT_.out (by kernel_rfl)) ?_
                        try go_wp2
                        go_ret
                        exact ⟨by first | rfl | (simp [errW_none, errW_some] <;> rfl) | (simp only [← hji56]; first | rfl | (simp [errW_none, errW_some] <;> rfl)) | (simp [*, errW_none, errW_some] <;> rfl), by repeat (first | (with_reducible first | exact HB.out | apply below_alloc | apply pw_below_drewN | apply below_drew1 | refine below_set ?_ GE167.out | refine below_set ?_ GE169.out | refine below_set ?_ GE181.out) | exact HB.out)⟩
                       ·rw [if_neg c59] at H
                        have c59b0 : decide (((rd_T40 ((rd_T36 l0_0 x10_1).f4) x62_3).f0) ≤ ((rd_T40 ((rd_T36 l0_0 x10_1).f4) (ji56)).f0)) = false := decide_eq_false c59
                        clear c59
                        have H' := Aside0.mk H
                        clear H
                        have p180 : 0 ≤ (x62_3 : Int) := of_decide_eq_true (by first | (with_reducible assumption) | assumption)
                        have q180 : x62_3 < (((rd_T36 l0_0 x10_1).f4).length : Int) := of_decide_eq_true (by first | (with_reducible assumption) | assumption)
                        obtain ⟨ad180, e180, hx180_0, hx180_1, hx180_2⟩ := at_T40 HR168_4.out x62_3 p180 q180
                        cases e180
                        replace hx180_0 := (HB.out.cell (World.block_lt_of_cell? w _ hx180_0)).trans hx180_0
                        replace hx180_1 := (HB.out.cell (World.block_lt_of_cell? w _ hx180_1)).trans hx180_1
                        replace hx180_2 := (HB.out.cell (World.block_lt_of_cell? w _ hx180_2)).trans hx180_2
                        replace p180 := eq_true p180
                        replace q180 := eq_true q180
                        try go_wp2_with (first | ((with_reducible refine gate_dst (N := 6) rfl ?_); (try (refine gate_guard (by rfl) ?_; dsimp only)); refine box_event ?hg (N := 6) ?hd (cs := #[.int .i64 0, .int .i64 0, .string (⟨#[]⟩ : ByteArray)]) (t := 40) ?hr ?_; (case hd => rfl); (case hg => rfl); (case hr => first | (go_simp; done) | (go_simp; rfl)); intro gb181 hg w63 hbox hb; have n0_ := Aside0.mk (blk_below BK167.out hb); have n1_ := Aside0.mk (blk_below BK169.out hb); have n2_ := Aside0.mk (below_step HB.out hb); have n3_ := Aside0.mk (hbox); have n4_ := Aside0.mk ((by rw [hg]; exact (below_size HB.out) : w.heap.size ≤ gb181)); have n5_ := Aside0.mk ((by rw [hg]; exact (below_size HB.out) : w.heap.size ≤ gb181)); have n6_ := Aside0.mk ((by rw [hg]; exact Nat.ne_of_lt (blk_lt (g := gb167) (o := .cells #[.slice (some ad168) l0_0.length c0_0] 29 (0, 0)) (by (with_reducible repeat (first | refine blk_drewN ?_ _ | refine blk_drew ?_ | refine blk_alloc ?_ _)); exact BK167.out)) : gb167 ≠ gb181)); have n7_ := Aside0.mk ((by rw [hg]; exact Nat.ne_of_gt (blk_lt (g := gb167) (o := .cells #[.slice (some ad168) l0_0.length c0_0] 29 (0, 0)) (by (with_reducible repeat (first | refine blk_drewN ?_ _ | refine blk_drew ?_ | refine blk_alloc ?_ _)); exact BK167.out)) : gb181 ≠ gb167)); have n8_ := Aside0.mk ((by rw [hg]; exact Nat.ne_of_lt (blk_lt (g := gb169) (o := .cells #[.int .i64 ((rd_T36 l0_0 x10_1).f0), .string ((rd_T36 l0_0 x10_1).f1), .string ((rd_T36 l0_0 x10_1).f2), .int .i64 ((rd_T36 l0_0 x10_1).f3), .slice (some ad180) ((rd_T36 l0_0 x10_1).f4).length c168_4] 36 (0, 0)) (by (with_reducible repeat (first | refine blk_drewN ?_ _ | refine blk_drew ?_ | refine blk_alloc ?_ _)); exact BK169.out)) : gb169 ≠ gb181)); have n9_ := Aside0.mk ((by rw [hg]; exact Nat.ne_of_gt (blk_lt (g := gb169) (o := .cells #[.int .i64 ((rd_T36 l0_0 x10_1).f0), .string ((rd_T36 l0_0 x10_1).f1), .string ((rd_T36 l0_0 x10_1).f2), .int .i64 ((rd_T36 l0_0 x10_1).f3), .slice (some ad180) ((rd_T36 l0_0 x10_1).f4).length c168_4] 36 (0, 0)) (by (with_reducible repeat (first | refine blk_drewN ?_ _ | refine blk_drew ?_ | refine blk_alloc ?_ _)); exact BK169.out)) : gb181 ≠ gb169)); clear BK167; clear BK169; clear HB; have BK167 := n0_; have BK169 := n1_; have HB := n2_; have BK181 := n3_; have GW181 := n4_; have GE181 := n5_; have NB167_181 := n6_; have NB181_167 := n7_; have NB169_181 := n8_; have NB181_169 := n9_; clear n0_ n1_ n2_ n3_ n4_ n5_ n6_ n7_ n8_ n9_; clear hb hbox hg) | ((with_reducible refine gate_store (t := 40) (p := 6) rfl ?_); refine Go.Proofs.YtjfcdjfnfhkjlaaR.store_part_event ?hg (t := 40) 6 (v := ?vo_w64) ?ho ?hn gb181 0 (.agg #[.int .i64 ((rd_T40 ((rd_T36 l0_0 x10_1).f4) x62_3).f0), .int .i64 ((rd_T40 ((rd_T36 l0_0 x10_1).f4) x62_3).f1), .string ((rd_T40 ((rd_T36 l0_0 x10_1).f4) x62_3).f2)]) #[.int .i64 ((rd_T40 ((rd_T36 l0_0 x10_1).f4) x62_3).f0), .int .i64 ((rd_T40 ((rd_T36 l0_0 x10_1).f4) x62_3).f1), .string ((rd_T40 ((rd_T36 l0_0 x10_1).f4) x62_3).f2)] #[.int .i64 0, .int .i64 0, .string (⟨#[]⟩ : ByteArray)] #[.int .i64 ((rd_T40 ((rd_T36 l0_0 x10_1).f4) x62_3).f0), .int .i64 ((rd_T40 ((rd_T36 l0_0 x10_1).f4) x62_3).f1), .string ((rd_T40 ((rd_T36 l0_0 x10_1).f4) x62_3).f2)] 40 ?hx ?hy rfl BK181.out ?hi (Nat.le_of_ble_eq_true rfl) ?h1 ?hc ?_; (case ho => rfl); (case hg => rfl); (case hn => rfl); (case hi => kernel_rfl); (case h1 => first | kernel_rfl | rfl); (case hc => kernel_rfl); (case hx => first | rfl | (go_simp; done) | (go_simp; rfl)); (case hy => first | rfl | (go_simp; done) | (go_simp; rfl)); intro w64 hbox hbut; have n0_ := Aside0.mk ((hbut.other NB167_181.out).trans BK167.out); have n1_ := Aside0.mk ((hbut.other NB169_181.out).trans BK169.out); have n2_ := Aside0.mk (hbox); have n3_ := Aside0.mk (HB.out.trans (hbut.below GE181.out)); clear BK167; clear BK169; clear BK181; clear HB; have BK167 := n0_; have BK169 := n1_; have BK181 := n2_; have HB := n3_; clear n0_ n1_ n2_ n3_; clear hbox hbut))
                        have n0_ := Aside0.mk (blk_drew BK167.out)
                        have n1_ := Aside0.mk (blk_drew BK169.out)
                        have n2_ := Aside0.mk (blk_drew BK181.out)
                        have n3_ := Aside0.mk (below_drew1 HB.out)
                        clear BK167
                        clear BK169
                        clear BK181
                        clear HB
                        have BK167 := n0_
                        have BK169 := n1_
                        have BK181 := n2_
                        have HB := n3_
                        clear n0_ n1_ n2_ n3_
                        have p184 : 0 ≤ ((ji56) : Int) := of_decide_eq_true (by first | (with_reducible assumption) | assumption)
                        have q184 : (ji56) < (((rd_T36 l0_0 x10_1).f4).length : Int) := of_decide_eq_true (by first | (with_reducible assumption) | assumption)
                        obtain ⟨ad184, e184, hx184_0, hx184_1, hx184_2⟩ := at_T40 HR168_4.out (ji56) p184 q184
                        have hw184_2 := hx184_2
                        have hw184_1 := hx184_1
                        have hw184_0 := hx184_0
                        obtain rfl : ad180 = ad184 := (by injection e184)
                        replace hx184_0 := (HB.out.cell (World.block_lt_of_cell? w _ hx184_0)).trans hx184_0
                        replace hx184_1 := (HB.out.cell (World.block_lt_of_cell? w _ hx184_1)).trans hx184_1
                        replace hx184_2 := (HB.out.cell (World.block_lt_of_cell? w _ hx184_2)).trans hx184_2
                        replace p184 := eq_true p184
                        replace q184 := eq_true q184
                        refine start_ (n := 35) (S := fun w' => w'.cell? ⟨gb181, 0, none⟩ = some (.int .i64 ((rd_T40 ((rd_T36 l0_0 x10_1).f4) x62_3).f0)) ∧ w'.cell? ⟨gb181, 1, none⟩ = some (.int .i64 ((rd_T40 ((rd_T36 l0_0 x10_1).f4) x62_3).f1)) ∧ w'.cell? ⟨gb181, 2, none⟩ = some (.string ((rd_T40 ((rd_T36 l0_0 x10_1).f4) x62_3).f2)) ∧ w'.cell? ⟨gb169, 0, none⟩ = some (.int .i64 ((rd_T36 l0_0 x10_1).f0)) ∧ w'.cell? ⟨gb169, 1, none⟩ = some (.string ((rd_T36 l0_0 x10_1).f1)) ∧ w'.cell? ⟨gb169, 2, none⟩ = some (.string ((rd_T36 l0_0 x10_1).f2)) ∧ w'.cell? ⟨gb169, 3, none⟩ = some (.int .i64 ((rd_T36 l0_0 x10_1).f3)) ∧ w'.cell? ⟨gb169, 4, none⟩ = some (.slice (some ad180) ((rd_T36 l0_0 x10_1).f4).length c168_4) ∧ w'.cell? (ad180.add (((ji56)).toNat * 3)) = some (.int .i64 ((rd_T40 ((rd_T36 l0_0 x10_1).f4) (ji56)).f0)) ∧ w'.cell? ⟨(ad180.add (((ji56)).toNat * 3)).block, (ad180.add (((ji56)).toNat * 3)).off + 1, none⟩ = some (.int .i64 ((rd_T40 ((rd_T36 l0_0 x10_1).f4) (ji56)).f1)) ∧ w'.cell? ⟨(ad180.add (((ji56)).toNat * 3)).block, (ad180.add (((ji56)).toNat * 3)).off + 2, none⟩ = some (.string ((rd_T40 ((rd_T36 l0_0 x10_1).f4) (ji56)).f2))) (ds := []) (fl 35 0) (by kernel_rfl) rfl rfl ⟨(blk_cell BK181.out 0).trans rfl, (blk_cell BK181.out 1).trans rfl, (blk_cell BK181.out 2).trans rfl, (blk_cell BK169.out 0).trans rfl, (blk_cell BK169.out 1).trans rfl, (blk_cell BK169.out 2).trans rfl, (blk_cell BK169.out 3).trans rfl, (blk_cell BK169.out 4).trans rfl, ((HB.out.cell (World.block_lt_of_cell? w _ hw184_0)).trans hw184_0), ((HB.out.cell (World.block_lt_of_cell? w _ hw184_1)).trans hw184_1), ((HB.out.cell (World.block_lt_of_cell? w _ hw184_2)).trans hw184_2)⟩ (fun hHeld => ?_); refine with_tabW impl_StateOk.tab11 impl_StateOk.bits11 (fun HT_ HW_ => ?_)
                        generalize w64.drew = w65 at BK167 BK169 BK181 HB hx184_0 hx184_1 hx184_2 hHeld ⊢
                        refine pq_ 0 67 (fl 35 1) HT_.out ?_
                        refine pq_ 2 69 (fl 35 5) HT_.out ?_
                        refine tq_ 1 68 (fl 35 7) HT_.out HW_.out hHeld ?_
                        refine tq_ 3 70 (fl 35 15) HT_.out HW_.out hHeld ?_
                        refine pq_ 4 71 (fl 35 31) HT_.out ?_
                        refine one_ (i := 5) (N := some 72) (fl 35 63) rfl rfl (one_of HT_.out (by kernel_rfl)) (by decide) (fun K hK => ?_)
                        refine goes_ Try.func13 (by kernel_rfl) rfl #[.int .i64 ((rd_T40 ((rd_T36 l0_0 x10_1).f4) x62_3).f0), .int .i64 1, .int .i64 (wrap64 (((rd_T36 l0_0 x10_1).f3) - 1))] (by rfl) rfl rfl (by (try simp only [List.map_toArray, List.map_cons, List.map_nil]); first | done | rfl | (simp only [List.length_drop, List.length_take]; rfl)) ?_
                        with_reducible refine (impl_in.calls ((rd_T40 ((rd_T36 l0_0 x10_1).f4) x62_3).f0) 1 (wrap64 (((rd_T36 l0_0 x10_1).f3) - 1)) true _ A47.out).mono ?_
                        rintro e w' ⟨rfl, ⟨nd, rfl⟩⟩
                        refine ⟨_, rfl, ?_⟩
                        refine hK.out _ _ ⟨(blk_cell BK181.out 0).trans rfl, (blk_cell BK181.out 1).trans rfl, (blk_cell BK181.out 2).trans rfl, (blk_cell BK169.out 0).trans rfl, (blk_cell BK169.out 1).trans rfl, (blk_cell BK169.out 2).trans rfl, (blk_cell BK169.out 3).trans rfl, (blk_cell BK169.out 4).trans rfl, ((HB.out.cell (World.block_lt_of_cell? w _ hw184_0)).trans hw184_0), ((HB.out.cell (World.block_lt_of_cell? w _ hw184_1)).trans hw184_1), ((HB.out.cell (World.block_lt_of_cell? w _ hw184_2)).trans hw184_2)⟩ (fun hHeld => ?_)
                        clear hK K
                        refine norm_ (a' := ?_) ?_ ?_
                        rotate_left
                        ·show Act.put _ (some 72) _ = _
                         simp only [Act.put, List.setIfInBounds_toArray, List.set_cons_zero, List.set_cons_succ, i64_w, i32_w]
                         rfl
                        refine pq_ 6 73 (fl 35 127) HT_.out ?_
                        refine pq_ 7 74 (fl 35 255) HT_.out ?_
                        refine pq_ 8 75 (fl 35 511) HT_.out ?_
                        refine tq_ 9 76 (fl 35 1023) HT_.out HW_.out hHeld ?_
                        refine one_ (i := 10) (N := some 77) (fl 35 2047) rfl rfl (one_of HT_.out (by kernel_rfl)) (by decide) (fun K hK => ?_)
                        refine goes_ Try.func13 (by kernel_rfl) rfl #[.int .i64 ((rd_T40 ((rd_T36 l0_0 x10_1).f4) x62_3).f1), .int .i64 0, .int .i64 7] (by rfl) rfl rfl (by (try simp only [List.map_toArray, List.map_cons, List.map_nil]); first | done | rfl | (simp only [List.length_drop, List.length_take]; rfl)) ?_
                        with_reducible refine (impl_in.calls ((rd_T40 ((rd_T36 l0_0 x10_1).f4) x62_3).f1) 0 7 true _ A49.out).mono ?_
                        rintro e w' ⟨rfl, ⟨nd, rfl⟩⟩
                        refine ⟨_, rfl, ?_⟩
                        refine hK.out _ _ ⟨(blk_cell BK181.out 0).trans rfl, (blk_cell BK181.out 1).trans rfl, (blk_cell BK181.out 2).trans rfl, (blk_cell BK169.out 0).trans rfl, (blk_cell BK169.out 1).trans rfl, (blk_cell BK169.out 2).trans rfl, (blk_cell BK169.out 3).trans rfl, (blk_cell BK169.out 4).trans rfl, ((HB.out.cell (World.block_lt_of_cell? w _ hw184_0)).trans hw184_0), ((HB.out.cell (World.block_lt_of_cell? w _ hw184_1)).trans hw184_1), ((HB.out.cell (World.block_lt_of_cell? w _ hw184_2)).trans hw184_2)⟩ (fun hHeld => ?_)
                        clear hK K
                        refine norm_ (a' := ?_) ?_ ?_
                        rotate_left
                        ·show Act.put _ (some 77) _ = _
                         simp only [Act.put, List.setIfInBounds_toArray, List.set_cons_zero, List.set_cons_succ, i64_w, i32_w]
                         rfl
                        refine pq_ 11 78 (fl 35 4095) HT_.out ?_
                        refine pq_ 12 79 (fl 35 8191) HT_.out ?_
                        refine pq_ 13 80 (fl 35 16383) HT_.out ?_
                        refine pq_ 14 81 (fl 35 32767) HT_.out ?_
                        refine tq_ 15 82 (fl 35 65535) HT_.out HW_.out hHeld ?_
                        refine pq_ 16 83 (fl 35 131071) HT_.out ?_
                        refine pq_ 17 84 (fl 35 262143) HT_.out ?_
                        refine pq_ 18 85 (fl 35 524287) HT_.out ?_
                        refine pq_ 19 86 (fl 35 1048575) HT_.out ?_
                        refine pq_ 20 87 (fl 35 2097151) HT_.out ?_
                        refine pq_ 21 88 (fl 35 4194303) HT_.out ?_
                        refine pq_ 22 89 (fl 35 8388607) HT_.out ?_
                        refine pq_ 23 90 (fl 35 16777215) HT_.out ?_
                        refine pq_ 25 92 (fl 35 50331647) HT_.out ?_
                        refine pq_ 26 93 (fl 35 117440511) HT_.out ?_
                        refine pq_ 30 97 (fl 35 1191182335) HT_.out ?_
                        refine tq_ 24 91 (fl 35 1207959551) HT_.out HW_.out hHeld ?_
                        refine pq_ 27 94 (fl 35 1342177279) HT_.out ?_
                        refine pq_ 28 95 (fl 35 1610612735) HT_.out ?_
                        refine tq_ 29 96 (fl 35 2147483647) HT_.out HW_.out hHeld ?_
                        refine tq_ 31 98 (fl 35 4294967295) HT_.out HW_.out hHeld ?_
                        refine pq_ 32 99 (fl 35 8589934591) HT_.out ?_
                        refine pq_ 33 100 (fl 35 17179869183) HT_.out ?_
                        refine pq_ 34 101 (fl 35 34359738367) HT_.out ?_
                        refine done_ (done_of HT_.out (by kernel_rfl)) ?_
                        try go_wp2
                        go_roundg k3
                        case measure => have := HK1.out; have := HJ6.out; have := HK3.out; omega
                        case rel => exact ⟨(wrap64 (x62_3 + 1)), (by first | rfl | (simp; done) | (simp [*]; done) | (simp; exact (by intro l; cases l <;> rfl : ∀ l : List UInt8, l.isEmpty = !(l != [])) _)), H', ⟨by have := HK1.out; have := HJ6.out; have := HK3.out; omega⟩, ⟨by (with_reducible repeat (first | refine blk_drewN ?_ _ | refine blk_drew ?_ | refine blk_alloc ?_ _)); exact BK167.out⟩, ⟨by (with_reducible repeat (first | refine blk_drewN ?_ _ | refine blk_drew ?_ | refine blk_alloc ?_ _)); exact BK169.out⟩, ⟨by repeat (first | (with_reducible first | exact HB.out | apply below_alloc | apply pw_below_drewN | apply below_drew1 | refine below_set ?_ GE167.out | refine below_set ?_ GE169.out | refine below_set ?_ GE181.out) | exact HB.out)⟩⟩
                      ·rw [if_neg c58] at H
                       exact absurd H (by simp)
                     ·rw [if_neg c57] at H
                      exact absurd H (by simp)
                    ·rw [if_neg c55] at H
                     have c55b0 : decide (0 < x62_3) = false := decide_eq_false c55
                     clear c55
                     have H' := Aside0.mk H
                     clear H
                     have p180 : 0 ≤ (x62_3 : Int) := of_decide_eq_true (by first | (with_reducible assumption) | assumption)
                     have q180 : x62_3 < (((rd_T36 l0_0 x10_1).f4).length : Int) := of_decide_eq_true (by first | (with_reducible assumption) | assumption)
                     obtain ⟨ad180, e180, hx180_0, hx180_1, hx180_2⟩ := at_T40 HR168_4.out x62_3 p180 q180
                     cases e180
                     replace hx180_0 := (HB.out.cell (World.block_lt_of_cell? w _ hx180_0)).trans hx180_0
                     replace hx180_1 := (HB.out.cell (World.block_lt_of_cell? w _ hx180_1)).trans hx180_1
                     replace hx180_2 := (HB.out.cell (World.block_lt_of_cell? w _ hx180_2)).trans hx180_2
                     replace p180 := eq_true p180
                     replace q180 := eq_true q180
                     try go_wp2_with (first | ((with_reducible refine gate_dst (N := 6) rfl ?_); (try (refine gate_guard (by rfl) ?_; dsimp only)); refine box_event ?hg (N := 6) ?hd (cs := #[.int .i64 0, .int .i64 0, .string (⟨#[]⟩ : ByteArray)]) (t := 40) ?hr ?_; (case hd => rfl); (case hg => rfl); (case hr => first | (go_simp; done) | (go_simp; rfl)); intro gb181 hg w66 hbox hb; have n0_ := Aside0.mk (blk_below BK167.out hb); have n1_ := Aside0.mk (blk_below BK169.out hb); have n2_ := Aside0.mk (below_step HB.out hb); have n3_ := Aside0.mk (hbox); have n4_ := Aside0.mk ((by rw [hg]; exact (below_size HB.out) : w.heap.size ≤ gb181)); have n5_ := Aside0.mk ((by rw [hg]; exact (below_size HB.out) : w.heap.size ≤ gb181)); have n6_ := Aside0.mk ((by rw [hg]; exact Nat.ne_of_lt (blk_lt (g := gb167) (o := .cells #[.slice (some ad168) l0_0.length c0_0] 29 (0, 0)) (by (with_reducible repeat (first | refine blk_drewN ?_ _ | refine blk_drew ?_ | refine blk_alloc ?_ _)); exact BK167.out)) : gb167 ≠ gb181)); have n7_ := Aside0.mk ((by rw [hg]; exact Nat.ne_of_gt (blk_lt (g := gb167) (o := .cells #[.slice (some ad168) l0_0.length c0_0] 29 (0, 0)) (by (with_reducible repeat (first | refine blk_drewN ?_ _ | refine blk_drew ?_ | refine blk_alloc ?_ _)); exact BK167.out)) : gb181 ≠ gb167)); have n8_ := Aside0.mk ((by rw [hg]; exact Nat.ne_of_lt (blk_lt (g := gb169) (o := .cells #[.int .i64 ((rd_T36 l0_0 x10_1).f0), .string ((rd_T36 l0_0 x10_1).f1), .string ((rd_T36 l0_0 x10_1).f2), .int .i64 ((rd_T36 l0_0 x10_1).f3), .slice (some ad180) ((rd_T36 l0_0 x10_1).f4).length c168_4] 36 (0, 0)) (by (with_reducible repeat (first | refine blk_drewN ?_ _ | refine blk_drew ?_ | refine blk_alloc ?_ _)); exact BK169.out)) : gb169 ≠ gb181)); have n9_ := Aside0.mk ((by rw [hg]; exact Nat.ne_of_gt (blk_lt (g := gb169) (o := .cells #[.int .i64 ((rd_T36 l0_0 x10_1).f0), .string ((rd_T36 l0_0 x10_1).f1), .string ((rd_T36 l0_0 x10_1).f2), .int .i64 ((rd_T36 l0_0 x10_1).f3), .slice (some ad180) ((rd_T36 l0_0 x10_1).f4).length c168_4] 36 (0, 0)) (by (with_reducible repeat (first | refine blk_drewN ?_ _ | refine blk_drew ?_ | refine blk_alloc ?_ _)); exact BK169.out)) : gb181 ≠ gb169)); clear BK167; clear BK169; clear HB; have BK167 := n0_; have BK169 := n1_; have HB := n2_; have BK181 := n3_; have GW181 := n4_; have GE181 := n5_; have NB167_181 := n6_; have NB181_167 := n7_; have NB169_181 := n8_; have NB181_169 := n9_; clear n0_ n1_ n2_ n3_ n4_ n5_ n6_ n7_ n8_ n9_; clear hb hbox hg) | ((with_reducible refine gate_store (t := 40) (p := 6) rfl ?_); refine Go.Proofs.YtjfcdjfnfhkjlaaR.store_part_event ?hg (t := 40) 6 (v := ?vo_w67) ?ho ?hn gb181 0 (.agg #[.int .i64 ((rd_T40 ((rd_T36 l0_0 x10_1).f4) x62_3).f0), .int .i64 ((rd_T40 ((rd_T36 l0_0 x10_1).f4) x62_3).f1), .string ((rd_T40 ((rd_T36 l0_0 x10_1).f4) x62_3).f2)]) #[.int .i64 ((rd_T40 ((rd_T36 l0_0 x10_1).f4) x62_3).f0), .int .i64 ((rd_T40 ((rd_T36 l0_0 x10_1).f4) x62_3).f1), .string ((rd_T40 ((rd_T36 l0_0 x10_1).f4) x62_3).f2)] #[.int .i64 0, .int .i64 0, .string (⟨#[]⟩ : ByteArray)] #[.int .i64 ((rd_T40 ((rd_T36 l0_0 x10_1).f4) x62_3).f0), .int .i64 ((rd_T40 ((rd_T36 l0_0 x10_1).f4) x62_3).f1), .string ((rd_T40 ((rd_T36 l0_0 x10_1).f4) x62_3).f2)] 40 ?hx ?hy rfl BK181.out ?hi (Nat.le_of_ble_eq_true rfl) ?h1 ?hc ?_; (case ho => rfl); (case hg => rfl); (case hn => rfl); (case hi => kernel_rfl); (case h1 => first | kernel_rfl | rfl); (case hc => kernel_rfl); (case hx => first | rfl | (go_simp; done) | (go_simp; rfl)); (case hy => first | rfl | (go_simp; done) | (go_simp; rfl)); intro w67 hbox hbut; have n0_ := Aside0.mk ((hbut.other NB167_181.out).trans BK167.out); have n1_ := Aside0.mk ((hbut.other NB169_181.out).trans BK169.out); have n2_ := Aside0.mk (hbox); have n3_ := Aside0.mk (HB.out.trans (hbut.below GE181.out)); clear BK167; clear BK169; clear BK181; clear HB; have BK167 := n0_; have BK169 := n1_; have BK181 := n2_; have HB := n3_; clear n0_ n1_ n2_ n3_; clear hbox hbut))
                     have n0_ := Aside0.mk (blk_drew BK167.out)
                     have n1_ := Aside0.mk (blk_drew BK169.out)
                     have n2_ := Aside0.mk (blk_drew BK181.out)
                     have n3_ := Aside0.mk (below_drew1 HB.out)
                     clear BK167
                     clear BK169
                     clear BK181
                     clear HB
                     have BK167 := n0_
                     have BK169 := n1_
                     have BK181 := n2_
                     have HB := n3_
                     clear n0_ n1_ n2_ n3_
                     refine start_ (n := 35) (S := fun w' => w'.cell? ⟨gb181, 0, none⟩ = some (.int .i64 ((rd_T40 ((rd_T36 l0_0 x10_1).f4) x62_3).f0)) ∧ w'.cell? ⟨gb181, 1, none⟩ = some (.int .i64 ((rd_T40 ((rd_T36 l0_0 x10_1).f4) x62_3).f1)) ∧ w'.cell? ⟨gb181, 2, none⟩ = some (.string ((rd_T40 ((rd_T36 l0_0 x10_1).f4) x62_3).f2)) ∧ w'.cell? ⟨gb169, 0, none⟩ = some (.int .i64 ((rd_T36 l0_0 x10_1).f0)) ∧ w'.cell? ⟨gb169, 1, none⟩ = some (.string ((rd_T36 l0_0 x10_1).f1)) ∧ w'.cell? ⟨gb169, 2, none⟩ = some (.string ((rd_T36 l0_0 x10_1).f2)) ∧ w'.cell? ⟨gb169, 3, none⟩ = some (.int .i64 ((rd_T36 l0_0 x10_1).f3)) ∧ w'.cell? ⟨gb169, 4, none⟩ = some (.slice (some ad180) ((rd_T36 l0_0 x10_1).f4).length c168_4)) (ds := []) (fl 35 0) (by kernel_rfl) rfl rfl ⟨(blk_cell BK181.out 0).trans rfl, (blk_cell BK181.out 1).trans rfl, (blk_cell BK181.out 2).trans rfl, (blk_cell BK169.out 0).trans rfl, (blk_cell BK169.out 1).trans rfl, (blk_cell BK169.out 2).trans rfl, (blk_cell BK169.out 3).trans rfl, (blk_cell BK169.out 4).trans rfl⟩ (fun hHeld => ?_); refine with_tabW impl_StateOk.tab11 impl_StateOk.bits11 (fun HT_ HW_ => ?_)
                     generalize w67.drew = w68 at BK167 BK169 BK181 HB hHeld ⊢
                     refine pq_ 0 67 (fl 35 1) HT_.out ?_
                     refine pq_ 2 69 (fl 35 5) HT_.out ?_
                     refine tq_ 1 68 (fl 35 7) HT_.out HW_.out hHeld ?_
                     refine tq_ 3 70 (fl 35 15) HT_.out HW_.out hHeld ?_
                     refine pq_ 4 71 (fl 35 31) HT_.out ?_
                     refine one_ (i := 5) (N := some 72) (fl 35 63) rfl rfl (one_of HT_.out (by kernel_rfl)) (by decide) (fun K hK => ?_)
                     refine goes_ Try.func13 (by kernel_rfl) rfl #[.int .i64 ((rd_T40 ((rd_T36 l0_0 x10_1).f4) x62_3).f0), .int .i64 1, .int .i64 (wrap64 (((rd_T36 l0_0 x10_1).f3) - 1))] (by rfl) rfl rfl (by (try simp only [List.map_toArray, List.map_cons, List.map_nil]); first | done | rfl | (simp only [List.length_drop, List.length_take]; rfl)) ?_
                     with_reducible refine (impl_in.calls ((rd_T40 ((rd_T36 l0_0 x10_1).f4) x62_3).f0) 1 (wrap64 (((rd_T36 l0_0 x10_1).f3) - 1)) true _ A47.out).mono ?_
                     rintro e w' ⟨rfl, ⟨nd, rfl⟩⟩
                     refine ⟨_, rfl, ?_⟩
                     refine hK.out _ _ ⟨(blk_cell BK181.out 0).trans rfl, (blk_cell BK181.out 1).trans rfl, (blk_cell BK181.out 2).trans rfl, (blk_cell BK169.out 0).trans rfl, (blk_cell BK169.out 1).trans rfl, (blk_cell BK169.out 2).trans rfl, (blk_cell BK169.out 3).trans rfl, (blk_cell BK169.out 4).trans rfl⟩ (fun hHeld => ?_)
                     clear hK K
                     refine norm_ (a' := ?_) ?_ ?_
                     rotate_left
                     ·show Act.put _ (some 72) _ = _
                      simp only [Act.put, List.setIfInBounds_toArray, List.set_cons_zero, List.set_cons_succ, i64_w, i32_w]
                      rfl
                     refine pq_ 6 73 (fl 35 127) HT_.out ?_
                     refine pq_ 7 74 (fl 35 255) HT_.out ?_
                     refine pq_ 8 75 (fl 35 511) HT_.out ?_
                     refine tq_ 9 76 (fl 35 1023) HT_.out HW_.out hHeld ?_
                     refine one_ (i := 10) (N := some 77) (fl 35 2047) rfl rfl (one_of HT_.out (by kernel_rfl)) (by decide) (fun K hK => ?_)
                     refine goes_ Try.func13 (by kernel_rfl) rfl #[.int .i64 ((rd_T40 ((rd_T36 l0_0 x10_1).f4) x62_3).f1), .int .i64 0, .int .i64 7] (by rfl) rfl rfl (by (try simp only [List.map_toArray, List.map_cons, List.map_nil]); first | done | rfl | (simp only [List.length_drop, List.length_take]; rfl)) ?_
                     with_reducible refine (impl_in.calls ((rd_T40 ((rd_T36 l0_0 x10_1).f4) x62_3).f1) 0 7 true _ A49.out).mono ?_
                     rintro e w' ⟨rfl, ⟨nd, rfl⟩⟩
                     refine ⟨_, rfl, ?_⟩
                     refine hK.out _ _ ⟨(blk_cell BK181.out 0).trans rfl, (blk_cell BK181.out 1).trans rfl, (blk_cell BK181.out 2).trans rfl, (blk_cell BK169.out 0).trans rfl, (blk_cell BK169.out 1).trans rfl, (blk_cell BK169.out 2).trans rfl, (blk_cell BK169.out 3).trans rfl, (blk_cell BK169.out 4).trans rfl⟩ (fun hHeld => ?_)
                     clear hK K
                     refine norm_ (a' := ?_) ?_ ?_
                     rotate_left
                     ·show Act.put _ (some 77) _ = _
                      simp only [Act.put, List.setIfInBounds_toArray, List.set_cons_zero, List.set_cons_succ, i64_w, i32_w]
                      rfl
                     refine pq_ 11 78 (fl 35 4095) HT_.out ?_
                     refine pq_ 12 79 (fl 35 8191) HT_.out ?_
                     refine pq_ 13 80 (fl 35 16383) HT_.out ?_
                     refine pq_ 14 81 (fl 35 32767) HT_.out ?_
                     refine tq_ 15 82 (fl 35 65535) HT_.out HW_.out hHeld ?_
                     refine pq_ 16 83 (fl 35 131071) HT_.out ?_
                     refine pq_ 17 84 (fl 35 262143) HT_.out ?_
                     refine pq_ 18 85 (fl 35 524287) HT_.out ?_
                     refine pq_ 19 86 (fl 35 1048575) HT_.out ?_
                     refine pq_ 20 87 (fl 35 2097151) HT_.out ?_
                     refine pq_ 21 88 (fl 35 4194303) HT_.out ?_
                     refine pq_ 22 89 (fl 35 8388607) HT_.out ?_
                     refine pu_ 23 90 (fl 35 16777215) HT_.out ?_
                     refine pu_ 24 91 (fl 35 33554431) HT_.out ?_
                     refine pu_ 25 92 (fl 35 67108863) HT_.out ?_
                     refine pu_ 26 93 (fl 35 134217727) HT_.out ?_
                     refine pu_ 27 94 (fl 35 268435455) HT_.out ?_
                     refine pu_ 28 95 (fl 35 536870911) HT_.out ?_
                     refine pu_ 29 96 (fl 35 1073741823) HT_.out ?_
                     refine pu_ 30 97 (fl 35 2147483647) HT_.out ?_
                     refine pu_ 31 98 (fl 35 4294967295) HT_.out ?_
                     refine pu_ 32 99 (fl 35 8589934591) HT_.out ?_
                     refine pq_ 33 100 (fl 35 17179869183) HT_.out ?_
                     refine pq_ 34 101 (fl 35 34359738367) HT_.out ?_
                     refine done_ (done_of HT_.out (by kernel_rfl)) ?_
                     try go_wp2
                     go_roundg k3
                     case measure => have := HK1.out; have := HJ6.out; have := HK3.out; omega
                     case rel => exact ⟨(wrap64 (x62_3 + 1)), (by first | rfl | (simp; done) | (simp [*]; done) | (simp; exact (by intro l; cases l <;> rfl : ∀ l : List UInt8, l.isEmpty = !(l != [])) _)), H', ⟨by have := HK1.out; have := HJ6.out; have := HK3.out; omega⟩, ⟨by (with_reducible repeat (first | refine blk_drewN ?_ _ | refine blk_drew ?_ | refine blk_alloc ?_ _)); exact BK167.out⟩, ⟨by (with_reducible repeat (first | refine blk_drewN ?_ _ | refine blk_drew ?_ | refine blk_alloc ?_ _)); exact BK169.out⟩, ⟨by repeat (first | (with_reducible first | exact HB.out | apply below_alloc | apply pw_below_drewN | apply below_drew1 | refine below_set ?_ GE167.out | refine below_set ?_ GE169.out | refine below_set ?_ GE181.out) | exact HB.out)⟩⟩
                  ·replace c50 := Bool.eq_false_iff.mpr c50
                   subst c50
                   (try rw [if_neg (show ¬ (false = true) by decide)] at H)
                   obtain rfl := Option.some.inj H
                   have p180 : 0 ≤ (x62_3 : Int) := of_decide_eq_true (by first | (with_reducible assumption) | assumption)
                   have q180 : x62_3 < (((rd_T36 l0_0 x10_1).f4).length : Int) := of_decide_eq_true (by first | (with_reducible assumption) | assumption)
                   obtain ⟨ad180, e180, hx180_0, hx180_1, hx180_2⟩ := at_T40 HR168_4.out x62_3 p180 q180
                   cases e180
                   replace hx180_0 := (HB.out.cell (World.block_lt_of_cell? w _ hx180_0)).trans hx180_0
                   replace hx180_1 := (HB.out.cell (World.block_lt_of_cell? w _ hx180_1)).trans hx180_1
                   replace hx180_2 := (HB.out.cell (World.block_lt_of_cell? w _ hx180_2)).trans hx180_2
                   replace p180 := eq_true p180
                   replace q180 := eq_true q180
                   try go_wp2_with (first | ((with_reducible refine gate_dst (N := 6) rfl ?_); (try (refine gate_guard (by rfl) ?_; dsimp only)); refine box_event ?hg (N := 6) ?hd (cs := #[.int .i64 0, .int .i64 0, .string (⟨#[]⟩ : ByteArray)]) (t := 40) ?hr ?_; (case hd => rfl); (case hg => rfl); (case hr => first | (go_simp; done) | (go_simp; rfl)); intro gb181 hg w69 hbox hb; have n0_ := Aside0.mk (blk_below BK167.out hb); have n1_ := Aside0.mk (blk_below BK169.out hb); have n2_ := Aside0.mk (below_step HB.out hb); have n3_ := Aside0.mk (hbox); have n4_ := Aside0.mk ((by rw [hg]; exact (below_size HB.out) : w.heap.size ≤ gb181)); have n5_ := Aside0.mk ((by rw [hg]; exact (below_size HB.out) : w.heap.size ≤ gb181)); have n6_ := Aside0.mk ((by rw [hg]; exact Nat.ne_of_lt (blk_lt (g := gb167) (o := .cells #[.slice (some ad168) l0_0.length c0_0] 29 (0, 0)) (by (with_reducible repeat (first | refine blk_drewN ?_ _ | refine blk_drew ?_ | refine blk_alloc ?_ _)); exact BK167.out)) : gb167 ≠ gb181)); have n7_ := Aside0.mk ((by rw [hg]; exact Nat.ne_of_gt (blk_lt (g := gb167) (o := .cells #[.slice (some ad168) l0_0.length c0_0] 29 (0, 0)) (by (with_reducible repeat (first | refine blk_drewN ?_ _ | refine blk_drew ?_ | refine blk_alloc ?_ _)); exact BK167.out)) : gb181 ≠ gb167)); have n8_ := Aside0.mk ((by rw [hg]; exact Nat.ne_of_lt (blk_lt (g := gb169) (o := .cells #[.int .i64 ((rd_T36 l0_0 x10_1).f0), .string ((rd_T36 l0_0 x10_1).f1), .string ((rd_T36 l0_0 x10_1).f2), .int .i64 ((rd_T36 l0_0 x10_1).f3), .slice (some ad180) ((rd_T36 l0_0 x10_1).f4).length c168_4] 36 (0, 0)) (by (with_reducible repeat (first | refine blk_drewN ?_ _ | refine blk_drew ?_ | refine blk_alloc ?_ _)); exact BK169.out)) : gb169 ≠ gb181)); have n9_ := Aside0.mk ((by rw [hg]; exact Nat.ne_of_gt (blk_lt (g := gb169) (o := .cells #[.int .i64 ((rd_T36 l0_0 x10_1).f0), .string ((rd_T36 l0_0 x10_1).f1), .string ((rd_T36 l0_0 x10_1).f2), .int .i64 ((rd_T36 l0_0 x10_1).f3), .slice (some ad180) ((rd_T36 l0_0 x10_1).f4).length c168_4] 36 (0, 0)) (by (with_reducible repeat (first | refine blk_drewN ?_ _ | refine blk_drew ?_ | refine blk_alloc ?_ _)); exact BK169.out)) : gb181 ≠ gb169)); clear BK167; clear BK169; clear HB; have BK167 := n0_; have BK169 := n1_; have HB := n2_; have BK181 := n3_; have GW181 := n4_; have GE181 := n5_; have NB167_181 := n6_; have NB181_167 := n7_; have NB169_181 := n8_; have NB181_169 := n9_; clear n0_ n1_ n2_ n3_ n4_ n5_ n6_ n7_ n8_ n9_; clear hb hbox hg) | ((with_reducible refine gate_store (t := 40) (p := 6) rfl ?_); refine Go.Proofs.YtjfcdjfnfhkjlaaR.store_part_event ?hg (t := 40) 6 (v := ?vo_w70) ?ho ?hn gb181 0 (.agg #[.int .i64 ((rd_T40 ((rd_T36 l0_0 x10_1).f4) x62_3).f0), .int .i64 ((rd_T40 ((rd_T36 l0_0 x10_1).f4) x62_3).f1), .string ((rd_T40 ((rd_T36 l0_0 x10_1).f4) x62_3).f2)]) #[.int .i64 ((rd_T40 ((rd_T36 l0_0 x10_1).f4) x62_3).f0), .int .i64 ((rd_T40 ((rd_T36 l0_0 x10_1).f4) x62_3).f1), .string ((rd_T40 ((rd_T36 l0_0 x10_1).f4) x62_3).f2)] #[.int .i64 0, .int .i64 0, .string (⟨#[]⟩ : ByteArray)] #[.int .i64 ((rd_T40 ((rd_T36 l0_0 x10_1).f4) x62_3).f0), .int .i64 ((rd_T40 ((rd_T36 l0_0 x10_1).f4) x62_3).f1), .string ((rd_T40 ((rd_T36 l0_0 x10_1).f4) x62_3).f2)] 40 ?hx ?hy rfl BK181.out ?hi (Nat.le_of_ble_eq_true rfl) ?h1 ?hc ?_; (case ho => rfl); (case hg => rfl); (case hn => rfl); (case hi => kernel_rfl); (case h1 => first | kernel_rfl | rfl); (case hc => kernel_rfl); (case hx => first | rfl | (go_simp; done) | (go_simp; rfl)); (case hy => first | rfl | (go_simp; done) | (go_simp; rfl)); intro w70 hbox hbut; have n0_ := Aside0.mk ((hbut.other NB167_181.out).trans BK167.out); have n1_ := Aside0.mk ((hbut.other NB169_181.out).trans BK169.out); have n2_ := Aside0.mk (hbox); have n3_ := Aside0.mk (HB.out.trans (hbut.below GE181.out)); clear BK167; clear BK169; clear BK181; clear HB; have BK167 := n0_; have BK169 := n1_; have BK181 := n2_; have HB := n3_; clear n0_ n1_ n2_ n3_; clear hbox hbut))
                   have n0_ := Aside0.mk (blk_drew BK167.out)
                   have n1_ := Aside0.mk (blk_drew BK169.out)
                   have n2_ := Aside0.mk (blk_drew BK181.out)
                   have n3_ := Aside0.mk (below_drew1 HB.out)
                   clear BK167
                   clear BK169
                   clear BK181
                   clear HB
                   have BK167 := n0_
                   have BK169 := n1_
                   have BK181 := n2_
                   have HB := n3_
                   clear n0_ n1_ n2_ n3_
                   refine start_ (n := 35) (S := fun w' => w'.cell? ⟨gb181, 0, none⟩ = some (.int .i64 ((rd_T40 ((rd_T36 l0_0 x10_1).f4) x62_3).f0)) ∧ w'.cell? ⟨gb181, 1, none⟩ = some (.int .i64 ((rd_T40 ((rd_T36 l0_0 x10_1).f4) x62_3).f1)) ∧ w'.cell? ⟨gb181, 2, none⟩ = some (.string ((rd_T40 ((rd_T36 l0_0 x10_1).f4) x62_3).f2)) ∧ w'.cell? ⟨gb169, 0, none⟩ = some (.int .i64 ((rd_T36 l0_0 x10_1).f0)) ∧ w'.cell? ⟨gb169, 1, none⟩ = some (.string ((rd_T36 l0_0 x10_1).f1)) ∧ w'.cell? ⟨gb169, 2, none⟩ = some (.string ((rd_T36 l0_0 x10_1).f2)) ∧ w'.cell? ⟨gb169, 3, none⟩ = some (.int .i64 ((rd_T36 l0_0 x10_1).f3)) ∧ w'.cell? ⟨gb169, 4, none⟩ = some (.slice (some ad180) ((rd_T36 l0_0 x10_1).f4).length c168_4)) (ds := []) (fl 35 0) (by kernel_rfl) rfl rfl ⟨(blk_cell BK181.out 0).trans rfl, (blk_cell BK181.out 1).trans rfl, (blk_cell BK181.out 2).trans rfl, (blk_cell BK169.out 0).trans rfl, (blk_cell BK169.out 1).trans rfl, (blk_cell BK169.out 2).trans rfl, (blk_cell BK169.out 3).trans rfl, (blk_cell BK169.out 4).trans rfl⟩ (fun hHeld => ?_); refine with_tabW impl_StateOk.tab11 impl_StateOk.bits11 (fun HT_ HW_ => ?_)
                   generalize w70.drew = w71 at BK167 BK169 BK181 HB hHeld ⊢
                   refine pq_ 0 67 (fl 35 1) HT_.out ?_
                   refine pq_ 2 69 (fl 35 5) HT_.out ?_
                   refine tq_ 1 68 (fl 35 7) HT_.out HW_.out hHeld ?_
                   refine tq_ 3 70 (fl 35 15) HT_.out HW_.out hHeld ?_
                   refine pq_ 4 71 (fl 35 31) HT_.out ?_
                   refine one_ (i := 5) (N := some 72) (fl 35 63) rfl rfl (one_of HT_.out (by kernel_rfl)) (by decide) (fun K hK => ?_)
                   refine goes_ Try.func13 (by kernel_rfl) rfl #[.int .i64 ((rd_T40 ((rd_T36 l0_0 x10_1).f4) x62_3).f0), .int .i64 1, .int .i64 (wrap64 (((rd_T36 l0_0 x10_1).f3) - 1))] (by rfl) rfl rfl (by (try simp only [List.map_toArray, List.map_cons, List.map_nil]); first | done | rfl | (simp only [List.length_drop, List.length_take]; rfl)) ?_
                   with_reducible refine (impl_in.calls ((rd_T40 ((rd_T36 l0_0 x10_1).f4) x62_3).f0) 1 (wrap64 (((rd_T36 l0_0 x10_1).f3) - 1)) true _ A47.out).mono ?_
                   rintro e w' ⟨rfl, ⟨nd, rfl⟩⟩
                   refine ⟨_, rfl, ?_⟩
                   refine hK.out _ _ ⟨(blk_cell BK181.out 0).trans rfl, (blk_cell BK181.out 1).trans rfl, (blk_cell BK181.out 2).trans rfl, (blk_cell BK169.out 0).trans rfl, (blk_cell BK169.out 1).trans rfl, (blk_cell BK169.out 2).trans rfl, (blk_cell BK169.out 3).trans rfl, (blk_cell BK169.out 4).trans rfl⟩ (fun hHeld => ?_)
                   clear hK K
                   refine norm_ (a' := ?_) ?_ ?_
                   rotate_left
                   ·show Act.put _ (some 72) _ = _
                    simp only [Act.put, List.setIfInBounds_toArray, List.set_cons_zero, List.set_cons_succ, i64_w, i32_w]
                    rfl
                   refine pq_ 6 73 (fl 35 127) HT_.out ?_
                   refine pq_ 7 74 (fl 35 255) HT_.out ?_
                   refine pq_ 8 75 (fl 35 511) HT_.out ?_
                   refine tq_ 9 76 (fl 35 1023) HT_.out HW_.out hHeld ?_
                   refine one_ (i := 10) (N := some 77) (fl 35 2047) rfl rfl (one_of HT_.out (by kernel_rfl)) (by decide) (fun K hK => ?_)
                   refine goes_ Try.func13 (by kernel_rfl) rfl #[.int .i64 ((rd_T40 ((rd_T36 l0_0 x10_1).f4) x62_3).f1), .int .i64 0, .int .i64 7] (by rfl) rfl rfl (by (try simp only [List.map_toArray, List.map_cons, List.map_nil]); first | done | rfl | (simp only [List.length_drop, List.length_take]; rfl)) ?_
                   with_reducible refine (impl_in.calls ((rd_T40 ((rd_T36 l0_0 x10_1).f4) x62_3).f1) 0 7 false _ A49.out).mono ?_
                   rintro e w' ⟨rfl, ⟨nd, rfl⟩⟩
                   refine ⟨_, rfl, ?_⟩
                   refine hK.out _ _ ⟨(blk_cell BK181.out 0).trans rfl, (blk_cell BK181.out 1).trans rfl, (blk_cell BK181.out 2).trans rfl, (blk_cell BK169.out 0).trans rfl, (blk_cell BK169.out 1).trans rfl, (blk_cell BK169.out 2).trans rfl, (blk_cell BK169.out 3).trans rfl, (blk_cell BK169.out 4).trans rfl⟩ (fun hHeld => ?_)
                   clear hK K
                   refine norm_ (a' := ?_) ?_ ?_
                   rotate_left
                   ·show Act.put _ (some 77) _ = _
                    simp only [Act.put, List.setIfInBounds_toArray, List.set_cons_zero, List.set_cons_succ, i64_w, i32_w]
                    rfl
                   refine pq_ 11 78 (fl 35 4095) HT_.out ?_
                   refine pq_ 12 79 (fl 35 8191) HT_.out ?_
                   refine pq_ 13 80 (fl 35 16383) HT_.out ?_
                   refine pu_ 14 81 (fl 35 32767) HT_.out ?_
                   refine pu_ 15 82 (fl 35 65535) HT_.out ?_
                   refine pu_ 16 83 (fl 35 131071) HT_.out ?_
                   refine pu_ 17 84 (fl 35 262143) HT_.out ?_
                   refine pq_ 18 85 (fl 35 524287) HT_.out ?_
                   refine pq_ 19 86 (fl 35 1048575) HT_.out ?_
                   refine pu_ 20 87 (fl 35 2097151) HT_.out ?_
                   refine pu_ 21 88 (fl 35 4194303) HT_.out ?_
                   refine pu_ 22 89 (fl 35 8388607) HT_.out ?_
                   refine pu_ 23 90 (fl 35 16777215) HT_.out ?_
                   refine pu_ 24 91 (fl 35 33554431) HT_.out ?_
                   refine pu_ 25 92 (fl 35 67108863) HT_.out ?_
                   refine pu_ 26 93 (fl 35 134217727) HT_.out ?_
                   refine pu_ 27 94 (fl 35 268435455) HT_.out ?_
                   refine pu_ 28 95 (fl 35 536870911) HT_.out ?_
                   refine pu_ 29 96 (fl 35 1073741823) HT_.out ?_
                   refine pu_ 30 97 (fl 35 2147483647) HT_.out ?_
                   refine pu_ 31 98 (fl 35 4294967295) HT_.out ?_
                   refine pu_ 32 99 (fl 35 8589934591) HT_.out ?_
                   refine pu_ 33 100 (fl 35 17179869183) HT_.out ?_
                   refine pq_ 34 101 (fl 35 34359738367) HT_.out ?_
                   refine done_ (done_of HT_.out (by kernel_rfl)) ?_
                   try go_wp2
                   go_ret
                   exact ⟨by first | rfl | (simp [errW_none, errW_some] <;> rfl) | (simp [*, errW_none, errW_some] <;> rfl), by repeat (first | (with_reducible first | exact HB.out | apply below_alloc | apply pw_below_drewN | apply below_drew1 | refine below_set ?_ GE167.out | refine below_set ?_ GE169.out | refine below_set ?_ GE181.out) | exact HB.out)⟩
                 ·replace c48 := Bool.eq_false_iff.mpr c48
                  subst c48
                  (try rw [if_neg (show ¬ (false = true) by decide)] at H)
                  obtain rfl := Option.some.inj H
                  have p180 : 0 ≤ (x62_3 : Int) := of_decide_eq_true (by first | (with_reducible assumption) | assumption)
                  have q180 : x62_3 < (((rd_T36 l0_0 x10_1).f4).length : Int) := of_decide_eq_true (by first | (with_reducible assumption) | assumption)
                  obtain ⟨ad180, e180, hx180_0, hx180_1, hx180_2⟩ := at_T40 HR168_4.out x62_3 p180 q180
                  cases e180
                  replace hx180_0 := (HB.out.cell (World.block_lt_of_cell? w _ hx180_0)).trans hx180_0
                  replace hx180_1 := (HB.out.cell (World.block_lt_of_cell? w _ hx180_1)).trans hx180_1
                  replace hx180_2 := (HB.out.cell (World.block_lt_of_cell? w _ hx180_2)).trans hx180_2
                  replace p180 := eq_true p180
                  replace q180 := eq_true q180
                  try go_wp2_with (first | ((with_reducible refine gate_dst (N := 6) rfl ?_); (try (refine gate_guard (by rfl) ?_; dsimp only)); refine box_event ?hg (N := 6) ?hd (cs := #[.int .i64 0, .int .i64 0, .string (⟨#[]⟩ : ByteArray)]) (t := 40) ?hr ?_; (case hd => rfl); (case hg => rfl); (case hr => first | (go_simp; done) | (go_simp; rfl)); intro gb181 hg w72 hbox hb; have n0_ := Aside0.mk (blk_below BK167.out hb); have n1_ := Aside0.mk (blk_below BK169.out hb); have n2_ := Aside0.mk (below_step HB.out hb); have n3_ := Aside0.mk (hbox); have n4_ := Aside0.mk ((by rw [hg]; exact (below_size HB.out) : w.heap.size ≤ gb181)); have n5_ := Aside0.mk ((by rw [hg]; exact (below_size HB.out) : w.heap.size ≤ gb181)); have n6_ := Aside0.mk ((by rw [hg]; exact Nat.ne_of_lt (blk_lt (g := gb167) (o := .cells #[.slice (some ad168) l0_0.length c0_0] 29 (0, 0)) (by (with_reducible repeat (first | refine blk_drewN ?_ _ | refine blk_drew ?_ | refine blk_alloc ?_ _)); exact BK167.out)) : gb167 ≠ gb181)); have n7_ := Aside0.mk ((by rw [hg]; exact Nat.ne_of_gt (blk_lt (g := gb167) (o := .cells #[.slice (some ad168) l0_0.length c0_0] 29 (0, 0)) (by (with_reducible repeat (first | refine blk_drewN ?_ _ | refine blk_drew ?_ | refine blk_alloc ?_ _)); exact BK167.out)) : gb181 ≠ gb167)); have n8_ := Aside0.mk ((by rw [hg]; exact Nat.ne_of_lt (blk_lt (g := gb169) (o := .cells #[.int .i64 ((rd_T36 l0_0 x10_1).f0), .string ((rd_T36 l0_0 x10_1).f1), .string ((rd_T36 l0_0 x10_1).f2), .int .i64 ((rd_T36 l0_0 x10_1).f3), .slice (some ad180) ((rd_T36 l0_0 x10_1).f4).length c168_4] 36 (0, 0)) (by (with_reducible repeat (first | refine blk_drewN ?_ _ | refine blk_drew ?_ | refine blk_alloc ?_ _)); exact BK169.out)) : gb169 ≠ gb181)); have n9_ := Aside0.mk ((by rw [hg]; exact Nat.ne_of_gt (blk_lt (g := gb169) (o := .cells #[.int .i64 ((rd_T36 l0_0 x10_1).f0), .string ((rd_T36 l0_0 x10_1).f1), .string ((rd_T36 l0_0 x10_1).f2), .int .i64 ((rd_T36 l0_0 x10_1).f3), .slice (some ad180) ((rd_T36 l0_0 x10_1).f4).length c168_4] 36 (0, 0)) (by (with_reducible repeat (first | refine blk_drewN ?_ _ | refine blk_drew ?_ | refine blk_alloc ?_ _)); exact BK169.out)) : gb181 ≠ gb169)); clear BK167; clear BK169; clear HB; have BK167 := n0_; have BK169 := n1_; have HB := n2_; have BK181 := n3_; have GW181 := n4_; have GE181 := n5_; have NB167_181 := n6_; have NB181_167 := n7_; have NB169_181 := n8_; have NB181_169 := n9_; clear n0_ n1_ n2_ n3_ n4_ n5_ n6_ n7_ n8_ n9_; clear hb hbox hg) | ((with_reducible refine gate_store (t := 40) (p := 6) rfl ?_); refine Go.Proofs.YtjfcdjfnfhkjlaaR.store_part_event ?hg (t := 40) 6 (v := ?vo_w73) ?ho ?hn gb181 0 (.agg #[.int .i64 ((rd_T40 ((rd_T36 l0_0 x10_1).f4) x62_3).f0), .int .i64 ((rd_T40 ((rd_T36 l0_0 x10_1).f4) x62_3).f1), .string ((rd_T40 ((rd_T36 l0_0 x10_1).f4) x62_3).f2)]) #[.int .i64 ((rd_T40 ((rd_T36 l0_0 x10_1).f4) x62_3).f0), .int .i64 ((rd_T40 ((rd_T36 l0_0 x10_1).f4) x62_3).f1), .string ((rd_T40 ((rd_T36 l0_0 x10_1).f4) x62_3).f2)] #[.int .i64 0, .int .i64 0, .string (⟨#[]⟩ : ByteArray)] #[.int .i64 ((rd_T40 ((rd_T36 l0_0 x10_1).f4) x62_3).f0), .int .i64 ((rd_T40 ((rd_T36 l0_0 x10_1).f4) x62_3).f1), .string ((rd_T40 ((rd_T36 l0_0 x10_1).f4) x62_3).f2)] 40 ?hx ?hy rfl BK181.out ?hi (Nat.le_of_ble_eq_true rfl) ?h1 ?hc ?_; (case ho => rfl); (case hg => rfl); (case hn => rfl); (case hi => kernel_rfl); (case h1 => first | kernel_rfl | rfl); (case hc => kernel_rfl); (case hx => first | rfl | (go_simp; done) | (go_simp; rfl)); (case hy => first | rfl | (go_simp; done) | (go_simp; rfl)); intro w73 hbox hbut; have n0_ := Aside0.mk ((hbut.other NB167_181.out).trans BK167.out); have n1_ := Aside0.mk ((hbut.other NB169_181.out).trans BK169.out); have n2_ := Aside0.mk (hbox); have n3_ := Aside0.mk (HB.out.trans (hbut.below GE181.out)); clear BK167; clear BK169; clear BK181; clear HB; have BK167 := n0_; have BK169 := n1_; have BK181 := n2_; have HB := n3_; clear n0_ n1_ n2_ n3_; clear hbox hbut))
                  have n0_ := Aside0.mk (blk_drew BK167.out)
                  have n1_ := Aside0.mk (blk_drew BK169.out)
                  have n2_ := Aside0.mk (blk_drew BK181.out)
                  have n3_ := Aside0.mk (below_drew1 HB.out)
                  clear BK167
                  clear BK169
                  clear BK181
                  clear HB
                  have BK167 := n0_
                  have BK169 := n1_
                  have BK181 := n2_
                  have HB := n3_
                  clear n0_ n1_ n2_ n3_
                  refine start_ (n := 35) (S := fun w' => w'.cell? ⟨gb181, 0, none⟩ = some (.int .i64 ((rd_T40 ((rd_T36 l0_0 x10_1).f4) x62_3).f0)) ∧ w'.cell? ⟨gb181, 1, none⟩ = some (.int .i64 ((rd_T40 ((rd_T36 l0_0 x10_1).f4) x62_3).f1)) ∧ w'.cell? ⟨gb181, 2, none⟩ = some (.string ((rd_T40 ((rd_T36 l0_0 x10_1).f4) x62_3).f2)) ∧ w'.cell? ⟨gb169, 0, none⟩ = some (.int .i64 ((rd_T36 l0_0 x10_1).f0)) ∧ w'.cell? ⟨gb169, 1, none⟩ = some (.string ((rd_T36 l0_0 x10_1).f1)) ∧ w'.cell? ⟨gb169, 2, none⟩ = some (.string ((rd_T36 l0_0 x10_1).f2)) ∧ w'.cell? ⟨gb169, 3, none⟩ = some (.int .i64 ((rd_T36 l0_0 x10_1).f3)) ∧ w'.cell? ⟨gb169, 4, none⟩ = some (.slice (some ad180) ((rd_T36 l0_0 x10_1).f4).length c168_4)) (ds := []) (fl 35 0) (by kernel_rfl) rfl rfl ⟨(blk_cell BK181.out 0).trans rfl, (blk_cell BK181.out 1).trans rfl, (blk_cell BK181.out 2).trans rfl, (blk_cell BK169.out 0).trans rfl, (blk_cell BK169.out 1).trans rfl, (blk_cell BK169.out 2).trans rfl, (blk_cell BK169.out 3).trans rfl, (blk_cell BK169.out 4).trans rfl⟩ (fun hHeld => ?_); refine with_tabW impl_StateOk.tab11 impl_StateOk.bits11 (fun HT_ HW_ => ?_)
                  generalize w73.drew = w74 at BK167 BK169 BK181 HB hHeld ⊢
                  refine pq_ 0 67 (fl 35 1) HT_.out ?_
                  refine pq_ 2 69 (fl 35 5) HT_.out ?_
                  refine tq_ 1 68 (fl 35 7) HT_.out HW_.out hHeld ?_
                  refine tq_ 3 70 (fl 35 15) HT_.out HW_.out hHeld ?_
                  refine pq_ 4 71 (fl 35 31) HT_.out ?_
                  refine one_ (i := 5) (N := some 72) (fl 35 63) rfl rfl (one_of HT_.out (by kernel_rfl)) (by decide) (fun K hK => ?_)
                  refine goes_ Try.func13 (by kernel_rfl) rfl #[.int .i64 ((rd_T40 ((rd_T36 l0_0 x10_1).f4) x62_3).f0), .int .i64 1, .int .i64 (wrap64 (((rd_T36 l0_0 x10_1).f3) - 1))] (by rfl) rfl rfl (by (try simp only [List.map_toArray, List.map_cons, List.map_nil]); first | done | rfl | (simp only [List.length_drop, List.length_take]; rfl)) ?_
                  with_reducible refine (impl_in.calls ((rd_T40 ((rd_T36 l0_0 x10_1).f4) x62_3).f0) 1 (wrap64 (((rd_T36 l0_0 x10_1).f3) - 1)) false _ A47.out).mono ?_
                  rintro e w' ⟨rfl, ⟨nd, rfl⟩⟩
                  refine ⟨_, rfl, ?_⟩
                  refine hK.out _ _ ⟨(blk_cell BK181.out 0).trans rfl, (blk_cell BK181.out 1).trans rfl, (blk_cell BK181.out 2).trans rfl, (blk_cell BK169.out 0).trans rfl, (blk_cell BK169.out 1).trans rfl, (blk_cell BK169.out 2).trans rfl, (blk_cell BK169.out 3).trans rfl, (blk_cell BK169.out 4).trans rfl⟩ (fun hHeld => ?_)
                  clear hK K
                  refine norm_ (a' := ?_) ?_ ?_
                  rotate_left
                  ·show Act.put _ (some 72) _ = _
                   simp only [Act.put, List.setIfInBounds_toArray, List.set_cons_zero, List.set_cons_succ, i64_w, i32_w]
                   rfl
                  refine pq_ 6 73 (fl 35 127) HT_.out ?_
                  refine pq_ 7 74 (fl 35 255) HT_.out ?_
                  refine pu_ 8 75 (fl 35 511) HT_.out ?_
                  refine pu_ 9 76 (fl 35 1023) HT_.out ?_
                  refine pu_ 10 77 (fl 35 2047) HT_.out ?_
                  refine pu_ 11 78 (fl 35 4095) HT_.out ?_
                  refine pq_ 12 79 (fl 35 8191) HT_.out ?_
                  refine pq_ 13 80 (fl 35 16383) HT_.out ?_
                  refine pu_ 14 81 (fl 35 32767) HT_.out ?_
                  refine pu_ 15 82 (fl 35 65535) HT_.out ?_
                  refine pu_ 16 83 (fl 35 131071) HT_.out ?_
                  refine pu_ 17 84 (fl 35 262143) HT_.out ?_
                  refine pq_ 18 85 (fl 35 524287) HT_.out ?_
                  refine pq_ 19 86 (fl 35 1048575) HT_.out ?_
                  refine pu_ 20 87 (fl 35 2097151) HT_.out ?_
                  refine pu_ 21 88 (fl 35 4194303) HT_.out ?_
                  refine pu_ 22 89 (fl 35 8388607) HT_.out ?_
                  refine pu_ 23 90 (fl 35 16777215) HT_.out ?_
                  refine pu_ 24 91 (fl 35 33554431) HT_.out ?_
                  refine pu_ 25 92 (fl 35 67108863) HT_.out ?_
                  refine pu_ 26 93 (fl 35 134217727) HT_.out ?_
                  refine pu_ 27 94 (fl 35 268435455) HT_.out ?_
                  refine pu_ 28 95 (fl 35 536870911) HT_.out ?_
                  refine pu_ 29 96 (fl 35 1073741823) HT_.out ?_
                  refine pu_ 30 97 (fl 35 2147483647) HT_.out ?_
                  refine pu_ 31 98 (fl 35 4294967295) HT_.out ?_
                  refine pu_ 32 99 (fl 35 8589934591) HT_.out ?_
                  refine pu_ 33 100 (fl 35 17179869183) HT_.out ?_
                  refine pq_ 34 101 (fl 35 34359738367) HT_.out ?_
                  refine done_ (done_of HT_.out (by kernel_rfl)) ?_
                  try go_wp2
                  go_ret
                  exact ⟨by first | rfl | (simp [errW_none, errW_some] <;> rfl) | (simp [*, errW_none, errW_some] <;> rfl), by repeat (first | (with_reducible first | exact HB.out | apply below_alloc | apply pw_below_drewN | apply below_drew1 | refine below_set ?_ GE167.out | refine below_set ?_ GE169.out | refine below_set ?_ GE181.out) | exact HB.out)⟩
                ·rw [if_neg c46] at H
                 exact absurd H (by simp)
               ·rw [if_neg c45] at H
                exact absurd H (by simp)
              ·rw [if_neg c44] at H
               have c44b0 : decide (x62_3 < (((rd_T36 l0_0 x10_1).f4).length : Int)) = false := decide_eq_false c44
               clear c44
               have H' := Aside0.mk H
               clear H
               go_wp2
               go_roundg k3
               case measure => have := HK1.out; have := HJ6.out; have := HK3.out; omega
               case rel => exact ⟨(wrap64 (x10_1 + 1)), (by first | rfl | (simp; done) | (simp [*]; done) | (simp; exact (by intro l; cases l <;> rfl : ∀ l : List UInt8, l.isEmpty = !(l != [])) _)), H', ⟨by have := HK1.out; have := HJ6.out; have := HK3.out; omega⟩, ⟨by (with_reducible repeat (first | refine blk_drewN ?_ _ | refine blk_drew ?_ | refine blk_alloc ?_ _)); exact BK167.out⟩, ⟨by repeat (first | (with_reducible first | exact HB.out | apply below_alloc | apply pw_below_drewN | apply below_drew1 | refine below_set ?_ GE167.out | refine below_set ?_ GE169.out) | exact HB.out)⟩⟩
          ·rw [if_neg c30] at H
           exact absurd H (by simp)
         ·rw [if_neg c29] at H
          exact absurd H (by simp)
     ·rw [if_neg c6] at H
      exact absurd H (by simp)
    ·rw [if_neg c5] at H
     exact absurd H (by simp)
   ·rw [if_neg c4] at H
    have c4b0 : decide (x10_1 < (l0_0.length : Int)) = false := decide_eq_false c4
    clear c4
    obtain rfl := Option.some.inj H
    go_wp2
    go_ret
    exact ⟨by first | rfl | (simp [errW_none, errW_some] <;> rfl) | (simp [*, errW_none, errW_some] <;> rfl), by repeat (first | (with_reducible first | exact HB.out | apply below_alloc | apply pw_below_drewN | apply below_drew1 | refine below_set ?_ GE167.out) | exact HB.out)⟩

end Go.Proofs.Ytjfcdjfnfhkjlaa.QFnExactStateOk
