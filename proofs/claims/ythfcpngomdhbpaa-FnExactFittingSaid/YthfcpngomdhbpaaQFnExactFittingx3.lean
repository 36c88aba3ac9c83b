-- Written by a program of this session (myprint) out of Lean's own print of the translation. Lean checks it.
import Derived.Test.YthfcpngomdhbpaaQFnExactFittingx0
import Derived.Test.YthfcpngomdhbpaaQFnExactFittingx2
namespace Go.Proofs.Ythfcpngomdhbpaa.QFnExactFitting
open Go.Proofs.YthfcpngomdhbpaaF
open Go.RowKit Go.Proofs.YthfcpngomdhbpaaW.PrintWords Go.Proofs.YthfcpngomdhbpaaW.PrintLast Go.Proofs.YthfcpngomdhbpaaW.PrintMore
attribute [local go_sem] max2_int min2_int max_two min_two max_three min_three max_four min_four   -- for this text's walks alone
set_option linter.unusedVariables false
set_option linter.unusedSimpArgs false

/-! ### spec_RecOk: function 12 -/
mutual
def spec_RecOk.j0 : Nat → Bool → Int → Int → Int → Int → Int → ByteArray → ByteArray → ByteArray → Option (Bool)
  | 0, _, _, _, _, _, _, _, _, _ => none
  | k + 1, x15, x113000, x113001, x113002, x113003, x113004, x113005, x113006, x113007 => if x15 = true then (some false) else ((some ((x113000 == 1))).bind fun t115 => (if x113000 = 3 then (spec_RecOk.j1 k t115 true x113000 x113001 x113002 x113003 x113004 x113005 x113006 x113007) else (if x113000 = 4 then (spec_RecOk.j1 k t115 true x113000 x113001 x113002 x113003 x113004 x113005 x113006 x113007) else ((some ((x113000 == 5))).bind fun t116 => (spec_RecOk.j1 k t115 t116 x113000 x113001 x113002 x113003 x113004 x113005 x113006 x113007)))))
def spec_RecOk.j1 : Nat → Bool → Bool → Int → Int → Int → Int → Int → ByteArray → ByteArray → ByteArray → Option (Bool)
  | 0, _, _, _, _, _, _, _, _, _, _ => none
  | k + 1, x3, x4, x113000, x113001, x113002, x113003, x113004, x113005, x113006, x113007 => if x113000 = 3 then (spec_RecOk.j2 k x3 x4 true x113000 x113001 x113002 x113003 x113004 x113005 x113006 x113007) else ((some ((x113000 == 4))).bind fun t117 => (spec_RecOk.j2 k x3 x4 t117 x113000 x113001 x113002 x113003 x113004 x113005 x113006 x113007))
def spec_RecOk.j2 : Nat → Bool → Bool → Bool → Int → Int → Int → Int → Int → ByteArray → ByteArray → ByteArray → Option (Bool)
  | 0, _, _, _, _, _, _, _, _, _, _, _ => none
  | k + 1, x3, x4, x5, x113000, x113001, x113002, x113003, x113004, x113005, x113006, x113007 => if x3 = true then ((spec_WordOk.f k x113005).bind fun t118 => (if t118 = true then ((spec_WordOk.f k x113006).bind fun t119 => (if t119 = true then ((spec_l01In.f x113003 1 10000).bind fun t120 => (if t120 = true then (spec_RecOk.j3 k x4 x5 false x113000 x113001 x113002 x113003 x113004 x113005 x113006 x113007) else (spec_RecOk.j3 k x4 x5 true x113000 x113001 x113002 x113003 x113004 x113005 x113006 x113007))) else (spec_RecOk.j3 k x4 x5 true x113000 x113001 x113002 x113003 x113004 x113005 x113006 x113007))) else (spec_RecOk.j3 k x4 x5 true x113000 x113001 x113002 x113003 x113004 x113005 x113006 x113007))) else (if x113005.toList = ([] : List UInt8) then (if x113006.toList = ([] : List UInt8) then (spec_RecOk.j3 k x4 x5 (x113003 != 0) x113000 x113001 x113002 x113003 x113004 x113005 x113006 x113007) else (spec_RecOk.j3 k x4 x5 true x113000 x113001 x113002 x113003 x113004 x113005 x113006 x113007)) else (spec_RecOk.j3 k x4 x5 true x113000 x113001 x113002 x113003 x113004 x113005 x113006 x113007))
def spec_RecOk.j3 : Nat → Bool → Bool → Bool → Int → Int → Int → Int → Int → ByteArray → ByteArray → ByteArray → Option (Bool)
  | 0, _, _, _, _, _, _, _, _, _, _, _ => none
  | k + 1, x4, x5, x77, x113000, x113001, x113002, x113003, x113004, x113005, x113006, x113007 => if x77 = true then (some false) else (if x4 = true then ((spec_l01In.f x113002 1 9999).bind fun t121 => (if t121 = true then (spec_RecOk.j4 k x5 false x113000 x113001 x113002 x113003 x113004 x113005 x113006 x113007) else (spec_RecOk.j4 k x5 true x113000 x113001 x113002 x113003 x113004 x113005 x113006 x113007))) else (spec_RecOk.j4 k x5 (x113002 != 0) x113000 x113001 x113002 x113003 x113004 x113005 x113006 x113007))
def spec_RecOk.j4 : Nat → Bool → Bool → Int → Int → Int → Int → Int → ByteArray → ByteArray → ByteArray → Option (Bool)
  | 0, _, _, _, _, _, _, _, _, _, _ => none
  | k + 1, x5, x93, x113000, x113001, x113002, x113003, x113004, x113005, x113006, x113007 => if x93 = true then (some false) else (if x5 = true then ((spec_l01In.f x113004 0 7).bind fun t122 => (if t122 = true then (spec_RecOk.j5 k false x113000 x113001 x113002 x113003 x113004 x113005 x113006 x113007) else (spec_RecOk.j5 k true x113000 x113001 x113002 x113003 x113004 x113005 x113006 x113007))) else (spec_RecOk.j5 k (x113004 != 0) x113000 x113001 x113002 x113003 x113004 x113005 x113006 x113007))
def spec_RecOk.j5 : Nat → Bool → Int → Int → Int → Int → Int → ByteArray → ByteArray → ByteArray → Option (Bool)
  | 0, _, _, _, _, _, _, _, _, _ => none
  | k + 1, x109, x113000, x113001, x113002, x113003, x113004, x113005, x113006, x113007 => if x109 = true then (some false) else (if x113000 = 3 then ((some (decide ((x113007.size : Int) ≤ 100))).bind fun t123 => (some t123)) else ((some ((x113007.toList == ([] : List UInt8)))).bind fun t124 => (some t124)))
end
def spec_RecOk.f (k : Nat) (a0_0 : Int) (a0_1 : Int) (a0_2 : Int) (a0_3 : Int) (a0_4 : Int) (a0_5 : ByteArray) (a0_6 : ByteArray) (a0_7 : ByteArray) : Option (Bool) := (spec_l01In.f a0_0 1 5).bind fun t113 => (if t113 = true then ((spec_l01In.f a0_1 1 9999).bind fun t114 => (spec_RecOk.j0 k (!t114) a0_0 a0_1 a0_2 a0_3 a0_4 a0_5 a0_6 a0_7)) else (spec_RecOk.j0 k true a0_0 a0_1 a0_2 a0_3 a0_4 a0_5 a0_6 a0_7))
theorem spec_RecOk.mono_l : ∀ k, (∀ y0 y1 y2 y3 y4 y5 y6 y7 y8, LeO (spec_RecOk.j0 k y0 y1 y2 y3 y4 y5 y6 y7 y8) (spec_RecOk.j0 (k + 1) y0 y1 y2 y3 y4 y5 y6 y7 y8)) ∧ (∀ y0 y1 y2 y3 y4 y5 y6 y7 y8 y9, LeO (spec_RecOk.j1 k y0 y1 y2 y3 y4 y5 y6 y7 y8 y9) (spec_RecOk.j1 (k + 1) y0 y1 y2 y3 y4 y5 y6 y7 y8 y9)) ∧ (∀ y0 y1 y2 y3 y4 y5 y6 y7 y8 y9 y10, LeO (spec_RecOk.j2 k y0 y1 y2 y3 y4 y5 y6 y7 y8 y9 y10) (spec_RecOk.j2 (k + 1) y0 y1 y2 y3 y4 y5 y6 y7 y8 y9 y10)) ∧ (∀ y0 y1 y2 y3 y4 y5 y6 y7 y8 y9 y10, LeO (spec_RecOk.j3 k y0 y1 y2 y3 y4 y5 y6 y7 y8 y9 y10) (spec_RecOk.j3 (k + 1) y0 y1 y2 y3 y4 y5 y6 y7 y8 y9 y10)) ∧ (∀ y0 y1 y2 y3 y4 y5 y6 y7 y8 y9, LeO (spec_RecOk.j4 k y0 y1 y2 y3 y4 y5 y6 y7 y8 y9) (spec_RecOk.j4 (k + 1) y0 y1 y2 y3 y4 y5 y6 y7 y8 y9)) ∧ (∀ y0 y1 y2 y3 y4 y5 y6 y7 y8, LeO (spec_RecOk.j5 k y0 y1 y2 y3 y4 y5 y6 y7 y8) (spec_RecOk.j5 (k + 1) y0 y1 y2 y3 y4 y5 y6 y7 y8))
  | 0 => ⟨fun _ _ _ _ _ _ _ _ _ r h => by simp [spec_RecOk.j0] at h, fun _ _ _ _ _ _ _ _ _ _ r h => by simp [spec_RecOk.j1] at h, fun _ _ _ _ _ _ _ _ _ _ _ r h => by simp [spec_RecOk.j2] at h, fun _ _ _ _ _ _ _ _ _ _ _ r h => by simp [spec_RecOk.j3] at h, fun _ _ _ _ _ _ _ _ _ _ r h => by simp [spec_RecOk.j4] at h, fun _ _ _ _ _ _ _ _ _ r h => by simp [spec_RecOk.j5] at h⟩
  | k + 1 => by
    obtain ⟨ih0, ih1, ih2, ih3, ih4, ih5⟩ := spec_RecOk.mono_l k
    refine ⟨?_, ?_, ?_, ?_, ?_, ?_⟩
    · intro y0 y1 y2 y3 y4 y5 y6 y7 y8
      unfold spec_RecOk.j0
      repeat' first
      | (with_reducible exact ih0 _ _ _ _ _ _ _ _ _)
      | (with_reducible exact ih1 _ _ _ _ _ _ _ _ _ _)
      | (with_reducible exact ih2 _ _ _ _ _ _ _ _ _ _ _)
      | (with_reducible exact ih3 _ _ _ _ _ _ _ _ _ _ _)
      | (with_reducible exact ih4 _ _ _ _ _ _ _ _ _ _)
      | (with_reducible exact ih5 _ _ _ _ _ _ _ _ _)
      | (with_reducible exact spec_WordOk.mono _ _)
      | (with_reducible exact LeO.refl _)
      | (with_reducible exact LeO.none _)
      | (with_reducible refine LeO.ite ?_ ?_)
      | (with_reducible refine LeO.bind ?_ (fun _ => ?_))
      | exact ih0 _ _ _ _ _ _ _ _ _
      | exact ih1 _ _ _ _ _ _ _ _ _ _
      | exact ih2 _ _ _ _ _ _ _ _ _ _ _
      | exact ih3 _ _ _ _ _ _ _ _ _ _ _
      | exact ih4 _ _ _ _ _ _ _ _ _ _
      | exact ih5 _ _ _ _ _ _ _ _ _
      | exact spec_WordOk.mono _ _
      | exact LeO.none _
      | refine LeO.ite ?_ ?_
      | refine LeO.bind ?_ (fun _ => ?_)
    · intro y0 y1 y2 y3 y4 y5 y6 y7 y8 y9
      unfold spec_RecOk.j1
      repeat' first
      | (with_reducible exact ih0 _ _ _ _ _ _ _ _ _)
      | (with_reducible exact ih1 _ _ _ _ _ _ _ _ _ _)
      | (with_reducible exact ih2 _ _ _ _ _ _ _ _ _ _ _)
      | (with_reducible exact ih3 _ _ _ _ _ _ _ _ _ _ _)
      | (with_reducible exact ih4 _ _ _ _ _ _ _ _ _ _)
      | (with_reducible exact ih5 _ _ _ _ _ _ _ _ _)
      | (with_reducible exact spec_WordOk.mono _ _)
      | (with_reducible exact LeO.refl _)
      | (with_reducible exact LeO.none _)
      | (with_reducible refine LeO.ite ?_ ?_)
      | (with_reducible refine LeO.bind ?_ (fun _ => ?_))
      | exact ih0 _ _ _ _ _ _ _ _ _
      | exact ih1 _ _ _ _ _ _ _ _ _ _
      | exact ih2 _ _ _ _ _ _ _ _ _ _ _
      | exact ih3 _ _ _ _ _ _ _ _ _ _ _
      | exact ih4 _ _ _ _ _ _ _ _ _ _
      | exact ih5 _ _ _ _ _ _ _ _ _
      | exact spec_WordOk.mono _ _
      | exact LeO.none _
      | refine LeO.ite ?_ ?_
      | refine LeO.bind ?_ (fun _ => ?_)
    · intro y0 y1 y2 y3 y4 y5 y6 y7 y8 y9 y10
      unfold spec_RecOk.j2
      repeat' first
      | (with_reducible exact ih0 _ _ _ _ _ _ _ _ _)
      | (with_reducible exact ih1 _ _ _ _ _ _ _ _ _ _)
      | (with_reducible exact ih2 _ _ _ _ _ _ _ _ _ _ _)
      | (with_reducible exact ih3 _ _ _ _ _ _ _ _ _ _ _)
      | (with_reducible exact ih4 _ _ _ _ _ _ _ _ _ _)
      | (with_reducible exact ih5 _ _ _ _ _ _ _ _ _)
      | (with_reducible exact spec_WordOk.mono _ _)
      | (with_reducible exact LeO.refl _)
      | (with_reducible exact LeO.none _)
      | (with_reducible refine LeO.ite ?_ ?_)
      | (with_reducible refine LeO.bind ?_ (fun _ => ?_))
      | exact ih0 _ _ _ _ _ _ _ _ _
      | exact ih1 _ _ _ _ _ _ _ _ _ _
      | exact ih2 _ _ _ _ _ _ _ _ _ _ _
      | exact ih3 _ _ _ _ _ _ _ _ _ _ _
      | exact ih4 _ _ _ _ _ _ _ _ _ _
      | exact ih5 _ _ _ _ _ _ _ _ _
      | exact spec_WordOk.mono _ _
      | exact LeO.none _
      | refine LeO.ite ?_ ?_
      | refine LeO.bind ?_ (fun _ => ?_)
    · intro y0 y1 y2 y3 y4 y5 y6 y7 y8 y9 y10
      unfold spec_RecOk.j3
      repeat' first
      | (with_reducible exact ih0 _ _ _ _ _ _ _ _ _)
      | (with_reducible exact ih1 _ _ _ _ _ _ _ _ _ _)
      | (with_reducible exact ih2 _ _ _ _ _ _ _ _ _ _ _)
      | (with_reducible exact ih3 _ _ _ _ _ _ _ _ _ _ _)
      | (with_reducible exact ih4 _ _ _ _ _ _ _ _ _ _)
      | (with_reducible exact ih5 _ _ _ _ _ _ _ _ _)
      | (with_reducible exact spec_WordOk.mono _ _)
      | (with_reducible exact LeO.refl _)
      | (with_reducible exact LeO.none _)
      | (with_reducible refine LeO.ite ?_ ?_)
      | (with_reducible refine LeO.bind ?_ (fun _ => ?_))
      | exact ih0 _ _ _ _ _ _ _ _ _
      | exact ih1 _ _ _ _ _ _ _ _ _ _
      | exact ih2 _ _ _ _ _ _ _ _ _ _ _
      | exact ih3 _ _ _ _ _ _ _ _ _ _ _
      | exact ih4 _ _ _ _ _ _ _ _ _ _
      | exact ih5 _ _ _ _ _ _ _ _ _
      | exact spec_WordOk.mono _ _
      | exact LeO.none _
      | refine LeO.ite ?_ ?_
      | refine LeO.bind ?_ (fun _ => ?_)
    · intro y0 y1 y2 y3 y4 y5 y6 y7 y8 y9
      unfold spec_RecOk.j4
      repeat' first
      | (with_reducible exact ih0 _ _ _ _ _ _ _ _ _)
      | (with_reducible exact ih1 _ _ _ _ _ _ _ _ _ _)
      | (with_reducible exact ih2 _ _ _ _ _ _ _ _ _ _ _)
      | (with_reducible exact ih3 _ _ _ _ _ _ _ _ _ _ _)
      | (with_reducible exact ih4 _ _ _ _ _ _ _ _ _ _)
      | (with_reducible exact ih5 _ _ _ _ _ _ _ _ _)
      | (with_reducible exact spec_WordOk.mono _ _)
      | (with_reducible exact LeO.refl _)
      | (with_reducible exact LeO.none _)
      | (with_reducible refine LeO.ite ?_ ?_)
      | (with_reducible refine LeO.bind ?_ (fun _ => ?_))
      | exact ih0 _ _ _ _ _ _ _ _ _
      | exact ih1 _ _ _ _ _ _ _ _ _ _
      | exact ih2 _ _ _ _ _ _ _ _ _ _ _
      | exact ih3 _ _ _ _ _ _ _ _ _ _ _
      | exact ih4 _ _ _ _ _ _ _ _ _ _
      | exact ih5 _ _ _ _ _ _ _ _ _
      | exact spec_WordOk.mono _ _
      | exact LeO.none _
      | refine LeO.ite ?_ ?_
      | refine LeO.bind ?_ (fun _ => ?_)
    · intro y0 y1 y2 y3 y4 y5 y6 y7 y8
      unfold spec_RecOk.j5
      repeat' first
      | (with_reducible exact ih0 _ _ _ _ _ _ _ _ _)
      | (with_reducible exact ih1 _ _ _ _ _ _ _ _ _ _)
      | (with_reducible exact ih2 _ _ _ _ _ _ _ _ _ _ _)
      | (with_reducible exact ih3 _ _ _ _ _ _ _ _ _ _ _)
      | (with_reducible exact ih4 _ _ _ _ _ _ _ _ _ _)
      | (with_reducible exact ih5 _ _ _ _ _ _ _ _ _)
      | (with_reducible exact spec_WordOk.mono _ _)
      | (with_reducible exact LeO.refl _)
      | (with_reducible exact LeO.none _)
      | (with_reducible refine LeO.ite ?_ ?_)
      | (with_reducible refine LeO.bind ?_ (fun _ => ?_))
      | exact ih0 _ _ _ _ _ _ _ _ _
      | exact ih1 _ _ _ _ _ _ _ _ _ _
      | exact ih2 _ _ _ _ _ _ _ _ _ _ _
      | exact ih3 _ _ _ _ _ _ _ _ _ _ _
      | exact ih4 _ _ _ _ _ _ _ _ _ _
      | exact ih5 _ _ _ _ _ _ _ _ _
      | exact spec_WordOk.mono _ _
      | exact LeO.none _
      | refine LeO.ite ?_ ?_
      | refine LeO.bind ?_ (fun _ => ?_)
theorem spec_RecOk.mono : ∀ a0 a1 a2 a3 a4 a5 a6 a7 k, LeO (spec_RecOk.f k a0 a1 a2 a3 a4 a5 a6 a7) (spec_RecOk.f (k + 1) a0 a1 a2 a3 a4 a5 a6 a7) := by
  intro a0 a1 a2 a3 a4 a5 a6 a7 k
  obtain ⟨ih0, ih1, ih2, ih3, ih4, ih5⟩ := spec_RecOk.mono_l k
  unfold spec_RecOk.f
  repeat' first
      | (with_reducible exact ih0 _ _ _ _ _ _ _ _ _)
      | (with_reducible exact ih1 _ _ _ _ _ _ _ _ _ _)
      | (with_reducible exact ih2 _ _ _ _ _ _ _ _ _ _ _)
      | (with_reducible exact ih3 _ _ _ _ _ _ _ _ _ _ _)
      | (with_reducible exact ih4 _ _ _ _ _ _ _ _ _ _)
      | (with_reducible exact ih5 _ _ _ _ _ _ _ _ _)
      | (with_reducible exact spec_WordOk.mono _ _)
      | (with_reducible exact LeO.refl _)
      | (with_reducible exact LeO.none _)
      | (with_reducible refine LeO.ite ?_ ?_)
      | (with_reducible refine LeO.bind ?_ (fun _ => ?_))
      | exact ih0 _ _ _ _ _ _ _ _ _
      | exact ih1 _ _ _ _ _ _ _ _ _ _
      | exact ih2 _ _ _ _ _ _ _ _ _ _ _
      | exact ih3 _ _ _ _ _ _ _ _ _ _ _
      | exact ih4 _ _ _ _ _ _ _ _ _ _
      | exact ih5 _ _ _ _ _ _ _ _ _
      | exact spec_WordOk.mono _ _
      | exact LeO.none _
      | refine LeO.ite ?_ ?_
      | refine LeO.bind ?_ (fun _ => ?_)
set_option maxHeartbeats 8000000 in
set_option maxRecDepth 100000 in
theorem spec_RecOk.calls (k : Nat) (a0_0 : Int) (a0_1 : Int) (a0_2 : Int) (a0_3 : Int) (a0_4 : Int) (a0_5 : ByteArray) (a0_6 : ByteArray) (a0_7 : ByteArray) (r : Bool) (w : World) (h : spec_RecOk.f k a0_0 a0_1 a0_2 a0_3 a0_4 a0_5 a0_6 a0_7 = some r) :
    Calls Try.prog 12 #[.agg #[.int .i64 a0_0, .int .i64 a0_1, .int .i64 a0_2, .int .i64 a0_3, .int .i64 a0_4, .string a0_5, .string a0_6, .string a0_7]] w fun e w' => e = .returned (.bool r) ∧ Below w.heap.size w w' := by
  have hu34 := Try.underlying34
  have HB := Aside0.mk (Below.refl w.heap.size w)
  have H : ((spec_l01In.f a0_0 1 5).bind fun t113 => (if t113 = true then ((spec_l01In.f a0_1 1 9999).bind fun t114 => (spec_RecOk.j0 k (!t114) a0_0 a0_1 a0_2 a0_3 a0_4 a0_5 a0_6 a0_7)) else (spec_RecOk.j0 k true a0_0 a0_1 a0_2 a0_3 a0_4 a0_5 a0_6 a0_7))) = some r := h
  clear h
  have HC2 := Aside0.mk H
  clear H
  go_enter Try.func12, Try.ntmps12
  go_upto_region 1 with (first | ((with_reducible refine gate_dst (N := 1) rfl ?_); refine box_event ?hg (N := 1) ?hd (cs := #[.int .i64 a0_0, .int .i64 a0_1, .int .i64 a0_2, .int .i64 a0_3, .int .i64 a0_4, .string a0_5, .string a0_6, .string a0_7]) (t := 34) ?hr ?_; (case hd => rfl); (case hg => rfl); (case hr => first | (go_simp; done) | (go_simp; rfl)); intro gb112 hg w3 hbox hb; have n0_ := Aside0.mk (below_step HB.out hb); have n1_ := Aside0.mk (hbox); have n2_ := Aside0.mk ((by rw [hg]; exact (below_size HB.out) : w.heap.size ≤ gb112)); have n3_ := Aside0.mk ((by rw [hg]; exact (below_size HB.out) : w.heap.size ≤ gb112)); clear HB; have HB := n0_; have BK112 := n1_; have GW112 := n2_; have GE112 := n3_; clear n0_ n1_ n2_ n3_; clear hb hbox hg))
  (try simp only [Act.put, List.setIfInBounds_toArray, List.set_cons_zero, List.set_cons_succ])
  go_cut [15] (fun v15 wc => ∃ (kq : Nat) (x15_1 : Bool), v15 = .bool x15_1 ∧ Aside0 (spec_RecOk.j0 kq x15_1 a0_0 a0_1 a0_2 a0_3 a0_4 a0_5 a0_6 a0_7 = some r) ∧ Aside0 (kq ≤ k) ∧ Aside0 (wc.heap[gb112]? = some (.cells #[.int .i64 a0_0, .int .i64 a0_1, .int .i64 a0_2, .int .i64 a0_3, .int .i64 a0_4, .string a0_5, .string a0_6, .string a0_7] 34 (0, 0))) ∧ Aside0 (Below w.heap.size w wc))
  case first =>
    have H := HC2.out
    clear HC2
    replace H := Option.bind_eq_some_iff.mp H
    obtain ⟨t113, A40, H⟩ := H
    (try set_option simprocs false in dsimp only at H)
    have A4 := Aside0.mk A40
    clear A40
    by_cases c5 : t113 = true
    · subst c5
      (try rw [if_pos rfl] at H)
      replace H := Option.bind_eq_some_iff.mp H
      obtain ⟨t114, A60, H⟩ := H
      (try set_option simprocs false in dsimp only at H)
      have A6 := Aside0.mk A60
      clear A60
      clear_value *
      as_aux_lemma =>
        have H' := Aside0.mk H
        clear H
        have hcz7 := blk_cell BK112.out
        have hcz7_1 : w3.cell? ⟨gb112, 1, none⟩ = some (.int .i64 a0_1) := (blk_cell BK112.out 1).trans rfl
        have hcz7_2 : w3.cell? ⟨gb112, 2, none⟩ = some (.int .i64 a0_2) := (blk_cell BK112.out 2).trans rfl
        have hcz7_3 : w3.cell? ⟨gb112, 3, none⟩ = some (.int .i64 a0_3) := (blk_cell BK112.out 3).trans rfl
        have hcz7_4 : w3.cell? ⟨gb112, 4, none⟩ = some (.int .i64 a0_4) := (blk_cell BK112.out 4).trans rfl
        have hcz7_5 : w3.cell? ⟨gb112, 5, none⟩ = some (.string a0_5) := (blk_cell BK112.out 5).trans rfl
        have hcz7_6 : w3.cell? ⟨gb112, 6, none⟩ = some (.string a0_6) := (blk_cell BK112.out 6).trans rfl
        have hcz7_7 : w3.cell? ⟨gb112, 7, none⟩ = some (.string a0_7) := (blk_cell BK112.out 7).trans rfl
        have hfz7 := blk_frozen BK112.out
        have hfz7_1 := blk_frozen BK112.out 1
        have hfz7_2 := blk_frozen BK112.out 2
        have hfz7_3 := blk_frozen BK112.out 3
        have hfz7_4 := blk_frozen BK112.out 4
        have hfz7_5 := blk_frozen BK112.out 5
        have hfz7_6 := blk_frozen BK112.out 6
        have hfz7_7 := blk_frozen BK112.out 7
        go_wp2_with (first | ((with_reducible refine gate_callee (f := 25) rfl ?_); refine goesL_ (some 8) rfl rfl Try.func25 (by kernel_rfl) rfl #[.int .i64 a0_0, .int .i64 1, .int .i64 5] rfl (by (try simp only [List.map_toArray, List.map_cons, List.map_nil]); first | done | rfl | (simp only [List.length_drop, List.length_take]; rfl)) ?_; (with_reducible refine (spec_l01In.calls a0_0 1 5 true _ A4.out).mono ?_); rintro e w' ⟨rfl, ⟨nd, rfl⟩⟩; refine ⟨_, rfl, ?_⟩) | (go_at_call 25; (with_reducible refine (spec_l01In.calls a0_1 1 9999 t114 _ A6.out).mono ?_); rintro e w' ⟨rfl, ⟨nd, rfl⟩⟩))
        go_meet
        case rel => exact ⟨_, (!t114), (by first | rfl | (simp; done) | (simp [*]; done) | (simp; exact (by intro l; cases l <;> rfl : ∀ l : List UInt8, l.isEmpty = !(l != [])) _)), H', ⟨by first | omega | exact Nat.le_refl _⟩, ⟨by (with_reducible repeat (first | refine blk_drewN ?_ _ | refine blk_drew ?_ | refine blk_alloc ?_ _)); exact BK112.out⟩, ⟨by repeat (first | (with_reducible first | exact HB.out | apply below_alloc | apply pw_below_drewN | apply below_drew1 | refine below_set ?_ GE112.out) | exact HB.out)⟩⟩
    · replace c5 := Bool.eq_false_iff.mpr c5
      subst c5
      (try rw [if_neg (show ¬ (false = true) by decide)] at H)
      clear_value *
      as_aux_lemma =>
        have H' := Aside0.mk H
        clear H
        have hcz8 := blk_cell BK112.out
        have hcz8_1 : w3.cell? ⟨gb112, 1, none⟩ = some (.int .i64 a0_1) := (blk_cell BK112.out 1).trans rfl
        have hcz8_2 : w3.cell? ⟨gb112, 2, none⟩ = some (.int .i64 a0_2) := (blk_cell BK112.out 2).trans rfl
        have hcz8_3 : w3.cell? ⟨gb112, 3, none⟩ = some (.int .i64 a0_3) := (blk_cell BK112.out 3).trans rfl
        have hcz8_4 : w3.cell? ⟨gb112, 4, none⟩ = some (.int .i64 a0_4) := (blk_cell BK112.out 4).trans rfl
        have hcz8_5 : w3.cell? ⟨gb112, 5, none⟩ = some (.string a0_5) := (blk_cell BK112.out 5).trans rfl
        have hcz8_6 : w3.cell? ⟨gb112, 6, none⟩ = some (.string a0_6) := (blk_cell BK112.out 6).trans rfl
        have hcz8_7 : w3.cell? ⟨gb112, 7, none⟩ = some (.string a0_7) := (blk_cell BK112.out 7).trans rfl
        have hfz8 := blk_frozen BK112.out
        have hfz8_1 := blk_frozen BK112.out 1
        have hfz8_2 := blk_frozen BK112.out 2
        have hfz8_3 := blk_frozen BK112.out 3
        have hfz8_4 := blk_frozen BK112.out 4
        have hfz8_5 := blk_frozen BK112.out 5
        have hfz8_6 := blk_frozen BK112.out 6
        have hfz8_7 := blk_frozen BK112.out 7
        go_wp2_with (first | ((with_reducible refine gate_callee (f := 25) rfl ?_); refine goesL_ (some 8) rfl rfl Try.func25 (by kernel_rfl) rfl #[.int .i64 a0_0, .int .i64 1, .int .i64 5] rfl (by (try simp only [List.map_toArray, List.map_cons, List.map_nil]); first | done | rfl | (simp only [List.length_drop, List.length_take]; rfl)) ?_; (with_reducible refine (spec_l01In.calls a0_0 1 5 false _ A4.out).mono ?_); rintro e w' ⟨rfl, ⟨nd, rfl⟩⟩; refine ⟨_, rfl, ?_⟩))
        go_meet
        case rel => exact ⟨_, (true), (by first | rfl | (simp; done) | (simp [*]; done) | (simp; exact (by intro l; cases l <;> rfl : ∀ l : List UInt8, l.isEmpty = !(l != [])) _)), H', ⟨by first | omega | exact Nat.le_refl _⟩, ⟨by (with_reducible repeat (first | refine blk_drewN ?_ _ | refine blk_drew ?_ | refine blk_alloc ?_ _)); exact BK112.out⟩, ⟨by repeat (first | (with_reducible first | exact HB.out | apply below_alloc | apply pw_below_drewN | apply below_drew1 | refine below_set ?_ GE112.out) | exact HB.out)⟩⟩
  case rest =>
    clear HC2
    try clear c1
    try clear c2
    try clear p2
    try clear c5
    try clear hcz7_0
    try clear hcz7_1
    try clear hcz7_2
    try clear hcz7_3
    try clear hcz7_4
    try clear hcz7_5
    try clear hcz7_6
    try clear hcz7_7
    try clear hcz8_0
    try clear hcz8_1
    try clear hcz8_2
    try clear hcz8_3
    try clear hcz8_4
    try clear hcz8_5
    try clear hcz8_6
    try clear hcz8_7
    try clear hfz7_0
    try clear hfz7_1
    try clear hfz7_2
    try clear hfz7_3
    try clear hfz7_4
    try clear hfz7_5
    try clear hfz7_6
    try clear hfz7_7
    try clear hfz8_0
    try clear hfz8_1
    try clear hfz8_2
    try clear hfz8_3
    try clear hfz8_4
    try clear hfz8_5
    try clear hfz8_6
    try clear hfz8_7
    obtain ⟨kq, x15_1, rfl, HA, HJ1, BK112, HB⟩ := hcut
    cases kq with
    | zero => exact absurd HA.out (by simp [spec_RecOk.j0])
    | succ kj1 =>
      have H := HA.out
      clear HA
      simp only [spec_RecOk.j0] at H
      by_cases c9 : x15_1 = true
      · subst c9
        (try rw [if_pos rfl] at H)
        obtain rfl := Option.some.inj H
        go_wp2
        go_ret
        exact ⟨by first | rfl | (simp [errW_none, errW_some] <;> rfl) | (simp [*, errW_none, errW_some] <;> rfl), by repeat (first | (with_reducible first | exact HB.out | apply below_alloc | apply pw_below_drewN | apply below_drew1 | refine below_set ?_ GE112.out) | exact HB.out)⟩
      · replace c9 := Bool.eq_false_iff.mpr c9
        subst c9
        (try rw [if_neg (show ¬ (false = true) by decide)] at H)
        replace H := Option.bind_eq_some_iff.mp H
        obtain ⟨t115, hE, H⟩ := H
        (try set_option simprocs false in dsimp only at H)
        have hBt115 := Option.some.inj hE
        clear hE
        have HC10 := Aside0.mk H
        clear H
        have hcz11 := blk_cell BK112.out
        have hcz11_1 : wc.cell? ⟨gb112, 1, none⟩ = some (.int .i64 a0_1) := (blk_cell BK112.out 1).trans rfl
        have hcz11_2 : wc.cell? ⟨gb112, 2, none⟩ = some (.int .i64 a0_2) := (blk_cell BK112.out 2).trans rfl
        have hcz11_3 : wc.cell? ⟨gb112, 3, none⟩ = some (.int .i64 a0_3) := (blk_cell BK112.out 3).trans rfl
        have hcz11_4 : wc.cell? ⟨gb112, 4, none⟩ = some (.int .i64 a0_4) := (blk_cell BK112.out 4).trans rfl
        have hcz11_5 : wc.cell? ⟨gb112, 5, none⟩ = some (.string a0_5) := (blk_cell BK112.out 5).trans rfl
        have hcz11_6 : wc.cell? ⟨gb112, 6, none⟩ = some (.string a0_6) := (blk_cell BK112.out 6).trans rfl
        have hcz11_7 : wc.cell? ⟨gb112, 7, none⟩ = some (.string a0_7) := (blk_cell BK112.out 7).trans rfl
        have hfz11 := blk_frozen BK112.out
        have hfz11_1 := blk_frozen BK112.out 1
        have hfz11_2 := blk_frozen BK112.out 2
        have hfz11_3 := blk_frozen BK112.out 3
        have hfz11_4 := blk_frozen BK112.out 4
        have hfz11_5 := blk_frozen BK112.out 5
        have hfz11_6 := blk_frozen BK112.out 6
        have hfz11_7 := blk_frozen BK112.out 7
        go_upto_region 4 with (fail)
        go_cut [4] (fun v4 wc => ∃ (kq : Nat) (x4_9 : Bool), v4 = .bool x4_9 ∧ Aside0 (spec_RecOk.j1 kq t115 x4_9 a0_0 a0_1 a0_2 a0_3 a0_4 a0_5 a0_6 a0_7 = some r) ∧ Aside0 (kq ≤ kj1) ∧ Aside0 (wc.heap[gb112]? = some (.cells #[.int .i64 a0_0, .int .i64 a0_1, .int .i64 a0_2, .int .i64 a0_3, .int .i64 a0_4, .string a0_5, .string a0_6, .string a0_7] 34 (0, 0))) ∧ Aside0 (Below w.heap.size w wc))
        case first =>
          have H := HC10.out
          clear HC10
          by_cases c12 : a0_0 = 3
          · rw [if_pos c12] at H
            have c12b0 : (a0_0 == 3) = true := beq_iff_eq.mpr c12
            have c12b1 : (a0_0 != 3) = false := bne_eq_false_iff_eq.mpr c12
            clear c12
            (first | rw [c12b0] | (simp only [i64_w, i32_w]; rw [c12b0]) | skip)
            clear_value *
            as_aux_lemma =>
              have H' := Aside0.mk H
              clear H
              have hcz13 := blk_cell BK112.out
              have hcz13_1 : wc.cell? ⟨gb112, 1, none⟩ = some (.int .i64 a0_1) := (blk_cell BK112.out 1).trans rfl
              have hcz13_2 : wc.cell? ⟨gb112, 2, none⟩ = some (.int .i64 a0_2) := (blk_cell BK112.out 2).trans rfl
              have hcz13_3 : wc.cell? ⟨gb112, 3, none⟩ = some (.int .i64 a0_3) := (blk_cell BK112.out 3).trans rfl
              have hcz13_4 : wc.cell? ⟨gb112, 4, none⟩ = some (.int .i64 a0_4) := (blk_cell BK112.out 4).trans rfl
              have hcz13_5 : wc.cell? ⟨gb112, 5, none⟩ = some (.string a0_5) := (blk_cell BK112.out 5).trans rfl
              have hcz13_6 : wc.cell? ⟨gb112, 6, none⟩ = some (.string a0_6) := (blk_cell BK112.out 6).trans rfl
              have hcz13_7 : wc.cell? ⟨gb112, 7, none⟩ = some (.string a0_7) := (blk_cell BK112.out 7).trans rfl
              have hfz13 := blk_frozen BK112.out
              have hfz13_1 := blk_frozen BK112.out 1
              have hfz13_2 := blk_frozen BK112.out 2
              have hfz13_3 := blk_frozen BK112.out 3
              have hfz13_4 := blk_frozen BK112.out 4
              have hfz13_5 := blk_frozen BK112.out 5
              have hfz13_6 := blk_frozen BK112.out 6
              have hfz13_7 := blk_frozen BK112.out 7
              go_wp2
              go_meet
              case rel => exact ⟨_, (true), (by first | rfl | (simp; done) | (simp [*]; done) | (simp; exact (by intro l; cases l <;> rfl : ∀ l : List UInt8, l.isEmpty = !(l != [])) _)), H', ⟨by have := HJ1.out; first | omega | exact Nat.le_refl _⟩, ⟨by (with_reducible repeat (first | refine blk_drewN ?_ _ | refine blk_drew ?_ | refine blk_alloc ?_ _)); exact BK112.out⟩, ⟨by repeat (first | (with_reducible first | exact HB.out | apply below_alloc | apply pw_below_drewN | apply below_drew1 | refine below_set ?_ GE112.out) | exact HB.out)⟩⟩
          · rw [if_neg c12] at H
            have c12b0 : (a0_0 == 3) = false := beq_eq_false_iff_ne.mpr c12
            have c12b1 : (a0_0 != 3) = true := bne_iff_ne.mpr c12
            (first | rw [c12b0] | (simp only [i64_w, i32_w]; rw [c12b0]) | skip)
            by_cases c14 : a0_0 = 4
            · rw [if_pos c14] at H
              have c14b0 : (a0_0 == 4) = true := beq_iff_eq.mpr c14
              have c14b1 : (a0_0 != 4) = false := bne_eq_false_iff_eq.mpr c14
              clear c14
              clear_value *
              as_aux_lemma =>
                have H' := Aside0.mk H
                clear H
                have hcz15 := blk_cell BK112.out
                have hcz15_1 : wc.cell? ⟨gb112, 1, none⟩ = some (.int .i64 a0_1) := (blk_cell BK112.out 1).trans rfl
                have hcz15_2 : wc.cell? ⟨gb112, 2, none⟩ = some (.int .i64 a0_2) := (blk_cell BK112.out 2).trans rfl
                have hcz15_3 : wc.cell? ⟨gb112, 3, none⟩ = some (.int .i64 a0_3) := (blk_cell BK112.out 3).trans rfl
                have hcz15_4 : wc.cell? ⟨gb112, 4, none⟩ = some (.int .i64 a0_4) := (blk_cell BK112.out 4).trans rfl
                have hcz15_5 : wc.cell? ⟨gb112, 5, none⟩ = some (.string a0_5) := (blk_cell BK112.out 5).trans rfl
                have hcz15_6 : wc.cell? ⟨gb112, 6, none⟩ = some (.string a0_6) := (blk_cell BK112.out 6).trans rfl
                have hcz15_7 : wc.cell? ⟨gb112, 7, none⟩ = some (.string a0_7) := (blk_cell BK112.out 7).trans rfl
                have hfz15 := blk_frozen BK112.out
                have hfz15_1 := blk_frozen BK112.out 1
                have hfz15_2 := blk_frozen BK112.out 2
                have hfz15_3 := blk_frozen BK112.out 3
                have hfz15_4 := blk_frozen BK112.out 4
                have hfz15_5 := blk_frozen BK112.out 5
                have hfz15_6 := blk_frozen BK112.out 6
                have hfz15_7 := blk_frozen BK112.out 7
                go_wp2
                go_meet
                case rel => exact ⟨_, (true), (by first | rfl | (simp; done) | (simp [*]; done) | (simp; exact (by intro l; cases l <;> rfl : ∀ l : List UInt8, l.isEmpty = !(l != [])) _)), H', ⟨by have := HJ1.out; first | omega | exact Nat.le_refl _⟩, ⟨by (with_reducible repeat (first | refine blk_drewN ?_ _ | refine blk_drew ?_ | refine blk_alloc ?_ _)); exact BK112.out⟩, ⟨by repeat (first | (with_reducible first | exact HB.out | apply below_alloc | apply pw_below_drewN | apply below_drew1 | refine below_set ?_ GE112.out) | exact HB.out)⟩⟩
            · rw [if_neg c14] at H
              have c14b0 : (a0_0 == 4) = false := beq_eq_false_iff_ne.mpr c14
              have c14b1 : (a0_0 != 4) = true := bne_iff_ne.mpr c14
              replace H := Option.bind_eq_some_iff.mp H
              obtain ⟨t116, hE, H⟩ := H
              (try set_option simprocs false in dsimp only at H)
              have hBt116 := Option.some.inj hE
              clear hE
              clear_value *
              as_aux_lemma =>
                have H' := Aside0.mk H
                clear H
                have hcz16 := blk_cell BK112.out
                have hcz16_1 : wc.cell? ⟨gb112, 1, none⟩ = some (.int .i64 a0_1) := (blk_cell BK112.out 1).trans rfl
                have hcz16_2 : wc.cell? ⟨gb112, 2, none⟩ = some (.int .i64 a0_2) := (blk_cell BK112.out 2).trans rfl
                have hcz16_3 : wc.cell? ⟨gb112, 3, none⟩ = some (.int .i64 a0_3) := (blk_cell BK112.out 3).trans rfl
                have hcz16_4 : wc.cell? ⟨gb112, 4, none⟩ = some (.int .i64 a0_4) := (blk_cell BK112.out 4).trans rfl
                have hcz16_5 : wc.cell? ⟨gb112, 5, none⟩ = some (.string a0_5) := (blk_cell BK112.out 5).trans rfl
                have hcz16_6 : wc.cell? ⟨gb112, 6, none⟩ = some (.string a0_6) := (blk_cell BK112.out 6).trans rfl
                have hcz16_7 : wc.cell? ⟨gb112, 7, none⟩ = some (.string a0_7) := (blk_cell BK112.out 7).trans rfl
                have hfz16 := blk_frozen BK112.out
                have hfz16_1 := blk_frozen BK112.out 1
                have hfz16_2 := blk_frozen BK112.out 2
                have hfz16_3 := blk_frozen BK112.out 3
                have hfz16_4 := blk_frozen BK112.out 4
                have hfz16_5 := blk_frozen BK112.out 5
                have hfz16_6 := blk_frozen BK112.out 6
                have hfz16_7 := blk_frozen BK112.out 7
                go_wp2
                go_meet
                case rel => exact ⟨_, (t116), (by first | rfl | (simp; done) | (simp [*]; done) | (simp; exact (by intro l; cases l <;> rfl : ∀ l : List UInt8, l.isEmpty = !(l != [])) _)), H', ⟨by have := HJ1.out; first | omega | exact Nat.le_refl _⟩, ⟨by (with_reducible repeat (first | refine blk_drewN ?_ _ | refine blk_drew ?_ | refine blk_alloc ?_ _)); exact BK112.out⟩, ⟨by repeat (first | (with_reducible first | exact HB.out | apply below_alloc | apply pw_below_drewN | apply below_drew1 | refine below_set ?_ GE112.out) | exact HB.out)⟩⟩
        case rest =>
          clear HC10
          try clear c1
          try clear c2
          try clear p2
          try clear c5
          try clear c9
          try clear c12
          try clear c12b0
          try clear c12b1
          try clear c14
          try clear c14b0
          try clear c14b1
          try clear hcz11_0
          try clear hcz11_1
          try clear hcz11_2
          try clear hcz11_3
          try clear hcz11_4
          try clear hcz11_5
          try clear hcz11_6
          try clear hcz11_7
          try clear hcz13_0
          try clear hcz13_1
          try clear hcz13_2
          try clear hcz13_3
          try clear hcz13_4
          try clear hcz13_5
          try clear hcz13_6
          try clear hcz13_7
          try clear hcz15_0
          try clear hcz15_1
          try clear hcz15_2
          try clear hcz15_3
          try clear hcz15_4
          try clear hcz15_5
          try clear hcz15_6
          try clear hcz15_7
          try clear hcz16_0
          try clear hcz16_1
          try clear hcz16_2
          try clear hcz16_3
          try clear hcz16_4
          try clear hcz16_5
          try clear hcz16_6
          try clear hcz16_7
          try clear hcz7_0
          try clear hcz7_1
          try clear hcz7_2
          try clear hcz7_3
          try clear hcz7_4
          try clear hcz7_5
          try clear hcz7_6
          try clear hcz7_7
          try clear hcz8_0
          try clear hcz8_1
          try clear hcz8_2
          try clear hcz8_3
          try clear hcz8_4
          try clear hcz8_5
          try clear hcz8_6
          try clear hcz8_7
          try clear hfz11_0
          try clear hfz11_1
          try clear hfz11_2
          try clear hfz11_3
          try clear hfz11_4
          try clear hfz11_5
          try clear hfz11_6
          try clear hfz11_7
          try clear hfz13_0
          try clear hfz13_1
          try clear hfz13_2
          try clear hfz13_3
          try clear hfz13_4
          try clear hfz13_5
          try clear hfz13_6
          try clear hfz13_7
          try clear hfz15_0
          try clear hfz15_1
          try clear hfz15_2
          try clear hfz15_3
          try clear hfz15_4
          try clear hfz15_5
          try clear hfz15_6
          try clear hfz15_7
          try clear hfz16_0
          try clear hfz16_1
          try clear hfz16_2
          try clear hfz16_3
          try clear hfz16_4
          try clear hfz16_5
          try clear hfz16_6
          try clear hfz16_7
          try clear hfz7_0
          try clear hfz7_1
          try clear hfz7_2
          try clear hfz7_3
          try clear hfz7_4
          try clear hfz7_5
          try clear hfz7_6
          try clear hfz7_7
          try clear hfz8_0
          try clear hfz8_1
          try clear hfz8_2
          try clear hfz8_3
          try clear hfz8_4
          try clear hfz8_5
          try clear hfz8_6
          try clear hfz8_7
          try clear p2
          obtain ⟨kq, x4_9, rfl, HA, HJ9, BK112, HB⟩ := hcut
          cases kq with
          | zero => exact absurd HA.out (by simp [spec_RecOk.j1])
          | succ kj9 =>
            have H := HA.out
            clear HA
            simp only [spec_RecOk.j1] at H
            have HC17 := Aside0.mk H
            clear H
            go_upto_region 5 with (fail)
            go_cut [5] (fun v5 wc => ∃ (kq : Nat) (x5_16 : Bool), v5 = .bool x5_16 ∧ Aside0 (spec_RecOk.j2 kq t115 x4_9 x5_16 a0_0 a0_1 a0_2 a0_3 a0_4 a0_5 a0_6 a0_7 = some r) ∧ Aside0 (kq ≤ kj9) ∧ Aside0 (wc.heap[gb112]? = some (.cells #[.int .i64 a0_0, .int .i64 a0_1, .int .i64 a0_2, .int .i64 a0_3, .int .i64 a0_4, .string a0_5, .string a0_6, .string a0_7] 34 (0, 0))) ∧ Aside0 (Below w.heap.size w wc))
            case first =>
              have H := HC17.out
              clear HC17
              by_cases c18 : a0_0 = 3
              · rw [if_pos c18] at H
                have c18b0 : (a0_0 == 3) = true := beq_iff_eq.mpr c18
                have c18b1 : (a0_0 != 3) = false := bne_eq_false_iff_eq.mpr c18
                clear c18
                (first | rw [c18b0] | (simp only [i64_w, i32_w]; rw [c18b0]) | skip)
                clear_value *
                as_aux_lemma =>
                  have H' := Aside0.mk H
                  clear H
                  have hcz19 := blk_cell BK112.out
                  have hcz19_1 : wc.cell? ⟨gb112, 1, none⟩ = some (.int .i64 a0_1) := (blk_cell BK112.out 1).trans rfl
                  have hcz19_2 : wc.cell? ⟨gb112, 2, none⟩ = some (.int .i64 a0_2) := (blk_cell BK112.out 2).trans rfl
                  have hcz19_3 : wc.cell? ⟨gb112, 3, none⟩ = some (.int .i64 a0_3) := (blk_cell BK112.out 3).trans rfl
                  have hcz19_4 : wc.cell? ⟨gb112, 4, none⟩ = some (.int .i64 a0_4) := (blk_cell BK112.out 4).trans rfl
                  have hcz19_5 : wc.cell? ⟨gb112, 5, none⟩ = some (.string a0_5) := (blk_cell BK112.out 5).trans rfl
                  have hcz19_6 : wc.cell? ⟨gb112, 6, none⟩ = some (.string a0_6) := (blk_cell BK112.out 6).trans rfl
                  have hcz19_7 : wc.cell? ⟨gb112, 7, none⟩ = some (.string a0_7) := (blk_cell BK112.out 7).trans rfl
                  have hfz19 := blk_frozen BK112.out
                  have hfz19_1 := blk_frozen BK112.out 1
                  have hfz19_2 := blk_frozen BK112.out 2
                  have hfz19_3 := blk_frozen BK112.out 3
                  have hfz19_4 := blk_frozen BK112.out 4
                  have hfz19_5 := blk_frozen BK112.out 5
                  have hfz19_6 := blk_frozen BK112.out 6
                  have hfz19_7 := blk_frozen BK112.out 7
                  go_wp2
                  go_meet
                  case rel => exact ⟨_, (true), (by first | rfl | (simp; done) | (simp [*]; done) | (simp; exact (by intro l; cases l <;> rfl : ∀ l : List UInt8, l.isEmpty = !(l != [])) _)), H', ⟨by have := HJ1.out; have := HJ9.out; first | omega | exact Nat.le_refl _⟩, ⟨by (with_reducible repeat (first | refine blk_drewN ?_ _ | refine blk_drew ?_ | refine blk_alloc ?_ _)); exact BK112.out⟩, ⟨by repeat (first | (with_reducible first | exact HB.out | apply below_alloc | apply pw_below_drewN | apply below_drew1 | refine below_set ?_ GE112.out) | exact HB.out)⟩⟩
              · rw [if_neg c18] at H
                have c18b0 : (a0_0 == 3) = false := beq_eq_false_iff_ne.mpr c18
                have c18b1 : (a0_0 != 3) = true := bne_iff_ne.mpr c18
                (first | rw [c18b0] | (simp only [i64_w, i32_w]; rw [c18b0]) | skip)
                replace H := Option.bind_eq_some_iff.mp H
                obtain ⟨t117, hE, H⟩ := H
                (try set_option simprocs false in dsimp only at H)
                have hBt117 := Option.some.inj hE
                clear hE
                clear_value *
                as_aux_lemma =>
                  have H' := Aside0.mk H
                  clear H
                  have hcz20 := blk_cell BK112.out
                  have hcz20_1 : wc.cell? ⟨gb112, 1, none⟩ = some (.int .i64 a0_1) := (blk_cell BK112.out 1).trans rfl
                  have hcz20_2 : wc.cell? ⟨gb112, 2, none⟩ = some (.int .i64 a0_2) := (blk_cell BK112.out 2).trans rfl
                  have hcz20_3 : wc.cell? ⟨gb112, 3, none⟩ = some (.int .i64 a0_3) := (blk_cell BK112.out 3).trans rfl
                  have hcz20_4 : wc.cell? ⟨gb112, 4, none⟩ = some (.int .i64 a0_4) := (blk_cell BK112.out 4).trans rfl
                  have hcz20_5 : wc.cell? ⟨gb112, 5, none⟩ = some (.string a0_5) := (blk_cell BK112.out 5).trans rfl
                  have hcz20_6 : wc.cell? ⟨gb112, 6, none⟩ = some (.string a0_6) := (blk_cell BK112.out 6).trans rfl
                  have hcz20_7 : wc.cell? ⟨gb112, 7, none⟩ = some (.string a0_7) := (blk_cell BK112.out 7).trans rfl
                  have hfz20 := blk_frozen BK112.out
                  have hfz20_1 := blk_frozen BK112.out 1
                  have hfz20_2 := blk_frozen BK112.out 2
                  have hfz20_3 := blk_frozen BK112.out 3
                  have hfz20_4 := blk_frozen BK112.out 4
                  have hfz20_5 := blk_frozen BK112.out 5
                  have hfz20_6 := blk_frozen BK112.out 6
                  have hfz20_7 := blk_frozen BK112.out 7
                  go_wp2
                  go_meet
                  case rel => exact ⟨_, (t117), (by first | rfl | (simp; done) | (simp [*]; done) | (simp; exact (by intro l; cases l <;> rfl : ∀ l : List UInt8, l.isEmpty = !(l != [])) _)), H', ⟨by have := HJ1.out; have := HJ9.out; first | omega | exact Nat.le_refl _⟩, ⟨by (with_reducible repeat (first | refine blk_drewN ?_ _ | refine blk_drew ?_ | refine blk_alloc ?_ _)); exact BK112.out⟩, ⟨by repeat (first | (with_reducible first | exact HB.out | apply below_alloc | apply pw_below_drewN | apply below_drew1 | refine below_set ?_ GE112.out) | exact HB.out)⟩⟩
            case rest =>
              clear HC17
              try clear c1
              try clear c2
              try clear p2
              try clear c5
              try clear c9
              try clear c12
              try clear c12b0
              try clear c12b1
              try clear c14
              try clear c14b0
              try clear c14b1
              try clear c18
              try clear c18b0
              try clear c18b1
              try clear hcz11_0
              try clear hcz11_1
              try clear hcz11_2
              try clear hcz11_3
              try clear hcz11_4
              try clear hcz11_5
              try clear hcz11_6
              try clear hcz11_7
              try clear hcz13_0
              try clear hcz13_1
              try clear hcz13_2
              try clear hcz13_3
              try clear hcz13_4
              try clear hcz13_5
              try clear hcz13_6
              try clear hcz13_7
              try clear hcz15_0
              try clear hcz15_1
              try clear hcz15_2
              try clear hcz15_3
              try clear hcz15_4
              try clear hcz15_5
              try clear hcz15_6
              try clear hcz15_7
              try clear hcz16_0
              try clear hcz16_1
              try clear hcz16_2
              try clear hcz16_3
              try clear hcz16_4
              try clear hcz16_5
              try clear hcz16_6
              try clear hcz16_7
              try clear hcz19_0
              try clear hcz19_1
              try clear hcz19_2
              try clear hcz19_3
              try clear hcz19_4
              try clear hcz19_5
              try clear hcz19_6
              try clear hcz19_7
              try clear hcz20_0
              try clear hcz20_1
              try clear hcz20_2
              try clear hcz20_3
              try clear hcz20_4
              try clear hcz20_5
              try clear hcz20_6
              try clear hcz20_7
              try clear hcz7_0
              try clear hcz7_1
              try clear hcz7_2
              try clear hcz7_3
              try clear hcz7_4
              try clear hcz7_5
              try clear hcz7_6
              try clear hcz7_7
              try clear hcz8_0
              try clear hcz8_1
              try clear hcz8_2
              try clear hcz8_3
              try clear hcz8_4
              try clear hcz8_5
              try clear hcz8_6
              try clear hcz8_7
              try clear hfz11_0
              try clear hfz11_1
              try clear hfz11_2
              try clear hfz11_3
              try clear hfz11_4
              try clear hfz11_5
              try clear hfz11_6
              try clear hfz11_7
              try clear hfz13_0
              try clear hfz13_1
              try clear hfz13_2
              try clear hfz13_3
              try clear hfz13_4
              try clear hfz13_5
              try clear hfz13_6
              try clear hfz13_7
              try clear hfz15_0
              try clear hfz15_1
              try clear hfz15_2
              try clear hfz15_3
              try clear hfz15_4
              try clear hfz15_5
              try clear hfz15_6
              try clear hfz15_7
              try clear hfz16_0
              try clear hfz16_1
              try clear hfz16_2
              try clear hfz16_3
              try clear hfz16_4
              try clear hfz16_5
              try clear hfz16_6
              try clear hfz16_7
              try clear hfz19_0
              try clear hfz19_1
              try clear hfz19_2
              try clear hfz19_3
              try clear hfz19_4
              try clear hfz19_5
              try clear hfz19_6
              try clear hfz19_7
              try clear hfz20_0
              try clear hfz20_1
              try clear hfz20_2
              try clear hfz20_3
              try clear hfz20_4
              try clear hfz20_5
              try clear hfz20_6
              try clear hfz20_7
              try clear hfz7_0
              try clear hfz7_1
              try clear hfz7_2
              try clear hfz7_3
              try clear hfz7_4
              try clear hfz7_5
              try clear hfz7_6
              try clear hfz7_7
              try clear hfz8_0
              try clear hfz8_1
              try clear hfz8_2
              try clear hfz8_3
              try clear hfz8_4
              try clear hfz8_5
              try clear hfz8_6
              try clear hfz8_7
              try clear p2
              obtain ⟨kq, x5_16, rfl, HA, HJ16, BK112, HB⟩ := hcut
              cases kq with
              | zero => exact absurd HA.out (by simp [spec_RecOk.j2])
              | succ kj16 =>
                have H := HA.out
                clear HA
                simp only [spec_RecOk.j2] at H
                have HC21 := Aside0.mk H
                clear H
                go_upto_region 6 with (fail)
                go_cut [77] (fun v77 wc => ∃ (kq : Nat) (x77_20 : Bool), v77 = .bool x77_20 ∧ Aside0 (spec_RecOk.j3 kq x4_9 x5_16 x77_20 a0_0 a0_1 a0_2 a0_3 a0_4 a0_5 a0_6 a0_7 = some r) ∧ Aside0 (kq ≤ kj16) ∧ Aside0 (wc.heap[gb112]? = some (.cells #[.int .i64 a0_0, .int .i64 a0_1, .int .i64 a0_2, .int .i64 a0_3, .int .i64 a0_4, .string a0_5, .string a0_6, .string a0_7] 34 (0, 0))) ∧ Aside0 (Below w.heap.size w wc))
                case first =>
                  have H := HC21.out
                  clear HC21
                  by_cases c22 : t115 = true
                  · subst c22
                    (try rw [if_pos rfl] at H)
                    replace H := Option.bind_eq_some_iff.mp H
                    obtain ⟨t118, A230, H⟩ := H
                    (try set_option simprocs false in dsimp only at H)
                    have A23 := Aside0.mk A230
                    clear A230
                    by_cases c24 : t118 = true
                    · subst c24
                      (try rw [if_pos rfl] at H)
                      replace H := Option.bind_eq_some_iff.mp H
                      obtain ⟨t119, A250, H⟩ := H
                      (try set_option simprocs false in dsimp only at H)
                      have A25 := Aside0.mk A250
                      clear A250
                      by_cases c26 : t119 = true
                      · subst c26
                        (try rw [if_pos rfl] at H)
                        replace H := Option.bind_eq_some_iff.mp H
                        obtain ⟨t120, A270, H⟩ := H
                        (try set_option simprocs false in dsimp only at H)
                        have A27 := Aside0.mk A270
                        clear A270
                        by_cases c28 : t120 = true
                        · subst c28
                          (try rw [if_pos rfl] at H)
                          clear_value *
                          as_aux_lemma =>
                            have H' := Aside0.mk H
                            clear H
                            have hcz29 := blk_cell BK112.out
                            have hcz29_1 : wc.cell? ⟨gb112, 1, none⟩ = some (.int .i64 a0_1) := (blk_cell BK112.out 1).trans rfl
                            have hcz29_2 : wc.cell? ⟨gb112, 2, none⟩ = some (.int .i64 a0_2) := (blk_cell BK112.out 2).trans rfl
                            have hcz29_3 : wc.cell? ⟨gb112, 3, none⟩ = some (.int .i64 a0_3) := (blk_cell BK112.out 3).trans rfl
                            have hcz29_4 : wc.cell? ⟨gb112, 4, none⟩ = some (.int .i64 a0_4) := (blk_cell BK112.out 4).trans rfl
                            have hcz29_5 : wc.cell? ⟨gb112, 5, none⟩ = some (.string a0_5) := (blk_cell BK112.out 5).trans rfl
                            have hcz29_6 : wc.cell? ⟨gb112, 6, none⟩ = some (.string a0_6) := (blk_cell BK112.out 6).trans rfl
                            have hcz29_7 : wc.cell? ⟨gb112, 7, none⟩ = some (.string a0_7) := (blk_cell BK112.out 7).trans rfl
                            have hfz29 := blk_frozen BK112.out
                            have hfz29_1 := blk_frozen BK112.out 1
                            have hfz29_2 := blk_frozen BK112.out 2
                            have hfz29_3 := blk_frozen BK112.out 3
                            have hfz29_4 := blk_frozen BK112.out 4
                            have hfz29_5 := blk_frozen BK112.out 5
                            have hfz29_6 := blk_frozen BK112.out 6
                            have hfz29_7 := blk_frozen BK112.out 7
                            go_wp2_with (first | (go_at_call 26; (with_reducible refine (spec_WordOk.calls kj16 a0_5 true _ A23.out).mono ?_); rintro e w' ⟨rfl, ⟨nd, rfl⟩⟩) | (go_at_call 26; (with_reducible refine (spec_WordOk.calls kj16 a0_6 true _ A25.out).mono ?_); rintro e w' ⟨rfl, ⟨nd, rfl⟩⟩) | (go_at_call 25; (with_reducible refine (spec_l01In.calls a0_3 1 10000 true _ A27.out).mono ?_); rintro e w' ⟨rfl, ⟨nd, rfl⟩⟩))
                            go_meet
                            case rel => exact ⟨_, (false), (by first | rfl | (simp; done) | (simp [*]; done) | (simp; exact (by intro l; cases l <;> rfl : ∀ l : List UInt8, l.isEmpty = !(l != [])) _)), H', ⟨by have := HJ1.out; have := HJ9.out; have := HJ16.out; first | omega | exact Nat.le_refl _⟩, ⟨by (with_reducible repeat (first | refine blk_drewN ?_ _ | refine blk_drew ?_ | refine blk_alloc ?_ _)); exact BK112.out⟩, ⟨by repeat (first | (with_reducible first | exact HB.out | apply below_alloc | apply pw_below_drewN | apply below_drew1 | refine below_set ?_ GE112.out) | exact HB.out)⟩⟩
                        · replace c28 := Bool.eq_false_iff.mpr c28
                          subst c28
                          (try rw [if_neg (show ¬ (false = true) by decide)] at H)
                          clear_value *
                          as_aux_lemma =>
                            have H' := Aside0.mk H
                            clear H
                            have hcz30 := blk_cell BK112.out
                            have hcz30_1 : wc.cell? ⟨gb112, 1, none⟩ = some (.int .i64 a0_1) := (blk_cell BK112.out 1).trans rfl
                            have hcz30_2 : wc.cell? ⟨gb112, 2, none⟩ = some (.int .i64 a0_2) := (blk_cell BK112.out 2).trans rfl
                            have hcz30_3 : wc.cell? ⟨gb112, 3, none⟩ = some (.int .i64 a0_3) := (blk_cell BK112.out 3).trans rfl
                            have hcz30_4 : wc.cell? ⟨gb112, 4, none⟩ = some (.int .i64 a0_4) := (blk_cell BK112.out 4).trans rfl
                            have hcz30_5 : wc.cell? ⟨gb112, 5, none⟩ = some (.string a0_5) := (blk_cell BK112.out 5).trans rfl
                            have hcz30_6 : wc.cell? ⟨gb112, 6, none⟩ = some (.string a0_6) := (blk_cell BK112.out 6).trans rfl
                            have hcz30_7 : wc.cell? ⟨gb112, 7, none⟩ = some (.string a0_7) := (blk_cell BK112.out 7).trans rfl
                            have hfz30 := blk_frozen BK112.out
                            have hfz30_1 := blk_frozen BK112.out 1
                            have hfz30_2 := blk_frozen BK112.out 2
                            have hfz30_3 := blk_frozen BK112.out 3
                            have hfz30_4 := blk_frozen BK112.out 4
                            have hfz30_5 := blk_frozen BK112.out 5
                            have hfz30_6 := blk_frozen BK112.out 6
                            have hfz30_7 := blk_frozen BK112.out 7
                            go_wp2_with (first | (go_at_call 26; (with_reducible refine (spec_WordOk.calls kj16 a0_5 true _ A23.out).mono ?_); rintro e w' ⟨rfl, ⟨nd, rfl⟩⟩) | (go_at_call 26; (with_reducible refine (spec_WordOk.calls kj16 a0_6 true _ A25.out).mono ?_); rintro e w' ⟨rfl, ⟨nd, rfl⟩⟩) | (go_at_call 25; (with_reducible refine (spec_l01In.calls a0_3 1 10000 false _ A27.out).mono ?_); rintro e w' ⟨rfl, ⟨nd, rfl⟩⟩))
                            go_meet
                            case rel => exact ⟨_, (true), (by first | rfl | (simp; done) | (simp [*]; done) | (simp; exact (by intro l; cases l <;> rfl : ∀ l : List UInt8, l.isEmpty = !(l != [])) _)), H', ⟨by have := HJ1.out; have := HJ9.out; have := HJ16.out; first | omega | exact Nat.le_refl _⟩, ⟨by (with_reducible repeat (first | refine blk_drewN ?_ _ | refine blk_drew ?_ | refine blk_alloc ?_ _)); exact BK112.out⟩, ⟨by repeat (first | (with_reducible first | exact HB.out | apply below_alloc | apply pw_below_drewN | apply below_drew1 | refine below_set ?_ GE112.out) | exact HB.out)⟩⟩
                      · replace c26 := Bool.eq_false_iff.mpr c26
                        subst c26
                        (try rw [if_neg (show ¬ (false = true) by decide)] at H)
                        clear_value *
                        as_aux_lemma =>
                          have H' := Aside0.mk H
                          clear H
                          have hcz31 := blk_cell BK112.out
                          have hcz31_1 : wc.cell? ⟨gb112, 1, none⟩ = some (.int .i64 a0_1) := (blk_cell BK112.out 1).trans rfl
                          have hcz31_2 : wc.cell? ⟨gb112, 2, none⟩ = some (.int .i64 a0_2) := (blk_cell BK112.out 2).trans rfl
                          have hcz31_3 : wc.cell? ⟨gb112, 3, none⟩ = some (.int .i64 a0_3) := (blk_cell BK112.out 3).trans rfl
                          have hcz31_4 : wc.cell? ⟨gb112, 4, none⟩ = some (.int .i64 a0_4) := (blk_cell BK112.out 4).trans rfl
                          have hcz31_5 : wc.cell? ⟨gb112, 5, none⟩ = some (.string a0_5) := (blk_cell BK112.out 5).trans rfl
                          have hcz31_6 : wc.cell? ⟨gb112, 6, none⟩ = some (.string a0_6) := (blk_cell BK112.out 6).trans rfl
                          have hcz31_7 : wc.cell? ⟨gb112, 7, none⟩ = some (.string a0_7) := (blk_cell BK112.out 7).trans rfl
                          have hfz31 := blk_frozen BK112.out
                          have hfz31_1 := blk_frozen BK112.out 1
                          have hfz31_2 := blk_frozen BK112.out 2
                          have hfz31_3 := blk_frozen BK112.out 3
                          have hfz31_4 := blk_frozen BK112.out 4
                          have hfz31_5 := blk_frozen BK112.out 5
                          have hfz31_6 := blk_frozen BK112.out 6
                          have hfz31_7 := blk_frozen BK112.out 7
                          go_wp2_with (first | (go_at_call 26; (with_reducible refine (spec_WordOk.calls kj16 a0_5 true _ A23.out).mono ?_); rintro e w' ⟨rfl, ⟨nd, rfl⟩⟩) | (go_at_call 26; (with_reducible refine (spec_WordOk.calls kj16 a0_6 false _ A25.out).mono ?_); rintro e w' ⟨rfl, ⟨nd, rfl⟩⟩))
                          go_meet
                          case rel => exact ⟨_, (true), (by first | rfl | (simp; done) | (simp [*]; done) | (simp; exact (by intro l; cases l <;> rfl : ∀ l : List UInt8, l.isEmpty = !(l != [])) _)), H', ⟨by have := HJ1.out; have := HJ9.out; have := HJ16.out; first | omega | exact Nat.le_refl _⟩, ⟨by (with_reducible repeat (first | refine blk_drewN ?_ _ | refine blk_drew ?_ | refine blk_alloc ?_ _)); exact BK112.out⟩, ⟨by repeat (first | (with_reducible first | exact HB.out | apply below_alloc | apply pw_below_drewN | apply below_drew1 | refine below_set ?_ GE112.out) | exact HB.out)⟩⟩
                    · replace c24 := Bool.eq_false_iff.mpr c24
                      subst c24
                      (try rw [if_neg (show ¬ (false = true) by decide)] at H)
                      clear_value *
                      as_aux_lemma =>
                        have H' := Aside0.mk H
                        clear H
                        have hcz32 := blk_cell BK112.out
                        have hcz32_1 : wc.cell? ⟨gb112, 1, none⟩ = some (.int .i64 a0_1) := (blk_cell BK112.out 1).trans rfl
                        have hcz32_2 : wc.cell? ⟨gb112, 2, none⟩ = some (.int .i64 a0_2) := (blk_cell BK112.out 2).trans rfl
                        have hcz32_3 : wc.cell? ⟨gb112, 3, none⟩ = some (.int .i64 a0_3) := (blk_cell BK112.out 3).trans rfl
                        have hcz32_4 : wc.cell? ⟨gb112, 4, none⟩ = some (.int .i64 a0_4) := (blk_cell BK112.out 4).trans rfl
                        have hcz32_5 : wc.cell? ⟨gb112, 5, none⟩ = some (.string a0_5) := (blk_cell BK112.out 5).trans rfl
                        have hcz32_6 : wc.cell? ⟨gb112, 6, none⟩ = some (.string a0_6) := (blk_cell BK112.out 6).trans rfl
                        have hcz32_7 : wc.cell? ⟨gb112, 7, none⟩ = some (.string a0_7) := (blk_cell BK112.out 7).trans rfl
                        have hfz32 := blk_frozen BK112.out
                        have hfz32_1 := blk_frozen BK112.out 1
                        have hfz32_2 := blk_frozen BK112.out 2
                        have hfz32_3 := blk_frozen BK112.out 3
                        have hfz32_4 := blk_frozen BK112.out 4
                        have hfz32_5 := blk_frozen BK112.out 5
                        have hfz32_6 := blk_frozen BK112.out 6
                        have hfz32_7 := blk_frozen BK112.out 7
                        go_wp2_with (first | (go_at_call 26; (with_reducible refine (spec_WordOk.calls kj16 a0_5 false _ A23.out).mono ?_); rintro e w' ⟨rfl, ⟨nd, rfl⟩⟩))
                        go_meet
                        case rel => exact ⟨_, (true), (by first | rfl | (simp; done) | (simp [*]; done) | (simp; exact (by intro l; cases l <;> rfl : ∀ l : List UInt8, l.isEmpty = !(l != [])) _)), H', ⟨by have := HJ1.out; have := HJ9.out; have := HJ16.out; first | omega | exact Nat.le_refl _⟩, ⟨by (with_reducible repeat (first | refine blk_drewN ?_ _ | refine blk_drew ?_ | refine blk_alloc ?_ _)); exact BK112.out⟩, ⟨by repeat (first | (with_reducible first | exact HB.out | apply below_alloc | apply pw_below_drewN | apply below_drew1 | refine below_set ?_ GE112.out) | exact HB.out)⟩⟩
                  · replace c22 := Bool.eq_false_iff.mpr c22
                    subst c22
                    (try rw [if_neg (show ¬ (false = true) by decide)] at H)
                    by_cases c33 : a0_5.toList = ([] : List UInt8)
                    · rw [if_pos c33] at H
                      have c33b0 : (a0_5.toList == ([] : List UInt8)) = true := beq_iff_eq.mpr c33
                      have c33b1 : (a0_5.toList != ([] : List UInt8)) = false := bne_eq_false_iff_eq.mpr c33
                      clear c33
                      (first | rw [c33b0] | (simp only [i64_w, i32_w]; rw [c33b0]) | skip)
                      by_cases c34 : a0_6.toList = ([] : List UInt8)
                      · rw [if_pos c34] at H
                        have c34b0 : (a0_6.toList == ([] : List UInt8)) = true := beq_iff_eq.mpr c34
                        have c34b1 : (a0_6.toList != ([] : List UInt8)) = false := bne_eq_false_iff_eq.mpr c34
                        clear c34
                        clear_value *
                        as_aux_lemma =>
                          have H' := Aside0.mk H
                          clear H
                          have hcz35 := blk_cell BK112.out
                          have hcz35_1 : wc.cell? ⟨gb112, 1, none⟩ = some (.int .i64 a0_1) := (blk_cell BK112.out 1).trans rfl
                          have hcz35_2 : wc.cell? ⟨gb112, 2, none⟩ = some (.int .i64 a0_2) := (blk_cell BK112.out 2).trans rfl
                          have hcz35_3 : wc.cell? ⟨gb112, 3, none⟩ = some (.int .i64 a0_3) := (blk_cell BK112.out 3).trans rfl
                          have hcz35_4 : wc.cell? ⟨gb112, 4, none⟩ = some (.int .i64 a0_4) := (blk_cell BK112.out 4).trans rfl
                          have hcz35_5 : wc.cell? ⟨gb112, 5, none⟩ = some (.string a0_5) := (blk_cell BK112.out 5).trans rfl
                          have hcz35_6 : wc.cell? ⟨gb112, 6, none⟩ = some (.string a0_6) := (blk_cell BK112.out 6).trans rfl
                          have hcz35_7 : wc.cell? ⟨gb112, 7, none⟩ = some (.string a0_7) := (blk_cell BK112.out 7).trans rfl
                          have hfz35 := blk_frozen BK112.out
                          have hfz35_1 := blk_frozen BK112.out 1
                          have hfz35_2 := blk_frozen BK112.out 2
                          have hfz35_3 := blk_frozen BK112.out 3
                          have hfz35_4 := blk_frozen BK112.out 4
                          have hfz35_5 := blk_frozen BK112.out 5
                          have hfz35_6 := blk_frozen BK112.out 6
                          have hfz35_7 := blk_frozen BK112.out 7
                          go_wp2
                          go_meet
                          case rel => exact ⟨_, ((a0_3 != 0)), (by first | rfl | (simp; done) | (simp [*]; done) | (simp; exact (by intro l; cases l <;> rfl : ∀ l : List UInt8, l.isEmpty = !(l != [])) _)), H', ⟨by have := HJ1.out; have := HJ9.out; have := HJ16.out; first | omega | exact Nat.le_refl _⟩, ⟨by (with_reducible repeat (first | refine blk_drewN ?_ _ | refine blk_drew ?_ | refine blk_alloc ?_ _)); exact BK112.out⟩, ⟨by repeat (first | (with_reducible first | exact HB.out | apply below_alloc | apply pw_below_drewN | apply below_drew1 | refine below_set ?_ GE112.out) | exact HB.out)⟩⟩
                      · rw [if_neg c34] at H
                        have c34b0 : (a0_6.toList == ([] : List UInt8)) = false := beq_eq_false_iff_ne.mpr c34
                        have c34b1 : (a0_6.toList != ([] : List UInt8)) = true := bne_iff_ne.mpr c34
                        clear_value *
                        as_aux_lemma =>
                          have H' := Aside0.mk H
                          clear H
                          have hcz36 := blk_cell BK112.out
                          have hcz36_1 : wc.cell? ⟨gb112, 1, none⟩ = some (.int .i64 a0_1) := (blk_cell BK112.out 1).trans rfl
                          have hcz36_2 : wc.cell? ⟨gb112, 2, none⟩ = some (.int .i64 a0_2) := (blk_cell BK112.out 2).trans rfl
                          have hcz36_3 : wc.cell? ⟨gb112, 3, none⟩ = some (.int .i64 a0_3) := (blk_cell BK112.out 3).trans rfl
                          have hcz36_4 : wc.cell? ⟨gb112, 4, none⟩ = some (.int .i64 a0_4) := (blk_cell BK112.out 4).trans rfl
                          have hcz36_5 : wc.cell? ⟨gb112, 5, none⟩ = some (.string a0_5) := (blk_cell BK112.out 5).trans rfl
                          have hcz36_6 : wc.cell? ⟨gb112, 6, none⟩ = some (.string a0_6) := (blk_cell BK112.out 6).trans rfl
                          have hcz36_7 : wc.cell? ⟨gb112, 7, none⟩ = some (.string a0_7) := (blk_cell BK112.out 7).trans rfl
                          have hfz36 := blk_frozen BK112.out
                          have hfz36_1 := blk_frozen BK112.out 1
                          have hfz36_2 := blk_frozen BK112.out 2
                          have hfz36_3 := blk_frozen BK112.out 3
                          have hfz36_4 := blk_frozen BK112.out 4
                          have hfz36_5 := blk_frozen BK112.out 5
                          have hfz36_6 := blk_frozen BK112.out 6
                          have hfz36_7 := blk_frozen BK112.out 7
                          go_wp2
                          go_meet
                          case rel => exact ⟨_, (true), (by first | rfl | (simp; done) | (simp [*]; done) | (simp; exact (by intro l; cases l <;> rfl : ∀ l : List UInt8, l.isEmpty = !(l != [])) _)), H', ⟨by have := HJ1.out; have := HJ9.out; have := HJ16.out; first | omega | exact Nat.le_refl _⟩, ⟨by (with_reducible repeat (first | refine blk_drewN ?_ _ | refine blk_drew ?_ | refine blk_alloc ?_ _)); exact BK112.out⟩, ⟨by repeat (first | (with_reducible first | exact HB.out | apply below_alloc | apply pw_below_drewN | apply below_drew1 | refine below_set ?_ GE112.out) | exact HB.out)⟩⟩
                    · rw [if_neg c33] at H
                      have c33b0 : (a0_5.toList == ([] : List UInt8)) = false := beq_eq_false_iff_ne.mpr c33
                      have c33b1 : (a0_5.toList != ([] : List UInt8)) = true := bne_iff_ne.mpr c33
                      (first | rw [c33b0] | (simp only [i64_w, i32_w]; rw [c33b0]) | skip)
                      clear_value *
                      as_aux_lemma =>
                        have H' := Aside0.mk H
                        clear H
                        have hcz37 := blk_cell BK112.out
                        have hcz37_1 : wc.cell? ⟨gb112, 1, none⟩ = some (.int .i64 a0_1) := (blk_cell BK112.out 1).trans rfl
                        have hcz37_2 : wc.cell? ⟨gb112, 2, none⟩ = some (.int .i64 a0_2) := (blk_cell BK112.out 2).trans rfl
                        have hcz37_3 : wc.cell? ⟨gb112, 3, none⟩ = some (.int .i64 a0_3) := (blk_cell BK112.out 3).trans rfl
                        have hcz37_4 : wc.cell? ⟨gb112, 4, none⟩ = some (.int .i64 a0_4) := (blk_cell BK112.out 4).trans rfl
                        have hcz37_5 : wc.cell? ⟨gb112, 5, none⟩ = some (.string a0_5) := (blk_cell BK112.out 5).trans rfl
                        have hcz37_6 : wc.cell? ⟨gb112, 6, none⟩ = some (.string a0_6) := (blk_cell BK112.out 6).trans rfl
                        have hcz37_7 : wc.cell? ⟨gb112, 7, none⟩ = some (.string a0_7) := (blk_cell BK112.out 7).trans rfl
                        have hfz37 := blk_frozen BK112.out
                        have hfz37_1 := blk_frozen BK112.out 1
                        have hfz37_2 := blk_frozen BK112.out 2
                        have hfz37_3 := blk_frozen BK112.out 3
                        have hfz37_4 := blk_frozen BK112.out 4
                        have hfz37_5 := blk_frozen BK112.out 5
                        have hfz37_6 := blk_frozen BK112.out 6
                        have hfz37_7 := blk_frozen BK112.out 7
                        go_wp2
                        go_meet
                        case rel => exact ⟨_, (true), (by first | rfl | (simp; done) | (simp [*]; done) | (simp; exact (by intro l; cases l <;> rfl : ∀ l : List UInt8, l.isEmpty = !(l != [])) _)), H', ⟨by have := HJ1.out; have := HJ9.out; have := HJ16.out; first | omega | exact Nat.le_refl _⟩, ⟨by (with_reducible repeat (first | refine blk_drewN ?_ _ | refine blk_drew ?_ | refine blk_alloc ?_ _)); exact BK112.out⟩, ⟨by repeat (first | (with_reducible first | exact HB.out | apply below_alloc | apply pw_below_drewN | apply below_drew1 | refine below_set ?_ GE112.out) | exact HB.out)⟩⟩
                case rest =>
                  clear HC21
                  try clear c1
                  try clear c2
                  try clear p2
                  try clear c3
                  try clear c5
                  try clear c9
                  try clear c12
                  try clear c12b0
                  try clear c12b1
                  try clear c14
                  try clear c14b0
                  try clear c14b1
                  try clear c18
                  try clear c18b0
                  try clear c18b1
                  try clear c22
                  try clear c24
                  try clear c26
                  try clear c28
                  try clear c33
                  try clear c33b0
                  try clear c33b1
                  try clear c34
                  try clear c34b0
                  try clear c34b1
                  try clear hcz11_0
                  try clear hcz11_1
                  try clear hcz11_2
                  try clear hcz11_3
                  try clear hcz11_4
                  try clear hcz11_5
                  try clear hcz11_6
                  try clear hcz11_7
                  try clear hcz13_0
                  try clear hcz13_1
                  try clear hcz13_2
                  try clear hcz13_3
                  try clear hcz13_4
                  try clear hcz13_5
                  try clear hcz13_6
                  try clear hcz13_7
                  try clear hcz15_0
                  try clear hcz15_1
                  try clear hcz15_2
                  try clear hcz15_3
                  try clear hcz15_4
                  try clear hcz15_5
                  try clear hcz15_6
                  try clear hcz15_7
                  try clear hcz16_0
                  try clear hcz16_1
                  try clear hcz16_2
                  try clear hcz16_3
                  try clear hcz16_4
                  try clear hcz16_5
                  try clear hcz16_6
                  try clear hcz16_7
                  try clear hcz19_0
                  try clear hcz19_1
                  try clear hcz19_2
                  try clear hcz19_3
                  try clear hcz19_4
                  try clear hcz19_5
                  try clear hcz19_6
                  try clear hcz19_7
                  try clear hcz20_0
                  try clear hcz20_1
                  try clear hcz20_2
                  try clear hcz20_3
                  try clear hcz20_4
                  try clear hcz20_5
                  try clear hcz20_6
                  try clear hcz20_7
                  try clear hcz29_0
                  try clear hcz29_1
                  try clear hcz29_2
                  try clear hcz29_3
                  try clear hcz29_4
                  try clear hcz29_5
                  try clear hcz29_6
                  try clear hcz29_7
                  try clear hcz30_0
                  try clear hcz30_1
                  try clear hcz30_2
                  try clear hcz30_3
                  try clear hcz30_4
                  try clear hcz30_5
                  try clear hcz30_6
                  try clear hcz30_7
                  try clear hcz31_0
                  try clear hcz31_1
                  try clear hcz31_2
                  try clear hcz31_3
                  try clear hcz31_4
                  try clear hcz31_5
                  try clear hcz31_6
                  try clear hcz31_7
                  try clear hcz32_0
                  try clear hcz32_1
                  try clear hcz32_2
                  try clear hcz32_3
                  try clear hcz32_4
                  try clear hcz32_5
                  try clear hcz32_6
                  try clear hcz32_7
                  try clear hcz35_0
                  try clear hcz35_1
                  try clear hcz35_2
                  try clear hcz35_3
                  try clear hcz35_4
                  try clear hcz35_5
                  try clear hcz35_6
                  try clear hcz35_7
                  try clear hcz36_0
                  try clear hcz36_1
                  try clear hcz36_2
                  try clear hcz36_3
                  try clear hcz36_4
                  try clear hcz36_5
                  try clear hcz36_6
                  try clear hcz36_7
                  try clear hcz37_0
                  try clear hcz37_1
                  try clear hcz37_2
                  try clear hcz37_3
                  try clear hcz37_4
                  try clear hcz37_5
                  try clear hcz37_6
                  try clear hcz37_7
                  try clear hcz7_0
                  try clear hcz7_1
                  try clear hcz7_2
                  try clear hcz7_3
                  try clear hcz7_4
                  try clear hcz7_5
                  try clear hcz7_6
                  try clear hcz7_7
                  try clear hcz8_0
                  try clear hcz8_1
                  try clear hcz8_2
                  try clear hcz8_3
                  try clear hcz8_4
                  try clear hcz8_5
                  try clear hcz8_6
                  try clear hcz8_7
                  try clear hfz11_0
                  try clear hfz11_1
                  try clear hfz11_2
                  try clear hfz11_3
                  try clear hfz11_4
                  try clear hfz11_5
                  try clear hfz11_6
                  try clear hfz11_7
                  try clear hfz13_0
                  try clear hfz13_1
                  try clear hfz13_2
                  try clear hfz13_3
                  try clear hfz13_4
                  try clear hfz13_5
                  try clear hfz13_6
                  try clear hfz13_7
                  try clear hfz15_0
                  try clear hfz15_1
                  try clear hfz15_2
                  try clear hfz15_3
                  try clear hfz15_4
                  try clear hfz15_5
                  try clear hfz15_6
                  try clear hfz15_7
                  try clear hfz16_0
                  try clear hfz16_1
                  try clear hfz16_2
                  try clear hfz16_3
                  try clear hfz16_4
                  try clear hfz16_5
                  try clear hfz16_6
                  try clear hfz16_7
                  try clear hfz19_0
                  try clear hfz19_1
                  try clear hfz19_2
                  try clear hfz19_3
                  try clear hfz19_4
                  try clear hfz19_5
                  try clear hfz19_6
                  try clear hfz19_7
                  try clear hfz20_0
                  try clear hfz20_1
                  try clear hfz20_2
                  try clear hfz20_3
                  try clear hfz20_4
                  try clear hfz20_5
                  try clear hfz20_6
                  try clear hfz20_7
                  try clear hfz29_0
                  try clear hfz29_1
                  try clear hfz29_2
                  try clear hfz29_3
                  try clear hfz29_4
                  try clear hfz29_5
                  try clear hfz29_6
                  try clear hfz29_7
                  try clear hfz30_0
                  try clear hfz30_1
                  try clear hfz30_2
                  try clear hfz30_3
                  try clear hfz30_4
                  try clear hfz30_5
                  try clear hfz30_6
                  try clear hfz30_7
                  try clear hfz31_0
                  try clear hfz31_1
                  try clear hfz31_2
                  try clear hfz31_3
                  try clear hfz31_4
                  try clear hfz31_5
                  try clear hfz31_6
                  try clear hfz31_7
                  try clear hfz32_0
                  try clear hfz32_1
                  try clear hfz32_2
                  try clear hfz32_3
                  try clear hfz32_4
                  try clear hfz32_5
                  try clear hfz32_6
                  try clear hfz32_7
                  try clear hfz35_0
                  try clear hfz35_1
                  try clear hfz35_2
                  try clear hfz35_3
                  try clear hfz35_4
                  try clear hfz35_5
                  try clear hfz35_6
                  try clear hfz35_7
                  try clear hfz36_0
                  try clear hfz36_1
                  try clear hfz36_2
                  try clear hfz36_3
                  try clear hfz36_4
                  try clear hfz36_5
                  try clear hfz36_6
                  try clear hfz36_7
                  try clear hfz37_0
                  try clear hfz37_1
                  try clear hfz37_2
                  try clear hfz37_3
                  try clear hfz37_4
                  try clear hfz37_5
                  try clear hfz37_6
                  try clear hfz37_7
                  try clear hfz7_0
                  try clear hfz7_1
                  try clear hfz7_2
                  try clear hfz7_3
                  try clear hfz7_4
                  try clear hfz7_5
                  try clear hfz7_6
                  try clear hfz7_7
                  try clear hfz8_0
                  try clear hfz8_1
                  try clear hfz8_2
                  try clear hfz8_3
                  try clear hfz8_4
                  try clear hfz8_5
                  try clear hfz8_6
                  try clear hfz8_7
                  try clear p2
                  obtain ⟨kq, x77_20, rfl, HA, HJ20, BK112, HB⟩ := hcut
                  cases kq with
                  | zero => exact absurd HA.out (by simp [spec_RecOk.j3])
                  | succ kj20 =>
                    have H := HA.out
                    clear HA
                    simp only [spec_RecOk.j3] at H
                    by_cases c38 : x77_20 = true
                    · subst c38
                      (try rw [if_pos rfl] at H)
                      obtain rfl := Option.some.inj H
                      go_wp2
                      go_ret
                      exact ⟨by first | rfl | (simp [errW_none, errW_some] <;> rfl) | (simp [*, errW_none, errW_some] <;> rfl), by repeat (first | (with_reducible first | exact HB.out | apply below_alloc | apply pw_below_drewN | apply below_drew1 | refine below_set ?_ GE112.out) | exact HB.out)⟩
                    · replace c38 := Bool.eq_false_iff.mpr c38
                      subst c38
                      (try rw [if_neg (show ¬ (false = true) by decide)] at H)
                      have HC39 := Aside0.mk H
                      clear H
                      go_upto_region 8 with (fail)
                      go_cut [93] (fun v93 wc => ∃ (kq : Nat) (x93_38 : Bool), v93 = .bool x93_38 ∧ Aside0 (spec_RecOk.j4 kq x5_16 x93_38 a0_0 a0_1 a0_2 a0_3 a0_4 a0_5 a0_6 a0_7 = some r) ∧ Aside0 (kq ≤ kj20) ∧ Aside0 (wc.heap[gb112]? = some (.cells #[.int .i64 a0_0, .int .i64 a0_1, .int .i64 a0_2, .int .i64 a0_3, .int .i64 a0_4, .string a0_5, .string a0_6, .string a0_7] 34 (0, 0))) ∧ Aside0 (Below w.heap.size w wc))
                      case first =>
                        have H := HC39.out
                        clear HC39
                        by_cases c40 : x4_9 = true
                        · subst c40
                          (try rw [if_pos rfl] at H)
                          replace H := Option.bind_eq_some_iff.mp H
                          obtain ⟨t121, A410, H⟩ := H
                          (try set_option simprocs false in dsimp only at H)
                          have A41 := Aside0.mk A410
                          clear A410
                          by_cases c42 : t121 = true
                          · subst c42
                            (try rw [if_pos rfl] at H)
                            clear_value *
                            as_aux_lemma =>
                              have H' := Aside0.mk H
                              clear H
                              have hcz43 := blk_cell BK112.out
                              have hcz43_1 : wc.cell? ⟨gb112, 1, none⟩ = some (.int .i64 a0_1) := (blk_cell BK112.out 1).trans rfl
                              have hcz43_2 : wc.cell? ⟨gb112, 2, none⟩ = some (.int .i64 a0_2) := (blk_cell BK112.out 2).trans rfl
                              have hcz43_3 : wc.cell? ⟨gb112, 3, none⟩ = some (.int .i64 a0_3) := (blk_cell BK112.out 3).trans rfl
                              have hcz43_4 : wc.cell? ⟨gb112, 4, none⟩ = some (.int .i64 a0_4) := (blk_cell BK112.out 4).trans rfl
                              have hcz43_5 : wc.cell? ⟨gb112, 5, none⟩ = some (.string a0_5) := (blk_cell BK112.out 5).trans rfl
                              have hcz43_6 : wc.cell? ⟨gb112, 6, none⟩ = some (.string a0_6) := (blk_cell BK112.out 6).trans rfl
                              have hcz43_7 : wc.cell? ⟨gb112, 7, none⟩ = some (.string a0_7) := (blk_cell BK112.out 7).trans rfl
                              have hfz43 := blk_frozen BK112.out
                              have hfz43_1 := blk_frozen BK112.out 1
                              have hfz43_2 := blk_frozen BK112.out 2
                              have hfz43_3 := blk_frozen BK112.out 3
                              have hfz43_4 := blk_frozen BK112.out 4
                              have hfz43_5 := blk_frozen BK112.out 5
                              have hfz43_6 := blk_frozen BK112.out 6
                              have hfz43_7 := blk_frozen BK112.out 7
                              go_wp2_with (first | (go_at_call 25; (with_reducible refine (spec_l01In.calls a0_2 1 9999 true _ A41.out).mono ?_); rintro e w' ⟨rfl, ⟨nd, rfl⟩⟩))
                              go_meet
                              case rel => exact ⟨_, (false), (by first | rfl | (simp; done) | (simp [*]; done) | (simp; exact (by intro l; cases l <;> rfl : ∀ l : List UInt8, l.isEmpty = !(l != [])) _)), H', ⟨by have := HJ1.out; have := HJ9.out; have := HJ16.out; have := HJ20.out; first | omega | exact Nat.le_refl _⟩, ⟨by (with_reducible repeat (first | refine blk_drewN ?_ _ | refine blk_drew ?_ | refine blk_alloc ?_ _)); exact BK112.out⟩, ⟨by repeat (first | (with_reducible first | exact HB.out | apply below_alloc | apply pw_below_drewN | apply below_drew1 | refine below_set ?_ GE112.out) | exact HB.out)⟩⟩
                          · replace c42 := Bool.eq_false_iff.mpr c42
                            subst c42
                            (try rw [if_neg (show ¬ (false = true) by decide)] at H)
                            clear_value *
                            as_aux_lemma =>
                              have H' := Aside0.mk H
                              clear H
                              have hcz44 := blk_cell BK112.out
                              have hcz44_1 : wc.cell? ⟨gb112, 1, none⟩ = some (.int .i64 a0_1) := (blk_cell BK112.out 1).trans rfl
                              have hcz44_2 : wc.cell? ⟨gb112, 2, none⟩ = some (.int .i64 a0_2) := (blk_cell BK112.out 2).trans rfl
                              have hcz44_3 : wc.cell? ⟨gb112, 3, none⟩ = some (.int .i64 a0_3) := (blk_cell BK112.out 3).trans rfl
                              have hcz44_4 : wc.cell? ⟨gb112, 4, none⟩ = some (.int .i64 a0_4) := (blk_cell BK112.out 4).trans rfl
                              have hcz44_5 : wc.cell? ⟨gb112, 5, none⟩ = some (.string a0_5) := (blk_cell BK112.out 5).trans rfl
                              have hcz44_6 : wc.cell? ⟨gb112, 6, none⟩ = some (.string a0_6) := (blk_cell BK112.out 6).trans rfl
                              have hcz44_7 : wc.cell? ⟨gb112, 7, none⟩ = some (.string a0_7) := (blk_cell BK112.out 7).trans rfl
                              have hfz44 := blk_frozen BK112.out
                              have hfz44_1 := blk_frozen BK112.out 1
                              have hfz44_2 := blk_frozen BK112.out 2
                              have hfz44_3 := blk_frozen BK112.out 3
                              have hfz44_4 := blk_frozen BK112.out 4
                              have hfz44_5 := blk_frozen BK112.out 5
                              have hfz44_6 := blk_frozen BK112.out 6
                              have hfz44_7 := blk_frozen BK112.out 7
                              go_wp2_with (first | (go_at_call 25; (with_reducible refine (spec_l01In.calls a0_2 1 9999 false _ A41.out).mono ?_); rintro e w' ⟨rfl, ⟨nd, rfl⟩⟩))
                              go_meet
                              case rel => exact ⟨_, (true), (by first | rfl | (simp; done) | (simp [*]; done) | (simp; exact (by intro l; cases l <;> rfl : ∀ l : List UInt8, l.isEmpty = !(l != [])) _)), H', ⟨by have := HJ1.out; have := HJ9.out; have := HJ16.out; have := HJ20.out; first | omega | exact Nat.le_refl _⟩, ⟨by (with_reducible repeat (first | refine blk_drewN ?_ _ | refine blk_drew ?_ | refine blk_alloc ?_ _)); exact BK112.out⟩, ⟨by repeat (first | (with_reducible first | exact HB.out | apply below_alloc | apply pw_below_drewN | apply below_drew1 | refine below_set ?_ GE112.out) | exact HB.out)⟩⟩
                        · replace c40 := Bool.eq_false_iff.mpr c40
                          subst c40
                          (try rw [if_neg (show ¬ (false = true) by decide)] at H)
                          clear_value *
                          as_aux_lemma =>
                            have H' := Aside0.mk H
                            clear H
                            have hcz45 := blk_cell BK112.out
                            have hcz45_1 : wc.cell? ⟨gb112, 1, none⟩ = some (.int .i64 a0_1) := (blk_cell BK112.out 1).trans rfl
                            have hcz45_2 : wc.cell? ⟨gb112, 2, none⟩ = some (.int .i64 a0_2) := (blk_cell BK112.out 2).trans rfl
                            have hcz45_3 : wc.cell? ⟨gb112, 3, none⟩ = some (.int .i64 a0_3) := (blk_cell BK112.out 3).trans rfl
                            have hcz45_4 : wc.cell? ⟨gb112, 4, none⟩ = some (.int .i64 a0_4) := (blk_cell BK112.out 4).trans rfl
                            have hcz45_5 : wc.cell? ⟨gb112, 5, none⟩ = some (.string a0_5) := (blk_cell BK112.out 5).trans rfl
                            have hcz45_6 : wc.cell? ⟨gb112, 6, none⟩ = some (.string a0_6) := (blk_cell BK112.out 6).trans rfl
                            have hcz45_7 : wc.cell? ⟨gb112, 7, none⟩ = some (.string a0_7) := (blk_cell BK112.out 7).trans rfl
                            have hfz45 := blk_frozen BK112.out
                            have hfz45_1 := blk_frozen BK112.out 1
                            have hfz45_2 := blk_frozen BK112.out 2
                            have hfz45_3 := blk_frozen BK112.out 3
                            have hfz45_4 := blk_frozen BK112.out 4
                            have hfz45_5 := blk_frozen BK112.out 5
                            have hfz45_6 := blk_frozen BK112.out 6
                            have hfz45_7 := blk_frozen BK112.out 7
                            go_wp2
                            go_meet
                            case rel => exact ⟨_, ((a0_2 != 0)), (by first | rfl | (simp; done) | (simp [*]; done) | (simp; exact (by intro l; cases l <;> rfl : ∀ l : List UInt8, l.isEmpty = !(l != [])) _)), H', ⟨by have := HJ1.out; have := HJ9.out; have := HJ16.out; have := HJ20.out; first | omega | exact Nat.le_refl _⟩, ⟨by (with_reducible repeat (first | refine blk_drewN ?_ _ | refine blk_drew ?_ | refine blk_alloc ?_ _)); exact BK112.out⟩, ⟨by repeat (first | (with_reducible first | exact HB.out | apply below_alloc | apply pw_below_drewN | apply below_drew1 | refine below_set ?_ GE112.out) | exact HB.out)⟩⟩
                      case rest =>
                        clear HC39
                        try clear c1
                        try clear c2
                        try clear p2
                        try clear c3
                        try clear c4
                        try clear c5
                        try clear c9
                        try clear c12
                        try clear c12b0
                        try clear c12b1
                        try clear c14
                        try clear c14b0
                        try clear c14b1
                        try clear c18
                        try clear c18b0
                        try clear c18b1
                        try clear c22
                        try clear c24
                        try clear c26
                        try clear c28
                        try clear c33
                        try clear c33b0
                        try clear c33b1
                        try clear c34
                        try clear c34b0
                        try clear c34b1
                        try clear c38
                        try clear c40
                        try clear c42
                        try clear hcz11_0
                        try clear hcz11_1
                        try clear hcz11_2
                        try clear hcz11_3
                        try clear hcz11_4
                        try clear hcz11_5
                        try clear hcz11_6
                        try clear hcz11_7
                        try clear hcz13_0
                        try clear hcz13_1
                        try clear hcz13_2
                        try clear hcz13_3
                        try clear hcz13_4
                        try clear hcz13_5
                        try clear hcz13_6
                        try clear hcz13_7
                        try clear hcz15_0
                        try clear hcz15_1
                        try clear hcz15_2
                        try clear hcz15_3
                        try clear hcz15_4
                        try clear hcz15_5
                        try clear hcz15_6
                        try clear hcz15_7
                        try clear hcz16_0
                        try clear hcz16_1
                        try clear hcz16_2
                        try clear hcz16_3
                        try clear hcz16_4
                        try clear hcz16_5
                        try clear hcz16_6
                        try clear hcz16_7
                        try clear hcz19_0
                        try clear hcz19_1
                        try clear hcz19_2
                        try clear hcz19_3
                        try clear hcz19_4
                        try clear hcz19_5
                        try clear hcz19_6
                        try clear hcz19_7
                        try clear hcz20_0
                        try clear hcz20_1
                        try clear hcz20_2
                        try clear hcz20_3
                        try clear hcz20_4
                        try clear hcz20_5
                        try clear hcz20_6
                        try clear hcz20_7
                        try clear hcz29_0
                        try clear hcz29_1
                        try clear hcz29_2
                        try clear hcz29_3
                        try clear hcz29_4
                        try clear hcz29_5
                        try clear hcz29_6
                        try clear hcz29_7
                        try clear hcz30_0
                        try clear hcz30_1
                        try clear hcz30_2
                        try clear hcz30_3
                        try clear hcz30_4
                        try clear hcz30_5
                        try clear hcz30_6
                        try clear hcz30_7
                        try clear hcz31_0
                        try clear hcz31_1
                        try clear hcz31_2
                        try clear hcz31_3
                        try clear hcz31_4
                        try clear hcz31_5
                        try clear hcz31_6
                        try clear hcz31_7
                        try clear hcz32_0
                        try clear hcz32_1
                        try clear hcz32_2
                        try clear hcz32_3
                        try clear hcz32_4
                        try clear hcz32_5
                        try clear hcz32_6
                        try clear hcz32_7
                        try clear hcz35_0
                        try clear hcz35_1
                        try clear hcz35_2
                        try clear hcz35_3
                        try clear hcz35_4
                        try clear hcz35_5
                        try clear hcz35_6
                        try clear hcz35_7
                        try clear hcz36_0
                        try clear hcz36_1
                        try clear hcz36_2
                        try clear hcz36_3
                        try clear hcz36_4
                        try clear hcz36_5
                        try clear hcz36_6
                        try clear hcz36_7
                        try clear hcz37_0
                        try clear hcz37_1
                        try clear hcz37_2
                        try clear hcz37_3
                        try clear hcz37_4
                        try clear hcz37_5
                        try clear hcz37_6
                        try clear hcz37_7
                        try clear hcz43_0
                        try clear hcz43_1
                        try clear hcz43_2
                        try clear hcz43_3
                        try clear hcz43_4
                        try clear hcz43_5
                        try clear hcz43_6
                        try clear hcz43_7
                        try clear hcz44_0
                        try clear hcz44_1
                        try clear hcz44_2
                        try clear hcz44_3
                        try clear hcz44_4
                        try clear hcz44_5
                        try clear hcz44_6
                        try clear hcz44_7
                        try clear hcz45_0
                        try clear hcz45_1
                        try clear hcz45_2
                        try clear hcz45_3
                        try clear hcz45_4
                        try clear hcz45_5
                        try clear hcz45_6
                        try clear hcz45_7
                        try clear hcz7_0
                        try clear hcz7_1
                        try clear hcz7_2
                        try clear hcz7_3
                        try clear hcz7_4
                        try clear hcz7_5
                        try clear hcz7_6
                        try clear hcz7_7
                        try clear hcz8_0
                        try clear hcz8_1
                        try clear hcz8_2
                        try clear hcz8_3
                        try clear hcz8_4
                        try clear hcz8_5
                        try clear hcz8_6
                        try clear hcz8_7
                        try clear hfz11_0
                        try clear hfz11_1
                        try clear hfz11_2
                        try clear hfz11_3
                        try clear hfz11_4
                        try clear hfz11_5
                        try clear hfz11_6
                        try clear hfz11_7
                        try clear hfz13_0
                        try clear hfz13_1
                        try clear hfz13_2
                        try clear hfz13_3
                        try clear hfz13_4
                        try clear hfz13_5
                        try clear hfz13_6
                        try clear hfz13_7
                        try clear hfz15_0
                        try clear hfz15_1
                        try clear hfz15_2
                        try clear hfz15_3
                        try clear hfz15_4
                        try clear hfz15_5
                        try clear hfz15_6
                        try clear hfz15_7
                        try clear hfz16_0
                        try clear hfz16_1
                        try clear hfz16_2
                        try clear hfz16_3
                        try clear hfz16_4
                        try clear hfz16_5
                        try clear hfz16_6
                        try clear hfz16_7
                        try clear hfz19_0
                        try clear hfz19_1
                        try clear hfz19_2
                        try clear hfz19_3
                        try clear hfz19_4
                        try clear hfz19_5
                        try clear hfz19_6
                        try clear hfz19_7
                        try clear hfz20_0
                        try clear hfz20_1
                        try clear hfz20_2
                        try clear hfz20_3
                        try clear hfz20_4
                        try clear hfz20_5
                        try clear hfz20_6
                        try clear hfz20_7
                        try clear hfz29_0
                        try clear hfz29_1
                        try clear hfz29_2
                        try clear hfz29_3
                        try clear hfz29_4
                        try clear hfz29_5
                        try clear hfz29_6
                        try clear hfz29_7
                        try clear hfz30_0
                        try clear hfz30_1
                        try clear hfz30_2
                        try clear hfz30_3
                        try clear hfz30_4
                        try clear hfz30_5
                        try clear hfz30_6
                        try clear hfz30_7
                        try clear hfz31_0
                        try clear hfz31_1
                        try clear hfz31_2
                        try clear hfz31_3
                        try clear hfz31_4
                        try clear hfz31_5
                        try clear hfz31_6
                        try clear hfz31_7
                        try clear hfz32_0
                        try clear hfz32_1
                        try clear hfz32_2
                        try clear hfz32_3
                        try clear hfz32_4
                        try clear hfz32_5
                        try clear hfz32_6
                        try clear hfz32_7
                        try clear hfz35_0
                        try clear hfz35_1
                        try clear hfz35_2
                        try clear hfz35_3
                        try clear hfz35_4
                        try clear hfz35_5
                        try clear hfz35_6
                        try clear hfz35_7
                        try clear hfz36_0
                        try clear hfz36_1
                        try clear hfz36_2
                        try clear hfz36_3
                        try clear hfz36_4
                        try clear hfz36_5
                        try clear hfz36_6
                        try clear hfz36_7
                        try clear hfz37_0
                        try clear hfz37_1
                        try clear hfz37_2
                        try clear hfz37_3
                        try clear hfz37_4
                        try clear hfz37_5
                        try clear hfz37_6
                        try clear hfz37_7
                        try clear hfz43_0
                        try clear hfz43_1
                        try clear hfz43_2
                        try clear hfz43_3
                        try clear hfz43_4
                        try clear hfz43_5
                        try clear hfz43_6
                        try clear hfz43_7
                        try clear hfz44_0
                        try clear hfz44_1
                        try clear hfz44_2
                        try clear hfz44_3
                        try clear hfz44_4
                        try clear hfz44_5
                        try clear hfz44_6
                        try clear hfz44_7
                        try clear hfz45_0
                        try clear hfz45_1
                        try clear hfz45_2
                        try clear hfz45_3
                        try clear hfz45_4
                        try clear hfz45_5
                        try clear hfz45_6
                        try clear hfz45_7
                        try clear hfz7_0
                        try clear hfz7_1
                        try clear hfz7_2
                        try clear hfz7_3
                        try clear hfz7_4
                        try clear hfz7_5
                        try clear hfz7_6
                        try clear hfz7_7
                        try clear hfz8_0
                        try clear hfz8_1
                        try clear hfz8_2
                        try clear hfz8_3
                        try clear hfz8_4
                        try clear hfz8_5
                        try clear hfz8_6
                        try clear hfz8_7
                        try clear p2
                        obtain ⟨kq, x93_38, rfl, HA, HJ38, BK112, HB⟩ := hcut
                        cases kq with
                        | zero => exact absurd HA.out (by simp [spec_RecOk.j4])
                        | succ kj38 =>
                          have H := HA.out
                          clear HA
                          simp only [spec_RecOk.j4] at H
                          by_cases c46 : x93_38 = true
                          · subst c46
                            (try rw [if_pos rfl] at H)
                            obtain rfl := Option.some.inj H
                            go_wp2
                            go_ret
                            exact ⟨by first | rfl | (simp [errW_none, errW_some] <;> rfl) | (simp [*, errW_none, errW_some] <;> rfl), by repeat (first | (with_reducible first | exact HB.out | apply below_alloc | apply pw_below_drewN | apply below_drew1 | refine below_set ?_ GE112.out) | exact HB.out)⟩
                          · replace c46 := Bool.eq_false_iff.mpr c46
                            subst c46
                            (try rw [if_neg (show ¬ (false = true) by decide)] at H)
                            have HC47 := Aside0.mk H
                            clear H
                            go_upto_region 10 with (fail)
                            go_cut [109] (fun v109 wc => ∃ (kq : Nat) (x109_46 : Bool), v109 = .bool x109_46 ∧ Aside0 (spec_RecOk.j5 kq x109_46 a0_0 a0_1 a0_2 a0_3 a0_4 a0_5 a0_6 a0_7 = some r) ∧ Aside0 (kq ≤ kj38) ∧ Aside0 (wc.heap[gb112]? = some (.cells #[.int .i64 a0_0, .int .i64 a0_1, .int .i64 a0_2, .int .i64 a0_3, .int .i64 a0_4, .string a0_5, .string a0_6, .string a0_7] 34 (0, 0))) ∧ Aside0 (Below w.heap.size w wc))
                            case first =>
                              have H := HC47.out
                              clear HC47
                              by_cases c48 : x5_16 = true
                              · subst c48
                                (try rw [if_pos rfl] at H)
                                replace H := Option.bind_eq_some_iff.mp H
                                obtain ⟨t122, A490, H⟩ := H
                                (try set_option simprocs false in dsimp only at H)
                                have A49 := Aside0.mk A490
                                clear A490
                                by_cases c50 : t122 = true
                                · subst c50
                                  (try rw [if_pos rfl] at H)
                                  clear_value *
                                  as_aux_lemma =>
                                    have H' := Aside0.mk H
                                    clear H
                                    have hcz51 := blk_cell BK112.out
                                    have hcz51_1 : wc.cell? ⟨gb112, 1, none⟩ = some (.int .i64 a0_1) := (blk_cell BK112.out 1).trans rfl
                                    have hcz51_2 : wc.cell? ⟨gb112, 2, none⟩ = some (.int .i64 a0_2) := (blk_cell BK112.out 2).trans rfl
                                    have hcz51_3 : wc.cell? ⟨gb112, 3, none⟩ = some (.int .i64 a0_3) := (blk_cell BK112.out 3).trans rfl
                                    have hcz51_4 : wc.cell? ⟨gb112, 4, none⟩ = some (.int .i64 a0_4) := (blk_cell BK112.out 4).trans rfl
                                    have hcz51_5 : wc.cell? ⟨gb112, 5, none⟩ = some (.string a0_5) := (blk_cell BK112.out 5).trans rfl
                                    have hcz51_6 : wc.cell? ⟨gb112, 6, none⟩ = some (.string a0_6) := (blk_cell BK112.out 6).trans rfl
                                    have hcz51_7 : wc.cell? ⟨gb112, 7, none⟩ = some (.string a0_7) := (blk_cell BK112.out 7).trans rfl
                                    have hfz51 := blk_frozen BK112.out
                                    have hfz51_1 := blk_frozen BK112.out 1
                                    have hfz51_2 := blk_frozen BK112.out 2
                                    have hfz51_3 := blk_frozen BK112.out 3
                                    have hfz51_4 := blk_frozen BK112.out 4
                                    have hfz51_5 := blk_frozen BK112.out 5
                                    have hfz51_6 := blk_frozen BK112.out 6
                                    have hfz51_7 := blk_frozen BK112.out 7
                                    go_wp2_with (first | (go_at_call 25; (with_reducible refine (spec_l01In.calls a0_4 0 7 true _ A49.out).mono ?_); rintro e w' ⟨rfl, ⟨nd, rfl⟩⟩))
                                    go_meet
                                    case rel => exact ⟨_, (false), (by first | rfl | (simp; done) | (simp [*]; done) | (simp; exact (by intro l; cases l <;> rfl : ∀ l : List UInt8, l.isEmpty = !(l != [])) _)), H', ⟨by have := HJ1.out; have := HJ9.out; have := HJ16.out; have := HJ20.out; have := HJ38.out; first | omega | exact Nat.le_refl _⟩, ⟨by (with_reducible repeat (first | refine blk_drewN ?_ _ | refine blk_drew ?_ | refine blk_alloc ?_ _)); exact BK112.out⟩, ⟨by repeat (first | (with_reducible first | exact HB.out | apply below_alloc | apply pw_below_drewN | apply below_drew1 | refine below_set ?_ GE112.out) | exact HB.out)⟩⟩
                                · replace c50 := Bool.eq_false_iff.mpr c50
                                  subst c50
                                  (try rw [if_neg (show ¬ (false = true) by decide)] at H)
                                  clear_value *
                                  as_aux_lemma =>
                                    have H' := Aside0.mk H
                                    clear H
                                    have hcz52 := blk_cell BK112.out
                                    have hcz52_1 : wc.cell? ⟨gb112, 1, none⟩ = some (.int .i64 a0_1) := (blk_cell BK112.out 1).trans rfl
                                    have hcz52_2 : wc.cell? ⟨gb112, 2, none⟩ = some (.int .i64 a0_2) := (blk_cell BK112.out 2).trans rfl
                                    have hcz52_3 : wc.cell? ⟨gb112, 3, none⟩ = some (.int .i64 a0_3) := (blk_cell BK112.out 3).trans rfl
                                    have hcz52_4 : wc.cell? ⟨gb112, 4, none⟩ = some (.int .i64 a0_4) := (blk_cell BK112.out 4).trans rfl
                                    have hcz52_5 : wc.cell? ⟨gb112, 5, none⟩ = some (.string a0_5) := (blk_cell BK112.out 5).trans rfl
                                    have hcz52_6 : wc.cell? ⟨gb112, 6, none⟩ = some (.string a0_6) := (blk_cell BK112.out 6).trans rfl
                                    have hcz52_7 : wc.cell? ⟨gb112, 7, none⟩ = some (.string a0_7) := (blk_cell BK112.out 7).trans rfl
                                    have hfz52 := blk_frozen BK112.out
                                    have hfz52_1 := blk_frozen BK112.out 1
                                    have hfz52_2 := blk_frozen BK112.out 2
                                    have hfz52_3 := blk_frozen BK112.out 3
                                    have hfz52_4 := blk_frozen BK112.out 4
                                    have hfz52_5 := blk_frozen BK112.out 5
                                    have hfz52_6 := blk_frozen BK112.out 6
                                    have hfz52_7 := blk_frozen BK112.out 7
                                    go_wp2_with (first | (go_at_call 25; (with_reducible refine (spec_l01In.calls a0_4 0 7 false _ A49.out).mono ?_); rintro e w' ⟨rfl, ⟨nd, rfl⟩⟩))
                                    go_meet
                                    case rel => exact ⟨_, (true), (by first | rfl | (simp; done) | (simp [*]; done) | (simp; exact (by intro l; cases l <;> rfl : ∀ l : List UInt8, l.isEmpty = !(l != [])) _)), H', ⟨by have := HJ1.out; have := HJ9.out; have := HJ16.out; have := HJ20.out; have := HJ38.out; first | omega | exact Nat.le_refl _⟩, ⟨by (with_reducible repeat (first | refine blk_drewN ?_ _ | refine blk_drew ?_ | refine blk_alloc ?_ _)); exact BK112.out⟩, ⟨by repeat (first | (with_reducible first | exact HB.out | apply below_alloc | apply pw_below_drewN | apply below_drew1 | refine below_set ?_ GE112.out) | exact HB.out)⟩⟩
                              · replace c48 := Bool.eq_false_iff.mpr c48
                                subst c48
                                (try rw [if_neg (show ¬ (false = true) by decide)] at H)
                                clear_value *
                                as_aux_lemma =>
                                  have H' := Aside0.mk H
                                  clear H
                                  have hcz53 := blk_cell BK112.out
                                  have hcz53_1 : wc.cell? ⟨gb112, 1, none⟩ = some (.int .i64 a0_1) := (blk_cell BK112.out 1).trans rfl
                                  have hcz53_2 : wc.cell? ⟨gb112, 2, none⟩ = some (.int .i64 a0_2) := (blk_cell BK112.out 2).trans rfl
                                  have hcz53_3 : wc.cell? ⟨gb112, 3, none⟩ = some (.int .i64 a0_3) := (blk_cell BK112.out 3).trans rfl
                                  have hcz53_4 : wc.cell? ⟨gb112, 4, none⟩ = some (.int .i64 a0_4) := (blk_cell BK112.out 4).trans rfl
                                  have hcz53_5 : wc.cell? ⟨gb112, 5, none⟩ = some (.string a0_5) := (blk_cell BK112.out 5).trans rfl
                                  have hcz53_6 : wc.cell? ⟨gb112, 6, none⟩ = some (.string a0_6) := (blk_cell BK112.out 6).trans rfl
                                  have hcz53_7 : wc.cell? ⟨gb112, 7, none⟩ = some (.string a0_7) := (blk_cell BK112.out 7).trans rfl
                                  have hfz53 := blk_frozen BK112.out
                                  have hfz53_1 := blk_frozen BK112.out 1
                                  have hfz53_2 := blk_frozen BK112.out 2
                                  have hfz53_3 := blk_frozen BK112.out 3
                                  have hfz53_4 := blk_frozen BK112.out 4
                                  have hfz53_5 := blk_frozen BK112.out 5
                                  have hfz53_6 := blk_frozen BK112.out 6
                                  have hfz53_7 := blk_frozen BK112.out 7
                                  go_wp2
                                  go_meet
                                  case rel => exact ⟨_, ((a0_4 != 0)), (by first | rfl | (simp; done) | (simp [*]; done) | (simp; exact (by intro l; cases l <;> rfl : ∀ l : List UInt8, l.isEmpty = !(l != [])) _)), H', ⟨by have := HJ1.out; have := HJ9.out; have := HJ16.out; have := HJ20.out; have := HJ38.out; first | omega | exact Nat.le_refl _⟩, ⟨by (with_reducible repeat (first | refine blk_drewN ?_ _ | refine blk_drew ?_ | refine blk_alloc ?_ _)); exact BK112.out⟩, ⟨by repeat (first | (with_reducible first | exact HB.out | apply below_alloc | apply pw_below_drewN | apply below_drew1 | refine below_set ?_ GE112.out) | exact HB.out)⟩⟩
                            case rest =>
                              clear HC47
                              try clear c1
                              try clear c2
                              try clear p2
                              try clear c3
                              try clear c4
                              try clear c5
                              try clear c9
                              try clear c12
                              try clear c12b0
                              try clear c12b1
                              try clear c14
                              try clear c14b0
                              try clear c14b1
                              try clear c18
                              try clear c18b0
                              try clear c18b1
                              try clear c22
                              try clear c24
                              try clear c26
                              try clear c28
                              try clear c33
                              try clear c33b0
                              try clear c33b1
                              try clear c34
                              try clear c34b0
                              try clear c34b1
                              try clear c38
                              try clear c40
                              try clear c42
                              try clear c46
                              try clear c48
                              try clear c50
                              try clear hcz11_0
                              try clear hcz11_1
                              try clear hcz11_2
                              try clear hcz11_3
                              try clear hcz11_4
                              try clear hcz11_5
                              try clear hcz11_6
                              try clear hcz11_7
                              try clear hcz13_0
                              try clear hcz13_1
                              try clear hcz13_2
                              try clear hcz13_3
                              try clear hcz13_4
                              try clear hcz13_5
                              try clear hcz13_6
                              try clear hcz13_7
                              try clear hcz15_0
                              try clear hcz15_1
                              try clear hcz15_2
                              try clear hcz15_3
                              try clear hcz15_4
                              try clear hcz15_5
                              try clear hcz15_6
                              try clear hcz15_7
                              try clear hcz16_0
                              try clear hcz16_1
                              try clear hcz16_2
                              try clear hcz16_3
                              try clear hcz16_4
                              try clear hcz16_5
                              try clear hcz16_6
                              try clear hcz16_7
                              try clear hcz19_0
                              try clear hcz19_1
                              try clear hcz19_2
                              try clear hcz19_3
                              try clear hcz19_4
                              try clear hcz19_5
                              try clear hcz19_6
                              try clear hcz19_7
                              try clear hcz20_0
                              try clear hcz20_1
                              try clear hcz20_2
                              try clear hcz20_3
                              try clear hcz20_4
                              try clear hcz20_5
                              try clear hcz20_6
                              try clear hcz20_7
                              try clear hcz29_0
                              try clear hcz29_1
                              try clear hcz29_2
                              try clear hcz29_3
                              try clear hcz29_4
                              try clear hcz29_5
                              try clear hcz29_6
                              try clear hcz29_7
                              try clear hcz30_0
                              try clear hcz30_1
                              try clear hcz30_2
                              try clear hcz30_3
                              try clear hcz30_4
                              try clear hcz30_5
                              try clear hcz30_6
                              try clear hcz30_7
                              try clear hcz31_0
                              try clear hcz31_1
                              try clear hcz31_2
                              try clear hcz31_3
                              try clear hcz31_4
                              try clear hcz31_5
                              try clear hcz31_6
                              try clear hcz31_7
                              try clear hcz32_0
                              try clear hcz32_1
                              try clear hcz32_2
                              try clear hcz32_3
                              try clear hcz32_4
                              try clear hcz32_5
                              try clear hcz32_6
                              try clear hcz32_7
                              try clear hcz35_0
                              try clear hcz35_1
                              try clear hcz35_2
                              try clear hcz35_3
                              try clear hcz35_4
                              try clear hcz35_5
                              try clear hcz35_6
                              try clear hcz35_7
                              try clear hcz36_0
                              try clear hcz36_1
                              try clear hcz36_2
                              try clear hcz36_3
                              try clear hcz36_4
                              try clear hcz36_5
                              try clear hcz36_6
                              try clear hcz36_7
                              try clear hcz37_0
                              try clear hcz37_1
                              try clear hcz37_2
                              try clear hcz37_3
                              try clear hcz37_4
                              try clear hcz37_5
                              try clear hcz37_6
                              try clear hcz37_7
                              try clear hcz43_0
                              try clear hcz43_1
                              try clear hcz43_2
                              try clear hcz43_3
                              try clear hcz43_4
                              try clear hcz43_5
                              try clear hcz43_6
                              try clear hcz43_7
                              try clear hcz44_0
                              try clear hcz44_1
                              try clear hcz44_2
                              try clear hcz44_3
                              try clear hcz44_4
                              try clear hcz44_5
                              try clear hcz44_6
                              try clear hcz44_7
                              try clear hcz45_0
                              try clear hcz45_1
                              try clear hcz45_2
                              try clear hcz45_3
                              try clear hcz45_4
                              try clear hcz45_5
                              try clear hcz45_6
                              try clear hcz45_7
                              try clear hcz51_0
                              try clear hcz51_1
                              try clear hcz51_2
                              try clear hcz51_3
                              try clear hcz51_4
                              try clear hcz51_5
                              try clear hcz51_6
                              try clear hcz51_7
                              try clear hcz52_0
                              try clear hcz52_1
                              try clear hcz52_2
                              try clear hcz52_3
                              try clear hcz52_4
                              try clear hcz52_5
                              try clear hcz52_6
                              try clear hcz52_7
                              try clear hcz53_0
                              try clear hcz53_1
                              try clear hcz53_2
                              try clear hcz53_3
                              try clear hcz53_4
                              try clear hcz53_5
                              try clear hcz53_6
                              try clear hcz53_7
                              try clear hcz7_0
                              try clear hcz7_1
                              try clear hcz7_2
                              try clear hcz7_3
                              try clear hcz7_4
                              try clear hcz7_5
                              try clear hcz7_6
                              try clear hcz7_7
                              try clear hcz8_0
                              try clear hcz8_1
                              try clear hcz8_2
                              try clear hcz8_3
                              try clear hcz8_4
                              try clear hcz8_5
                              try clear hcz8_6
                              try clear hcz8_7
                              try clear hfz11_0
                              try clear hfz11_1
                              try clear hfz11_2
                              try clear hfz11_3
                              try clear hfz11_4
                              try clear hfz11_5
                              try clear hfz11_6
                              try clear hfz11_7
                              try clear hfz13_0
                              try clear hfz13_1
                              try clear hfz13_2
                              try clear hfz13_3
                              try clear hfz13_4
                              try clear hfz13_5
                              try clear hfz13_6
                              try clear hfz13_7
                              try clear hfz15_0
                              try clear hfz15_1
                              try clear hfz15_2
                              try clear hfz15_3
                              try clear hfz15_4
                              try clear hfz15_5
                              try clear hfz15_6
                              try clear hfz15_7
                              try clear hfz16_0
                              try clear hfz16_1
                              try clear hfz16_2
                              try clear hfz16_3
                              try clear hfz16_4
                              try clear hfz16_5
                              try clear hfz16_6
                              try clear hfz16_7
                              try clear hfz19_0
                              try clear hfz19_1
                              try clear hfz19_2
                              try clear hfz19_3
                              try clear hfz19_4
                              try clear hfz19_5
                              try clear hfz19_6
                              try clear hfz19_7
                              try clear hfz20_0
                              try clear hfz20_1
                              try clear hfz20_2
                              try clear hfz20_3
                              try clear hfz20_4
                              try clear hfz20_5
                              try clear hfz20_6
                              try clear hfz20_7
                              try clear hfz29_0
                              try clear hfz29_1
                              try clear hfz29_2
                              try clear hfz29_3
                              try clear hfz29_4
                              try clear hfz29_5
                              try clear hfz29_6
                              try clear hfz29_7
                              try clear hfz30_0
                              try clear hfz30_1
                              try clear hfz30_2
                              try clear hfz30_3
                              try clear hfz30_4
                              try clear hfz30_5
                              try clear hfz30_6
                              try clear hfz30_7
                              try clear hfz31_0
                              try clear hfz31_1
                              try clear hfz31_2
                              try clear hfz31_3
                              try clear hfz31_4
                              try clear hfz31_5
                              try clear hfz31_6
                              try clear hfz31_7
                              try clear hfz32_0
                              try clear hfz32_1
                              try clear hfz32_2
                              try clear hfz32_3
                              try clear hfz32_4
                              try clear hfz32_5
                              try clear hfz32_6
                              try clear hfz32_7
                              try clear hfz35_0
                              try clear hfz35_1
                              try clear hfz35_2
                              try clear hfz35_3
                              try clear hfz35_4
                              try clear hfz35_5
                              try clear hfz35_6
                              try clear hfz35_7
                              try clear hfz36_0
                              try clear hfz36_1
                              try clear hfz36_2
                              try clear hfz36_3
                              try clear hfz36_4
                              try clear hfz36_5
                              try clear hfz36_6
                              try clear hfz36_7
                              try clear hfz37_0
                              try clear hfz37_1
                              try clear hfz37_2
                              try clear hfz37_3
                              try clear hfz37_4
                              try clear hfz37_5
                              try clear hfz37_6
                              try clear hfz37_7
                              try clear hfz43_0
                              try clear hfz43_1
                              try clear hfz43_2
                              try clear hfz43_3
                              try clear hfz43_4
                              try clear hfz43_5
                              try clear hfz43_6
                              try clear hfz43_7
                              try clear hfz44_0
                              try clear hfz44_1
                              try clear hfz44_2
                              try clear hfz44_3
                              try clear hfz44_4
                              try clear hfz44_5
                              try clear hfz44_6
                              try clear hfz44_7
                              try clear hfz45_0
                              try clear hfz45_1
                              try clear hfz45_2
                              try clear hfz45_3
                              try clear hfz45_4
                              try clear hfz45_5
                              try clear hfz45_6
                              try clear hfz45_7
                              try clear hfz51_0
                              try clear hfz51_1
                              try clear hfz51_2
                              try clear hfz51_3
                              try clear hfz51_4
                              try clear hfz51_5
                              try clear hfz51_6
                              try clear hfz51_7
                              try clear hfz52_0
                              try clear hfz52_1
                              try clear hfz52_2
                              try clear hfz52_3
                              try clear hfz52_4
                              try clear hfz52_5
                              try clear hfz52_6
                              try clear hfz52_7
                              try clear hfz53_0
                              try clear hfz53_1
                              try clear hfz53_2
                              try clear hfz53_3
                              try clear hfz53_4
                              try clear hfz53_5
                              try clear hfz53_6
                              try clear hfz53_7
                              try clear hfz7_0
                              try clear hfz7_1
                              try clear hfz7_2
                              try clear hfz7_3
                              try clear hfz7_4
                              try clear hfz7_5
                              try clear hfz7_6
                              try clear hfz7_7
                              try clear hfz8_0
                              try clear hfz8_1
                              try clear hfz8_2
                              try clear hfz8_3
                              try clear hfz8_4
                              try clear hfz8_5
                              try clear hfz8_6
                              try clear hfz8_7
                              try clear p2
                              obtain ⟨kq, x109_46, rfl, HA, HJ46, BK112, HB⟩ := hcut
                              cases kq with
                              | zero => exact absurd HA.out (by simp [spec_RecOk.j5])
                              | succ kj46 =>
                                have H := HA.out
                                clear HA
                                simp only [spec_RecOk.j5] at H
                                by_cases c54 : x109_46 = true
                                · subst c54
                                  (try rw [if_pos rfl] at H)
                                  obtain rfl := Option.some.inj H
                                  go_wp2
                                  go_ret
                                  exact ⟨by first | rfl | (simp [errW_none, errW_some] <;> rfl) | (simp [*, errW_none, errW_some] <;> rfl), by repeat (first | (with_reducible first | exact HB.out | apply below_alloc | apply pw_below_drewN | apply below_drew1 | refine below_set ?_ GE112.out) | exact HB.out)⟩
                                · replace c54 := Bool.eq_false_iff.mpr c54
                                  subst c54
                                  (try rw [if_neg (show ¬ (false = true) by decide)] at H)
                                  by_cases c55 : a0_0 = 3
                                  · rw [if_pos c55] at H
                                    have c55b0 : (a0_0 == 3) = true := beq_iff_eq.mpr c55
                                    have c55b1 : (a0_0 != 3) = false := bne_eq_false_iff_eq.mpr c55
                                    clear c55
                                    replace H := Option.bind_eq_some_iff.mp H
                                    obtain ⟨t123, hE, H⟩ := H
                                    (try set_option simprocs false in dsimp only at H)
                                    have hBt123 := Option.some.inj hE
                                    clear hE
                                    obtain rfl := Option.some.inj H
                                    have hcz56 := blk_cell BK112.out
                                    have hcz56_1 : wc.cell? ⟨gb112, 1, none⟩ = some (.int .i64 a0_1) := (blk_cell BK112.out 1).trans rfl
                                    have hcz56_2 : wc.cell? ⟨gb112, 2, none⟩ = some (.int .i64 a0_2) := (blk_cell BK112.out 2).trans rfl
                                    have hcz56_3 : wc.cell? ⟨gb112, 3, none⟩ = some (.int .i64 a0_3) := (blk_cell BK112.out 3).trans rfl
                                    have hcz56_4 : wc.cell? ⟨gb112, 4, none⟩ = some (.int .i64 a0_4) := (blk_cell BK112.out 4).trans rfl
                                    have hcz56_5 : wc.cell? ⟨gb112, 5, none⟩ = some (.string a0_5) := (blk_cell BK112.out 5).trans rfl
                                    have hcz56_6 : wc.cell? ⟨gb112, 6, none⟩ = some (.string a0_6) := (blk_cell BK112.out 6).trans rfl
                                    have hcz56_7 : wc.cell? ⟨gb112, 7, none⟩ = some (.string a0_7) := (blk_cell BK112.out 7).trans rfl
                                    have hfz56 := blk_frozen BK112.out
                                    have hfz56_1 := blk_frozen BK112.out 1
                                    have hfz56_2 := blk_frozen BK112.out 2
                                    have hfz56_3 := blk_frozen BK112.out 3
                                    have hfz56_4 := blk_frozen BK112.out 4
                                    have hfz56_5 := blk_frozen BK112.out 5
                                    have hfz56_6 := blk_frozen BK112.out 6
                                    have hfz56_7 := blk_frozen BK112.out 7
                                    go_wp2
                                    go_ret
                                    exact ⟨by first | rfl | (simp [errW_none, errW_some] <;> rfl) | (simp [*, errW_none, errW_some] <;> rfl), by repeat (first | (with_reducible first | exact HB.out | apply below_alloc | apply pw_below_drewN | apply below_drew1 | refine below_set ?_ GE112.out) | exact HB.out)⟩
                                  · rw [if_neg c55] at H
                                    have c55b0 : (a0_0 == 3) = false := beq_eq_false_iff_ne.mpr c55
                                    have c55b1 : (a0_0 != 3) = true := bne_iff_ne.mpr c55
                                    replace H := Option.bind_eq_some_iff.mp H
                                    obtain ⟨t124, hE, H⟩ := H
                                    (try set_option simprocs false in dsimp only at H)
                                    have hBt124 := Option.some.inj hE
                                    clear hE
                                    obtain rfl := Option.some.inj H
                                    have hcz57 := blk_cell BK112.out
                                    have hcz57_1 : wc.cell? ⟨gb112, 1, none⟩ = some (.int .i64 a0_1) := (blk_cell BK112.out 1).trans rfl
                                    have hcz57_2 : wc.cell? ⟨gb112, 2, none⟩ = some (.int .i64 a0_2) := (blk_cell BK112.out 2).trans rfl
                                    have hcz57_3 : wc.cell? ⟨gb112, 3, none⟩ = some (.int .i64 a0_3) := (blk_cell BK112.out 3).trans rfl
                                    have hcz57_4 : wc.cell? ⟨gb112, 4, none⟩ = some (.int .i64 a0_4) := (blk_cell BK112.out 4).trans rfl
                                    have hcz57_5 : wc.cell? ⟨gb112, 5, none⟩ = some (.string a0_5) := (blk_cell BK112.out 5).trans rfl
                                    have hcz57_6 : wc.cell? ⟨gb112, 6, none⟩ = some (.string a0_6) := (blk_cell BK112.out 6).trans rfl
                                    have hcz57_7 : wc.cell? ⟨gb112, 7, none⟩ = some (.string a0_7) := (blk_cell BK112.out 7).trans rfl
                                    have hfz57 := blk_frozen BK112.out
                                    have hfz57_1 := blk_frozen BK112.out 1
                                    have hfz57_2 := blk_frozen BK112.out 2
                                    have hfz57_3 := blk_frozen BK112.out 3
                                    have hfz57_4 := blk_frozen BK112.out 4
                                    have hfz57_5 := blk_frozen BK112.out 5
                                    have hfz57_6 := blk_frozen BK112.out 6
                                    have hfz57_7 := blk_frozen BK112.out 7
                                    go_wp2
                                    go_ret
                                    exact ⟨by first | rfl | (simp [errW_none, errW_some] <;> rfl) | (simp [*, errW_none, errW_some] <;> rfl), by repeat (first | (with_reducible first | exact HB.out | apply below_alloc | apply pw_below_drewN | apply below_drew1 | refine below_set ?_ GE112.out) | exact HB.out)⟩

end Go.Proofs.Ythfcpngomdhbpaa.QFnExactFitting
