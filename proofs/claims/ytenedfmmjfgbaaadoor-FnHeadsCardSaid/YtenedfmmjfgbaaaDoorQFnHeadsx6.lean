-- Written by a program of this session (myprint) out of Lean's own print of the translation. Lean checks it.
import Derived.Test.YtenedfmmjfgbaaaDoorQFnHeadsx0
import Derived.Test.YtenedfmmjfgbaaaDoorQFnHeadsx5
namespace Go.Proofs.YtenedfmmjfgbaaaDoor.QFnHeads
open Go.RowKit Go.Proofs.YtenedfmmjfgbaaaDoorW.PrintWords Go.Proofs.YtenedfmmjfgbaaaDoorW.PrintLast Go.Proofs.YtenedfmmjfgbaaaDoorW.PrintMore
attribute [local go_sem] max2_int min2_int max_two min_two max_three min_three max_four min_four   -- for this text's walks alone
set_option linter.unusedVariables false
set_option linter.unusedSimpArgs false

/-! ### spec_RecOk: function 48 -/
mutual
def spec_RecOk.j0 : Nat → Bool → Int → Int → Int → Int → Int → ByteArray → ByteArray → ByteArray → Option (Bool)
 | 0, _, _, _, _, _, _, _, _, _ => none
 | k + 1, x15, x262000, x262001, x262002, x262003, x262004, x262005, x262006, x262007 => if x15 = true then (some false) else ((some ((x262000 == 1))).bind fun t264 => (if x262000 = 3 then (spec_RecOk.j1 k t264 true x262000 x262001 x262002 x262003 x262004 x262005 x262006 x262007) else (if x262000 = 4 then (spec_RecOk.j1 k t264 true x262000 x262001 x262002 x262003 x262004 x262005 x262006 x262007) else ((some ((x262000 == 5))).bind fun t265 => (spec_RecOk.j1 k t264 t265 x262000 x262001 x262002 x262003 x262004 x262005 x262006 x262007)))))
def spec_RecOk.j1 : Nat → Bool → Bool → Int → Int → Int → Int → Int → ByteArray → ByteArray → ByteArray → Option (Bool)
 | 0, _, _, _, _, _, _, _, _, _, _ => none
 | k + 1, x3, x4, x262000, x262001, x262002, x262003, x262004, x262005, x262006, x262007 => if x262000 = 3 then (spec_RecOk.j2 k x3 x4 true x262000 x262001 x262002 x262003 x262004 x262005 x262006 x262007) else ((some ((x262000 == 4))).bind fun t266 => (spec_RecOk.j2 k x3 x4 t266 x262000 x262001 x262002 x262003 x262004 x262005 x262006 x262007))
def spec_RecOk.j2 : Nat → Bool → Bool → Bool → Int → Int → Int → Int → Int → ByteArray → ByteArray → ByteArray → Option (Bool)
 | 0, _, _, _, _, _, _, _, _, _, _, _ => none
 | k + 1, x3, x4, x5, x262000, x262001, x262002, x262003, x262004, x262005, x262006, x262007 => if x3 = true then ((spec_WordOk.f k x262005).bind fun t267 => (if t267 = true then ((spec_WordOk.f k x262006).bind fun t268 => (if t268 = true then ((spec_l01In.f x262003 1 10000).bind fun t269 => (if t269 = true then (spec_RecOk.j3 k x4 x5 false x262000 x262001 x262002 x262003 x262004 x262005 x262006 x262007) else (spec_RecOk.j3 k x4 x5 true x262000 x262001 x262002 x262003 x262004 x262005 x262006 x262007))) else (spec_RecOk.j3 k x4 x5 true x262000 x262001 x262002 x262003 x262004 x262005 x262006 x262007))) else (spec_RecOk.j3 k x4 x5 true x262000 x262001 x262002 x262003 x262004 x262005 x262006 x262007))) else (if x262005.toList = ([] : List UInt8) then (if x262006.toList = ([] : List UInt8) then (spec_RecOk.j3 k x4 x5 (x262003 != 0) x262000 x262001 x262002 x262003 x262004 x262005 x262006 x262007) else (spec_RecOk.j3 k x4 x5 true x262000 x262001 x262002 x262003 x262004 x262005 x262006 x262007)) else (spec_RecOk.j3 k x4 x5 true x262000 x262001 x262002 x262003 x262004 x262005 x262006 x262007))
def spec_RecOk.j3 : Nat → Bool → Bool → Bool → Int → Int → Int → Int → Int → ByteArray → ByteArray → ByteArray → Option (Bool)
 | 0, _, _, _, _, _, _, _, _, _, _, _ => none
 | k + 1, x4, x5, x77, x262000, x262001, x262002, x262003, x262004, x262005, x262006, x262007 => if x77 = true then (some false) else (if x4 = true then ((spec_l01In.f x262002 1 9999).bind fun t270 => (if t270 = true then (spec_RecOk.j4 k x5 false x262000 x262001 x262002 x262003 x262004 x262005 x262006 x262007) else (spec_RecOk.j4 k x5 true x262000 x262001 x262002 x262003 x262004 x262005 x262006 x262007))) else (spec_RecOk.j4 k x5 (x262002 != 0) x262000 x262001 x262002 x262003 x262004 x262005 x262006 x262007))
def spec_RecOk.j4 : Nat → Bool → Bool → Int → Int → Int → Int → Int → ByteArray → ByteArray → ByteArray → Option (Bool)
 | 0, _, _, _, _, _, _, _, _, _, _ => none
 | k + 1, x5, x93, x262000, x262001, x262002, x262003, x262004, x262005, x262006, x262007 => if x93 = true then (some false) else (if x5 = true then ((spec_l01In.f x262004 0 7).bind fun t271 => (if t271 = true then (spec_RecOk.j5 k false x262000 x262001 x262002 x262003 x262004 x262005 x262006 x262007) else (spec_RecOk.j5 k true x262000 x262001 x262002 x262003 x262004 x262005 x262006 x262007))) else (spec_RecOk.j5 k (x262004 != 0) x262000 x262001 x262002 x262003 x262004 x262005 x262006 x262007))
def spec_RecOk.j5 : Nat → Bool → Int → Int → Int → Int → Int → ByteArray → ByteArray → ByteArray → Option (Bool)
 | 0, _, _, _, _, _, _, _, _, _ => none
 | k + 1, x109, x262000, x262001, x262002, x262003, x262004, x262005, x262006, x262007 => if x109 = true then (some false) else (if x262000 = 3 then ((some (decide ((x262007.size : Int) ≤ 100))).bind fun t272 => (some t272)) else ((some ((x262007.toList == ([] : List UInt8)))).bind fun t273 => (some t273)))
end
def spec_RecOk.f (k : Nat) (a0_0 : Int) (a0_1 : Int) (a0_2 : Int) (a0_3 : Int) (a0_4 : Int) (a0_5 : ByteArray) (a0_6 : ByteArray) (a0_7 : ByteArray) : Option (Bool) := (spec_l01In.f a0_0 1 5).bind fun t262 => (if t262 = true then ((spec_l01In.f a0_1 1 9999).bind fun t263 => (spec_RecOk.j0 k (!t263) a0_0 a0_1 a0_2 a0_3 a0_4 a0_5 a0_6 a0_7)) else (spec_RecOk.j0 k true a0_0 a0_1 a0_2 a0_3 a0_4 a0_5 a0_6 a0_7))
theorem spec_RecOk.mono_l : ∀ k, (∀ y0 y1 y2 y3 y4 y5 y6 y7 y8, LeO (spec_RecOk.j0 k y0 y1 y2 y3 y4 y5 y6 y7 y8) (spec_RecOk.j0 (k + 1) y0 y1 y2 y3 y4 y5 y6 y7 y8)) ∧ (∀ y0 y1 y2 y3 y4 y5 y6 y7 y8 y9, LeO (spec_RecOk.j1 k y0 y1 y2 y3 y4 y5 y6 y7 y8 y9) (spec_RecOk.j1 (k + 1) y0 y1 y2 y3 y4 y5 y6 y7 y8 y9)) ∧ (∀ y0 y1 y2 y3 y4 y5 y6 y7 y8 y9 y10, LeO (spec_RecOk.j2 k y0 y1 y2 y3 y4 y5 y6 y7 y8 y9 y10) (spec_RecOk.j2 (k + 1) y0 y1 y2 y3 y4 y5 y6 y7 y8 y9 y10)) ∧ (∀ y0 y1 y2 y3 y4 y5 y6 y7 y8 y9 y10, LeO (spec_RecOk.j3 k y0 y1 y2 y3 y4 y5 y6 y7 y8 y9 y10) (spec_RecOk.j3 (k + 1) y0 y1 y2 y3 y4 y5 y6 y7 y8 y9 y10)) ∧ (∀ y0 y1 y2 y3 y4 y5 y6 y7 y8 y9, LeO (spec_RecOk.j4 k y0 y1 y2 y3 y4 y5 y6 y7 y8 y9) (spec_RecOk.j4 (k + 1) y0 y1 y2 y3 y4 y5 y6 y7 y8 y9)) ∧ (∀ y0 y1 y2 y3 y4 y5 y6 y7 y8, LeO (spec_RecOk.j5 k y0 y1 y2 y3 y4 y5 y6 y7 y8) (spec_RecOk.j5 (k + 1) y0 y1 y2 y3 y4 y5 y6 y7 y8))
 | 0 => ⟨fun _ _ _ _ _ _ _ _ _ r h => by simp [spec_RecOk.j0] at h, fun _ _ _ _ _ _ _ _ _ _ r h => by simp [spec_RecOk.j1] at h, fun _ _ _ _ _ _ _ _ _ _ _ r h => by simp [spec_RecOk.j2] at h, fun _ _ _ _ _ _ _ _ _ _ _ r h => by simp [spec_RecOk.j3] at h, fun _ _ _ _ _ _ _ _ _ _ r h => by simp [spec_RecOk.j4] at h, fun _ _ _ _ _ _ _ _ _ r h => by simp [spec_RecOk.j5] at h⟩
 | k + 1 => by
  obtain ⟨ih0, ih1, ih2, ih3, ih4, ih5⟩ := spec_RecOk.mono_l k
  refine ⟨?_, ?_, ?_, ?_, ?_, ?_⟩
  ·intro y0 y1 y2 y3 y4 y5 y6 y7 y8
   unfold spec_RecOk.j0
   repeat' first
   | (with_reducible exact ih0 _ _ _ _ _ _ _ _ _)
   | (with_reducible exact ih1 _ _ _ _ _ _ _ _ _ _)
   | (with_reducible exact ih2 _ _ _ _ _ _ _ _ _ _ _)
   | (with_reducible exact ih3 _ _ _ _ _ _ _ _ _ _ _)
   | (with_reducible exact ih4 _ _ _ _ _ _ _ _ _ _)
   | (with_reducible exact ih5 _ _ _ _ _ _ _ _ _)
   | (with_reducible exact spec_WordOk.mono _ _)
   | (with_reducible exact LeO.refl _)
   | (with_reducible exact LeO.none _)
   | (with_reducible refine LeO.ite ?_ ?_)
   | (with_reducible refine LeO.bind ?_ (fun _ => ?_))
   | exact ih0 _ _ _ _ _ _ _ _ _
   | exact ih1 _ _ _ _ _ _ _ _ _ _
   | exact ih2 _ _ _ _ _ _ _ _ _ _ _
   | exact ih3 _ _ _ _ _ _ _ _ _ _ _
   | exact ih4 _ _ _ _ _ _ _ _ _ _
   | exact ih5 _ _ _ _ _ _ _ _ _
   | exact spec_WordOk.mono _ _
   | exact LeO.none _
   | refine LeO.ite ?_ ?_
   | refine LeO.bind ?_ (fun _ => ?_)
  ·intro y0 y1 y2 y3 y4 y5 y6 y7 y8 y9
   unfold spec_RecOk.j1
   repeat' first
   | (with_reducible exact ih0 _ _ _ _ _ _ _ _ _)
   | (with_reducible exact ih1 _ _ _ _ _ _ _ _ _ _)
   | (with_reducible exact ih2 _ _ _ _ _ _ _ _ _ _ _)
   | (with_reducible exact ih3 _ _ _ _ _ _ _ _ _ _ _)
   | (with_reducible exact ih4 _ _ _ _ _ _ _ _ _ _)
   | (with_reducible exact ih5 _ _ _ _ _ _ _ _ _)
   | (with_reducible exact spec_WordOk.mono _ _)
   | (with_reducible exact LeO.refl _)
   | (with_reducible exact LeO.none _)
   | (with_reducible refine LeO.ite ?_ ?_)
   | (with_reducible refine LeO.bind ?_ (fun _ => ?_))
   | exact ih0 _ _ _ _ _ _ _ _ _
   | exact ih1 _ _ _ _ _ _ _ _ _ _
   | exact ih2 _ _ _ _ _ _ _ _ _ _ _
   | exact ih3 _ _ _ _ _ _ _ _ _ _ _
   | exact ih4 _ _ _ _ _ _ _ _ _ _
   | exact ih5 _ _ _ _ _ _ _ _ _
   | exact spec_WordOk.mono _ _
   | exact LeO.none _
   | refine LeO.ite ?_ ?_
   | refine LeO.bind ?_ (fun _ => ?_)
  ·intro y0 y1 y2 y3 y4 y5 y6 y7 y8 y9 y10
   unfold spec_RecOk.j2
   repeat' first
   | (with_reducible exact ih0 _ _ _ _ _ _ _ _ _)
   | (with_reducible exact ih1 _ _ _ _ _ _ _ _ _ _)
   | (with_reducible exact ih2 _ _ _ _ _ _ _ _ _ _ _)
   | (with_reducible exact ih3 _ _ _ _ _ _ _ _ _ _ _)
   | (with_reducible exact ih4 _ _ _ _ _ _ _ _ _ _)
   | (with_reducible exact ih5 _ _ _ _ _ _ _ _ _)
   | (with_reducible exact spec_WordOk.mono _ _)
   | (with_reducible exact LeO.refl _)
   | (with_reducible exact LeO.none _)
   | (with_reducible refine LeO.ite ?_ ?_)
   | (with_reducible refine LeO.bind ?_ (fun _ => ?_))
   | exact ih0 _ _ _ _ _ _ _ _ _
   | exact ih1 _ _ _ _ _ _ _ _ _ _
   | exact ih2 _ _ _ _ _ _ _ _ _ _ _
   | exact ih3 _ _ _ _ _ _ _ _ _ _ _
   | exact ih4 _ _ _ _ _ _ _ _ _ _
   | exact ih5 _ _ _ _ _ _ _ _ _
   | exact spec_WordOk.mono _ _
   | exact LeO.none _
   | refine LeO.ite ?_ ?_
   | refine LeO.bind ?_ (fun _ => ?_)
  ·intro y0 y1 y2 y3 y4 y5 y6 y7 y8 y9 y10
   unfold spec_RecOk.j3
   repeat' first
   | (with_reducible exact ih0 _ _ _ _ _ _ _ _ _)
   | (with_reducible exact ih1 _ _ _ _ _ _ _ _ _ _)
   | (with_reducible exact ih2 _ _ _ _ _ _ _ _ _ _ _)
   | (with_reducible exact ih3 _ _ _ _ _ _ _ _ _ _ _)
   | (with_reducible exact ih4 _ _ _ _ _ _ _ _ _ _)
   | (with_reducible exact ih5 _ _ _ _ _ _ _ _ _)
   | (with_reducible exact spec_WordOk.mono _ _)
   | (with_reducible exact LeO.refl _)
   | (with_reducible exact LeO.none _)
   | (with_reducible refine LeO.ite ?_ ?_)
   | (with_reducible refine LeO.bind ?_ (fun _ => ?_))
   | exact ih0 _ _ _ _ _ _ _ _ _
   | exact ih1 _ _ _ _ _ _ _ _ _ _
   | exact ih2 _ _ _ _ _ _ _ _ _ _ _
   | exact ih3 _ _ _ _ _ _ _ _ _ _ _
   | exact ih4 _ _ _ _ _ _ _ _ _ _
   | exact ih5 _ _ _ _ _ _ _ _ _
   | exact spec_WordOk.mono _ _
   | exact LeO.none _
   | refine LeO.ite ?_ ?_
   | refine LeO.bind ?_ (fun _ => ?_)
  ·intro y0 y1 y2 y3 y4 y5 y6 y7 y8 y9
   unfold spec_RecOk.j4
   repeat' first
   | (with_reducible exact ih0 _ _ _ _ _ _ _ _ _)
   | (with_reducible exact ih1 _ _ _ _ _ _ _ _ _ _)
   | (with_reducible exact ih2 _ _ _ _ _ _ _ _ _ _ _)
   | (with_reducible exact ih3 _ _ _ _ _ _ _ _ _ _ _)
   | (with_reducible exact ih4 _ _ _ _ _ _ _ _ _ _)
   | (with_reducible exact ih5 _ _ _ _ _ _ _ _ _)
   | (with_reducible exact spec_WordOk.mono _ _)
   | (with_reducible exact LeO.refl _)
   | (with_reducible exact LeO.none _)
   | (with_reducible refine LeO.ite ?_ ?_)
   | (with_reducible refine LeO.bind ?_ (fun _ => ?_))
   | exact ih0 _ _ _ _ _ _ _ _ _
   | exact ih1 _ _ _ _ _ _ _ _ _ _
   | exact ih2 _ _ _ _ _ _ _ _ _ _ _
   | exact ih3 _ _ _ _ _ _ _ _ _ _ _
   | exact ih4 _ _ _ _ _ _ _ _ _ _
   | exact ih5 _ _ _ _ _ _ _ _ _
   | exact spec_WordOk.mono _ _
   | exact LeO.none _
   | refine LeO.ite ?_ ?_
   | refine LeO.bind ?_ (fun _ => ?_)
  ·intro y0 y1 y2 y3 y4 y5 y6 y7 y8
   unfold spec_RecOk.j5
   repeat' first
   | (with_reducible exact ih0 _ _ _ _ _ _ _ _ _)
   | (with_reducible exact ih1 _ _ _ _ _ _ _ _ _ _)
   | (with_reducible exact ih2 _ _ _ _ _ _ _ _ _ _ _)
   | (with_reducible exact ih3 _ _ _ _ _ _ _ _ _ _ _)
   | (with_reducible exact ih4 _ _ _ _ _ _ _ _ _ _)
   | (with_reducible exact ih5 _ _ _ _ _ _ _ _ _)
   | (with_reducible exact spec_WordOk.mono _ _)
   | (with_reducible exact LeO.refl _)
   | (with_reducible exact LeO.none _)
   | (with_reducible refine LeO.ite ?_ ?_)
   | (with_reducible refine LeO.bind ?_ (fun _ => ?_))
   | exact ih0 _ _ _ _ _ _ _ _ _
   | exact ih1 _ _ _ _ _ _ _ _ _ _
   | exact ih2 _ _ _ _ _ _ _ _ _ _ _
   | exact ih3 _ _ _ _ _ _ _ _ _ _ _
   | exact ih4 _ _ _ _ _ _ _ _ _ _
   | exact ih5 _ _ _ _ _ _ _ _ _
   | exact spec_WordOk.mono _ _
   | exact LeO.none _
   | refine LeO.ite ?_ ?_
   | refine LeO.bind ?_ (fun _ => ?_)
theorem spec_RecOk.mono : ∀ a0 a1 a2 a3 a4 a5 a6 a7 k, LeO (spec_RecOk.f k a0 a1 a2 a3 a4 a5 a6 a7) (spec_RecOk.f (k + 1) a0 a1 a2 a3 a4 a5 a6 a7) := by
 intro a0 a1 a2 a3 a4 a5 a6 a7 k
 obtain ⟨ih0, ih1, ih2, ih3, ih4, ih5⟩ := spec_RecOk.mono_l k
 unfold spec_RecOk.f
 repeat' first
   | (with_reducible exact ih0 _ _ _ _ _ _ _ _ _)
   | (with_reducible exact ih1 _ _ _ _ _ _ _ _ _ _)
   | (with_reducible exact ih2 _ _ _ _ _ _ _ _ _ _ _)
   | (with_reducible exact ih3 _ _ _ _ _ _ _ _ _ _ _)
   | (with_reducible exact ih4 _ _ _ _ _ _ _ _ _ _)
   | (with_reducible exact ih5 _ _ _ _ _ _ _ _ _)
   | (with_reducible exact spec_WordOk.mono _ _)
   | (with_reducible exact LeO.refl _)
   | (with_reducible exact LeO.none _)
   | (with_reducible refine LeO.ite ?_ ?_)
   | (with_reducible refine LeO.bind ?_ (fun _ => ?_))
   | exact ih0 _ _ _ _ _ _ _ _ _
   | exact ih1 _ _ _ _ _ _ _ _ _ _
   | exact ih2 _ _ _ _ _ _ _ _ _ _ _
   | exact ih3 _ _ _ _ _ _ _ _ _ _ _
   | exact ih4 _ _ _ _ _ _ _ _ _ _
   | exact ih5 _ _ _ _ _ _ _ _ _
   | exact spec_WordOk.mono _ _
   | exact LeO.none _
   | refine LeO.ite ?_ ?_
   | refine LeO.bind ?_ (fun _ => ?_)
set_option maxHeartbeats 8000000 in
set_option maxRecDepth 100000 in
theorem spec_RecOk.calls (k : Nat) (a0_0 : Int) (a0_1 : Int) (a0_2 : Int) (a0_3 : Int) (a0_4 : Int) (a0_5 : ByteArray) (a0_6 : ByteArray) (a0_7 : ByteArray) (r : Bool) (w : World) (h : spec_RecOk.f k a0_0 a0_1 a0_2 a0_3 a0_4 a0_5 a0_6 a0_7 = some r) :
  Calls Tryd.prog 48 #[.agg #[.int .i64 a0_0, .int .i64 a0_1, .int .i64 a0_2, .int .i64 a0_3, .int .i64 a0_4, .string a0_5, .string a0_6, .string a0_7]] w fun e w' => e = .returned (.bool r) ∧ Below w.heap.size w w' := by
 have hu75 := Tryd.underlying75
 have HB := Aside0.mk (Below.refl w.heap.size w)
 have H : ((spec_l01In.f a0_0 1 5).bind fun t262 => (if t262 = true then ((spec_l01In.f a0_1 1 9999).bind fun t263 => (spec_RecOk.j0 k (!t263) a0_0 a0_1 a0_2 a0_3 a0_4 a0_5 a0_6 a0_7)) else (spec_RecOk.j0 k true a0_0 a0_1 a0_2 a0_3 a0_4 a0_5 a0_6 a0_7))) = some r := h
 clear h
 have HC2 := Aside0.mk H
 clear H
 go_enter Tryd.func48, Tryd.ntmps48
 go_upto_region 1 with (first | ((with_reducible refine gate_dst (N := 1) rfl ?_); refine box_event ?hg (N := 1) ?hd (cs := #[.int .i64 a0_0, .int .i64 a0_1, .int .i64 a0_2, .int .i64 a0_3, .int .i64 a0_4, .string a0_5, .string a0_6, .string a0_7]) (t := 75) ?hr ?_; (case hd => rfl); (case hg => rfl); (case hr => first | (go_simp; done) | (go_simp; rfl)); intro gb261 hg w3 hbox hb; have n0_ := Aside0.mk (below_step HB.out hb); have n1_ := Aside0.mk (hbox); have n2_ := Aside0.mk ((by rw [hg]; exact (below_size HB.out) : w.heap.size ≤ gb261)); have n3_ := Aside0.mk ((by rw [hg]; exact (below_size HB.out) : w.heap.size ≤ gb261)); clear HB; have HB := n0_; have BK261 := n1_; have GW261 := n2_; have GE261 := n3_; clear n0_ n1_ n2_ n3_; clear hb hbox hg))
 (try simp only [Act.put, List.setIfInBounds_toArray, List.set_cons_zero, List.set_cons_succ])
 go_cut [15] (fun v15 wc => ∃ (kq : Nat) (x15_1 : Bool), v15 = .bool x15_1 ∧ Aside0 (spec_RecOk.j0 kq x15_1 a0_0 a0_1 a0_2 a0_3 a0_4 a0_5 a0_6 a0_7 = some r) ∧ Aside0 (kq ≤ k) ∧ Aside0 (wc.heap[gb261]? = some (.cells #[.int .i64 a0_0, .int .i64 a0_1, .int .i64 a0_2, .int .i64 a0_3, .int .i64 a0_4, .string a0_5, .string a0_6, .string a0_7] 75 (0, 0))) ∧ Aside0 (Below w.heap.size w wc))
 case first =>
  have H := HC2.out
  clear HC2
  replace H := Option.bind_eq_some_iff.mp H
  obtain ⟨t262, A40, H⟩ := H
  (try set_option simprocs false in dsimp only at H)
  have A4 := Aside0.mk A40
  clear A40
  by_cases c5 : t262 = true
  ·subst c5
   (try rw [if_pos rfl] at H)
   replace H := Option.bind_eq_some_iff.mp H
   obtain ⟨t263, A60, H⟩ := H
   (try set_option simprocs false in dsimp only at H)
   have A6 := Aside0.mk A60
   clear A60
   clear_value *
   as_aux_lemma =>
    have H' := Aside0.mk H
    clear H
    have hcz7 := blk_cell BK261.out
    have hfz7 := blk_frozen BK261.out
    go_wp2_with (first | ((with_reducible refine gate_callee (f := 47) rfl ?_); refine goesL_ (some 8) rfl rfl Tryd.func47 (by kernel_rfl) rfl #[.int .i64 a0_0, .int .i64 1, .int .i64 5] rfl (by (try simp only [List.map_toArray, List.map_cons, List.map_nil]); first | done | rfl | (simp only [List.length_drop, List.length_take]; rfl)) ?_; (with_reducible refine (spec_l01In.calls a0_0 1 5 true _ A4.out).mono ?_); rintro e w' ⟨rfl, ⟨nd, rfl⟩⟩; refine ⟨_, rfl, ?_⟩) | (go_at_call 47; (with_reducible refine (spec_l01In.calls a0_1 1 9999 t263 _ A6.out).mono ?_); rintro e w' ⟨rfl, ⟨nd, rfl⟩⟩))
    go_meet
    case rel => exact ⟨_, (!t263), (by first | rfl | (simp; done) | (simp [*]; done) | (simp; exact (by intro l; cases l <;> rfl : ∀ l : List UInt8, l.isEmpty = !(l != [])) _)), H', ⟨by first | omega | exact Nat.le_refl _⟩, ⟨by (with_reducible repeat (first | refine blk_drewN ?_ _ | refine blk_drew ?_ | refine blk_alloc ?_ _)); exact BK261.out⟩, ⟨by repeat (first | (with_reducible first | exact HB.out | apply below_alloc | apply pw_below_drewN | apply below_drew1 | refine below_set ?_ GE261.out) | exact HB.out)⟩⟩
  ·replace c5 := Bool.eq_false_iff.mpr c5
   subst c5
   (try rw [if_neg (show ¬ (false = true) by decide)] at H)
   clear_value *
   as_aux_lemma =>
    have H' := Aside0.mk H
    clear H
    have hcz8 := blk_cell BK261.out
    have hfz8 := blk_frozen BK261.out
    go_wp2_with (first | ((with_reducible refine gate_callee (f := 47) rfl ?_); refine goesL_ (some 8) rfl rfl Tryd.func47 (by kernel_rfl) rfl #[.int .i64 a0_0, .int .i64 1, .int .i64 5] rfl (by (try simp only [List.map_toArray, List.map_cons, List.map_nil]); first | done | rfl | (simp only [List.length_drop, List.length_take]; rfl)) ?_; (with_reducible refine (spec_l01In.calls a0_0 1 5 false _ A4.out).mono ?_); rintro e w' ⟨rfl, ⟨nd, rfl⟩⟩; refine ⟨_, rfl, ?_⟩))
    go_meet
    case rel => exact ⟨_, (true), (by first | rfl | (simp; done) | (simp [*]; done) | (simp; exact (by intro l; cases l <;> rfl : ∀ l : List UInt8, l.isEmpty = !(l != [])) _)), H', ⟨by first | omega | exact Nat.le_refl _⟩, ⟨by (with_reducible repeat (first | refine blk_drewN ?_ _ | refine blk_drew ?_ | refine blk_alloc ?_ _)); exact BK261.out⟩, ⟨by repeat (first | (with_reducible first | exact HB.out | apply below_alloc | apply pw_below_drewN | apply below_drew1 | refine below_set ?_ GE261.out) | exact HB.out)⟩⟩
 case rest =>
  clear HC2
  try clear p2
  try clear c4
  try clear c5
  try clear hcz7
  try clear hcz8
  try clear hfz7
  try clear hfz8
  obtain ⟨kq, x15_1, rfl, HA, HJ1, BK261, HB⟩ := hcut
  cases kq with
  | zero => exact absurd HA.out (by simp [spec_RecOk.j0])
  | succ kj1 =>
   have H := HA.out
   clear HA
   simp only [spec_RecOk.j0] at H
   by_cases c9 : x15_1 = true
   ·subst c9
    (try rw [if_pos rfl] at H)
    obtain rfl := Option.some.inj H
    go_wp2
    go_ret
    exact ⟨by first | rfl | (simp [errW_none, errW_some] <;> rfl) | (simp [*, errW_none, errW_some] <;> rfl), by repeat (first | (with_reducible first | exact HB.out | apply below_alloc | apply pw_below_drewN | apply below_drew1 | refine below_set ?_ GE261.out) | exact HB.out)⟩
   ·replace c9 := Bool.eq_false_iff.mpr c9
    subst c9
    (try rw [if_neg (show ¬ (false = true) by decide)] at H)
    replace H := Option.bind_eq_some_iff.mp H
    obtain ⟨t264, hE, H⟩ := H
    (try set_option simprocs false in dsimp only at H)
    have hBt264 := Option.some.inj hE
    clear hE
    have HC10 := Aside0.mk H
    clear H
    have hcz11 := blk_cell BK261.out
    have hfz11 := blk_frozen BK261.out
    go_upto_region 4 with (fail)
    go_cut [4] (fun v4 wc => ∃ (kq : Nat) (x4_9 : Bool), v4 = .bool x4_9 ∧ Aside0 (spec_RecOk.j1 kq t264 x4_9 a0_0 a0_1 a0_2 a0_3 a0_4 a0_5 a0_6 a0_7 = some r) ∧ Aside0 (kq ≤ kj1) ∧ Aside0 (wc.heap[gb261]? = some (.cells #[.int .i64 a0_0, .int .i64 a0_1, .int .i64 a0_2, .int .i64 a0_3, .int .i64 a0_4, .string a0_5, .string a0_6, .string a0_7] 75 (0, 0))) ∧ Aside0 (Below w.heap.size w wc))
    case first =>
     have H := HC10.out
     clear HC10
     by_cases c12 : a0_0 = 3
     ·rw [if_pos c12] at H
      have c12b0 : (a0_0 == 3) = true := beq_iff_eq.mpr c12
      have c12b1 : (a0_0 != 3) = false := bne_eq_false_iff_eq.mpr c12
      clear c12
      (first | rw [c12b0] | (simp only [i64_w, i32_w]; rw [c12b0]) | skip)
      clear_value *
      as_aux_lemma =>
       have H' := Aside0.mk H
       clear H
       have hcz13 := blk_cell BK261.out
       have hfz13 := blk_frozen BK261.out
       go_wp2
       go_meet
       case rel => exact ⟨_, (true), (by first | rfl | (simp; done) | (simp [*]; done) | (simp; exact (by intro l; cases l <;> rfl : ∀ l : List UInt8, l.isEmpty = !(l != [])) _)), H', ⟨by have := HJ1.out; first | omega | exact Nat.le_refl _⟩, ⟨by (with_reducible repeat (first | refine blk_drewN ?_ _ | refine blk_drew ?_ | refine blk_alloc ?_ _)); exact BK261.out⟩, ⟨by repeat (first | (with_reducible first | exact HB.out | apply below_alloc | apply pw_below_drewN | apply below_drew1 | refine below_set ?_ GE261.out) | exact HB.out)⟩⟩
     ·rw [if_neg c12] at H
      have c12b0 : (a0_0 == 3) = false := beq_eq_false_iff_ne.mpr c12
      have c12b1 : (a0_0 != 3) = true := bne_iff_ne.mpr c12
      (first | rw [c12b0] | (simp only [i64_w, i32_w]; rw [c12b0]) | skip)
      by_cases c14 : a0_0 = 4
      ·rw [if_pos c14] at H
       have c14b0 : (a0_0 == 4) = true := beq_iff_eq.mpr c14
       have c14b1 : (a0_0 != 4) = false := bne_eq_false_iff_eq.mpr c14
       clear c14
       clear_value *
       as_aux_lemma =>
        have H' := Aside0.mk H
        clear H
        have hcz15 := blk_cell BK261.out
        have hfz15 := blk_frozen BK261.out
        go_wp2
        go_meet
        case rel => exact ⟨_, (true), (by first | rfl | (simp; done) | (simp [*]; done) | (simp; exact (by intro l; cases l <;> rfl : ∀ l : List UInt8, l.isEmpty = !(l != [])) _)), H', ⟨by have := HJ1.out; first | omega | exact Nat.le_refl _⟩, ⟨by (with_reducible repeat (first | refine blk_drewN ?_ _ | refine blk_drew ?_ | refine blk_alloc ?_ _)); exact BK261.out⟩, ⟨by repeat (first | (with_reducible first | exact HB.out | apply below_alloc | apply pw_below_drewN | apply below_drew1 | refine below_set ?_ GE261.out) | exact HB.out)⟩⟩
      ·rw [if_neg c14] at H
       have c14b0 : (a0_0 == 4) = false := beq_eq_false_iff_ne.mpr c14
       have c14b1 : (a0_0 != 4) = true := bne_iff_ne.mpr c14
       replace H := Option.bind_eq_some_iff.mp H
       obtain ⟨t265, hE, H⟩ := H
       (try set_option simprocs false in dsimp only at H)
       have hBt265 := Option.some.inj hE
       clear hE
       clear_value *
       as_aux_lemma =>
        have H' := Aside0.mk H
        clear H
        have hcz16 := blk_cell BK261.out
        have hfz16 := blk_frozen BK261.out
        go_wp2
        go_meet
        case rel => exact ⟨_, (t265), (by first | rfl | (simp; done) | (simp [*]; done) | (simp; exact (by intro l; cases l <;> rfl : ∀ l : List UInt8, l.isEmpty = !(l != [])) _)), H', ⟨by have := HJ1.out; first | omega | exact Nat.le_refl _⟩, ⟨by (with_reducible repeat (first | refine blk_drewN ?_ _ | refine blk_drew ?_ | refine blk_alloc ?_ _)); exact BK261.out⟩, ⟨by repeat (first | (with_reducible first | exact HB.out | apply below_alloc | apply pw_below_drewN | apply below_drew1 | refine below_set ?_ GE261.out) | exact HB.out)⟩⟩
    case rest =>
     clear HC10
     try clear c1
     try clear p2
     try clear c4
     try clear c5
     try clear c9
     try clear c12
     try clear c12b0
     try clear c12b1
     try clear c14
     try clear c14b0
     try clear c14b1
     try clear hcz11
     try clear hcz13
     try clear hcz15
     try clear hcz16
     try clear hcz7
     try clear hcz8
     try clear hfz11
     try clear hfz13
     try clear hfz15
     try clear hfz16
     try clear hfz7
     try clear hfz8
     try clear p2
     obtain ⟨kq, x4_9, rfl, HA, HJ9, BK261, HB⟩ := hcut
     cases kq with
     | zero => exact absurd HA.out (by simp [spec_RecOk.j1])
     | succ kj9 =>
      have H := HA.out
      clear HA
      simp only [spec_RecOk.j1] at H
      have HC17 := Aside0.mk H
      clear H
      go_upto_region 5 with (fail)
      go_cut [5] (fun v5 wc => ∃ (kq : Nat) (x5_16 : Bool), v5 = .bool x5_16 ∧ Aside0 (spec_RecOk.j2 kq t264 x4_9 x5_16 a0_0 a0_1 a0_2 a0_3 a0_4 a0_5 a0_6 a0_7 = some r) ∧ Aside0 (kq ≤ kj9) ∧ Aside0 (wc.heap[gb261]? = some (.cells #[.int .i64 a0_0, .int .i64 a0_1, .int .i64 a0_2, .int .i64 a0_3, .int .i64 a0_4, .string a0_5, .string a0_6, .string a0_7] 75 (0, 0))) ∧ Aside0 (Below w.heap.size w wc))
      case first =>
       have H := HC17.out
       clear HC17
       by_cases c18 : a0_0 = 3
       ·rw [if_pos c18] at H
        have c18b0 : (a0_0 == 3) = true := beq_iff_eq.mpr c18
        have c18b1 : (a0_0 != 3) = false := bne_eq_false_iff_eq.mpr c18
        clear c18
        (first | rw [c18b0] | (simp only [i64_w, i32_w]; rw [c18b0]) | skip)
        clear_value *
        as_aux_lemma =>
         have H' := Aside0.mk H
         clear H
         have hcz19 := blk_cell BK261.out
         have hfz19 := blk_frozen BK261.out
         go_wp2
         go_meet
         case rel => exact ⟨_, (true), (by first | rfl | (simp; done) | (simp [*]; done) | (simp; exact (by intro l; cases l <;> rfl : ∀ l : List UInt8, l.isEmpty = !(l != [])) _)), H', ⟨by have := HJ1.out; have := HJ9.out; first | omega | exact Nat.le_refl _⟩, ⟨by (with_reducible repeat (first | refine blk_drewN ?_ _ | refine blk_drew ?_ | refine blk_alloc ?_ _)); exact BK261.out⟩, ⟨by repeat (first | (with_reducible first | exact HB.out | apply below_alloc | apply pw_below_drewN | apply below_drew1 | refine below_set ?_ GE261.out) | exact HB.out)⟩⟩
       ·rw [if_neg c18] at H
        have c18b0 : (a0_0 == 3) = false := beq_eq_false_iff_ne.mpr c18
        have c18b1 : (a0_0 != 3) = true := bne_iff_ne.mpr c18
        (first | rw [c18b0] | (simp only [i64_w, i32_w]; rw [c18b0]) | skip)
        replace H := Option.bind_eq_some_iff.mp H
        obtain ⟨t266, hE, H⟩ := H
        (try set_option simprocs false in dsimp only at H)
        have hBt266 := Option.some.inj hE
        clear hE
        clear_value *
        as_aux_lemma =>
         have H' := Aside0.mk H
         clear H
         have hcz20 := blk_cell BK261.out
         have hfz20 := blk_frozen BK261.out
         go_wp2
         go_meet
         case rel => exact ⟨_, (t266), (by first | rfl | (simp; done) | (simp [*]; done) | (simp; exact (by intro l; cases l <;> rfl : ∀ l : List UInt8, l.isEmpty = !(l != [])) _)), H', ⟨by have := HJ1.out; have := HJ9.out; first | omega | exact Nat.le_refl _⟩, ⟨by (with_reducible repeat (first | refine blk_drewN ?_ _ | refine blk_drew ?_ | refine blk_alloc ?_ _)); exact BK261.out⟩, ⟨by repeat (first | (with_reducible first | exact HB.out | apply below_alloc | apply pw_below_drewN | apply below_drew1 | refine below_set ?_ GE261.out) | exact HB.out)⟩⟩
      case rest =>
       clear HC17
       try clear c1
       try clear p2
       try clear c4
       try clear c5
       try clear c9
       try clear c12
       try clear c12b0
       try clear c12b1
       try clear c14
       try clear c14b0
       try clear c14b1
       try clear c18
       try clear c18b0
       try clear c18b1
       try clear hcz11
       try clear hcz13
       try clear hcz15
       try clear hcz16
       try clear hcz19
       try clear hcz20
       try clear hcz7
       try clear hcz8
       try clear hfz11
       try clear hfz13
       try clear hfz15
       try clear hfz16
       try clear hfz19
       try clear hfz20
       try clear hfz7
       try clear hfz8
       try clear p2
       obtain ⟨kq, x5_16, rfl, HA, HJ16, BK261, HB⟩ := hcut
       cases kq with
       | zero => exact absurd HA.out (by simp [spec_RecOk.j2])
       | succ kj16 =>
        have H := HA.out
        clear HA
        simp only [spec_RecOk.j2] at H
        have HC21 := Aside0.mk H
        clear H
        go_upto_region 6 with (fail)
        go_cut [77] (fun v77 wc => ∃ (kq : Nat) (x77_20 : Bool), v77 = .bool x77_20 ∧ Aside0 (spec_RecOk.j3 kq x4_9 x5_16 x77_20 a0_0 a0_1 a0_2 a0_3 a0_4 a0_5 a0_6 a0_7 = some r) ∧ Aside0 (kq ≤ kj16) ∧ Aside0 (wc.heap[gb261]? = some (.cells #[.int .i64 a0_0, .int .i64 a0_1, .int .i64 a0_2, .int .i64 a0_3, .int .i64 a0_4, .string a0_5, .string a0_6, .string a0_7] 75 (0, 0))) ∧ Aside0 (Below w.heap.size w wc))
        case first =>
         have H := HC21.out
         clear HC21
         by_cases c22 : t264 = true
         ·subst c22
          (try rw [if_pos rfl] at H)
          replace H := Option.bind_eq_some_iff.mp H
          obtain ⟨t267, A230, H⟩ := H
          (try set_option simprocs false in dsimp only at H)
          have A23 := Aside0.mk A230
          clear A230
          by_cases c24 : t267 = true
          ·subst c24
           (try rw [if_pos rfl] at H)
           replace H := Option.bind_eq_some_iff.mp H
           obtain ⟨t268, A250, H⟩ := H
           (try set_option simprocs false in dsimp only at H)
           have A25 := Aside0.mk A250
           clear A250
           by_cases c26 : t268 = true
           ·subst c26
            (try rw [if_pos rfl] at H)
            replace H := Option.bind_eq_some_iff.mp H
            obtain ⟨t269, A270, H⟩ := H
            (try set_option simprocs false in dsimp only at H)
            have A27 := Aside0.mk A270
            clear A270
            by_cases c28 : t269 = true
            ·subst c28
             (try rw [if_pos rfl] at H)
             clear_value *
             as_aux_lemma =>
              have H' := Aside0.mk H
              clear H
              have hcz29 := blk_cell BK261.out
              have hfz29 := blk_frozen BK261.out
              go_wp2_with (first | (go_at_call 56; (with_reducible refine (spec_WordOk.calls kj16 a0_5 true _ A23.out).mono ?_); rintro e w' ⟨rfl, ⟨nd, rfl⟩⟩) | (go_at_call 56; (with_reducible refine (spec_WordOk.calls kj16 a0_6 true _ A25.out).mono ?_); rintro e w' ⟨rfl, ⟨nd, rfl⟩⟩) | (go_at_call 47; (with_reducible refine (spec_l01In.calls a0_3 1 10000 true _ A27.out).mono ?_); rintro e w' ⟨rfl, ⟨nd, rfl⟩⟩))
              go_meet
              case rel => exact ⟨_, (false), (by first | rfl | (simp; done) | (simp [*]; done) | (simp; exact (by intro l; cases l <;> rfl : ∀ l : List UInt8, l.isEmpty = !(l != [])) _)), H', ⟨by have := HJ1.out; have := HJ9.out; have := HJ16.out; first | omega | exact Nat.le_refl _⟩, ⟨by (with_reducible repeat (first | refine blk_drewN ?_ _ | refine blk_drew ?_ | refine blk_alloc ?_ _)); exact BK261.out⟩, ⟨by repeat (first | (with_reducible first | exact HB.out | apply below_alloc | apply pw_below_drewN | apply below_drew1 | refine below_set ?_ GE261.out) | exact HB.out)⟩⟩
            ·replace c28 := Bool.eq_false_iff.mpr c28
             subst c28
             (try rw [if_neg (show ¬ (false = true) by decide)] at H)
             clear_value *
             as_aux_lemma =>
              have H' := Aside0.mk H
              clear H
              have hcz30 := blk_cell BK261.out
              have hfz30 := blk_frozen BK261.out
              go_wp2_with (first | (go_at_call 56; (with_reducible refine (spec_WordOk.calls kj16 a0_5 true _ A23.out).mono ?_); rintro e w' ⟨rfl, ⟨nd, rfl⟩⟩) | (go_at_call 56; (with_reducible refine (spec_WordOk.calls kj16 a0_6 true _ A25.out).mono ?_); rintro e w' ⟨rfl, ⟨nd, rfl⟩⟩) | (go_at_call 47; (with_reducible refine (spec_l01In.calls a0_3 1 10000 false _ A27.out).mono ?_); rintro e w' ⟨rfl, ⟨nd, rfl⟩⟩))
              go_meet
              case rel => exact ⟨_, (true), (by first | rfl | (simp; done) | (simp [*]; done) | (simp; exact (by intro l; cases l <;> rfl : ∀ l : List UInt8, l.isEmpty = !(l != [])) _)), H', ⟨by have := HJ1.out; have := HJ9.out; have := HJ16.out; first | omega | exact Nat.le_refl _⟩, ⟨by (with_reducible repeat (first | refine blk_drewN ?_ _ | refine blk_drew ?_ | refine blk_alloc ?_ _)); exact BK261.out⟩, ⟨by repeat (first | (with_reducible first | exact HB.out | apply below_alloc | apply pw_below_drewN | apply below_drew1 | refine below_set ?_ GE261.out) | exact HB.out)⟩⟩
           ·replace c26 := Bool.eq_false_iff.mpr c26
            subst c26
            (try rw [if_neg (show ¬ (false = true) by decide)] at H)
            clear_value *
            as_aux_lemma =>
             have H' := Aside0.mk H
             clear H
             have hcz31 := blk_cell BK261.out
             have hfz31 := blk_frozen BK261.out
             go_wp2_with (first | (go_at_call 56; (with_reducible refine (spec_WordOk.calls kj16 a0_5 true _ A23.out).mono ?_); rintro e w' ⟨rfl, ⟨nd, rfl⟩⟩) | (go_at_call 56; (with_reducible refine (spec_WordOk.calls kj16 a0_6 false _ A25.out).mono ?_); rintro e w' ⟨rfl, ⟨nd, rfl⟩⟩))
             go_meet
             case rel => exact ⟨_, (true), (by first | rfl | (simp; done) | (simp [*]; done) | (simp; exact (by intro l; cases l <;> rfl : ∀ l : List UInt8, l.isEmpty = !(l != [])) _)), H', ⟨by have := HJ1.out; have := HJ9.out; have := HJ16.out; first | omega | exact Nat.le_refl _⟩, ⟨by (with_reducible repeat (first | refine blk_drewN ?_ _ | refine blk_drew ?_ | refine blk_alloc ?_ _)); exact BK261.out⟩, ⟨by repeat (first | (with_reducible first | exact HB.out | apply below_alloc | apply pw_below_drewN | apply below_drew1 | refine below_set ?_ GE261.out) | exact HB.out)⟩⟩
          ·replace c24 := Bool.eq_false_iff.mpr c24
           subst c24
           (try rw [if_neg (show ¬ (false = true) by decide)] at H)
           clear_value *
           as_aux_lemma =>
            have H' := Aside0.mk H
            clear H
            have hcz32 := blk_cell BK261.out
            have hfz32 := blk_frozen BK261.out
            go_wp2_with (first | (go_at_call 56; (with_reducible refine (spec_WordOk.calls kj16 a0_5 false _ A23.out).mono ?_); rintro e w' ⟨rfl, ⟨nd, rfl⟩⟩))
            go_meet
            case rel => exact ⟨_, (true), (by first | rfl | (simp; done) | (simp [*]; done) | (simp; exact (by intro l; cases l <;> rfl : ∀ l : List UInt8, l.isEmpty = !(l != [])) _)), H', ⟨by have := HJ1.out; have := HJ9.out; have := HJ16.out; first | omega | exact Nat.le_refl _⟩, ⟨by (with_reducible repeat (first | refine blk_drewN ?_ _ | refine blk_drew ?_ | refine blk_alloc ?_ _)); exact BK261.out⟩, ⟨by repeat (first | (with_reducible first | exact HB.out | apply below_alloc | apply pw_below_drewN | apply below_drew1 | refine below_set ?_ GE261.out) | exact HB.out)⟩⟩
         ·replace c22 := Bool.eq_false_iff.mpr c22
          subst c22
          (try rw [if_neg (show ¬ (false = true) by decide)] at H)
          by_cases c33 : a0_5.toList = ([] : List UInt8)
          ·rw [if_pos c33] at H
           have c33b0 : (a0_5.toList == ([] : List UInt8)) = true := beq_iff_eq.mpr c33
           have c33b1 : (a0_5.toList != ([] : List UInt8)) = false := bne_eq_false_iff_eq.mpr c33
           clear c33
           (first | rw [c33b0] | (simp only [i64_w, i32_w]; rw [c33b0]) | skip)
           by_cases c34 : a0_6.toList = ([] : List UInt8)
           ·rw [if_pos c34] at H
            have c34b0 : (a0_6.toList == ([] : List UInt8)) = true := beq_iff_eq.mpr c34
            have c34b1 : (a0_6.toList != ([] : List UInt8)) = false := bne_eq_false_iff_eq.mpr c34
            clear c34
            clear_value *
            as_aux_lemma =>
             have H' := Aside0.mk H
             clear H
             have hcz35 := blk_cell BK261.out
             have hfz35 := blk_frozen BK261.out
             go_wp2
             go_meet
             case rel => exact ⟨_, ((a0_3 != 0)), (by first | rfl | (simp; done) | (simp [*]; done) | (simp; exact (by intro l; cases l <;> rfl : ∀ l : List UInt8, l.isEmpty = !(l != [])) _)), H', ⟨by have := HJ1.out; have := HJ9.out; have := HJ16.out; first | omega | exact Nat.le_refl _⟩, ⟨by (with_reducible repeat (first | refine blk_drewN ?_ _ | refine blk_drew ?_ | refine blk_alloc ?_ _)); exact BK261.out⟩, ⟨by repeat (first | (with_reducible first | exact HB.out | apply below_alloc | apply pw_below_drewN | apply below_drew1 | refine below_set ?_ GE261.out) | exact HB.out)⟩⟩
           ·rw [if_neg c34] at H
            have c34b0 : (a0_6.toList == ([] : List UInt8)) = false := beq_eq_false_iff_ne.mpr c34
            have c34b1 : (a0_6.toList != ([] : List UInt8)) = true := bne_iff_ne.mpr c34
            clear_value *
            as_aux_lemma =>
             have H' := Aside0.mk H
             clear H
             have hcz36 := blk_cell BK261.out
             have hfz36 := blk_frozen BK261.out
             go_wp2
             go_meet
             case rel => exact ⟨_, (true), (by first | rfl | (simp; done) | (simp [*]; done) | (simp; exact (by intro l; cases l <;> rfl : ∀ l : List UInt8, l.isEmpty = !(l != [])) _)), H', ⟨by have := HJ1.out; have := HJ9.out; have := HJ16.out; first | omega | exact Nat.le_refl _⟩, ⟨by (with_reducible repeat (first | refine blk_drewN ?_ _ | refine blk_drew ?_ | refine blk_alloc ?_ _)); exact BK261.out⟩, ⟨by repeat (first | (with_reducible first | exact HB.out | apply below_alloc | apply pw_below_drewN | apply below_drew1 | refine below_set ?_ GE261.out) | exact HB.out)⟩⟩
          ·rw [if_neg c33] at H
           have c33b0 : (a0_5.toList == ([] : List UInt8)) = false := beq_eq_false_iff_ne.mpr c33
           have c33b1 : (a0_5.toList != ([] : List UInt8)) = true := bne_iff_ne.mpr c33
           (first | rw [c33b0] | (simp only [i64_w, i32_w]; rw [c33b0]) | skip)
           clear_value *
           as_aux_lemma =>
            have H' := Aside0.mk H
            clear H
            have hcz37 := blk_cell BK261.out
            have hfz37 := blk_frozen BK261.out
            go_wp2
            go_meet
            case rel => exact ⟨_, (true), (by first | rfl | (simp; done) | (simp [*]; done) | (simp; exact (by intro l; cases l <;> rfl : ∀ l : List UInt8, l.isEmpty = !(l != [])) _)), H', ⟨by have := HJ1.out; have := HJ9.out; have := HJ16.out; first | omega | exact Nat.le_refl _⟩, ⟨by (with_reducible repeat (first | refine blk_drewN ?_ _ | refine blk_drew ?_ | refine blk_alloc ?_ _)); exact BK261.out⟩, ⟨by repeat (first | (with_reducible first | exact HB.out | apply below_alloc | apply pw_below_drewN | apply below_drew1 | refine below_set ?_ GE261.out) | exact HB.out)⟩⟩
        case rest =>
         clear HC21
         try clear c1
         try clear c2
         try clear p2
         try clear c3
         try clear c4
         try clear c5
         try clear c9
         try clear c12
         try clear c12b0
         try clear c12b1
         try clear c14
         try clear c14b0
         try clear c14b1
         try clear c18
         try clear c18b0
         try clear c18b1
         try clear c22
         try clear c24
         try clear c26
         try clear c28
         try clear c33
         try clear c33b0
         try clear c33b1
         try clear c34
         try clear c34b0
         try clear c34b1
         try clear hcz11
         try clear hcz13
         try clear hcz15
         try clear hcz16
         try clear hcz19
         try clear hcz20
         try clear hcz29
         try clear hcz30
         try clear hcz31
         try clear hcz32
         try clear hcz35
         try clear hcz36
         try clear hcz37
         try clear hcz7
         try clear hcz8
         try clear hfz11
         try clear hfz13
         try clear hfz15
         try clear hfz16
         try clear hfz19
         try clear hfz20
         try clear hfz29
         try clear hfz30
         try clear hfz31
         try clear hfz32
         try clear hfz35
         try clear hfz36
         try clear hfz37
         try clear hfz7
         try clear hfz8
         try clear p2
         obtain ⟨kq, x77_20, rfl, HA, HJ20, BK261, HB⟩ := hcut
         cases kq with
         | zero => exact absurd HA.out (by simp [spec_RecOk.j3])
         | succ kj20 =>
          have H := HA.out
          clear HA
          simp only [spec_RecOk.j3] at H
          by_cases c38 : x77_20 = true
          ·subst c38
           (try rw [if_pos rfl] at H)
           obtain rfl := Option.some.inj H
           go_wp2
           go_ret
           exact ⟨by first | rfl | (simp [errW_none, errW_some] <;> rfl) | (simp [*, errW_none, errW_some] <;> rfl), by repeat (first | (with_reducible first | exact HB.out | apply below_alloc | apply pw_below_drewN | apply below_drew1 | refine below_set ?_ GE261.out) | exact HB.out)⟩
          ·replace c38 := Bool.eq_false_iff.mpr c38
           subst c38
           (try rw [if_neg (show ¬ (false = true) by decide)] at H)
           have HC39 := Aside0.mk H
           clear H
           go_upto_region 8 with (fail)
           go_cut [93] (fun v93 wc => ∃ (kq : Nat) (x93_38 : Bool), v93 = .bool x93_38 ∧ Aside0 (spec_RecOk.j4 kq x5_16 x93_38 a0_0 a0_1 a0_2 a0_3 a0_4 a0_5 a0_6 a0_7 = some r) ∧ Aside0 (kq ≤ kj20) ∧ Aside0 (wc.heap[gb261]? = some (.cells #[.int .i64 a0_0, .int .i64 a0_1, .int .i64 a0_2, .int .i64 a0_3, .int .i64 a0_4, .string a0_5, .string a0_6, .string a0_7] 75 (0, 0))) ∧ Aside0 (Below w.heap.size w wc))
           case first =>
            have H := HC39.out
            clear HC39
            by_cases c40 : x4_9 = true
            ·subst c40
             (try rw [if_pos rfl] at H)
             replace H := Option.bind_eq_some_iff.mp H
             obtain ⟨t270, A410, H⟩ := H
             (try set_option simprocs false in dsimp only at H)
             have A41 := Aside0.mk A410
             clear A410
             by_cases c42 : t270 = true
             ·subst c42
              (try rw [if_pos rfl] at H)
              clear_value *
              as_aux_lemma =>
               have H' := Aside0.mk H
               clear H
               have hcz43 := blk_cell BK261.out
               have hfz43 := blk_frozen BK261.out
               go_wp2_with (first | (go_at_call 47; (with_reducible refine (spec_l01In.calls a0_2 1 9999 true _ A41.out).mono ?_); rintro e w' ⟨rfl, ⟨nd, rfl⟩⟩))
               go_meet
               case rel => exact ⟨_, (false), (by first | rfl | (simp; done) | (simp [*]; done) | (simp; exact (by intro l; cases l <;> rfl : ∀ l : List UInt8, l.isEmpty = !(l != [])) _)), H', ⟨by have := HJ1.out; have := HJ9.out; have := HJ16.out; have := HJ20.out; first | omega | exact Nat.le_refl _⟩, ⟨by (with_reducible repeat (first | refine blk_drewN ?_ _ | refine blk_drew ?_ | refine blk_alloc ?_ _)); exact BK261.out⟩, ⟨by repeat (first | (with_reducible first | exact HB.out | apply below_alloc | apply pw_below_drewN | apply below_drew1 | refine below_set ?_ GE261.out) | exact HB.out)⟩⟩
             ·replace c42 := Bool.eq_false_iff.mpr c42
              subst c42
              (try rw [if_neg (show ¬ (false = true) by decide)] at H)
              clear_value *
              as_aux_lemma =>
               have H' := Aside0.mk H
               clear H
               have hcz44 := blk_cell BK261.out
               have hfz44 := blk_frozen BK261.out
               go_wp2_with (first | (go_at_call 47; (with_reducible refine (spec_l01In.calls a0_2 1 9999 false _ A41.out).mono ?_); rintro e w' ⟨rfl, ⟨nd, rfl⟩⟩))
               go_meet
               case rel => exact ⟨_, (true), (by first | rfl | (simp; done) | (simp [*]; done) | (simp; exact (by intro l; cases l <;> rfl : ∀ l : List UInt8, l.isEmpty = !(l != [])) _)), H', ⟨by have := HJ1.out; have := HJ9.out; have := HJ16.out; have := HJ20.out; first | omega | exact Nat.le_refl _⟩, ⟨by (with_reducible repeat (first | refine blk_drewN ?_ _ | refine blk_drew ?_ | refine blk_alloc ?_ _)); exact BK261.out⟩, ⟨by repeat (first | (with_reducible first | exact HB.out | apply below_alloc | apply pw_below_drewN | apply below_drew1 | refine below_set ?_ GE261.out) | exact HB.out)⟩⟩
            ·replace c40 := Bool.eq_false_iff.mpr c40
             subst c40
             (try rw [if_neg (show ¬ (false = true) by decide)] at H)
             clear_value *
             as_aux_lemma =>
              have H' := Aside0.mk H
              clear H
              have hcz45 := blk_cell BK261.out
              have hfz45 := blk_frozen BK261.out
              go_wp2
              go_meet
              case rel => exact ⟨_, ((a0_2 != 0)), (by first | rfl | (simp; done) | (simp [*]; done) | (simp; exact (by intro l; cases l <;> rfl : ∀ l : List UInt8, l.isEmpty = !(l != [])) _)), H', ⟨by have := HJ1.out; have := HJ9.out; have := HJ16.out; have := HJ20.out; first | omega | exact Nat.le_refl _⟩, ⟨by (with_reducible repeat (first | refine blk_drewN ?_ _ | refine blk_drew ?_ | refine blk_alloc ?_ _)); exact BK261.out⟩, ⟨by repeat (first | (with_reducible first | exact HB.out | apply below_alloc | apply pw_below_drewN | apply below_drew1 | refine below_set ?_ GE261.out) | exact HB.out)⟩⟩
           case rest =>
            clear HC39
            try clear c1
            try clear c2
            try clear p2
            try clear c3
            try clear c4
            try clear c5
            try clear c9
            try clear c12
            try clear c12b0
            try clear c12b1
            try clear c14
            try clear c14b0
            try clear c14b1
            try clear c18
            try clear c18b0
            try clear c18b1
            try clear c22
            try clear c24
            try clear c26
            try clear c28
            try clear c33
            try clear c33b0
            try clear c33b1
            try clear c34
            try clear c34b0
            try clear c34b1
            try clear c38
            try clear c40
            try clear c42
            try clear hcz11
            try clear hcz13
            try clear hcz15
            try clear hcz16
            try clear hcz19
            try clear hcz20
            try clear hcz29
            try clear hcz30
            try clear hcz31
            try clear hcz32
            try clear hcz35
            try clear hcz36
            try clear hcz37
            try clear hcz43
            try clear hcz44
            try clear hcz45
            try clear hcz7
            try clear hcz8
            try clear hfz11
            try clear hfz13
            try clear hfz15
            try clear hfz16
            try clear hfz19
            try clear hfz20
            try clear hfz29
            try clear hfz30
            try clear hfz31
            try clear hfz32
            try clear hfz35
            try clear hfz36
            try clear hfz37
            try clear hfz43
            try clear hfz44
            try clear hfz45
            try clear hfz7
            try clear hfz8
            try clear p2
            obtain ⟨kq, x93_38, rfl, HA, HJ38, BK261, HB⟩ := hcut
            cases kq with
            | zero => exact absurd HA.out (by simp [spec_RecOk.j4])
            | succ kj38 =>
             have H := HA.out
             clear HA
             simp only [spec_RecOk.j4] at H
             by_cases c46 : x93_38 = true
             ·subst c46
              (try rw [if_pos rfl] at H)
              obtain rfl := Option.some.inj H
              go_wp2
              go_ret
              exact ⟨by first | rfl | (simp [errW_none, errW_some] <;> rfl) | (simp [*, errW_none, errW_some] <;> rfl), by repeat (first | (with_reducible first | exact HB.out | apply below_alloc | apply pw_below_drewN | apply below_drew1 | refine below_set ?_ GE261.out) | exact HB.out)⟩
             ·replace c46 := Bool.eq_false_iff.mpr c46
              subst c46
              (try rw [if_neg (show ¬ (false = true) by decide)] at H)
              have HC47 := Aside0.mk H
              clear H
              go_upto_region 10 with (fail)
              go_cut [109] (fun v109 wc => ∃ (kq : Nat) (x109_46 : Bool), v109 = .bool x109_46 ∧ Aside0 (spec_RecOk.j5 kq x109_46 a0_0 a0_1 a0_2 a0_3 a0_4 a0_5 a0_6 a0_7 = some r) ∧ Aside0 (kq ≤ kj38) ∧ Aside0 (wc.heap[gb261]? = some (.cells #[.int .i64 a0_0, .int .i64 a0_1, .int .i64 a0_2, .int .i64 a0_3, .int .i64 a0_4, .string a0_5, .string a0_6, .string a0_7] 75 (0, 0))) ∧ Aside0 (Below w.heap.size w wc))
              case first =>
               have H := HC47.out
               clear HC47
               by_cases c48 : x5_16 = true
               ·subst c48
                (try rw [if_pos rfl] at H)
                replace H := Option.bind_eq_some_iff.mp H
                obtain ⟨t271, A490, H⟩ := H
                (try set_option simprocs false in dsimp only at H)
                have A49 := Aside0.mk A490
                clear A490
                by_cases c50 : t271 = true
                ·subst c50
                 (try rw [if_pos rfl] at H)
                 clear_value *
                 as_aux_lemma =>
                  have H' := Aside0.mk H
                  clear H
                  have hcz51 := blk_cell BK261.out
                  have hfz51 := blk_frozen BK261.out
                  go_wp2_with (first | (go_at_call 47; (with_reducible refine (spec_l01In.calls a0_4 0 7 true _ A49.out).mono ?_); rintro e w' ⟨rfl, ⟨nd, rfl⟩⟩))
                  go_meet
                  case rel => exact ⟨_, (false), (by first | rfl | (simp; done) | (simp [*]; done) | (simp; exact (by intro l; cases l <;> rfl : ∀ l : List UInt8, l.isEmpty = !(l != [])) _)), H', ⟨by have := HJ1.out; have := HJ9.out; have := HJ16.out; have := HJ20.out; have := HJ38.out; first | omega | exact Nat.le_refl _⟩, ⟨by (with_reducible repeat (first | refine blk_drewN ?_ _ | refine blk_drew ?_ | refine blk_alloc ?_ _)); exact BK261.out⟩, ⟨by repeat (first | (with_reducible first | exact HB.out | apply below_alloc | apply pw_below_drewN | apply below_drew1 | refine below_set ?_ GE261.out) | exact HB.out)⟩⟩
                ·replace c50 := Bool.eq_false_iff.mpr c50
                 subst c50
                 (try rw [if_neg (show ¬ (false = true) by decide)] at H)
                 clear_value *
                 as_aux_lemma =>
                  have H' := Aside0.mk H
                  clear H
                  have hcz52 := blk_cell BK261.out
                  have hfz52 := blk_frozen BK261.out
                  go_wp2_with (first | (go_at_call 47; (with_reducible refine (spec_l01In.calls a0_4 0 7 false _ A49.out).mono ?_); rintro e w' ⟨rfl, ⟨nd, rfl⟩⟩))
                  go_meet
                  case rel => exact ⟨_, (true), (by first | rfl | (simp; done) | (simp [*]; done) | (simp; exact (by intro l; cases l <;> rfl : ∀ l : List UInt8, l.isEmpty = !(l != [])) _)), H', ⟨by have := HJ1.out; have := HJ9.out; have := HJ16.out; have := HJ20.out; have := HJ38.out; first | omega | exact Nat.le_refl _⟩, ⟨by (with_reducible repeat (first | refine blk_drewN ?_ _ | refine blk_drew ?_ | refine blk_alloc ?_ _)); exact BK261.out⟩, ⟨by repeat (first | (with_reducible first | exact HB.out | apply below_alloc | apply pw_below_drewN | apply below_drew1 | refine below_set ?_ GE261.out) | exact HB.out)⟩⟩
               ·replace c48 := Bool.eq_false_iff.mpr c48
                subst c48
                (try rw [if_neg (show ¬ (false = true) by decide)] at H)
                clear_value *
                as_aux_lemma =>
                 have H' := Aside0.mk H
                 clear H
                 have hcz53 := blk_cell BK261.out
                 have hfz53 := blk_frozen BK261.out
                 go_wp2
                 go_meet
                 case rel => exact ⟨_, ((a0_4 != 0)), (by first | rfl | (simp; done) | (simp [*]; done) | (simp; exact (by intro l; cases l <;> rfl : ∀ l : List UInt8, l.isEmpty = !(l != [])) _)), H', ⟨by have := HJ1.out; have := HJ9.out; have := HJ16.out; have := HJ20.out; have := HJ38.out; first | omega | exact Nat.le_refl _⟩, ⟨by (with_reducible repeat (first | refine blk_drewN ?_ _ | refine blk_drew ?_ | refine blk_alloc ?_ _)); exact BK261.out⟩, ⟨by repeat (first | (with_reducible first | exact HB.out | apply below_alloc | apply pw_below_drewN | apply below_drew1 | refine below_set ?_ GE261.out) | exact HB.out)⟩⟩
              case rest =>
               clear HC47
               try clear c1
               try clear c2
               try clear p2
               try clear c3
               try clear c4
               try clear c5
               try clear c9
               try clear c12
               try clear c12b0
               try clear c12b1
               try clear c14
               try clear c14b0
               try clear c14b1
               try clear c18
               try clear c18b0
               try clear c18b1
               try clear c22
               try clear c24
               try clear c26
               try clear c28
               try clear c33
               try clear c33b0
               try clear c33b1
               try clear c34
               try clear c34b0
               try clear c34b1
               try clear c38
               try clear c40
               try clear c42
               try clear c46
               try clear c48
               try clear c50
               try clear hcz11
               try clear hcz13
               try clear hcz15
               try clear hcz16
               try clear hcz19
               try clear hcz20
               try clear hcz29
               try clear hcz30
               try clear hcz31
               try clear hcz32
               try clear hcz35
               try clear hcz36
               try clear hcz37
               try clear hcz43
               try clear hcz44
               try clear hcz45
               try clear hcz51
               try clear hcz52
               try clear hcz53
               try clear hcz7
               try clear hcz8
               try clear hfz11
               try clear hfz13
               try clear hfz15
               try clear hfz16
               try clear hfz19
               try clear hfz20
               try clear hfz29
               try clear hfz30
               try clear hfz31
               try clear hfz32
               try clear hfz35
               try clear hfz36
               try clear hfz37
               try clear hfz43
               try clear hfz44
               try clear hfz45
               try clear hfz51
               try clear hfz52
               try clear hfz53
               try clear hfz7
               try clear hfz8
               try clear p2
               obtain ⟨kq, x109_46, rfl, HA, HJ46, BK261, HB⟩ := hcut
               cases kq with
               | zero => exact absurd HA.out (by simp [spec_RecOk.j5])
               | succ kj46 =>
                have H := HA.out
                clear HA
                simp only [spec_RecOk.j5] at H
                by_cases c54 : x109_46 = true
                ·subst c54
                 (try rw [if_pos rfl] at H)
                 obtain rfl := Option.some.inj H
                 go_wp2
                 go_ret
                 exact ⟨by first | rfl | (simp [errW_none, errW_some] <;> rfl) | (simp [*, errW_none, errW_some] <;> rfl), by repeat (first | (with_reducible first | exact HB.out | apply below_alloc | apply pw_below_drewN | apply below_drew1 | refine below_set ?_ GE261.out) | exact HB.out)⟩
                ·replace c54 := Bool.eq_false_iff.mpr c54
                 subst c54
                 (try rw [if_neg (show ¬ (false = true) by decide)] at H)
                 by_cases c55 : a0_0 = 3
                 ·rw [if_pos c55] at H
                  have c55b0 : (a0_0 == 3) = true := beq_iff_eq.mpr c55
                  have c55b1 : (a0_0 != 3) = false := bne_eq_false_iff_eq.mpr c55
                  clear c55
                  replace H := Option.bind_eq_some_iff.mp H
                  obtain ⟨t272, hE, H⟩ := H
                  (try set_option simprocs false in dsimp only at H)
                  have hBt272 := Option.some.inj hE
                  clear hE
                  obtain rfl := Option.some.inj H
                  have hcz56 := blk_cell BK261.out
                  have hfz56 := blk_frozen BK261.out
                  go_wp2
                  go_ret
                  exact ⟨by first | rfl | (simp [errW_none, errW_some] <;> rfl) | (simp [*, errW_none, errW_some] <;> rfl), by repeat (first | (with_reducible first | exact HB.out | apply below_alloc | apply pw_below_drewN | apply below_drew1 | refine below_set ?_ GE261.out) | exact HB.out)⟩
                 ·rw [if_neg c55] at H
                  have c55b0 : (a0_0 == 3) = false := beq_eq_false_iff_ne.mpr c55
                  have c55b1 : (a0_0 != 3) = true := bne_iff_ne.mpr c55
                  replace H := Option.bind_eq_some_iff.mp H
                  obtain ⟨t273, hE, H⟩ := H
                  (try set_option simprocs false in dsimp only at H)
                  have hBt273 := Option.some.inj hE
                  clear hE
                  obtain rfl := Option.some.inj H
                  have hcz57 := blk_cell BK261.out
                  have hfz57 := blk_frozen BK261.out
                  go_wp2
                  go_ret
                  exact ⟨by first | rfl | (simp [errW_none, errW_some] <;> rfl) | (simp [*, errW_none, errW_some] <;> rfl), by repeat (first | (with_reducible first | exact HB.out | apply below_alloc | apply pw_below_drewN | apply below_drew1 | refine below_set ?_ GE261.out) | exact HB.out)⟩

end Go.Proofs.YtenedfmmjfgbaaaDoor.QFnHeads
