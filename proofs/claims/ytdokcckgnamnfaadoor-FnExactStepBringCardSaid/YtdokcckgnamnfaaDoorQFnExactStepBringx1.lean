-- Written by a program of this session (myprint) out of Lean's own print of the translation. Lean checks it.
import Derived.Test.YtdokcckgnamnfaaDoorShorter
import Derived.Test.YtdokcckgnamnfaaDoorHold
import Derived.Test.YtdokcckgnamnfaaDoorQFnExactStepBringx0
namespace Go.Proofs.YtdokcckgnamnfaaDoor.QFnExactStepBring
open Go.Proofs.YtdokcckgnamnfaaDoorF
open Go.RowKit Go.Proofs.YtdokcckgnamnfaaDoorW.PrintWords Go.Proofs.YtdokcckgnamnfaaDoorW.PrintLast Go.Proofs.YtdokcckgnamnfaaDoorW.PrintMore
attribute [local go_sem] max2_int min2_int max_two min_two max_three min_three max_four min_four   -- for this text's walks alone
set_option maxHeartbeats 8000000
set_option maxRecDepth 100000
set_option linter.unusedVariables false
set_option linter.unusedSimpArgs false

/-! ### laws_szStringS: function 18 -/
def laws_szStringS.l0 : Nat → List ByteArray → Int → Int → Option (Int)
 | 0, _, _, _ => none
 | k + 1, x0, x1, x5 => if x5 < (x0.length : Int) then (if 0 ≤ x5 then (if (wrap64 (x1 - ((rdOf ByteArray.empty x0 x5).size : Int))) < 0 then (some (-1)) else (laws_szStringS.l0 k x0 (wrap64 (x1 - ((rdOf ByteArray.empty x0 x5).size : Int))) (wrap64 (x5 + 1)))) else (none)) else (some x1)
def laws_szStringS.f (k : Nat) (l0 : List ByteArray) (a1 : Int) : Option (Int) := if (wrap64 (a1 - (l0.length : Int))) < 0 then (some (-1)) else (laws_szStringS.l0 k l0 (wrap64 (a1 - (l0.length : Int))) 0)
theorem laws_szStringS.mono_l : ∀ k, (∀ y0 y1 y2, LeO (laws_szStringS.l0 k y0 y1 y2) (laws_szStringS.l0 (k + 1) y0 y1 y2))
 | 0 => fun _ _ _ r h => by simp [laws_szStringS.l0] at h
 | k + 1 => by
  have ih0 := laws_szStringS.mono_l k
  ·intro y0 y1 y2
   unfold laws_szStringS.l0
   repeat' first
   | (with_reducible exact ih0 _ _ _)
   | (with_reducible first | exact LeO.refl _ | exact LeO.none _ | refine LeO.ite ?_ ?_ | refine LeO.bind ?_ (fun _ => ?_))
   | refine LeO.ite ?_ ?_
   | refine LeO.bind ?_ (fun _ => ?_)
theorem laws_szStringS.mono : ∀ a0 a1 k, LeO (laws_szStringS.f k a0 a1) (laws_szStringS.f (k + 1) a0 a1) := by
 intro a0 a1 k
 have ih0 := laws_szStringS.mono_l k
 unfold laws_szStringS.f
 repeat' first
   | (with_reducible exact ih0 _ _ _)
   | (with_reducible first | exact LeO.refl _ | exact LeO.none _ | refine LeO.ite ?_ ?_ | refine LeO.bind ?_ (fun _ => ?_))
   | refine LeO.ite ?_ ?_
   | refine LeO.bind ?_ (fun _ => ?_)
theorem laws_szStringS.calls (k : Nat) (A0 : Option Addr) (c0 : Nat) (l0 : List ByteArray) (a1 : Int) (r : Int) (w : World) (hr0 : Kd.C Kd.string w A0 l0.length l0) (hc0 : l0.length ≤ c0) (h : laws_szStringS.f k l0 a1 = some r) :
  Calls Tryd.prog 18 #[.slice A0 l0.length c0, .int .i64 a1] w fun e w' => e = .returned (.int .i64 r) ∧ Drawn0 w w' := by
 have HR0 := Aside0.mk hr0
 have HC0 := Aside0.mk hc0
 clear hr0 hc0
 have H := h; unfold laws_szStringS.f at H
 clear h
 by_cases c3 : (wrap64 (a1 - (l0.length : Int))) < 0
 ·rw [if_pos c3] at H
  have c3b0 := decide_eq_true c3
  clear c3
  obtain rfl := Option.some.inj H
  go_enter Tryd.func18, Tryd.ntmps18
  go_wp2
  go_ret
  exact ⟨rf_, dn_⟩
 ·rw [if_neg c3] at H
  have c3b0 := decide_eq_false c3
  clear c3
  have H' := Aside0.mk H
  clear H
  go_enter Tryd.func18, Tryd.ntmps18
  go_wp2
  go_loopg [1, 5] k (fun kq v1 v5 w' => ∃ (x1_1 : Int) (x5_1 : Int), v1 = .int .i64 x1_1 ∧ v5 = .int .i64 x5_1 ∧ Aside0 (laws_szStringS.l0 kq l0 x1_1 x5_1 = some r) ∧ Aside0 (kq ≤ k) ∧ Drawn0 w w')
  case atStart => exact ⟨(wrap64 (a1 - (l0.length : Int))), (0), rf_, rf_, H', ⟨Nat.le_refl _⟩, dn_⟩
  case round =>
   clear H'
   try clear c1
   try clear p2
   try clear c3
   try clear c3b0
   obtain ⟨x1_1, x5_1, rfl, rfl, HA, HK1, ⟨m1, rfl⟩⟩ := hrel
   cases gk with
   | zero => exact absurd HA.out (by simp [laws_szStringS.l0])
   | succ k1 =>
    have H := HA.out
    clear HA
    simp only [laws_szStringS.l0] at H
    by_cases c4 : x5_1 < (l0.length : Int)
    ·rw [if_pos c4] at H
     have c4b0 := decide_eq_true c4
     clear c4
     by_cases c5 : 0 ≤ x5_1
     ·rw [if_pos c5] at H
      have c5b0 := decide_eq_true c5
      clear c5
      have p101 : 0 ≤ (x5_1 : Int) := od_
      have q101 : x5_1 < (l0.length : Int) := od_
      obtain ⟨ad101, e101, hx101_0⟩ := Kd.at_string HR0.out x5_1 p101 q101
      cases e101
      replace p101 := eq_true p101
      replace q101 := eq_true q101
      by_cases c6 : (wrap64 (x1_1 - ((rdOf ByteArray.empty l0 x5_1).size : Int))) < 0
      ·rw [if_pos c6] at H
       have c6b0 := decide_eq_true c6
       clear c6
       obtain rfl := Option.some.inj H
       try simp only [c6b0, Bool.not_true, Bool.not_false]
       go_wp2
       go_ret
       exact ⟨rf_, dn_⟩
      ·rw [if_neg c6] at H
       have c6b0 := decide_eq_false c6
       clear c6
       have H' := Aside0.mk H
       clear H
       try simp only [c6b0, Bool.not_true, Bool.not_false]
       go_wp2
       go_roundg k1
       case measure => have := HK1.out; omega
       case rel => exact ⟨(wrap64 (x1_1 - ((rdOf ByteArray.empty l0 x5_1).size : Int))), (wrap64 (x5_1 + 1)), rf_, rf_, H', ⟨by have := HK1.out; omega⟩, dn_⟩
     ·rw [if_neg c5] at H
      exact absurd H (by simp)
    ·rw [if_neg c4] at H
     have c4b0 := decide_eq_false c4
     clear c4
     obtain rfl := Option.some.inj H
     go_wp2
     go_ret
     exact ⟨rf_, dn_⟩

/-! ### laws_szBring: function 4 -/
def laws_szBring.f (k : Nat) (a0_0 : Int) (a0_1 : ByteArray) (l0_2 : List ByteArray) (l0_3 : List ByteArray) (a1 : Int) : Option (Int) := if (wrap64 (a1 - (a0_1.size : Int))) < 0 then (some (-1)) else ((laws_szStringS.f k l0_2 (wrap64 (a1 - (a0_1.size : Int)))).bind fun t103 => (if t103 < 0 then (some (-1)) else ((laws_szStringS.f k l0_3 t103).bind fun t104 => (if t104 < 0 then (some (-1)) else (some t104)))))
theorem laws_szBring.mono : ∀ a0 a1 a2 a3 a4 k, LeO (laws_szBring.f k a0 a1 a2 a3 a4) (laws_szBring.f (k + 1) a0 a1 a2 a3 a4) := by
 intro a0 a1 a2 a3 a4 k
 unfold laws_szBring.f
 repeat' first
   | (with_reducible exact laws_szStringS.mono _ _ _)
   | (with_reducible first | exact LeO.refl _ | exact LeO.none _ | refine LeO.ite ?_ ?_ | refine LeO.bind ?_ (fun _ => ?_))
   | refine LeO.ite ?_ ?_
   | refine LeO.bind ?_ (fun _ => ?_)
theorem laws_szBring.calls (k : Nat) (a0_0 : Int) (a0_1 : ByteArray) (A0_2 : Option Addr) (c0_2 : Nat) (l0_2 : List ByteArray) (A0_3 : Option Addr) (c0_3 : Nat) (l0_3 : List ByteArray) (a1 : Int) (r : Int) (w : World) (hr0_2 : Kd.C Kd.string w A0_2 l0_2.length l0_2) (hc0_2 : l0_2.length ≤ c0_2) (hr0_3 : Kd.C Kd.string w A0_3 l0_3.length l0_3) (hc0_3 : l0_3.length ≤ c0_3) (h : laws_szBring.f k a0_0 a0_1 l0_2 l0_3 a1 = some r) :
  Calls Tryd.prog 4 #[.agg #[.int .i64 a0_0, .string a0_1, .slice A0_2 l0_2.length c0_2, .slice A0_3 l0_3.length c0_3], .int .i64 a1] w fun e w' => e = .returned (.int .i64 r) ∧ Below w.heap.size w w' := by
 have hu24 := Tryd.underlying24
 have HR0_2 := Aside0.mk hr0_2
 have HC0_2 := Aside0.mk hc0_2
 clear hr0_2 hc0_2
 have HR0_3 := Aside0.mk hr0_3
 have HC0_3 := Aside0.mk hc0_3
 clear hr0_3 hc0_3
 have HB := Aside0.mk (Below.refl w.heap.size w)
 have H := h; unfold laws_szBring.f at H
 clear h
 go_enter Tryd.func4, Tryd.ntmps4
 go_wp2_with (first | ((with_reducible refine gd_ 2 ?_); refine bx_ 2 24 #[.int .i64 a0_0, .string a0_1, .slice A0_2 l0_2.length c0_2, .slice A0_3 l0_3.length c0_3] ?_; intro gb102 hg w4 hbox hb; have BK102 := Aside0.mk (hbox); have GE102 := gel_ hg; replace HB := hbl_ hb; clear hb hbox hg; have hcz5 := blk_cell BK102.out; have hfz5 := blk_frozen BK102.out; refine stop_ ?_; intro G_ HG_))
 by_cases c3 : (wrap64 (a1 - (a0_1.size : Int))) < 0
 ·rw [if_pos c3] at H
  have c3b0 := decide_eq_true c3
  clear c3
  obtain rfl := Option.some.inj H
  refine HG_.out ?_; clear HG_
  try simp only [c3b0, Bool.not_true, Bool.not_false]
  go_wp2_with fail
  go_ret
  exact ⟨re_, bl_⟩
 ·rw [if_neg c3] at H
  have c3b0 := decide_eq_false c3
  clear c3
  obtain ⟨t103, A6, H⟩ := bs_ H
  refine HG_.out ?_; clear HG_
  try simp only [c3b0, Bool.not_true, Bool.not_false]
  go_wp2_with (first | ((with_reducible refine gc_ 18 ?_); refine gl_ (some 15) Tryd.func18 #[.slice A0_2 l0_2.length c0_2, .int .i64 (wrap64 (a1 - (a0_1.size : Int)))] ?_; (with_reducible refine (laws_szStringS.calls k _ _ l0_2 (wrap64 (a1 - (a0_1.size : Int))) t103 _ ?side1 ?side2 A6.out).mono ?_); (case side1 => exact cb_ HR0_2); (case side2 => exact HC0_2.out); rintro e w' ⟨rfl, ⟨nd, rfl⟩⟩; refine ⟨_, rfl, ?_⟩; refine stop_ ?_; intro G_ HG_))
  by_cases c7 : t103 < 0
  ·rw [if_pos c7] at H
   have c7b0 := decide_eq_true c7
   clear c7
   obtain rfl := Option.some.inj H
   refine HG_.out ?_; clear HG_
   try simp only [c7b0, Bool.not_true, Bool.not_false]
   go_wp2_with fail
   go_ret
   exact ⟨re_, bl_⟩
  ·rw [if_neg c7] at H
   have c7b0 := decide_eq_false c7
   clear c7
   obtain ⟨t104, A10, H⟩ := bs_ H
   refine HG_.out ?_; clear HG_
   try simp only [c7b0, Bool.not_true, Bool.not_false]
   go_wp2_with (first | ((with_reducible refine gc_ 18 ?_); refine gl_ (some 21) Tryd.func18 #[.slice A0_3 l0_3.length c0_3, .int .i64 t103] ?_; (with_reducible refine (laws_szStringS.calls k _ _ l0_3 t103 t104 _ ?side1 ?side2 A10.out).mono ?_); (case side1 => repeat (first | exact (Kd.C_below HR0_3.out bl_) | (with_reducible refine Kd.C_alloc ?_ _) | (with_reducible refine Kd.C_drewN ?_ _) | (with_reducible refine Kd.C_drew ?_))); (case side2 => exact HC0_3.out); rintro e w' ⟨rfl, ⟨nd, rfl⟩⟩; refine ⟨_, rfl, ?_⟩; refine stop_ ?_; intro G_ HG_))
   by_cases c11 : t104 < 0
   ·rw [if_pos c11] at H
    have c11b0 := decide_eq_true c11
    clear c11
    obtain rfl := Option.some.inj H
    refine HG_.out ?_; clear HG_
    try simp only [c11b0, Bool.not_true, Bool.not_false]
    go_wp2_with fail
    go_ret
    exact ⟨re_, bl_⟩
   ·rw [if_neg c11] at H
    have c11b0 := decide_eq_false c11
    clear c11
    obtain rfl := Option.some.inj H
    refine HG_.out ?_; clear HG_
    try simp only [c11b0, Bool.not_true, Bool.not_false]
    go_wp2_with fail
    go_ret
    exact ⟨re_, bl_⟩

/-! ### laws_szMail: function 75 -/
def laws_szMail.f (a0_0 : Int) (a0_1 : Int) (a0_2 : ByteArray) (a1 : Int) : Option (Int) := if (wrap64 (a1 - (a0_2.size : Int))) < 0 then (some (-1)) else (some (wrap64 (a1 - (a0_2.size : Int))))
theorem laws_szMail.calls (a0_0 : Int) (a0_1 : Int) (a0_2 : ByteArray) (a1 : Int) (r : Int) (w : World) (h : laws_szMail.f a0_0 a0_1 a0_2 a1 = some r) :
  Calls Tryd.prog 75 #[.agg #[.int .i64 a0_0, .int .i64 a0_1, .string a0_2], .int .i64 a1] w fun e w' => e = .returned (.int .i64 r) ∧ Below w.heap.size w w' := by
 have hu103 := Tryd.underlying103
 have HB := Aside0.mk (Below.refl w.heap.size w)
 have H := h; unfold laws_szMail.f at H
 clear h
 go_enter Tryd.func75, Tryd.ntmps75
 go_wp2_with (first | ((with_reducible refine gd_ 2 ?_); refine bx_ 2 103 #[.int .i64 a0_0, .int .i64 a0_1, .string a0_2] ?_; intro gb105 hg w4 hbox hb; have BK105 := Aside0.mk (hbox); have GE105 := ge_ hg HB; replace HB := hb_ HB hb; clear hb hbox hg; have hcz5 := blk_cell BK105.out; have hfz5 := blk_frozen BK105.out; refine stop_ ?_; intro G_ HG_))
 by_cases c3 : (wrap64 (a1 - (a0_2.size : Int))) < 0
 ·rw [if_pos c3] at H
  have c3b0 := decide_eq_true c3
  clear c3
  obtain rfl := Option.some.inj H
  refine HG_.out ?_; clear HG_
  try simp only [c3b0, Bool.not_true, Bool.not_false]
  go_wp2_with fail
  go_ret
  exact ⟨re_, bl_⟩
 ·rw [if_neg c3] at H
  have c3b0 := decide_eq_false c3
  clear c3
  obtain rfl := Option.some.inj H
  refine HG_.out ?_; clear HG_
  try simp only [c3b0, Bool.not_true, Bool.not_false]
  go_wp2_with fail
  go_ret
  exact ⟨re_, bl_⟩

/-! ### laws_szMailS: function 65 -/
def laws_szMailS.l0 : Nat → List (S103) → Int → Int → Option (Int)
 | 0, _, _, _ => none
 | k + 1, x0, x1, x5 => if x5 < (x0.length : Int) then (if 0 ≤ x5 then ((laws_szMail.f ((rd_T103 x0 x5).f0) ((rd_T103 x0 x5).f1) ((rd_T103 x0 x5).f2) x1).bind fun t107 => (if t107 < 0 then (some (-1)) else (laws_szMailS.l0 k x0 t107 (wrap64 (x5 + 1))))) else (none)) else (some x1)
def laws_szMailS.f (k : Nat) (l0 : List (S103)) (a1 : Int) : Option (Int) := if (wrap64 (a1 - (l0.length : Int))) < 0 then (some (-1)) else (laws_szMailS.l0 k l0 (wrap64 (a1 - (l0.length : Int))) 0)
theorem laws_szMailS.mono_l : ∀ k, (∀ y0 y1 y2, LeO (laws_szMailS.l0 k y0 y1 y2) (laws_szMailS.l0 (k + 1) y0 y1 y2))
 | 0 => fun _ _ _ r h => by simp [laws_szMailS.l0] at h
 | k + 1 => by
  have ih0 := laws_szMailS.mono_l k
  ·intro y0 y1 y2
   unfold laws_szMailS.l0
   repeat' first
   | (with_reducible exact ih0 _ _ _)
   | (with_reducible first | exact LeO.refl _ | exact LeO.none _ | refine LeO.ite ?_ ?_ | refine LeO.bind ?_ (fun _ => ?_))
   | refine LeO.ite ?_ ?_
   | refine LeO.bind ?_ (fun _ => ?_)
theorem laws_szMailS.mono : ∀ a0 a1 k, LeO (laws_szMailS.f k a0 a1) (laws_szMailS.f (k + 1) a0 a1) := by
 intro a0 a1 k
 have ih0 := laws_szMailS.mono_l k
 unfold laws_szMailS.f
 repeat' first
   | (with_reducible exact ih0 _ _ _)
   | (with_reducible first | exact LeO.refl _ | exact LeO.none _ | refine LeO.ite ?_ ?_ | refine LeO.bind ?_ (fun _ => ?_))
   | refine LeO.ite ?_ ?_
   | refine LeO.bind ?_ (fun _ => ?_)
theorem laws_szMailS.calls (k : Nat) (A0 : Option Addr) (c0 : Nat) (l0 : List (S103)) (a1 : Int) (r : Int) (w : World) (hr0 : Kd.C k103 w A0 l0.length l0) (hc0 : l0.length ≤ c0) (h : laws_szMailS.f k l0 a1 = some r) :
  Calls Tryd.prog 65 #[.slice A0 l0.length c0, .int .i64 a1] w fun e w' => e = .returned (.int .i64 r) ∧ Below w.heap.size w w' := by
 have hu103 := Tryd.underlying103
 have HR0 := Aside0.mk hr0
 have HC0 := Aside0.mk hc0
 clear hr0 hc0
 have HB := Aside0.mk (Below.refl w.heap.size w)
 have H := h; unfold laws_szMailS.f at H
 clear h
 by_cases c3 : (wrap64 (a1 - (l0.length : Int))) < 0
 ·rw [if_pos c3] at H
  have c3b0 := decide_eq_true c3
  clear c3
  obtain rfl := Option.some.inj H
  go_enter Tryd.func65, Tryd.ntmps65
  go_wp2
  go_ret
  exact ⟨re_, bl_⟩
 ·rw [if_neg c3] at H
  have c3b0 := decide_eq_false c3
  clear c3
  have H' := Aside0.mk H
  clear H
  go_enter Tryd.func65, Tryd.ntmps65
  go_wp2
  go_loopg [1, 5] k (fun kq v1 v5 w' => ∃ (x1_1 : Int) (x5_1 : Int), v1 = .int .i64 x1_1 ∧ v5 = .int .i64 x5_1 ∧ Aside0 (laws_szMailS.l0 kq l0 x1_1 x5_1 = some r) ∧ Aside0 (kq ≤ k) ∧ Aside0 (Below w.heap.size w w'))
  case atStart => exact ⟨(wrap64 (a1 - (l0.length : Int))), (0), rf_, rf_, H', ⟨Nat.le_refl _⟩, ⟨bl_⟩⟩
  case round =>
   clear H'
   try clear p2
   try clear c3
   try clear c3b0
   obtain ⟨x1_1, x5_1, rfl, rfl, HA, HK1, HB⟩ := hrel
   cases gk with
   | zero => exact absurd HA.out (by simp [laws_szMailS.l0])
   | succ k1 =>
    have H := HA.out
    clear HA
    simp only [laws_szMailS.l0] at H
    by_cases c4 : x5_1 < (l0.length : Int)
    ·rw [if_pos c4] at H
     have c4b0 := decide_eq_true c4
     clear c4
     by_cases c5 : 0 ≤ x5_1
     ·rw [if_pos c5] at H
      have c5b0 := decide_eq_true c5
      clear c5
      obtain ⟨t107, A6, H⟩ := bs_ H
      have p106 : 0 ≤ (x5_1 : Int) := od_
      have q106 : x5_1 < (l0.length : Int) := od_
      obtain ⟨ad106, e106, hx106_0, hx106_1, hx106_2⟩ := at_T103 HR0.out x5_1 p106 q106
      cases e106
      replace hx106_0 := cu_ HB hx106_0
      replace hx106_1 := cu_ HB hx106_1
      replace hx106_2 := cu_ HB hx106_2
      replace p106 := eq_true p106
      replace q106 := eq_true q106
      go_wp2_with (first | ((with_reducible refine gc_ 75 ?_); refine gl_ (some 23) Tryd.func75 #[.agg #[.int .i64 ((rd_T103 l0 x5_1).f0), .int .i64 ((rd_T103 l0 x5_1).f1), .string ((rd_T103 l0 x5_1).f2)], .int .i64 x1_1] ?_; (with_reducible refine (laws_szMail.calls ((rd_T103 l0 x5_1).f0) ((rd_T103 l0 x5_1).f1) ((rd_T103 l0 x5_1).f2) x1_1 t107 _ A6.out).mono ?_); rintro e w8 ⟨rfl, hb⟩; refine ⟨_, rfl, ?_⟩; replace HB := hb_ HB hb; try clear hb; refine stop_ ?_; intro G_ HG_))
      by_cases c7 : t107 < 0
      ·rw [if_pos c7] at H
       have c7b0 := decide_eq_true c7
       clear c7
       obtain rfl := Option.some.inj H
       refine HG_.out ?_; clear HG_
       try simp only [c7b0, Bool.not_true, Bool.not_false]
       go_wp2_with fail
       go_ret
       exact ⟨re_, bl_⟩
      ·rw [if_neg c7] at H
       have c7b0 := decide_eq_false c7
       clear c7
       have H' := Aside0.mk H
       clear H
       refine HG_.out ?_; clear HG_
       try simp only [c7b0, Bool.not_true, Bool.not_false]
       go_wp2_with fail
       go_roundg k1
       case measure => have := HK1.out; omega
       case rel => exact ⟨(t107), (wrap64 (x5_1 + 1)), rf_, rf_, H', ⟨by have := HK1.out; omega⟩, ⟨bl_⟩⟩
     ·rw [if_neg c5] at H
      exact absurd H (by simp)
    ·rw [if_neg c4] at H
     have c4b0 := decide_eq_false c4
     clear c4
     obtain rfl := Option.some.inj H
     go_wp2
     go_ret
     exact ⟨re_, bl_⟩

/-! ### laws_szBox: function 46 -/
def laws_szBox.f (k : Nat) (a0_0 : Int) (a0_1 : ByteArray) (a0_2 : ByteArray) (a0_3 : Int) (l0_4 : List (S103)) (a1 : Int) : Option (Int) := if (wrap64 (a1 - (a0_1.size : Int))) < 0 then (some (-1)) else (if (wrap64 ((wrap64 (a1 - (a0_1.size : Int))) - (a0_2.size : Int))) < 0 then (some (-1)) else ((laws_szMailS.f k l0_4 (wrap64 ((wrap64 (a1 - (a0_1.size : Int))) - (a0_2.size : Int)))).bind fun t109 => (if t109 < 0 then (some (-1)) else (some t109))))
theorem laws_szBox.mono : ∀ a0 a1 a2 a3 a4 a5 k, LeO (laws_szBox.f k a0 a1 a2 a3 a4 a5) (laws_szBox.f (k + 1) a0 a1 a2 a3 a4 a5) := by
 intro a0 a1 a2 a3 a4 a5 k
 unfold laws_szBox.f
 repeat' first
   | (with_reducible exact laws_szMailS.mono _ _ _)
   | (with_reducible first | exact LeO.refl _ | exact LeO.none _ | refine LeO.ite ?_ ?_ | refine LeO.bind ?_ (fun _ => ?_))
   | refine LeO.ite ?_ ?_
   | refine LeO.bind ?_ (fun _ => ?_)
theorem laws_szBox.calls (k : Nat) (a0_0 : Int) (a0_1 : ByteArray) (a0_2 : ByteArray) (a0_3 : Int) (A0_4 : Option Addr) (c0_4 : Nat) (l0_4 : List (S103)) (a1 : Int) (r : Int) (w : World) (hr0_4 : Kd.C k103 w A0_4 l0_4.length l0_4) (hc0_4 : l0_4.length ≤ c0_4) (h : laws_szBox.f k a0_0 a0_1 a0_2 a0_3 l0_4 a1 = some r) :
  Calls Tryd.prog 46 #[.agg #[.int .i64 a0_0, .string a0_1, .string a0_2, .int .i64 a0_3, .slice A0_4 l0_4.length c0_4], .int .i64 a1] w fun e w' => e = .returned (.int .i64 r) ∧ Below w.heap.size w w' := by
 have hu73 := Tryd.underlying73
 have HR0_4 := Aside0.mk hr0_4
 have HC0_4 := Aside0.mk hc0_4
 clear hr0_4 hc0_4
 have HB := Aside0.mk (Below.refl w.heap.size w)
 have H := h; unfold laws_szBox.f at H
 clear h
 go_enter Tryd.func46, Tryd.ntmps46
 go_wp2_with (first | ((with_reducible refine gd_ 2 ?_); refine bx_ 2 73 #[.int .i64 a0_0, .string a0_1, .string a0_2, .int .i64 a0_3, .slice A0_4 l0_4.length c0_4] ?_; intro gb108 hg w4 hbox hb; have BK108 := Aside0.mk (hbox); have GE108 := ge_ hg HB; replace HB := hb_ HB hb; clear hb hbox hg; have hcz5 := blk_cell BK108.out; have hfz5 := blk_frozen BK108.out; refine stop_ ?_; intro G_ HG_))
 by_cases c3 : (wrap64 (a1 - (a0_1.size : Int))) < 0
 ·rw [if_pos c3] at H
  have c3b0 := decide_eq_true c3
  clear c3
  obtain rfl := Option.some.inj H
  refine HG_.out ?_; clear HG_
  try simp only [c3b0, Bool.not_true, Bool.not_false]
  go_wp2_with fail
  go_ret
  exact ⟨re_, bl_⟩
 ·rw [if_neg c3] at H
  have c3b0 := decide_eq_false c3
  clear c3
  by_cases c6 : (wrap64 ((wrap64 (a1 - (a0_1.size : Int))) - (a0_2.size : Int))) < 0
  ·rw [if_pos c6] at H
   have c6b0 := decide_eq_true c6
   clear c6
   obtain rfl := Option.some.inj H
   refine HG_.out ?_; clear HG_
   try simp only [c3b0, c6b0, Bool.not_true, Bool.not_false]
   go_wp2_with fail
   go_ret
   exact ⟨re_, bl_⟩
  ·rw [if_neg c6] at H
   have c6b0 := decide_eq_false c6
   clear c6
   obtain ⟨t109, A9, H⟩ := bs_ H
   refine HG_.out ?_; clear HG_
   try simp only [c3b0, c6b0, Bool.not_true, Bool.not_false]
   go_wp2_with (first | ((with_reducible refine gc_ 65 ?_); refine gl_ (some 22) Tryd.func65 #[.slice A0_4 l0_4.length c0_4, .int .i64 (wrap64 ((wrap64 (a1 - (a0_1.size : Int))) - (a0_2.size : Int)))] ?_; (with_reducible refine (laws_szMailS.calls k _ _ l0_4 (wrap64 ((wrap64 (a1 - (a0_1.size : Int))) - (a0_2.size : Int))) t109 _ ?side1 ?side2 A9.out).mono ?_); (case side1 => exact (Kd.C_below HR0_4.out HB.out)); (case side2 => exact HC0_4.out); rintro e w13 ⟨rfl, hb⟩; refine ⟨_, rfl, ?_⟩; replace HB := hb_ HB hb; try clear hb; refine stop_ ?_; intro G_ HG_))
   by_cases c10 : t109 < 0
   ·rw [if_pos c10] at H
    have c10b0 := decide_eq_true c10
    clear c10
    obtain rfl := Option.some.inj H
    refine HG_.out ?_; clear HG_
    try simp only [c10b0, Bool.not_true, Bool.not_false]
    go_wp2_with fail
    go_ret
    exact ⟨re_, bl_⟩
   ·rw [if_neg c10] at H
    have c10b0 := decide_eq_false c10
    clear c10
    obtain rfl := Option.some.inj H
    refine HG_.out ?_; clear HG_
    try simp only [c10b0, Bool.not_true, Bool.not_false]
    go_wp2_with fail
    go_ret
    exact ⟨re_, bl_⟩

/-! ### laws_szBoxS: function 19 -/
def laws_szBoxS.l0 : Nat → List (S73) → Int → Int → Option (Int)
 | 0, _, _, _ => none
 | k + 1, x0, x1, x5 => if x5 < (x0.length : Int) then (if 0 ≤ x5 then ((laws_szBox.f k ((rd_T73 x0 x5).f0) ((rd_T73 x0 x5).f1) ((rd_T73 x0 x5).f2) ((rd_T73 x0 x5).f3) ((rd_T73 x0 x5).f4) x1).bind fun t111 => (if t111 < 0 then (some (-1)) else (laws_szBoxS.l0 k x0 t111 (wrap64 (x5 + 1))))) else (none)) else (some x1)
def laws_szBoxS.f (k : Nat) (l0 : List (S73)) (a1 : Int) : Option (Int) := if (wrap64 (a1 - (l0.length : Int))) < 0 then (some (-1)) else (laws_szBoxS.l0 k l0 (wrap64 (a1 - (l0.length : Int))) 0)
theorem laws_szBoxS.mono_l : ∀ k, (∀ y0 y1 y2, LeO (laws_szBoxS.l0 k y0 y1 y2) (laws_szBoxS.l0 (k + 1) y0 y1 y2))
 | 0 => fun _ _ _ r h => by simp [laws_szBoxS.l0] at h
 | k + 1 => by
  have ih0 := laws_szBoxS.mono_l k
  ·intro y0 y1 y2
   unfold laws_szBoxS.l0
   repeat' first
   | (with_reducible exact ih0 _ _ _)
   | (with_reducible exact laws_szBox.mono _ _ _ _ _ _ _)
   | (with_reducible first | exact LeO.refl _ | exact LeO.none _ | refine LeO.ite ?_ ?_ | refine LeO.bind ?_ (fun _ => ?_))
   | refine LeO.ite ?_ ?_
   | refine LeO.bind ?_ (fun _ => ?_)
theorem laws_szBoxS.mono : ∀ a0 a1 k, LeO (laws_szBoxS.f k a0 a1) (laws_szBoxS.f (k + 1) a0 a1) := by
 intro a0 a1 k
 have ih0 := laws_szBoxS.mono_l k
 unfold laws_szBoxS.f
 repeat' first
   | (with_reducible exact ih0 _ _ _)
   | (with_reducible exact laws_szBox.mono _ _ _ _ _ _ _)
   | (with_reducible first | exact LeO.refl _ | exact LeO.none _ | refine LeO.ite ?_ ?_ | refine LeO.bind ?_ (fun _ => ?_))
   | refine LeO.ite ?_ ?_
   | refine LeO.bind ?_ (fun _ => ?_)
theorem laws_szBoxS.calls (k : Nat) (A0 : Option Addr) (c0 : Nat) (l0 : List (S73)) (a1 : Int) (r : Int) (w : World) (hr0 : Kd.C k73 w A0 l0.length l0) (hc0 : l0.length ≤ c0) (h : laws_szBoxS.f k l0 a1 = some r) :
  Calls Tryd.prog 19 #[.slice A0 l0.length c0, .int .i64 a1] w fun e w' => e = .returned (.int .i64 r) ∧ Below w.heap.size w w' := by
 have hu73 := Tryd.underlying73
 have HR0 := Aside0.mk hr0
 have HC0 := Aside0.mk hc0
 clear hr0 hc0
 have HB := Aside0.mk (Below.refl w.heap.size w)
 have H := h; unfold laws_szBoxS.f at H
 clear h
 by_cases c3 : (wrap64 (a1 - (l0.length : Int))) < 0
 ·rw [if_pos c3] at H
  have c3b0 := decide_eq_true c3
  clear c3
  obtain rfl := Option.some.inj H
  go_enter Tryd.func19, Tryd.ntmps19
  go_wp2
  go_ret
  exact ⟨re_, bl_⟩
 ·rw [if_neg c3] at H
  have c3b0 := decide_eq_false c3
  clear c3
  have H' := Aside0.mk H
  clear H
  go_enter Tryd.func19, Tryd.ntmps19
  go_wp2
  go_loopg [1, 5] k (fun kq v1 v5 w' => ∃ (x1_1 : Int) (x5_1 : Int), v1 = .int .i64 x1_1 ∧ v5 = .int .i64 x5_1 ∧ Aside0 (laws_szBoxS.l0 kq l0 x1_1 x5_1 = some r) ∧ Aside0 (kq ≤ k) ∧ Aside0 (Below w.heap.size w w'))
  case atStart => exact ⟨(wrap64 (a1 - (l0.length : Int))), (0), rf_, rf_, H', ⟨Nat.le_refl _⟩, ⟨bl_⟩⟩
  case round =>
   clear H'
   try clear c1
   try clear p2
   try clear c3
   try clear c3b0
   obtain ⟨x1_1, x5_1, rfl, rfl, HA, HK1, HB⟩ := hrel
   cases gk with
   | zero => exact absurd HA.out (by simp [laws_szBoxS.l0])
   | succ k1 =>
    have H := HA.out
    clear HA
    simp only [laws_szBoxS.l0] at H
    by_cases c4 : x5_1 < (l0.length : Int)
    ·rw [if_pos c4] at H
     have c4b0 := decide_eq_true c4
     clear c4
     by_cases c5 : 0 ≤ x5_1
     ·rw [if_pos c5] at H
      have c5b0 := decide_eq_true c5
      clear c5
      obtain ⟨t111, A6, H⟩ := bs_ H
      have p110 : 0 ≤ (x5_1 : Int) := od_
      have q110 : x5_1 < (l0.length : Int) := od_
      obtain ⟨ad110, A110_4, c110_4, e110, hx110_0, hx110_1, hx110_2, hx110_3, hx110_4, hl110_4, hi110_4⟩ := at_T73 HR0.out x5_1 p110 q110
      cases e110
      replace hx110_0 := cu_ HB hx110_0
      replace hx110_1 := cu_ HB hx110_1
      replace hx110_2 := cu_ HB hx110_2
      replace hx110_3 := cu_ HB hx110_3
      replace hx110_4 := cu_ HB hx110_4
      have HR110_4 := Aside0.mk hi110_4
      have HC110_4 := Aside0.mk hl110_4
      clear hi110_4 hl110_4
      replace p110 := eq_true p110
      replace q110 := eq_true q110
      go_wp2_with (first | ((with_reducible refine gc_ 46 ?_); refine gl_ (some 23) Tryd.func46 #[.agg #[.int .i64 ((rd_T73 l0 x5_1).f0), .string ((rd_T73 l0 x5_1).f1), .string ((rd_T73 l0 x5_1).f2), .int .i64 ((rd_T73 l0 x5_1).f3), .slice A110_4 ((rd_T73 l0 x5_1).f4).length c110_4], .int .i64 x1_1] ?_; (with_reducible refine (laws_szBox.calls k1 ((rd_T73 l0 x5_1).f0) ((rd_T73 l0 x5_1).f1) ((rd_T73 l0 x5_1).f2) ((rd_T73 l0 x5_1).f3) _ _ ((rd_T73 l0 x5_1).f4) x1_1 t111 _ ?side1 ?side2 A6.out).mono ?_); (case side1 => exact (Kd.C_below HR110_4.out HB.out)); (case side2 => exact HC110_4.out); rintro e w8 ⟨rfl, hb⟩; refine ⟨_, rfl, ?_⟩; replace HB := hb_ HB hb; try clear hb; refine stop_ ?_; intro G_ HG_))
      by_cases c7 : t111 < 0
      ·rw [if_pos c7] at H
       have c7b0 := decide_eq_true c7
       clear c7
       obtain rfl := Option.some.inj H
       refine HG_.out ?_; clear HG_
       try simp only [c7b0, Bool.not_true, Bool.not_false]
       go_wp2_with fail
       go_ret
       exact ⟨re_, bl_⟩
      ·rw [if_neg c7] at H
       have c7b0 := decide_eq_false c7
       clear c7
       have H' := Aside0.mk H
       clear H
       refine HG_.out ?_; clear HG_
       try simp only [c7b0, Bool.not_true, Bool.not_false]
       go_wp2_with fail
       go_roundg k1
       case measure => have := HK1.out; omega
       case rel => exact ⟨(t111), (wrap64 (x5_1 + 1)), rf_, rf_, H', ⟨by have := HK1.out; omega⟩, ⟨bl_⟩⟩
     ·rw [if_neg c5] at H
      exact absurd H (by simp)
    ·rw [if_neg c4] at H
     have c4b0 := decide_eq_false c4
     clear c4
     obtain rfl := Option.some.inj H
     go_wp2
     go_ret
     exact ⟨re_, bl_⟩

/-! ### laws_szState: function 5 -/
def laws_szState.f (k : Nat) (l0_0 : List (S73)) (a1 : Int) : Option (Int) := (laws_szBoxS.f k l0_0 a1).bind fun t113 => (if t113 < 0 then (some (-1)) else (some t113))
theorem laws_szState.mono : ∀ a0 a1 k, LeO (laws_szState.f k a0 a1) (laws_szState.f (k + 1) a0 a1) := by
 intro a0 a1 k
 unfold laws_szState.f
 repeat' first
   | (with_reducible exact laws_szBoxS.mono _ _ _)
   | (with_reducible first | exact LeO.refl _ | exact LeO.none _ | refine LeO.ite ?_ ?_ | refine LeO.bind ?_ (fun _ => ?_))
   | refine LeO.ite ?_ ?_
   | refine LeO.bind ?_ (fun _ => ?_)
theorem laws_szState.calls (k : Nat) (A0_0 : Option Addr) (c0_0 : Nat) (l0_0 : List (S73)) (a1 : Int) (r : Int) (w : World) (hr0_0 : Kd.C k73 w A0_0 l0_0.length l0_0) (hc0_0 : l0_0.length ≤ c0_0) (h : laws_szState.f k l0_0 a1 = some r) :
  Calls Tryd.prog 5 #[.agg #[.slice A0_0 l0_0.length c0_0], .int .i64 a1] w fun e w' => e = .returned (.int .i64 r) ∧ Below w.heap.size w w' := by
 have hu27 := Tryd.underlying27
 have HR0_0 := Aside0.mk hr0_0
 have HC0_0 := Aside0.mk hc0_0
 clear hr0_0 hc0_0
 have HB := Aside0.mk (Below.refl w.heap.size w)
 have H := h; unfold laws_szState.f at H
 clear h
 obtain ⟨t113, A3, H⟩ := bs_ H
 go_enter Tryd.func5, Tryd.ntmps5
 go_wp2_with (first | ((with_reducible refine gd_ 2 ?_); refine bx_ 2 27 #[.slice A0_0 l0_0.length c0_0] ?_; intro gb112 hg w5 hbox hb; have BK112 := Aside0.mk (hbox); have GE112 := ge_ hg HB; replace HB := hb_ HB hb; clear hb hbox hg; have hcz6 := blk_cell BK112.out; have hfz6 := blk_frozen BK112.out) | ((with_reducible refine gc_ 19 ?_); refine gl_ (some 8) Tryd.func19 #[.slice A0_0 l0_0.length c0_0, .int .i64 a1] ?_; (with_reducible refine (laws_szBoxS.calls k _ _ l0_0 a1 t113 _ ?side1 ?side2 A3.out).mono ?_); (case side1 => exact (Kd.C_below HR0_0.out HB.out)); (case side2 => exact HC0_0.out); rintro e w7 ⟨rfl, hb⟩; refine ⟨_, rfl, ?_⟩; replace HB := hb_ HB hb; try clear hb; refine stop_ ?_; intro G_ HG_))
 by_cases c4 : t113 < 0
 ·rw [if_pos c4] at H
  have c4b0 := decide_eq_true c4
  clear c4
  obtain rfl := Option.some.inj H
  refine HG_.out ?_; clear HG_
  try simp only [c4b0, Bool.not_true, Bool.not_false]
  go_wp2_with fail
  go_ret
  exact ⟨re_, bl_⟩
 ·rw [if_neg c4] at H
  have c4b0 := decide_eq_false c4
  clear c4
  obtain rfl := Option.some.inj H
  refine HG_.out ?_; clear HG_
  try simp only [c4b0, Bool.not_true, Bool.not_false]
  go_wp2_with fail
  go_ret
  exact ⟨re_, bl_⟩

end Go.Proofs.YtdokcckgnamnfaaDoor.QFnExactStepBring
