-- Written by a program of this session (myprint) out of Lean's own print of the translation. Lean checks it.
import Derived.Test.YtdokcckgnamnfaaDoorShorter
import Derived.Test.YtdokcckgnamnfaaDoorHold
import Derived.Test.YtdokcckgnamnfaaDoorQFnExactStepBringx0
import Derived.Test.YtdokcckgnamnfaaDoorQFnExactStepBringx6
namespace Go.Proofs.YtdokcckgnamnfaaDoor.QFnExactStepBring
open Go.Proofs.YtdokcckgnamnfaaDoorF
open Go.RowKit Go.Proofs.YtdokcckgnamnfaaDoorW.PrintWords Go.Proofs.YtdokcckgnamnfaaDoorW.PrintLast Go.Proofs.YtdokcckgnamnfaaDoorW.PrintMore
attribute [local go_sem] max2_int min2_int max_two min_two max_three min_three max_four min_four   -- for this text's walks alone
set_option maxHeartbeats 8000000
set_option maxRecDepth 100000
set_option linter.unusedVariables false
set_option linter.unusedSimpArgs false

/-! ### impl_TextOf: function 70 -/
def impl_TextOf.l0 : Nat → ByteArray → List ByteArray → Int → Int → Option (ByteArray)
 | 0, _, _, _, _ => none
 | k + 1, x3, x6, x7, x8 => if x8 < x7 then (if 0 ≤ x8 then (if x8 < (x6.length : Int) then (if (rdOf ByteArray.empty x6 x8).size + 1 ≤ 9223372036854775807 then (if x3.size + ((rdOf ByteArray.empty x6 x8) ++ (⟨#[10]⟩ : ByteArray)).size ≤ 9223372036854775807 then (impl_TextOf.l0 k (x3 ++ ((rdOf ByteArray.empty x6 x8) ++ (⟨#[10]⟩ : ByteArray))) x6 x7 (wrap64 (x8 + 1))) else (none)) else (none)) else (none)) else (none)) else (some x3)
def impl_TextOf.f (k : Nat) (l0 : List ByteArray) : Option (ByteArray) := impl_TextOf.l0 k (⟨#[]⟩ : ByteArray) l0 (l0.length : Int) 0
theorem impl_TextOf.mono_l : ∀ k, (∀ y0 y1 y2 y3, LeO (impl_TextOf.l0 k y0 y1 y2 y3) (impl_TextOf.l0 (k + 1) y0 y1 y2 y3))
 | 0 => fun _ _ _ _ r h => by simp [impl_TextOf.l0] at h
 | k + 1 => by
  have ih0 := impl_TextOf.mono_l k
  ·intro y0 y1 y2 y3
   unfold impl_TextOf.l0
   repeat' first
   | (with_reducible exact ih0 _ _ _ _)
   | (with_reducible first | exact LeO.refl _ | exact LeO.none _ | refine LeO.ite ?_ ?_ | refine LeO.bind ?_ (fun _ => ?_))
   | refine LeO.ite ?_ ?_
   | refine LeO.bind ?_ (fun _ => ?_)
theorem impl_TextOf.mono : ∀ a0 k, LeO (impl_TextOf.f k a0) (impl_TextOf.f (k + 1) a0) := by
 intro a0 k
 have ih0 := impl_TextOf.mono_l k
 unfold impl_TextOf.f
 repeat' first
   | (with_reducible exact ih0 _ _ _ _)
   | (with_reducible first | exact LeO.refl _ | exact LeO.none _ | refine LeO.ite ?_ ?_ | refine LeO.bind ?_ (fun _ => ?_))
   | refine LeO.ite ?_ ?_
   | refine LeO.bind ?_ (fun _ => ?_)
theorem impl_TextOf.calls (k : Nat) (A0 : Option Addr) (c0 : Nat) (l0 : List ByteArray) (r : ByteArray) (w : World) (hr0 : Kd.C Kd.string w A0 l0.length l0) (hc0 : l0.length ≤ c0) (h : impl_TextOf.f k l0 = some r) :
  Calls Tryd.prog 70 #[.slice A0 l0.length c0] w fun e w' => e = .returned (.string r) ∧ Drawn0 w w' := by
 have HR0 := Aside0.mk hr0
 have HC0 := Aside0.mk hc0
 clear hr0 hc0
 have H := h; unfold impl_TextOf.f at H
 clear h
 have H' := Aside0.mk H
 clear H
 go_enter Tryd.func70, Tryd.ntmps70
 go_wp2
 go_loopg [3, 8] k (fun kq v3 v8 w' => ∃ (x3_1 : ByteArray) (x8_1 : Int), v3 = .string x3_1 ∧ v8 = .int .i64 x8_1 ∧ Aside0 (impl_TextOf.l0 kq x3_1 l0 (l0.length : Int) x8_1 = some r) ∧ Aside0 (kq ≤ k) ∧ Drawn0 w w')
 case atStart => exact ⟨((⟨#[]⟩ : ByteArray)), (0), rf_, rf_, H', ⟨Nat.le_refl _⟩, dn_⟩
 case round =>
  clear H'
  obtain ⟨x3_1, x8_1, rfl, rfl, HA, HK1, ⟨m1, rfl⟩⟩ := hrel
  cases gk with
  | zero => exact absurd HA.out (by simp [impl_TextOf.l0])
  | succ k1 =>
   have H := HA.out
   clear HA
   simp only [impl_TextOf.l0] at H
   by_cases c2 : x8_1 < (l0.length : Int)
   ·rw [if_pos c2] at H
    have c2b0 := decide_eq_true c2
    clear c2
    by_cases c3 : 0 ≤ x8_1
    ·rw [if_pos c3] at H
     have c3b0 := decide_eq_true c3
     clear c3
     by_cases c4 : x8_1 < (l0.length : Int)
     ·rw [if_pos c4] at H
      have c4b0 := decide_eq_true c4
      clear c4
      by_cases c5 : (rdOf ByteArray.empty l0 x8_1).size + 1 ≤ 9223372036854775807
      ·rw [if_pos c5] at H
       have c5b0 := eq_true c5
       have c5b1 := decide_eq_true c5
       try have c5b2 : (9223372036854775807 < (rdOf ByteArray.empty l0 x8_1).size + 1) = False := eq_false (Nat.not_lt.2 c5)
       by_cases c6 : x3_1.size + ((rdOf ByteArray.empty l0 x8_1) ++ (⟨#[10]⟩ : ByteArray)).size ≤ 9223372036854775807
       ·rw [if_pos c6] at H
        have c6b0 := eq_true c6
        have c6b1 := decide_eq_true c6
        try have c6b2 : (9223372036854775807 < x3_1.size + ((rdOf ByteArray.empty l0 x8_1) ++ (⟨#[10]⟩ : ByteArray)).size) = False := eq_false (Nat.not_lt.2 c6)
        have c6n := c6
        (try simp only [ByteArray.size_append, show (⟨#[10]⟩ : ByteArray).size = 1 from rfl] at c6n)
        have c6nb0 := eq_true c6n
        have c6nb1 := decide_eq_true c6n
        have c6nb2 := eq_false (Nat.not_lt.2 c6n)
        have H' := Aside0.mk H
        clear H
        have p345 : 0 ≤ (x8_1 : Int) := od_
        have q345 : x8_1 < (l0.length : Int) := od_
        obtain ⟨ad345, e345, hx345_0⟩ := Kd.at_string HR0.out x8_1 p345 q345
        cases e345
        replace p345 := eq_true p345
        replace q345 := eq_true q345
        go_wp2
        go_roundg k1
        case measure => have := HK1.out; omega
        case rel => exact ⟨(x3_1 ++ ((rdOf ByteArray.empty l0 x8_1) ++ (⟨#[10]⟩ : ByteArray))), (wrap64 (x8_1 + 1)), rf_, rf_, H', ⟨by have := HK1.out; omega⟩, dn_⟩
       ·rw [if_neg c6] at H
        exact absurd H (by simp)
      ·rw [if_neg c5] at H
       exact absurd H (by simp)
     ·rw [if_neg c4] at H
      exact absurd H (by simp)
    ·rw [if_neg c3] at H
     exact absurd H (by simp)
   ·rw [if_neg c2] at H
    have c2b0 := decide_eq_false c2
    clear c2
    obtain rfl := Option.some.inj H
    go_wp2
    go_ret
    exact ⟨rf_, dn_⟩

/-! ### impl_delivered: function 57 -/
def impl_delivered.l0 : Nat → List (S65) → List ByteArray → Int → Int → Int → ByteArray → List ByteArray → List ByteArray → Option (ByteArray × ByteArray × (List (S65)))
 | 0, _, _, _, _, _, _, _, _ => none
 | k + 1, x5, x11, x12, x13, x347000, x347001, x347002, x347003 => if x13 < x12 then (if 0 ≤ x13 then (if x13 < (x11.length : Int) then ((impl_TextOf.f k x347003).bind fun t351 => ((impl_Traced.f t351 x347001 (rdOf ByteArray.empty x11 x13)).bind fun t352 => (if (t352.size : Int) > 100 then (some ((⟨#[53, 53, 50, 32, 108, 111, 110, 103]⟩ : ByteArray), (⟨#[]⟩ : ByteArray), ([] : List (S65)))) else (if x5.length < 1256584717458 then (impl_delivered.l0 k (x5 ++ [(⟨3, rdOf ByteArray.empty x11 x13, (⟨#[105, 110, 98, 111, 120]⟩ : ByteArray), (⟨#[]⟩ : ByteArray), 0, ([] : List Int), 0, t352⟩ : S65)]) x11 x12 (wrap64 (x13 + 1)) x347000 x347001 x347002 x347003) else (none))))) else (none)) else (none)) else (if (x5.length : Int) = 0 then (some ((⟨#[50, 53, 48, 32, 111, 107]⟩ : ByteArray), (⟨#[]⟩ : ByteArray), ([] : List (S65)))) else (some ((⟨#[50, 53, 48, 32, 111, 107]⟩ : ByteArray), (⟨#[52, 53, 50, 32, 102, 117, 108, 108]⟩ : ByteArray), x5)))
def impl_delivered.f (k : Nat) (a0_0 : Int) (a0_1 : ByteArray) (l0_2 : List ByteArray) (l0_3 : List ByteArray) : Option (ByteArray × ByteArray × (List (S65))) := impl_delivered.l0 k (([] : List (S65))) l0_2 (l0_2.length : Int) 0 a0_0 a0_1 l0_2 l0_3
theorem impl_delivered.mono_l : ∀ k, (∀ y0 y1 y2 y3 y4 y5 y6 y7, LeO (impl_delivered.l0 k y0 y1 y2 y3 y4 y5 y6 y7) (impl_delivered.l0 (k + 1) y0 y1 y2 y3 y4 y5 y6 y7))
 | 0 => fun _ _ _ _ _ _ _ _ r h => by simp [impl_delivered.l0] at h
 | k + 1 => by
  have ih0 := impl_delivered.mono_l k
  ·intro y0 y1 y2 y3 y4 y5 y6 y7
   unfold impl_delivered.l0
   repeat' first
   | (with_reducible exact ih0 _ _ _ _ _ _ _ _)
   | (with_reducible exact impl_TextOf.mono _ _)
   | (with_reducible first | exact LeO.refl _ | exact LeO.none _ | refine LeO.ite ?_ ?_ | refine LeO.bind ?_ (fun _ => ?_))
   | refine LeO.ite ?_ ?_
   | refine LeO.bind ?_ (fun _ => ?_)
theorem impl_delivered.mono : ∀ a0 a1 a2 a3 k, LeO (impl_delivered.f k a0 a1 a2 a3) (impl_delivered.f (k + 1) a0 a1 a2 a3) := by
 intro a0 a1 a2 a3 k
 have ih0 := impl_delivered.mono_l k
 unfold impl_delivered.f
 repeat' first
   | (with_reducible exact ih0 _ _ _ _ _ _ _ _)
   | (with_reducible exact impl_TextOf.mono _ _)
   | (with_reducible first | exact LeO.refl _ | exact LeO.none _ | refine LeO.ite ?_ ?_ | refine LeO.bind ?_ (fun _ => ?_))
   | refine LeO.ite ?_ ?_
   | refine LeO.bind ?_ (fun _ => ?_)
theorem impl_delivered.calls (k : Nat) (a0_0 : Int) (a0_1 : ByteArray) (A0_2 : Option Addr) (c0_2 : Nat) (l0_2 : List ByteArray) (A0_3 : Option Addr) (c0_3 : Nat) (l0_3 : List ByteArray) (r1 : ByteArray) (r2 : ByteArray) (r3 : List (S65)) (w : World) (hr0_2 : Kd.C Kd.string w A0_2 l0_2.length l0_2) (hc0_2 : l0_2.length ≤ c0_2) (hr0_3 : Kd.C Kd.string w A0_3 l0_3.length l0_3) (hc0_3 : l0_3.length ≤ c0_3) (h : impl_delivered.f k a0_0 a0_1 l0_2 l0_3 = some (r1, r2, r3)) :
  Calls Tryd.prog 57 #[.agg #[.int .i64 a0_0, .string a0_1, .slice A0_2 l0_2.length c0_2, .slice A0_3 l0_3.length c0_3]] w fun e w' => ∃ v2_ : Value, e = .returned (.tuple #[.string r1, .string r2, v2_]) ∧ Kd.S k65 65 w' w.heap.size (fun _ => True) v2_ r3 ∧ Below w.heap.size w w' := by
 have hu30 := Tryd.underlying30
 have hu65 := Tryd.underlying65
 have HR0_2 := Aside0.mk hr0_2
 have HC0_2 := Aside0.mk hc0_2
 clear hr0_2 hc0_2
 have HR0_3 := Aside0.mk hr0_3
 have HC0_3 := Aside0.mk hc0_3
 clear hr0_3 hc0_3
 have HB := Aside0.mk (Below.refl w.heap.size w)
 have H := h; unfold impl_delivered.f at H
 clear h
 obtain ⟨y347, hy347⟩ : ∃ y_ : List (S65), y_ = (([] : List (S65))) := ⟨_, rfl⟩
 replace H : (impl_delivered.l0 k y347 l0_2 (l0_2.length : Int) 0 a0_0 a0_1 l0_2 l0_3) = some (r1, r2, r3) := by subst hy347; first | with_reducible exact H | with_reducible exact (Option.bind_some _ _).symm.trans H | exact H
 have Ny347 := Aside0.mk hy347
 clear hy347
 have H' := Aside0.mk H
 clear H
 go_enter Tryd.func57, Tryd.ntmps57
 go_wp2_with (first | ((with_reducible refine gd_ 1 ?_); refine bx_ 1 30 #[.int .i64 a0_0, .string a0_1, .slice A0_2 l0_2.length c0_2, .slice A0_3 l0_3.length c0_3] ?_; intro gb346 hg w2 hbox hb; have BK346 := Aside0.mk (hbox); have GW346 := gel_ hg; have GE346 := gel_ hg; replace HB := hbl_ hb; clear hb hbox hg) | ((with_reducible refine gd_ 9 ?_); refine Kd.S_lit k65 _ 65 ?hg (N := 9) ?hd (xs := ([] : List (S65))) (inner := []) (ok := fun _ => True) (okp := fun _ => True) ?hr ?hp (fun _ hk => hk) trivial (Below.refl _ _) (Nat.le_refl _) (by simp) ?_; (case hd => rfl); (case hg => rfl); (case hr => first | (go_simp; done) | (go_simp; rfl)); (case hp => exact (Reps.none _ _)); intro v348 w3 ho4 hb hg_ hnew_; clear hg_ hnew_; (first | rw [← Ny347.out] at ho4 | (simp only [Int.reduceToNat] at ho4; rw [← Ny347.out] at ho4)); have HO349 := Aside0.mk (Kd.S_lower ho4 (below_size bl_)); replace BK346 := bbl_ BK346 hb; replace HB := hbl_ hb; clear hb ho4; have hcz5_0 : w3.cell? ⟨gb346, 0, none⟩ = some (.int .i64 a0_0) := bc_ BK346 0; have hcz5_1 : w3.cell? ⟨gb346, 1, none⟩ = some (.string a0_1) := bc_ BK346 1; have hcz5_2 : w3.cell? ⟨gb346, 2, none⟩ = some (.slice A0_2 l0_2.length c0_2) := bc_ BK346 2; have hcz5_3 : w3.cell? ⟨gb346, 3, none⟩ = some (.slice A0_3 l0_3.length c0_3) := bc_ BK346 3; have hfz5_0 := blk_frozen BK346.out 0; have hfz5_1 := blk_frozen BK346.out 1; have hfz5_2 := blk_frozen BK346.out 2; have hfz5_3 := blk_frozen BK346.out 3))
 repeat (go_quiet (first | ((with_reducible refine gd_ 1 ?_); refine bx_ 1 30 #[.int .i64 a0_0, .string a0_1, .slice A0_2 l0_2.length c0_2, .slice A0_3 l0_3.length c0_3] ?_; intro gb346 hg w2 hbox hb; have BK346 := Aside0.mk (hbox); have GW346 := gel_ hg; have GE346 := gel_ hg; replace HB := hbl_ hb; clear hb hbox hg) | ((with_reducible refine gd_ 9 ?_); refine Kd.S_lit k65 _ 65 ?hg (N := 9) ?hd (xs := ([] : List (S65))) (inner := []) (ok := fun _ => True) (okp := fun _ => True) ?hr ?hp (fun _ hk => hk) trivial (Below.refl _ _) (Nat.le_refl _) (by simp) ?_; (case hd => rfl); (case hg => rfl); (case hr => first | (go_simp; done) | (go_simp; rfl)); (case hp => exact (Reps.none _ _)); intro v348 w3 ho4 hb hg_ hnew_; clear hg_ hnew_; (first | rw [← Ny347.out] at ho4 | (simp only [Int.reduceToNat] at ho4; rw [← Ny347.out] at ho4)); have HO349 := Aside0.mk (Kd.S_lower ho4 (below_size bl_)); replace BK346 := bbl_ BK346 hb; replace HB := hbl_ hb; clear hb ho4; have hcz5_0 : w3.cell? ⟨gb346, 0, none⟩ = some (.int .i64 a0_0) := bc_ BK346 0; have hcz5_1 : w3.cell? ⟨gb346, 1, none⟩ = some (.string a0_1) := bc_ BK346 1; have hcz5_2 : w3.cell? ⟨gb346, 2, none⟩ = some (.slice A0_2 l0_2.length c0_2) := bc_ BK346 2; have hcz5_3 : w3.cell? ⟨gb346, 3, none⟩ = some (.slice A0_3 l0_3.length c0_3) := bc_ BK346 3; have hfz5_0 := blk_frozen BK346.out 0; have hfz5_1 := blk_frozen BK346.out 1; have hfz5_2 := blk_frozen BK346.out 2; have hfz5_3 := blk_frozen BK346.out 3)); try go_wp2_with (first | ((with_reducible refine gd_ 1 ?_); refine bx_ 1 30 #[.int .i64 a0_0, .string a0_1, .slice A0_2 l0_2.length c0_2, .slice A0_3 l0_3.length c0_3] ?_; intro gb346 hg w2 hbox hb; have BK346 := Aside0.mk (hbox); have GW346 := gel_ hg; have GE346 := gel_ hg; replace HB := hbl_ hb; clear hb hbox hg) | ((with_reducible refine gd_ 9 ?_); refine Kd.S_lit k65 _ 65 ?hg (N := 9) ?hd (xs := ([] : List (S65))) (inner := []) (ok := fun _ => True) (okp := fun _ => True) ?hr ?hp (fun _ hk => hk) trivial (Below.refl _ _) (Nat.le_refl _) (by simp) ?_; (case hd => rfl); (case hg => rfl); (case hr => first | (go_simp; done) | (go_simp; rfl)); (case hp => exact (Reps.none _ _)); intro v348 w3 ho4 hb hg_ hnew_; clear hg_ hnew_; (first | rw [← Ny347.out] at ho4 | (simp only [Int.reduceToNat] at ho4; rw [← Ny347.out] at ho4)); have HO349 := Aside0.mk (Kd.S_lower ho4 (below_size bl_)); replace BK346 := bbl_ BK346 hb; replace HB := hbl_ hb; clear hb ho4; have hcz5_0 : w3.cell? ⟨gb346, 0, none⟩ = some (.int .i64 a0_0) := bc_ BK346 0; have hcz5_1 : w3.cell? ⟨gb346, 1, none⟩ = some (.string a0_1) := bc_ BK346 1; have hcz5_2 : w3.cell? ⟨gb346, 2, none⟩ = some (.slice A0_2 l0_2.length c0_2) := bc_ BK346 2; have hcz5_3 : w3.cell? ⟨gb346, 3, none⟩ = some (.slice A0_3 l0_3.length c0_3) := bc_ BK346 3; have hfz5_0 := blk_frozen BK346.out 0; have hfz5_1 := blk_frozen BK346.out 1; have hfz5_2 := blk_frozen BK346.out 2; have hfz5_3 := blk_frozen BK346.out 3)))
 go_loopg [5, 13] k (fun kq v5 v13 w' => ∃ (x5_1 : List (S65)) (x13_1 : Int), v13 = .int .i64 x13_1 ∧ Aside0 (impl_delivered.l0 kq x5_1 l0_2 (l0_2.length : Int) x13_1 a0_0 a0_1 l0_2 l0_3 = some (r1, r2, r3)) ∧ Aside0 (kq ≤ k) ∧ Aside0 (Kd.S k65 65 w' w.heap.size (fun _ => True) v5 x5_1) ∧ Aside0 (w'.heap[gb346]? = some (.cells #[.int .i64 a0_0, .string a0_1, (.slice A0_2 l0_2.length c0_2), (.slice A0_3 l0_3.length c0_3)] 30 (0, 0))) ∧ Aside0 (Below w.heap.size w w'))
 case atStart => exact ⟨(y347), (0), rf_, H', ⟨Nat.le_refl _⟩, ⟨sl_ HO349⟩, ⟨kl_ BK346⟩, ⟨bl_⟩⟩
 case round =>
  clear H'
  try clear p2
  try clear c5
  try clear hcz5_0 hcz5_1 hcz5_2 hcz5_3
  try clear hfz5_0 hfz5_1 hfz5_2 hfz5_3
  obtain ⟨x5_1, x13_1, rfl, HA, HK1, HO_5, BK346, HB⟩ := hrel
  cases gk with
  | zero => exact absurd HA.out (by simp [impl_delivered.l0])
  | succ k1 =>
   have H := HA.out
   clear HA
   simp only [impl_delivered.l0] at H
   by_cases c6 : x13_1 < (l0_2.length : Int)
   ·rw [if_pos c6] at H
    have c6b0 := decide_eq_true c6
    clear c6
    by_cases c7 : 0 ≤ x13_1
    ·rw [if_pos c7] at H
     have c7b0 := decide_eq_true c7
     clear c7
     by_cases c8 : x13_1 < (l0_2.length : Int)
     ·rw [if_pos c8] at H
      have c8b0 := decide_eq_true c8
      clear c8
      obtain ⟨t351, A9, H⟩ := bs_ H
      obtain ⟨t352, A10, H⟩ := bs_ H
      have p350 : 0 ≤ (x13_1 : Int) := od_
      have q350 : x13_1 < (l0_2.length : Int) := od_
      obtain ⟨ad350, e350, hx350_0⟩ := Kd.at_string HR0_2.out x13_1 p350 q350
      cases e350
      replace hx350_0 := cu_ HB hx350_0
      replace p350 := eq_true p350
      replace q350 := eq_true q350
      have hcz12_0 : wr.cell? ⟨gb346, 0, none⟩ = some (.int .i64 a0_0) := bc_ BK346 0
      have hcz12_1 : wr.cell? ⟨gb346, 1, none⟩ = some (.string a0_1) := bc_ BK346 1
      have hcz12_2 : wr.cell? ⟨gb346, 2, none⟩ = some (.slice (some ad350) l0_2.length c0_2) := bc_ BK346 2
      have hcz12_3 : wr.cell? ⟨gb346, 3, none⟩ = some (.slice A0_3 l0_3.length c0_3) := bc_ BK346 3
      have hfz12_0 := blk_frozen BK346.out 0
      have hfz12_1 := blk_frozen BK346.out 1
      have hfz12_2 := blk_frozen BK346.out 2
      have hfz12_3 := blk_frozen BK346.out 3
      by_cases c11 : (t352.size : Int) > 100
      ·rw [if_pos c11] at H
       have c11b0 : decide (100 < (t352.size : Int)) = true := decide_eq_true c11
       have c11b1 : decide (100 < t352.size) = true := decide_eq_true (by omega)
       clear c11
       simp only [Option.some.injEq, Prod.mk.injEq] at H
       obtain ⟨rfl, rfl, rfl⟩ := H
       try simp only [c11b0, c11b1, Bool.not_true, Bool.not_false]
       try go_wp2_with (first | fail)
       try go_quiet (first | (go_at_call 70; (with_reducible refine (impl_TextOf.calls k1 _ _ l0_3 t351 _ ?side1 ?side2 A9.out).mono ?_); (case side1 => exact cb_ HR0_3); (case side2 => exact HC0_3.out); rintro e w' ⟨rfl, ⟨nd, rfl⟩⟩; (try exact dw_)) | (go_at_call 69; (with_reducible refine (impl_Traced.calls t351 a0_1 (rdOf ByteArray.empty l0_2 x13_1) t352 _ A10.out).mono ?_); rintro e w' ⟨rfl, ⟨nd, rfl⟩⟩; (try exact dw_)))
       try go_wp2_with (first | (go_at_call 70; (with_reducible refine (impl_TextOf.calls k1 _ _ l0_3 t351 _ ?side1 ?side2 A9.out).mono ?_); (case side1 => exact cb_ HR0_3); (case side2 => exact HC0_3.out); rintro e w' ⟨rfl, ⟨nd, rfl⟩⟩; (try exact dw_)) | (go_at_call 69; (with_reducible refine (impl_Traced.calls t351 a0_1 (rdOf ByteArray.empty l0_2 x13_1) t352 _ A10.out).mono ?_); rintro e w' ⟨rfl, ⟨nd, rfl⟩⟩; (try exact dw_)))
       go_ret3
       exact ⟨_, re_, ni_, bl_⟩
      ·rw [if_neg c11] at H
       have c11b0 : decide (100 < (t352.size : Int)) = false := decide_eq_false c11
       have c11b1 : decide (100 < t352.size) = false := decide_eq_false (by omega)
       clear c11
       by_cases c13 : x5_1.length < 1256584717458
       ·rw [if_pos c13] at H
        have LMc13 := Aside0.mk c13
        clear c13
        obtain ⟨y353, hy353⟩ : ∃ y_ : List (S65), y_ = (x5_1 ++ [(⟨3, rdOf ByteArray.empty l0_2 x13_1, (⟨#[105, 110, 98, 111, 120]⟩ : ByteArray), (⟨#[]⟩ : ByteArray), 0, ([] : List Int), 0, t352⟩ : S65)]) := ⟨_, rfl⟩
        replace H : (impl_delivered.l0 k1 y353 l0_2 (l0_2.length : Int) (wrap64 (x13_1 + 1)) a0_0 a0_1 l0_2 l0_3) = some (r1, r2, r3) := by subst hy353; first | with_reducible exact H | with_reducible exact (Option.bind_some _ _).symm.trans H | exact H
        have Ny353 := Aside0.mk hy353
        clear hy353
        have H' := Aside0.mk H
        clear H
        try simp only [c11b0, c11b1, Bool.not_true, Bool.not_false]
        try go_wp2_with (first | fail)
        try go_quiet (first | (go_at_call 70; (with_reducible refine (impl_TextOf.calls k1 _ _ l0_3 t351 _ ?side1 ?side2 A9.out).mono ?_); (case side1 => exact cb_ HR0_3); (case side2 => exact HC0_3.out); rintro e w' ⟨rfl, ⟨nd, rfl⟩⟩; (try exact dw_)) | (go_at_call 69; (with_reducible refine (impl_Traced.calls t351 a0_1 (rdOf ByteArray.empty l0_2 x13_1) t352 _ A10.out).mono ?_); rintro e w' ⟨rfl, ⟨nd, rfl⟩⟩; (try exact dw_)))
        try go_wp2_with (first | (go_at_call 70; (with_reducible refine (impl_TextOf.calls k1 _ _ l0_3 t351 _ ?side1 ?side2 A9.out).mono ?_); (case side1 => exact cb_ HR0_3); (case side2 => exact HC0_3.out); rintro e w' ⟨rfl, ⟨nd, rfl⟩⟩; (try exact dw_)) | (go_at_call 69; (with_reducible refine (impl_Traced.calls t351 a0_1 (rdOf ByteArray.empty l0_2 x13_1) t352 _ A10.out).mono ?_); rintro e w' ⟨rfl, ⟨nd, rfl⟩⟩; (try exact dw_)) | ((with_reducible refine gate_builtin (b := .append) (xs := #[.tmp 27, .tmp 31]) rfl ?_); at_builtin; refine Kd.S_append k65 (w0 := w) w.heap.size rfl (.tmp 27) (.tmp 31) 31 65 (.agg #[(.int .i64 0), (.string ⟨#[]⟩), (.string ⟨#[]⟩), (.string ⟨#[]⟩), (.int .i64 0), (.slice none 0 0), (.int .i64 0), (.string ⟨#[]⟩)]) 112 rfl Tryd.underlying31 info65 rfl (by decide) (by omega) u5 x5_1 (⟨3, rdOf ByteArray.empty l0_2 x13_1, (⟨#[105, 110, 98, 111, 120]⟩ : ByteArray), (⟨#[]⟩ : ByteArray), 0, ([] : List Int), 0, t352⟩ : S65) [.int .i64 3, .string (rdOf ByteArray.empty l0_2 x13_1), .string (⟨#[105, 110, 98, 111, 120]⟩ : ByteArray), .string (⟨#[]⟩ : ByteArray), .int .i64 0, .slice none 0 0, .int .i64 0, .string t352] (fun _ => True) (fun _ => False) rfl rfl ?aP (fun k_ hk_ => hk_.elim) ?aF ?aO ?aB ?aS ?aL ?_; (case aP => exact k65_mkM _ _ _ (⟨3, rdOf ByteArray.empty l0_2 x13_1, (⟨#[105, 110, 98, 111, 120]⟩ : ByteArray), (⟨#[]⟩ : ByteArray), 0, ([] : List Int), 0, t352⟩ : S65) (Kd.R_nil _ _ _ _ _)); (case aB => exact bl_); (case aF => exact (fun _ _ => trivial)); (case aO => exact (by (with_reducible repeat (first | apply Kd.S_alloc | apply Kd.S_drewN | apply Kd.S_drew)); exact Kd.S_mono HO_5.out (fun k_ hk => ⟨trivial, fun e_ => e_⟩))); (case aS => exact (below_size bl_)); (case aL => have := LMc13.out; omega); intro v354 w15 ho hb hg hat; rw [← Ny353.out] at ho; replace BK346 := Aside0.mk (blk_grown (g := gb346) (o := .cells #[.int .i64 a0_0, .string a0_1, .slice (some ad350) l0_2.length c0_2, .slice A0_3 l0_3.length c0_3] 30 (0, 0)) (kl_ BK346) hg (Kd.S_ne HO_5.out BK346.out (by decide))); replace HB := Aside0.mk (hb); have HO355 := Aside0.mk (ho); clear HO_5; clear ho hb hg hat))
        go_roundg k1
        case measure => have := HK1.out; omega
        case rel => exact ⟨(y353), (wrap64 (x13_1 + 1)), rf_, H', ⟨by have := HK1.out; omega⟩, ⟨sl_ HO355⟩, ⟨kl_ BK346⟩, ⟨bl_⟩⟩
       ·rw [if_neg c13] at H
        exact absurd H (by simp)
     ·rw [if_neg c8] at H
      exact absurd H (by simp)
    ·rw [if_neg c7] at H
     exact absurd H (by simp)
   ·rw [if_neg c6] at H
    have c6b0 := decide_eq_false c6
    clear c6
    obtain ⟨Ao17, co17, rfl⟩ := Kd.S_slice HO_5.out
    by_cases c16 : (x5_1.length : Int) = 0
    ·rw [if_pos c16] at H
     have c16b0 := beq_iff_eq.mpr c16
     have c16b1 := bne_eq_false_iff_eq.mpr c16
     clear c16
     simp only [Option.some.injEq, Prod.mk.injEq] at H
     obtain ⟨rfl, rfl, rfl⟩ := H
     try simp only [c16b0, c16b1, Bool.not_true, Bool.not_false]
     go_wp2
     repeat (go_quiet (fail); try go_wp2)
     go_ret3
     exact ⟨_, re_, ni_, bl_⟩
    ·rw [if_neg c16] at H
     have c16b0 := beq_eq_false_iff_ne.mpr c16
     have c16b1 := bne_iff_ne.mpr c16
     have c16b2 : ¬ (x5_1 = []) := fun h_ => c16 (by rw [h_]; rfl)
     simp only [Option.some.injEq, Prod.mk.injEq] at H
     obtain ⟨rfl, rfl, rfl⟩ := H
     try simp only [c16b0, c16b1, c16b2, Bool.not_true, Bool.not_false]
     go_wp2
     repeat (go_quiet (fail); try go_wp2)
     go_ret3
     exact ⟨_, re_, sl_ HO_5, bl_⟩

/-! ### impl_stepData: function 30 -/
def impl_stepData.f (k : Nat) (a0_0 : Int) (a0_1 : ByteArray) (l0_2 : List ByteArray) (l0_3 : List ByteArray) (a1 : ByteArray) : Option (Int × ByteArray × List ByteArray × List ByteArray × ByteArray × ByteArray × (List (S65))) := (impl_UndotLine.f a1).bind fun bt358 => (if bt358.2 = true then (if (l0_3.length : Int) < 101 then (if l0_3.length < 8796093022208 then (some (a0_0, a0_1, l0_2, (l0_3 ++ [bt358.1]), (⟨#[]⟩ : ByteArray), (⟨#[]⟩ : ByteArray), ([] : List (S65)))) else (none)) else (some (a0_0, a0_1, l0_2, l0_3, (⟨#[]⟩ : ByteArray), (⟨#[]⟩ : ByteArray), ([] : List (S65))))) else ((impl_delivered.f k a0_0 a0_1 l0_2 l0_3).bind fun bt363 => ((impl_hello.f).bind fun bt368 => (some (bt368.1, bt368.2.1, bt368.2.2.1, bt368.2.2.2, bt363.1, bt363.2.1, bt363.2.2)))))
theorem impl_stepData.mono : ∀ a0 a1 a2 a3 a4 k, LeO (impl_stepData.f k a0 a1 a2 a3 a4) (impl_stepData.f (k + 1) a0 a1 a2 a3 a4) := by
 intro a0 a1 a2 a3 a4 k
 unfold impl_stepData.f
 repeat' first
   | (with_reducible exact impl_delivered.mono _ _ _ _ _)
   | (with_reducible first | exact LeO.refl _ | exact LeO.none _ | refine LeO.ite ?_ ?_ | refine LeO.bind ?_ (fun _ => ?_))
   | refine LeO.ite ?_ ?_
   | refine LeO.bind ?_ (fun _ => ?_)
theorem impl_stepData.calls (k : Nat) (a0_0 : Int) (a0_1 : ByteArray) (P0_2_ : Nat → Prop) (u9000_ : Value) (l0_2 : List ByteArray) (P0_3_ : Nat → Prop) (u9001_ : Value) (l0_3 : List ByteArray) (a1 : ByteArray) (r1 : Int) (r2 : ByteArray) (r3 : List ByteArray) (r4 : List ByteArray) (r5 : ByteArray) (r6 : ByteArray) (r7 : List (S65)) (w0 w : World) (hB : Below w0.heap.size w0 w) (ho0_2 : Kd.R Kd.string 9 w w0.heap.size P0_2_ u9000_ l0_2) (hp0_2_0_3 : ∀ k_, P0_2_ k_ → ¬ P0_3_ k_) (ho0_3 : Kd.R Kd.string 9 w w0.heap.size P0_3_ u9001_ l0_3) (hp0_3_0_2 : ∀ k_, P0_3_ k_ → ¬ P0_2_ k_) (h : impl_stepData.f k a0_0 a0_1 l0_2 l0_3 a1 = some (r1, r2, r3, r4, r5, r6, r7)) :
  Calls Tryd.prog 30 #[.agg #[.int .i64 a0_0, .string a0_1, u9000_, u9001_], .string a1] w fun e w' => ∃ v2_ v3_ v6_ : Value, e = .returned (.tuple #[.agg #[.int .i64 r1, .string r2, v2_, v3_], .string r5, .string r6, v6_]) ∧ Kd.R Kd.string 9 w' w0.heap.size (fun k_ => ((P0_2_ k_ ∨ P0_3_ k_) ∨ w.heap.size ≤ k_) ∧ some k_ ≠ (v3_ : Value).ownBlock) v2_ r3 ∧ Kd.R Kd.string 9 w' w0.heap.size (fun k_ => ((P0_2_ k_ ∨ P0_3_ k_) ∨ w.heap.size ≤ k_) ∧ some k_ ≠ (v2_ : Value).ownBlock) v3_ r4 ∧ Kd.S k65 65 w' w0.heap.size (fun k_ => ((P0_2_ k_ ∨ P0_3_ k_) ∨ w.heap.size ≤ k_)) v6_ r7 ∧ Below w0.heap.size w0 w' ∧ Kept w w' (fun k_ => P0_2_ k_ ∨ P0_3_ k_) := by
 have hu30 := Tryd.underlying30
 have HO0_2 := Aside0.mk (show Kd.R Kd.string 9 w w0.heap.size (fun k_ => ((P0_2_ k_ ∨ P0_3_ k_) ∨ w.heap.size ≤ k_) ∧ some k_ ≠ (u9001_ : Value).ownBlock) u9000_ l0_2 from Kd.R_mono ho0_2 (fun k_ hk => ⟨(.inl (.inl hk)), fun e_ => hp0_2_0_3 k_ hk (ho0_3.1 k_ e_.symm)⟩))
 have HO0_3 := Aside0.mk (show Kd.R Kd.string 9 w w0.heap.size (fun k_ => ((P0_2_ k_ ∨ P0_3_ k_) ∨ w.heap.size ≤ k_) ∧ some k_ ≠ (u9000_ : Value).ownBlock) u9001_ l0_3 from Kd.R_mono ho0_3 (fun k_ hk => ⟨(.inl (.inr hk)), fun e_ => hp0_3_0_2 k_ hk (ho0_2.1 k_ e_.symm)⟩))
 have HK := Aside0.mk (Kept.refl w (fun k_ => P0_2_ k_ ∨ P0_3_ k_))
 have HW0 := Aside0.mk hB.size
 have HB := Aside0.mk hB
 clear hB
 have H := h; unfold impl_stepData.f at H
 clear h
 obtain ⟨⟨t358, t359⟩, A3, H⟩ := bs_ H
 (try set_option simprocs false in dsimp only at H)
 obtain ⟨Ao7, co7, rfl⟩ := Kd.R_slice HO0_2.out
 obtain ⟨Ao8, co8, rfl⟩ := Kd.R_slice HO0_3.out
 go_enter Tryd.func30, Tryd.ntmps30
 go_wp2_with (first | ((with_reducible refine gd_ 2 ?_); refine bx_ 2 30 #[.int .i64 a0_0, .string a0_1, .slice Ao7 l0_2.length co7, .slice Ao8 l0_3.length co8] ?_; intro gb356 hg w9 hbox hb; replace HO0_2 := rb_ HO0_2 hb; replace HO0_3 := rb_ HO0_3 hb; have BK356 := Aside0.mk (hbox); have GW356 := gw_ hg HK; replace HK := kb_ HK hb; have GE356 := ge_ hg HB; replace HB := hb_ HB hb; clear hb hbox hg) | ((with_reducible refine gd_ 4 ?_); refine bx_ 4 30 #[.int .i64 0, .string (⟨#[]⟩ : ByteArray), .slice none 0 0, .slice none 0 0] ?_; intro gb357 hg w10 hbox hb; replace HO0_2 := rb_ HO0_2 hb; replace HO0_3 := rb_ HO0_3 hb; have BK357 := Aside0.mk (hbox); have GW357 := gw_ hg HK; replace HK := kb_ HK hb; have GE357 := ge_ hg HB; replace HB := hb_ HB hb; have NB356_357 := nl_ hg BK356; have NB357_356 := ng_ hg BK356; replace BK356 := bb_ BK356 hb; clear hb hbox hg) | ((with_reducible refine gc_ 56 ?_); refine gl_ (some 15) Tryd.func56 #[.string a1] ?_; (with_reducible refine (impl_UndotLine.calls a1 t358 t359 _ A3.out).mono ?_); rintro e w' ⟨rfl, ⟨nd, rfl⟩⟩; refine ⟨_, rfl, ?_⟩; (try (rw [drewN_self w10]; generalize hq_ : World.drewN w10 _ = w10; replace HO0_2 := ra_ hq_ HO0_2; replace HO0_3 := ra_ hq_ HO0_3; replace BK356 := ba_ hq_ BK356; replace BK357 := ba_ hq_ BK357; replace HK := ka_ hq_ HK; replace HB := ha_ hq_ HB; clear hq_)); refine stop_ ?_; intro G_ HG_))
 by_cases c4 : t359 = true
 ·subst c4
  (try rw [if_pos rfl] at H)
  by_cases c5 : (l0_3.length : Int) < 101
  ·rw [if_pos c5] at H
   have c5b0 := decide_eq_true c5
   have c5b1 : decide (l0_3.length < 101) = true := decide_eq_true (by omega)
   clear c5
   by_cases c6 : l0_3.length < 8796093022208
   ·rw [if_pos c6] at H
    have LMc6 := Aside0.mk c6
    clear c6
    obtain ⟨y360, hy360⟩ : ∃ y_ : List ByteArray, y_ = (l0_3 ++ [t358]) := ⟨_, rfl⟩
    replace H : (some (a0_0, a0_1, l0_2, y360, (⟨#[]⟩ : ByteArray), (⟨#[]⟩ : ByteArray), ([] : List (S65)))) = some (r1, r2, r3, r4, r5, r6, r7) := by subst hy360; first | with_reducible exact H | with_reducible exact (Option.bind_some _ _).symm.trans H | exact H
    have Ny360 := Aside0.mk hy360
    clear hy360
    simp only [Option.some.injEq, Prod.mk.injEq] at H
    obtain ⟨rfl, rfl, rfl, rfl, rfl, rfl, rfl⟩ := H
    refine HG_.out ?_; clear HG_
    try simp only [c5b0, c5b1, Bool.not_true, Bool.not_false]
    have hnb11 := NB356_357.out
    have hnc11 := NB357_356.out
    have hcz12 := blk_cell BK356.out
    have hfz12 := blk_frozen BK356.out
    go_wp2_with (first | ((with_reducible refine gate_builtin (b := .append) (xs := #[.tmp 35, .tmp 37]) rfl ?_); at_builtin; refine Kd.R_append Kd.string (w0 := w0) w0.heap.size rfl (.tmp 35) (.tmp 37) 22 9 (.string ⟨#[]⟩) 16 rfl Tryd.underlying22 info9 rfl (by decide) (by omega) (.slice Ao8 l0_3.length co8) l0_3 t358 [.string t358] (fun k_ => ((P0_2_ k_ ∨ P0_3_ k_) ∨ w.heap.size ≤ k_) ∧ some k_ ≠ (.slice Ao7 l0_2.length co7 : Value).ownBlock) (fun _ => False) rfl rfl ?aP (fun _ hk => hk.elim) ?aF ?aO ?aB ?aS ?aL ?_; (case aP => exact rfl); (case aB => exact HB.out); (case aF => exact (fun k_ hk => ⟨(.inr (Nat.le_trans (by first | exact HK.out.1 | exact (show Kept w _ (fun k_ => P0_2_ k_ ∨ P0_3_ k_) from by repeat (first | (with_reducible first | exact HK.out | apply Kept.alloc | apply Kept.drewN | apply Kept.drew | refine Kept.setCell ?_ (.inr GW356.out) _ | refine Kept.setCell ?_ (.inr GW357.out) _) | exact HK.out)).1) hk)), Kd.fresh' (Kd.R_lt HO0_2.out) k_ hk⟩)); (case aO => exact HO0_3.out); (case aS => exact (below_size HB.out)); (case aL => have := LMc6.out; omega); intro v361 w13 ho hb hg hat; rw [← Ny360.out] at ho; replace HO0_2 := Aside0.mk (Kd.R_after (ok := (fun k_ => ((P0_2_ k_ ∨ P0_3_ k_) ∨ w.heap.size ≤ k_))) HO0_2.out hg hat); replace BK356 := bg_ BK356 hg HO0_3; replace BK357 := bg_ BK357 hg HO0_3; replace HB := Aside0.mk (hb); replace HK := Aside0.mk (Kept.of_grown (S := (fun k_ => P0_2_ k_ ∨ P0_3_ k_)) hg (by repeat (first | (with_reducible first | exact HK.out | apply Kept.alloc | apply Kept.drewN | apply Kept.drew | refine Kept.setCell ?_ (.inr GW356.out) _ | refine Kept.setCell ?_ (.inr GW357.out) _) | exact HK.out)) (fun k_ e_ => (HO0_3.out.1 k_ e_).1)); have HO362 := Aside0.mk (ho); clear HO0_3; clear ho hb hg hat; obtain ⟨Ao14, co14, rfl⟩ := Kd.R_slice HO362.out; have hcz15 := blk_cell BK356.out; have hfz15 := blk_frozen BK356.out; have hcz16 := blk_cell BK357.out; have hfz16 := blk_frozen BK357.out))
    refine bodyPost_ret (results_list (rs := [.cell 4 30, .tmp 5, .tmp 6, .tmp 7]) rfl (by simp) (.cell gb357 30 #[.int .i64 a0_0, .string a0_1, .slice Ao7 l0_2.length co7, .slice Ao14 y360.length co14] (0, 0) _ rfl (by (with_reducible repeat (first | refine blk_drewN ?_ _ | refine blk_drew ?_ | refine blk_alloc ?_ _)); refine blk_put (cs := #[.int .i64 a0_0, .string a0_1, .slice Ao7 l0_2.length co7, .slice none 0 0]) ?_ 3 _ rfl; (with_reducible repeat (first | refine blk_drewN ?_ _ | refine blk_drew ?_ | refine blk_alloc ?_ _)); refine blk_put (cs := #[.int .i64 a0_0, .string a0_1, .slice none 0 0, .slice none 0 0]) ?_ 2 _ rfl; (with_reducible repeat (first | refine blk_drewN ?_ _ | refine blk_drew ?_ | refine blk_alloc ?_ _)); refine blk_put (cs := #[.int .i64 a0_0, .string (⟨#[]⟩ : ByteArray), .slice none 0 0, .slice none 0 0]) ?_ 1 _ rfl; (with_reducible repeat (first | refine blk_drewN ?_ _ | refine blk_drew ?_ | refine blk_alloc ?_ _)); refine blk_put (cs := #[.int .i64 0, .string (⟨#[]⟩ : ByteArray), .slice none 0 0, .slice none 0 0]) ?_ 0 _ rfl; (with_reducible repeat (first | refine blk_drewN ?_ _ | refine blk_drew ?_ | refine blk_alloc ?_ _)); refine blk_far ?_ NB357_356.out _; (with_reducible repeat (first | refine blk_drewN ?_ _ | refine blk_drew ?_ | refine blk_alloc ?_ _)); exact BK357.out) Tryd.underlying30 rfl (by kernel_rfl) (.tmp (.tmp (.tmp .nil))))) rfl ?_
    exact ⟨_, _, _, re_, by (with_reducible repeat (first | apply Kd.R_alloc | apply Kd.R_drewN | apply Kd.R_drew)); exact Kd.R_mono (Kd.R_far (p := ⟨gb357, 3, none⟩) (Kd.R_far (p := ⟨gb357, 2, none⟩) (Kd.R_far (p := ⟨gb357, 1, none⟩) (Kd.R_far (p := ⟨gb357, 0, none⟩) (Kd.R_far (p := ⟨gb356, 3, none⟩) (Kd.R_types (Kd.R_types HO0_2.out BK356.out (by decide)) BK357.out (by decide)) (fun _ hk => hk.1.2) (.slice Ao14 y360.length co14)) (fun _ hk => hk.2) (.int .i64 a0_0)) (fun _ hk => hk.2) (.string a0_1)) (fun _ hk => hk.2) (.slice Ao7 l0_2.length co7)) (fun _ hk => hk.2) (.slice Ao14 y360.length co14)) (fun _ hk => ⟨hk.1.1.1, hk.1.1.2⟩), by (with_reducible repeat (first | apply Kd.R_alloc | apply Kd.R_drewN | apply Kd.R_drew)); exact Kd.R_mono (Kd.R_far (p := ⟨gb357, 3, none⟩) (Kd.R_far (p := ⟨gb357, 2, none⟩) (Kd.R_far (p := ⟨gb357, 1, none⟩) (Kd.R_far (p := ⟨gb357, 0, none⟩) (Kd.R_far (p := ⟨gb356, 3, none⟩) (Kd.R_types (Kd.R_types HO362.out BK356.out (by decide)) BK357.out (by decide)) (fun _ hk => hk.1.2) (.slice Ao14 y360.length co14)) (fun _ hk => hk.2) (.int .i64 a0_0)) (fun _ hk => hk.2) (.string a0_1)) (fun _ hk => hk.2) (.slice Ao7 l0_2.length co7)) (fun _ hk => hk.2) (.slice Ao14 y360.length co14)) (fun _ hk => ⟨hk.1.1.1, hk.1.1.2⟩), ni_, bl_, by repeat (first | (with_reducible first | exact HK.out | apply Kept.alloc | apply Kept.drewN | apply Kept.drew | refine Kept.setCell ?_ (.inr GW356.out) _ | refine Kept.setCell ?_ (.inr GW357.out) _) | exact HK.out)⟩
   ·rw [if_neg c6] at H
    exact absurd H (by simp)
  ·rw [if_neg c5] at H
   have c5b0 := decide_eq_false c5
   have c5b1 : decide (l0_3.length < 101) = false := decide_eq_false (by omega)
   clear c5
   simp only [Option.some.injEq, Prod.mk.injEq] at H
   obtain ⟨rfl, rfl, rfl, rfl, rfl, rfl, rfl⟩ := H
   refine HG_.out ?_; clear HG_
   try simp only [c5b0, c5b1, Bool.not_true, Bool.not_false]
   have hcz356q := blk_cell BK356.out
   have hfz356q := blk_frozen BK356.out
   have hcz357q := blk_cell BK357.out
   have hfz357q := blk_frozen BK357.out
   have hnb21 := NB356_357.out
   have hnc21 := NB357_356.out
   have hcz22 := blk_cell BK356.out
   have hfz22 := blk_frozen BK356.out
   have hcz23 := blk_cell BK357.out
   have hfz23 := blk_frozen BK357.out
   go_wp2_with fail
   refine bodyPost_ret (results_list (rs := [.cell 4 30, .tmp 5, .tmp 6, .tmp 7]) rfl (by simp) (.cell gb357 30 #[.int .i64 a0_0, .string a0_1, .slice Ao7 l0_2.length co7, .slice Ao8 l0_3.length co8] (0, 0) _ rfl (by (with_reducible repeat (first | refine blk_drewN ?_ _ | refine blk_drew ?_ | refine blk_alloc ?_ _)); refine blk_put (cs := #[.int .i64 a0_0, .string a0_1, .slice Ao7 l0_2.length co7, .slice none 0 0]) ?_ 3 _ rfl; (with_reducible repeat (first | refine blk_drewN ?_ _ | refine blk_drew ?_ | refine blk_alloc ?_ _)); refine blk_put (cs := #[.int .i64 a0_0, .string a0_1, .slice none 0 0, .slice none 0 0]) ?_ 2 _ rfl; (with_reducible repeat (first | refine blk_drewN ?_ _ | refine blk_drew ?_ | refine blk_alloc ?_ _)); refine blk_put (cs := #[.int .i64 a0_0, .string (⟨#[]⟩ : ByteArray), .slice none 0 0, .slice none 0 0]) ?_ 1 _ rfl; (with_reducible repeat (first | refine blk_drewN ?_ _ | refine blk_drew ?_ | refine blk_alloc ?_ _)); refine blk_put (cs := #[.int .i64 0, .string (⟨#[]⟩ : ByteArray), .slice none 0 0, .slice none 0 0]) ?_ 0 _ rfl; (with_reducible repeat (first | refine blk_drewN ?_ _ | refine blk_drew ?_ | refine blk_alloc ?_ _)); exact BK357.out) Tryd.underlying30 rfl (by kernel_rfl) (.tmp (.tmp (.tmp .nil))))) rfl ?_
   exact ⟨_, _, _, re_, by (with_reducible repeat (first | apply Kd.R_alloc | apply Kd.R_drewN | apply Kd.R_drew)); exact Kd.R_mono (rg4_ HO0_2 BK357) (fun _ hk => ⟨hk.1.1, hk.1.2⟩), by (with_reducible repeat (first | apply Kd.R_alloc | apply Kd.R_drewN | apply Kd.R_drew)); exact Kd.R_mono (rg4_ HO0_3 BK357) (fun _ hk => ⟨hk.1.1, hk.1.2⟩), ni_, bl_, by repeat (first | (with_reducible first | exact HK.out | apply Kept.alloc | apply Kept.drewN | apply Kept.drew | refine Kept.setCell ?_ (.inr GW356.out) _ | refine Kept.setCell ?_ (.inr GW357.out) _) | exact HK.out)⟩
 ·replace c4 := Bool.eq_false_iff.mpr c4
  subst c4
  (try rw [if_neg (show ¬ (false = true) by decide)] at H)
  obtain ⟨⟨t363, t364, t365⟩, A24, H⟩ := bs_ H
  (try set_option simprocs false in dsimp only at H)
  obtain ⟨⟨t368, t369, t370, t373⟩, A25, H⟩ := bs_ H
  (try set_option simprocs false in dsimp only at H)
  simp only [Option.some.injEq, Prod.mk.injEq] at H
  obtain ⟨rfl, rfl, rfl, rfl, rfl, rfl, rfl⟩ := H
  refine HG_.out ?_; clear HG_
  have hcz356q := blk_cell BK356.out
  have hfz356q := blk_frozen BK356.out
  have hcz357q := blk_cell BK357.out
  have hfz357q := blk_frozen BK357.out
  have hnb30 := NB356_357.out
  have hnc30 := NB357_356.out
  have hcz31 := blk_cell BK356.out
  have hfz31 := blk_frozen BK356.out
  go_wp2_with (first | ((with_reducible refine gc_ 57 ?_); refine gl_ (some 22) Tryd.func57 #[.agg #[.int .i64 a0_0, .string a0_1, .slice Ao7 l0_2.length co7, .slice Ao8 l0_3.length co8]] ?_; (with_reducible refine (impl_delivered.calls k a0_0 a0_1 _ _ l0_2 _ _ l0_3 t363 t364 t365 _ ?side1 ?side2 ?side3 ?side4 A24.out).mono ?_); (case side1 => exact (Kd.R_reads' HO0_2.out).2.2); (case side2 => exact nr_ HO0_2); (case side3 => exact (Kd.R_reads' HO0_3.out).2.2); (case side4 => exact nr_ HO0_3); rintro e w32 ⟨v366, rfl, ho0, hb⟩; refine ⟨_, rfl, ?_⟩; replace HO0_2 := rb_ HO0_2 hb; replace HO0_3 := rb_ HO0_3 hb; have HO367 := Aside0.mk (Kd.S_lower (Kd.S_newM (M := fun k_ => ((P0_2_ k_ ∨ P0_3_ k_) ∨ w.heap.size ≤ k_)) ho0 (by first | exact HK.out.1 | exact (show Kept w _ (fun k_ => P0_2_ k_ ∨ P0_3_ k_) from by repeat (first | (with_reducible first | exact HK.out | apply Kept.alloc | apply Kept.drewN | apply Kept.drew | refine Kept.setCell ?_ (.inr GW356.out) _ | refine Kept.setCell ?_ (.inr GW357.out) _) | exact HK.out)).1) (fun k_ h_ => .inr h_)) (below_size HB.out)); replace BK357 := bb_ BK357 hb; replace HK := kb_ HK hb; replace HB := hb_ HB hb; try clear hb; try clear ho0) | ((with_reducible refine gc_ 35 ?_); refine gl_ (some 26) Tryd.func35 #[] ?_; (with_reducible refine (impl_hello.calls  t368 t369 t370 t373 _ A25.out).mono ?_); rintro e w33 ⟨v371, v374, rfl, ho0, ho1, hb⟩; refine ⟨_, rfl, ?_⟩; replace HO367 := sb_ HO367 hb; have HO372 := Aside0.mk (Kd.R_lower (Kd.R_new' (Kd.R_new' (Kd.R_newM (M := fun k_ => ((P0_2_ k_ ∨ P0_3_ k_) ∨ w.heap.size ≤ k_)) ho0 (by first | exact HK.out.1 | exact (show Kept w _ (fun k_ => P0_2_ k_ ∨ P0_3_ k_) from by repeat (first | (with_reducible first | exact HK.out | apply Kept.alloc | apply Kept.drewN | apply Kept.drew | refine Kept.setCell ?_ (.inr GW356.out) _ | refine Kept.setCell ?_ (.inr GW357.out) _) | exact HK.out)).1) (fun k_ h_ => .inr h_)) (Kd.R_lt HO0_2.out)) (Kd.R_lt HO0_3.out)) (below_size HB.out)); have HO375 := Aside0.mk (Kd.R_lower (Kd.R_new' (Kd.R_new' (Kd.R_newM (M := fun k_ => ((P0_2_ k_ ∨ P0_3_ k_) ∨ w.heap.size ≤ k_)) ho1 (by first | exact HK.out.1 | exact (show Kept w _ (fun k_ => P0_2_ k_ ∨ P0_3_ k_) from by repeat (first | (with_reducible first | exact HK.out | apply Kept.alloc | apply Kept.drewN | apply Kept.drew | refine Kept.setCell ?_ (.inr GW356.out) _ | refine Kept.setCell ?_ (.inr GW357.out) _) | exact HK.out)).1) (fun k_ h_ => .inr h_)) (Kd.R_lt HO0_2.out)) (Kd.R_lt HO0_3.out)) (below_size HB.out)); replace BK357 := bb_ BK357 hb; replace HK := kb_ HK hb; replace HB := hb_ HB hb; try clear hb; try clear ho0; try clear ho1; have hcz34 := blk_cell BK357.out; have hfz34 := blk_frozen BK357.out; obtain ⟨Ao35, co35, rfl⟩ := Kd.R_slice HO372.out; obtain ⟨Ao36, co36, rfl⟩ := Kd.R_slice HO375.out))
  refine bodyPost_ret (results_list (rs := [.cell 4 30, .tmp 5, .tmp 6, .tmp 7]) rfl (by simp) (.cell gb357 30 #[.int .i64 t368, .string t369, .slice Ao35 t370.length co35, .slice Ao36 t373.length co36] (0, 0) _ rfl (by (with_reducible repeat (first | refine blk_drewN ?_ _ | refine blk_drew ?_ | refine blk_alloc ?_ _)); refine blk_put (cs := #[.int .i64 t368, .string t369, .slice Ao35 t370.length co35, .slice none 0 0]) ?_ 3 _ rfl; (with_reducible repeat (first | refine blk_drewN ?_ _ | refine blk_drew ?_ | refine blk_alloc ?_ _)); refine blk_put (cs := #[.int .i64 t368, .string t369, .slice none 0 0, .slice none 0 0]) ?_ 2 _ rfl; (with_reducible repeat (first | refine blk_drewN ?_ _ | refine blk_drew ?_ | refine blk_alloc ?_ _)); refine blk_put (cs := #[.int .i64 t368, .string (⟨#[]⟩ : ByteArray), .slice none 0 0, .slice none 0 0]) ?_ 1 _ rfl; (with_reducible repeat (first | refine blk_drewN ?_ _ | refine blk_drew ?_ | refine blk_alloc ?_ _)); refine blk_put (cs := #[.int .i64 0, .string (⟨#[]⟩ : ByteArray), .slice none 0 0, .slice none 0 0]) ?_ 0 _ rfl; (with_reducible repeat (first | refine blk_drewN ?_ _ | refine blk_drew ?_ | refine blk_alloc ?_ _)); exact BK357.out) Tryd.underlying30 rfl (by kernel_rfl) (.tmp (.tmp (.tmp .nil))))) rfl ?_
  exact ⟨_, _, _, re_, by (with_reducible repeat (first | apply Kd.R_alloc | apply Kd.R_drewN | apply Kd.R_drew)); exact Kd.R_mono (rg4_ HO372 BK357) (fun _ hk => ⟨hk.1.1.1.1, hk.1.1.1.2⟩), by (with_reducible repeat (first | apply Kd.R_alloc | apply Kd.R_drewN | apply Kd.R_drew)); exact Kd.R_mono (rg4_ HO375 BK357) (fun _ hk => ⟨hk.1.1.1.1, hk.1.1.1.2⟩), by (with_reducible repeat (first | apply Kd.S_alloc | apply Kd.S_drewN | apply Kd.S_drew)); exact Kd.S_mono (Kd.S_far (p := ⟨gb357, 3, none⟩) (Kd.S_far (p := ⟨gb357, 2, none⟩) (Kd.S_far (p := ⟨gb357, 1, none⟩) (Kd.S_far (p := ⟨gb357, 0, none⟩) (Kd.S_types HO367.out BK357.out (by decide)) (fun _ hk => hk.2) (.int .i64 t368)) (fun _ hk => hk.2) (.string t369)) (fun _ hk => hk.2) (.slice Ao35 t370.length co35)) (fun _ hk => hk.2) (.slice Ao36 t373.length co36)) (fun _ hk => hk.1.1), bl_, by repeat (first | (with_reducible first | exact HK.out | apply Kept.alloc | apply Kept.drewN | apply Kept.drew | refine Kept.setCell ?_ (.inr GW356.out) _ | refine Kept.setCell ?_ (.inr GW357.out) _) | exact HK.out)⟩

/-! ### strings_Fields: function 71 -/
def strings_Fields.f (a0 : ByteArray) : Option (List ByteArray) := if a0.size < 4294967281 ∧ (a0.data.toList.all fun b => decide (b.toNat < 128)) = true ∧ (Lib.fields a0.data.toList).length < 9223372036854775807 then some ((Lib.fields a0.data.toList).map fun l => (⟨l.toArray⟩ : ByteArray)) else none
theorem strings_Fields.calls (a0 : ByteArray) (r : List ByteArray) (w : World) (hG : GInt w) (h : strings_Fields.f a0 = some r) :
  Calls Tryd.prog 71 #[.string a0] w fun e w' => ∃ v0_ : Value, e = .returned (v0_) ∧ Kd.R Kd.string 9 w' w.heap.size (fun _ => True) v0_ r ∧ Below w.heap.size w w' := by
 unfold strings_Fields.f at h
 split at h
 ·rename_i h1
  obtain rfl := Option.some.inj h
  have hA : ∀ (j : Nat) b, a0.data.toList[j]? = some b → b.toNat < 128 := fun j b hj => of_decide_eq_true (List.all_eq_true.1 h1.2.1 b (List.mem_of_getElem? hj))
  have hGT_ : Lib.TabIs Tryd.prog w "strings.asciiSpace" .u8 Lib.asciiSpaceTab := by obtain ⟨hgm_, hgt0_⟩ := hG; exact hgt0_
  refine (Any.strings_Fields Tryd.lays157 (by kernel_rfl) (by kernel_rfl) a0 w h1.1 hA hGT_).mono fun e w' hh => ?_
  obtain ⟨he, hw⟩ := hh
  subst hw
  have h3 := h1.2.2
  generalize Lib.fields a0.data.toList = L at he h3 ⊢
  have em : (L.map fun l => Value.string (⟨l.toArray⟩ : ByteArray)) = (L.map fun l => (⟨l.toArray⟩ : ByteArray)).map Value.string := by rw [List.map_map]; rfl
  rw [em]
  have hl : (L.map fun l => (⟨l.toArray⟩ : ByteArray)).length = L.length := List.length_map ..
  generalize (L.map fun l => (⟨l.toArray⟩ : ByteArray)) = M at hl ⊢
  refine ⟨_, he, ⟨fun _ _ => trivial, M.map Value.string, ?_, ?_⟩, below_alloc (Below.refl _ _) _⟩
  ·have h2 := World.ownsRow_lit (base := w.heap.size) (e := 9) (size := 1) w (M.map Value.string).toArray M.length (Nat.le_refl _) (by simp only [maxLen]; omega) (by simp)
   have h4 : (w.alloc (.cells (M.map Value.string).toArray 9)).ownsRow w.heap.size 9 1 (.slice (some ⟨w.heap.size, 0, none⟩) M.length M.length) M.length (M.map Value.string) := by simpa using h2
   rw [← hl]
   exact h4
  ·exact Kd.reps_scalar _
 ·exact absurd h (by simp)


/-! ### impl_PartsOf: function 58 -/
def impl_PartsOf.l0 : Nat → ByteArray → Int → Int → Option (List ByteArray × Bool)
 | 0, _, _, _ => none
 | k + 1, x0, x10, x11 => if x11 < x10 then (if 0 ≤ x11 then (if x11 < (x0.size : Int) then (if (bt x0 x11) < 32 then (some (([] : List ByteArray), false)) else (if (bt x0 x11) > 126 then (some (([] : List ByteArray), false)) else (impl_PartsOf.l0 k x0 x10 (wrap64 (x11 + 1))))) else (none)) else (none)) else ((strings_Fields.f x0).bind fun t376 => (if (t376.length : Int) > 10 then (some (([] : List ByteArray), false)) else (some (t376, true))))
def impl_PartsOf.f (k : Nat) (a0 : ByteArray) : Option (List ByteArray × Bool) := if (a0.size : Int) > 600 then (some (([] : List ByteArray), false)) else (impl_PartsOf.l0 k a0 (a0.size : Int) 0)
theorem impl_PartsOf.mono_l : ∀ k, (∀ y0 y1 y2, LeO (impl_PartsOf.l0 k y0 y1 y2) (impl_PartsOf.l0 (k + 1) y0 y1 y2))
 | 0 => fun _ _ _ r h => by simp [impl_PartsOf.l0] at h
 | k + 1 => by
  have ih0 := impl_PartsOf.mono_l k
  ·intro y0 y1 y2
   unfold impl_PartsOf.l0
   repeat' first
   | (with_reducible exact ih0 _ _ _)
   | (with_reducible first | exact LeO.refl _ | exact LeO.none _ | refine LeO.ite ?_ ?_ | refine LeO.bind ?_ (fun _ => ?_))
   | refine LeO.ite ?_ ?_
   | refine LeO.bind ?_ (fun _ => ?_)
theorem impl_PartsOf.mono : ∀ a0 k, LeO (impl_PartsOf.f k a0) (impl_PartsOf.f (k + 1) a0) := by
 intro a0 k
 have ih0 := impl_PartsOf.mono_l k
 unfold impl_PartsOf.f
 repeat' first
   | (with_reducible exact ih0 _ _ _)
   | (with_reducible first | exact LeO.refl _ | exact LeO.none _ | refine LeO.ite ?_ ?_ | refine LeO.bind ?_ (fun _ => ?_))
   | refine LeO.ite ?_ ?_
   | refine LeO.bind ?_ (fun _ => ?_)
theorem impl_PartsOf.calls (k : Nat) (a0 : ByteArray) (r1 : List ByteArray) (r2 : Bool) (w : World) (hG : GInt w) (h : impl_PartsOf.f k a0 = some (r1, r2)) :
  Calls Tryd.prog 58 #[.string a0] w fun e w' => ∃ v0_ : Value, e = .returned (.tuple #[v0_, .bool r2]) ∧ Kd.R Kd.string 9 w' w.heap.size (fun _ => True) v0_ r1 ∧ Below w.heap.size w w' := by
 have HG := Aside0.mk hG
 clear hG
 have HB := Aside0.mk (Below.refl w.heap.size w)
 have H := h; unfold impl_PartsOf.f at H
 clear h
 by_cases c2 : (a0.size : Int) > 600
 ·rw [if_pos c2] at H
  have c2b0 : decide (600 < (a0.size : Int)) = true := decide_eq_true c2
  have c2b1 : decide (600 < a0.size) = true := decide_eq_true (by omega)
  clear c2
  simp only [Option.some.injEq, Prod.mk.injEq] at H
  obtain ⟨rfl, rfl⟩ := H
  go_enter Tryd.func58, Tryd.ntmps58
  go_wp2
  go_ret2
  exact ⟨_, re_, ni_, bl_⟩
 ·rw [if_neg c2] at H
  have c2b0 : decide (600 < (a0.size : Int)) = false := decide_eq_false c2
  have c2b1 : decide (600 < a0.size) = false := decide_eq_false (by omega)
  clear c2
  have H' := Aside0.mk H
  clear H
  go_enter Tryd.func58, Tryd.ntmps58
  go_wp2
  go_loopg [11] k (fun kq v11 w' => ∃ (x11_1 : Int), v11 = .int .i64 x11_1 ∧ Aside0 (impl_PartsOf.l0 kq a0 (a0.size : Int) x11_1 = some (r1, r2)) ∧ Aside0 (kq ≤ k) ∧ Aside0 (Below w.heap.size w w'))
  case atStart => exact ⟨(0), rf_, H', ⟨Nat.le_refl _⟩, ⟨bl_⟩⟩
  case round =>
   clear H'
   try clear c2
   try clear c2b0
   try clear c2b1
   try clear p2
   obtain ⟨x11_1, rfl, HA, HK1, HB⟩ := hrel
   cases gk with
   | zero => exact absurd HA.out (by simp [impl_PartsOf.l0])
   | succ k1 =>
    have H := HA.out
    clear HA
    simp only [impl_PartsOf.l0] at H
    by_cases c3 : x11_1 < (a0.size : Int)
    ·rw [if_pos c3] at H
     have c3b0 := decide_eq_true c3
     clear c3
     by_cases c4 : 0 ≤ x11_1
     ·rw [if_pos c4] at H
      have c4b0 := decide_eq_true c4
      clear c4
      by_cases c5 : x11_1 < (a0.size : Int)
      ·rw [if_pos c5] at H
       have c5b0 := decide_eq_true c5
       clear c5
       have p6 : 0 ≤ (x11_1 : Int) := od_
       have q6 : x11_1 < (a0.size : Int) := od_
       have hx6 := bt_at a0 x11_1
       replace p6 := eq_true p6
       replace q6 := eq_true q6
       by_cases c7 : (bt a0 x11_1) < 32
       ·rw [if_pos c7] at H
        have c7b0 := decide_eq_true c7
        clear c7
        simp only [Option.some.injEq, Prod.mk.injEq] at H
        obtain ⟨rfl, rfl⟩ := H
        try simp only [c7b0, Bool.not_true, Bool.not_false]
        go_wp2
        go_ret2
        exact ⟨_, re_, ni_, bl_⟩
       ·rw [if_neg c7] at H
        have c7b0 := decide_eq_false c7
        clear c7
        try simp only [c7b0, Bool.not_true, Bool.not_false]
        have p8 : 0 ≤ (x11_1 : Int) := od_
        have q8 : x11_1 < (a0.size : Int) := od_
        have hx8 := bt_at a0 x11_1
        replace p8 := eq_true p8
        replace q8 := eq_true q8
        by_cases c9 : (bt a0 x11_1) > 126
        ·rw [if_pos c9] at H
         have c9b0 : decide (126 < (bt a0 x11_1)) = true := decide_eq_true c9
         clear c9
         simp only [Option.some.injEq, Prod.mk.injEq] at H
         obtain ⟨rfl, rfl⟩ := H
         try simp only [c9b0, Bool.not_true, Bool.not_false]
         go_wp2
         go_ret2
         exact ⟨_, re_, ni_, bl_⟩
        ·rw [if_neg c9] at H
         have c9b0 : decide (126 < (bt a0 x11_1)) = false := decide_eq_false c9
         clear c9
         have H' := Aside0.mk H
         clear H
         try simp only [c9b0, Bool.not_true, Bool.not_false]
         go_wp2
         go_roundg k1
         case measure => have := HK1.out; omega
         case rel => exact ⟨(wrap64 (x11_1 + 1)), rf_, H', ⟨by have := HK1.out; omega⟩, ⟨bl_⟩⟩
      ·rw [if_neg c5] at H
       exact absurd H (by simp)
     ·rw [if_neg c4] at H
      exact absurd H (by simp)
    ·rw [if_neg c3] at H
     have c3b0 := decide_eq_false c3
     clear c3
     obtain ⟨t376, A10, H⟩ := bs_ H
     go_wp2_with (first | ((with_reducible refine gc_ 71 ?_); refine gl_ (some 26) Tryd.func71 #[.string a0] ?_; (with_reducible refine (strings_Fields.calls a0 t376 _ ?side1 A10.out).mono ?_); (case side1 => exact gint_below HB.out HG.out); rintro e w12 ⟨v377, rfl, ho0, hb⟩; refine ⟨_, rfl, ?_⟩; have HO378 := Aside0.mk (Kd.R_lower ho0 (below_size HB.out)); replace HB := hb_ HB hb; try clear hb; try clear ho0; obtain ⟨Ao13, co13, rfl⟩ := Kd.R_slice HO378.out; refine stop_ ?_; intro G_ HG_))
     by_cases c11 : (t376.length : Int) > 10
     ·rw [if_pos c11] at H
      have c11b0 : decide (10 < (t376.length : Int)) = true := decide_eq_true c11
      have c11b1 : decide (10 < t376.length) = true := decide_eq_true (by omega)
      clear c11
      simp only [Option.some.injEq, Prod.mk.injEq] at H
      obtain ⟨rfl, rfl⟩ := H
      refine HG_.out ?_; clear HG_
      try simp only [c11b0, c11b1, Bool.not_true, Bool.not_false]
      go_wp2_with fail
      go_ret2
      exact ⟨_, re_, ni_, bl_⟩
     ·rw [if_neg c11] at H
      have c11b0 : decide (10 < (t376.length : Int)) = false := decide_eq_false c11
      have c11b1 : decide (10 < t376.length) = false := decide_eq_false (by omega)
      clear c11
      simp only [Option.some.injEq, Prod.mk.injEq] at H
      obtain ⟨rfl, rfl⟩ := H
      refine HG_.out ?_; clear HG_
      try simp only [c11b0, c11b1, Bool.not_true, Bool.not_false]
      go_wp2_with fail
      go_ret2
      exact ⟨_, re_, rl_ HO378, bl_⟩

/-! ### impl_WordsOf: function 31 -/
def impl_WordsOf.f (k : Nat) (a0 : ByteArray) : Option (List ByteArray) := (impl_PartsOf.f k a0).bind fun bt379 => (some bt379.1)
theorem impl_WordsOf.mono : ∀ a0 k, LeO (impl_WordsOf.f k a0) (impl_WordsOf.f (k + 1) a0) := by
 intro a0 k
 unfold impl_WordsOf.f
 repeat' first
   | (with_reducible exact impl_PartsOf.mono _ _)
   | (with_reducible first | exact LeO.refl _ | exact LeO.none _ | refine LeO.ite ?_ ?_ | refine LeO.bind ?_ (fun _ => ?_))
   | refine LeO.ite ?_ ?_
   | refine LeO.bind ?_ (fun _ => ?_)
theorem impl_WordsOf.calls (k : Nat) (a0 : ByteArray) (r : List ByteArray) (w : World) (hG : GInt w) (h : impl_WordsOf.f k a0 = some r) :
  Calls Tryd.prog 31 #[.string a0] w fun e w' => ∃ v0_ : Value, e = .returned (v0_) ∧ Kd.R Kd.string 9 w' w.heap.size (fun _ => True) v0_ r ∧ Below w.heap.size w w' := by
 have HG := Aside0.mk hG
 clear hG
 have HB := Aside0.mk (Below.refl w.heap.size w)
 have H := h; unfold impl_WordsOf.f at H
 clear h
 obtain ⟨⟨t379, t380⟩, A2, H⟩ := bs_ H
 (try set_option simprocs false in dsimp only at H)
 obtain rfl := Option.some.inj H
 go_enter Tryd.func31, Tryd.ntmps31
 go_wp2_with (first | ((with_reducible refine gc_ 58 ?_); refine gl_ (some 7) Tryd.func58 #[.string a0] ?_; (with_reducible refine (impl_PartsOf.calls k a0 t379 t380 _ ?side1 A2.out).mono ?_); (case side1 => exact gint_below HB.out HG.out); rintro e w3 ⟨v381, rfl, ho0, hb⟩; refine ⟨_, rfl, ?_⟩; have HO382 := Aside0.mk (Kd.R_lower ho0 (below_size HB.out)); replace HB := hb_ HB hb; try clear hb; try clear ho0))
 go_ret
 exact ⟨_, re_, rl_ HO382, bl_⟩

/-! ### impl_LowWord: function 32 -/
def impl_LowWord.f (a0 : ByteArray) : Option ByteArray := if a0.size ≤ 1048576 then some (Go.Proofs.YtdokcckgnamnfaaDoorL.lowered a0) else none
set_option maxRecDepth 100000 in
theorem impl_LowWord.calls (a0 : ByteArray) (r : ByteArray) (w : World) (h : impl_LowWord.f a0 = some r) :
  Calls Tryd.prog 32 #[.string a0] w fun e w' => e = .returned (.string r) ∧ Below w.heap.size w w' := by
 unfold impl_LowWord.f at h
 split at h
 case isFalse => exact absurd h (by simp)
 rename_i hs
 obtain rfl := Option.some.inj h
 clear h
 obtain ⟨cap, W0, hconv, hI0⟩ := Go.Proofs.YtdokcckgnamnfaaDoorL.low_start (P := Tryd.prog) w 9 80 5 a0 Tryd.underlying9 Tryd.underlying80 Tryd.underlying5
 have HI0 := Aside0.mk hI0
 clear hI0
 go_enter Tryd.func32, Tryd.ntmps32
 go_wp2
 clear hconv
 go_loopg [10] a0.size (fun gg i wr => ∃ k : Nat, k ≤ a0.size ∧ a0.size - k ≤ gg ∧ i = .int .i64 k ∧ Aside0 (Go.Proofs.YtdokcckgnamnfaaDoorL.LowInv a0 w wr k))
 case atStart => exact ⟨0, Nat.zero_le _, by omega, rfl, HI0⟩
 case round =>
  obtain ⟨k, hk, hg, rfl, HI⟩ := hrel
  by_cases hlt : k < a0.size
  ·have hd : k < a0.data.size := hlt
   have hx := HI.out.2.1 k hd
   rw [if_neg (by omega)] at hx
   have hz := HI.out.2.2 k hd
   have hltz : (k : Int) < (a0.size : Int) := by omega
   have hc : a0.data[k].toNat < 256 := a0.data[k].toNat_lt
   have P1 := Aside0.mk (HI.out.put hd)
   have P2 := Aside0.mk (HI.out.keep hd)
   have L1 := Aside0.mk (@Go.Proofs.YtdokcckgnamnfaaDoorL.low_n a0.data[k])
   have L2 := Aside0.mk (show ¬ (65 ≤ a0.data[k].toNat ∧ a0.data[k].toNat ≤ 90) → Go.Proofs.YtdokcckgnamnfaaDoorL.lowB a0.data[k] = a0.data[k] from fun q => by unfold Go.Proofs.YtdokcckgnamnfaaDoorL.lowB; rw [if_neg q])
   generalize hcc : a0.data[k] = c at hx hc P1 P2 L1 L2
   clear hcc
   have h0 : (0 : Int) ≤ (c.toNat : Int) := by omega
   by_cases q1 : 65 ≤ c.toNat
   ·have q1z : (65 : Int) ≤ (c.toNat : Int) := by omega
    by_cases q2 : c.toNat ≤ 90
    ·have q2z : (c.toNat : Int) ≤ 90 := by omega
     go_wp2
     go_roundg (a0.size - (k + 1))
     case measure => omega
     case rel => exact ⟨k + 1, by omega, by omega, by go_num, ⟨P1.out _ (by have e_ := L1.out ⟨q1, q2⟩; exact congrArg (Value.int IntKind.u8) (by omega))⟩⟩
    ·have q2z : ¬ (c.toNat : Int) ≤ 90 := by omega
     go_wp2
     go_roundg (a0.size - (k + 1))
     case measure => omega
     case rel => exact ⟨k + 1, by omega, by omega, by go_num, ⟨P2.out (L2.out (fun q => q2 q.2))⟩⟩
   ·have q1z : ¬ (65 : Int) ≤ (c.toNat : Int) := by omega
    go_wp2
    go_roundg (a0.size - (k + 1))
    case measure => omega
    case rel => exact ⟨k + 1, by omega, by omega, by go_num, ⟨P2.out (L2.out (fun q => q1 q.1))⟩⟩
  ·have : k = a0.size := by omega
   subst this
   have hb := HI.out.back (P := Tryd.prog) 80 9 5 cap Tryd.underlying80 Tryd.underlying5 Tryd.underlying9
   go_wp2
   go_ret
   exact ⟨rfl, HI.out.1⟩


/-! ### impl_bringWords: function 33 -/
def impl_bringWords.f (a0 : ByteArray) (a1 : Int) : Option (Int × Bool) := if a0.toList = ([104, 101, 108, 111] : List UInt8) then (some (2, true)) else (if a0.toList = ([109, 97, 105, 108] : List UInt8) then (some (2, (a1 == 1))) else (if a0.toList = ([114, 99, 112, 116] : List UInt8) then (if a1 = 2 then (some (2, true)) else (some (2, (a1 == 3)))) else (if a0.toList = ([100, 97, 116, 97] : List UInt8) then (some (1, (a1 == 3))) else (if a0.toList = ([114, 115, 101, 116] : List UInt8) then (some (1, true)) else (if a0.toList = ([110, 111, 111, 112] : List UInt8) then (some (1, true)) else (if a0.toList = ([113, 117, 105, 116] : List UInt8) then (some (1, true)) else (some (0, false))))))))
theorem impl_bringWords.calls (a0 : ByteArray) (a1 : Int) (r1 : Int) (r2 : Bool) (w : World) (h : impl_bringWords.f a0 a1 = some (r1, r2)) :
  Calls Tryd.prog 33 #[.string a0, .int .i64 a1] w fun e w' => e = .returned (.tuple #[.int .i64 r1, .bool r2]) ∧ Drawn0 w w' := by
 have H := h; unfold impl_bringWords.f at H
 clear h
 by_cases c3 : a0.toList = ([104, 101, 108, 111] : List UInt8)
 ·rw [if_pos c3] at H
  have c3b0 := beq_iff_eq.mpr c3
  have c3b1 := bne_eq_false_iff_eq.mpr c3
  clear c3
  simp only [Option.some.injEq, Prod.mk.injEq] at H
  obtain ⟨rfl, rfl⟩ := H
  go_enter Tryd.func33, Tryd.ntmps33
  go_wp2
  go_ret2
  exact ⟨rf_, dn_⟩
 ·rw [if_neg c3] at H
  have c3b0 := beq_eq_false_iff_ne.mpr c3
  have c3b1 := bne_iff_ne.mpr c3
  by_cases c4 : a0.toList = ([109, 97, 105, 108] : List UInt8)
  ·rw [if_pos c4] at H
   have c4b0 := beq_iff_eq.mpr c4
   have c4b1 := bne_eq_false_iff_eq.mpr c4
   clear c4
   simp only [Option.some.injEq, Prod.mk.injEq] at H
   obtain ⟨rfl, rfl⟩ := H
   go_enter Tryd.func33, Tryd.ntmps33
   go_wp2
   go_ret2
   exact ⟨rf_, dn_⟩
  ·rw [if_neg c4] at H
   have c4b0 := beq_eq_false_iff_ne.mpr c4
   have c4b1 := bne_iff_ne.mpr c4
   by_cases c5 : a0.toList = ([114, 99, 112, 116] : List UInt8)
   ·rw [if_pos c5] at H
    have c5b0 := beq_iff_eq.mpr c5
    have c5b1 := bne_eq_false_iff_eq.mpr c5
    clear c5
    by_cases c6 : a1 = 2
    ·rw [if_pos c6] at H
     have c6b0 := beq_iff_eq.mpr c6
     have c6b1 := bne_eq_false_iff_eq.mpr c6
     clear c6
     simp only [Option.some.injEq, Prod.mk.injEq] at H
     obtain ⟨rfl, rfl⟩ := H
     go_enter Tryd.func33, Tryd.ntmps33
     go_wp2
     go_ret2
     exact ⟨rf_, dn_⟩
    ·rw [if_neg c6] at H
     have c6b0 := beq_eq_false_iff_ne.mpr c6
     have c6b1 := bne_iff_ne.mpr c6
     simp only [Option.some.injEq, Prod.mk.injEq] at H
     obtain ⟨rfl, rfl⟩ := H
     go_enter Tryd.func33, Tryd.ntmps33
     go_wp2
     go_ret2
     exact ⟨rf_, dn_⟩
   ·rw [if_neg c5] at H
    have c5b0 := beq_eq_false_iff_ne.mpr c5
    have c5b1 := bne_iff_ne.mpr c5
    by_cases c7 : a0.toList = ([100, 97, 116, 97] : List UInt8)
    ·rw [if_pos c7] at H
     have c7b0 := beq_iff_eq.mpr c7
     have c7b1 := bne_eq_false_iff_eq.mpr c7
     clear c7
     simp only [Option.some.injEq, Prod.mk.injEq] at H
     obtain ⟨rfl, rfl⟩ := H
     go_enter Tryd.func33, Tryd.ntmps33
     go_wp2
     go_ret2
     exact ⟨rf_, dn_⟩
    ·rw [if_neg c7] at H
     have c7b0 := beq_eq_false_iff_ne.mpr c7
     have c7b1 := bne_iff_ne.mpr c7
     by_cases c8 : a0.toList = ([114, 115, 101, 116] : List UInt8)
     ·rw [if_pos c8] at H
      have c8b0 := beq_iff_eq.mpr c8
      have c8b1 := bne_eq_false_iff_eq.mpr c8
      clear c8
      simp only [Option.some.injEq, Prod.mk.injEq] at H
      obtain ⟨rfl, rfl⟩ := H
      go_enter Tryd.func33, Tryd.ntmps33
      go_wp2
      go_ret2
      exact ⟨rf_, dn_⟩
     ·rw [if_neg c8] at H
      have c8b0 := beq_eq_false_iff_ne.mpr c8
      have c8b1 := bne_iff_ne.mpr c8
      by_cases c9 : a0.toList = ([110, 111, 111, 112] : List UInt8)
      ·rw [if_pos c9] at H
       have c9b0 := beq_iff_eq.mpr c9
       have c9b1 := bne_eq_false_iff_eq.mpr c9
       clear c9
       simp only [Option.some.injEq, Prod.mk.injEq] at H
       obtain ⟨rfl, rfl⟩ := H
       go_enter Tryd.func33, Tryd.ntmps33
       go_wp2
       go_ret2
       exact ⟨rf_, dn_⟩
      ·rw [if_neg c9] at H
       have c9b0 := beq_eq_false_iff_ne.mpr c9
       have c9b1 := bne_iff_ne.mpr c9
       by_cases c10 : a0.toList = ([113, 117, 105, 116] : List UInt8)
       ·rw [if_pos c10] at H
        have c10b0 := beq_iff_eq.mpr c10
        have c10b1 := bne_eq_false_iff_eq.mpr c10
        clear c10
        simp only [Option.some.injEq, Prod.mk.injEq] at H
        obtain ⟨rfl, rfl⟩ := H
        go_enter Tryd.func33, Tryd.ntmps33
        go_wp2
        go_ret2
        exact ⟨rf_, dn_⟩
       ·rw [if_neg c10] at H
        have c10b0 := beq_eq_false_iff_ne.mpr c10
        have c10b1 := bne_iff_ne.mpr c10
        simp only [Option.some.injEq, Prod.mk.injEq] at H
        obtain ⟨rfl, rfl⟩ := H
        go_enter Tryd.func33, Tryd.ntmps33
        go_wp2
        go_ret2
        exact ⟨rf_, dn_⟩

/-! ### impl_in: function 59 -/
def impl_in.f (a0 : Int) (a1 : Int) (a2 : Int) : Option (Bool) := if a0 ≥ a1 then (some (decide (a0 ≤ a2))) else (some false)
theorem impl_in.calls (a0 : Int) (a1 : Int) (a2 : Int) (r : Bool) (w : World) (h : impl_in.f a0 a1 a2 = some r) :
  Calls Tryd.prog 59 #[.int .i64 a0, .int .i64 a1, .int .i64 a2] w fun e w' => e = .returned (.bool r) ∧ Drawn0 w w' := by
 have H := h; unfold impl_in.f at H
 clear h
 by_cases c4 : a0 ≥ a1
 ·rw [if_pos c4] at H
  have c4b0 : decide (a1 ≤ a0) = true := decide_eq_true c4
  clear c4
  obtain rfl := Option.some.inj H
  go_enter Tryd.func59, Tryd.ntmps59
  go_wp2
  go_ret
  exact ⟨rf_, dn_⟩
 ·rw [if_neg c4] at H
  have c4b0 : decide (a1 ≤ a0) = false := decide_eq_false c4
  clear c4
  obtain rfl := Option.some.inj H
  go_enter Tryd.func59, Tryd.ntmps59
  go_wp2
  go_ret
  exact ⟨rf_, dn_⟩

end Go.Proofs.YtdokcckgnamnfaaDoor.QFnExactStepBring
