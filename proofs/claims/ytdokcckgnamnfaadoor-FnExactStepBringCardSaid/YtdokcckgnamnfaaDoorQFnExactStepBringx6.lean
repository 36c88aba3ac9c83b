-- Written by a program of this session (myprint) out of Lean's own print of the translation. Lean checks it.
import Derived.Test.YtdokcckgnamnfaaDoorShorter
import Derived.Test.YtdokcckgnamnfaaDoorQFnExactStepBringx0
namespace Go.Proofs.YtdokcckgnamnfaaDoor.QFnExactStepBring
open Go.Proofs.YtdokcckgnamnfaaDoorF
open Go.RowKit Go.Proofs.YtdokcckgnamnfaaDoorW.PrintWords Go.Proofs.YtdokcckgnamnfaaDoorW.PrintLast Go.Proofs.YtdokcckgnamnfaaDoorW.PrintMore
attribute [local go_sem] max2_int min2_int max_two min_two max_three min_three max_four min_four   -- for this text's walks alone
set_option maxHeartbeats 8000000
set_option maxRecDepth 100000
set_option linter.unusedVariables false
set_option linter.unusedSimpArgs false

/-! ### laws_toStringS: function 27 -/
def laws_toStringS.l0 : Nat → List ByteArray → List ByteArray → Int → Option (List ByteArray)
 | 0, _, _, _ => none
 | k + 1, x0, x3, x4 => if x4 < (x0.length : Int) then (if 0 ≤ x4 then (if x4 < (x3.length : Int) then (laws_toStringS.l0 k x0 (x3.set (x4 : Int).toNat (rdOf ByteArray.empty x0 x4)) (wrap64 (x4 + 1))) else (none)) else (none)) else (some x3)
def laws_toStringS.f (k : Nat) (l0 : List ByteArray) : Option (List ByteArray) := if 0 ≤ (l0.length : Int) then (if ((l0.length : Int) : Int).toNat ≤ 17592186044416 then (laws_toStringS.l0 k l0 (List.replicate ((l0.length : Int) : Int).toNat (⟨#[]⟩ : ByteArray)) 0) else (none)) else (none)
theorem laws_toStringS.mono_l : ∀ k, (∀ y0 y1 y2, LeO (laws_toStringS.l0 k y0 y1 y2) (laws_toStringS.l0 (k + 1) y0 y1 y2))
 | 0 => fun _ _ _ r h => by simp [laws_toStringS.l0] at h
 | k + 1 => by
  have ih0 := laws_toStringS.mono_l k
  ·intro y0 y1 y2
   unfold laws_toStringS.l0
   repeat' first
   | (with_reducible exact ih0 _ _ _)
   | (with_reducible first | exact LeO.refl _ | exact LeO.none _ | refine LeO.ite ?_ ?_ | refine LeO.bind ?_ (fun _ => ?_))
   | refine LeO.ite ?_ ?_
   | refine LeO.bind ?_ (fun _ => ?_)
theorem laws_toStringS.mono : ∀ a0 k, LeO (laws_toStringS.f k a0) (laws_toStringS.f (k + 1) a0) := by
 intro a0 k
 have ih0 := laws_toStringS.mono_l k
 unfold laws_toStringS.f
 repeat' first
   | (with_reducible exact ih0 _ _ _)
   | (with_reducible first | exact LeO.refl _ | exact LeO.none _ | refine LeO.ite ?_ ?_ | refine LeO.bind ?_ (fun _ => ?_))
   | refine LeO.ite ?_ ?_
   | refine LeO.bind ?_ (fun _ => ?_)
theorem laws_toStringS.calls (k : Nat) (A0 : Option Addr) (c0 : Nat) (l0 : List ByteArray) (r : List ByteArray) (w : World) (hr0 : Kd.C Kd.string w A0 l0.length l0) (hc0 : l0.length ≤ c0) (h : laws_toStringS.f k l0 = some r) :
  Calls Tryd.prog 27 #[.slice A0 l0.length c0] w fun e w' => ∃ v0_ : Value, e = .returned (v0_) ∧ Kd.R Kd.string 9 w' w.heap.size (fun _ => True) v0_ r ∧ Below w.heap.size w w' := by
 have HR0 := Aside0.mk hr0
 have HC0 := Aside0.mk hc0
 clear hr0 hc0
 have HB := Aside0.mk (Below.refl w.heap.size w)
 have H := h; unfold laws_toStringS.f at H
 clear h
 by_cases c2 : 0 ≤ (l0.length : Int)
 ·rw [if_pos c2] at H
  have c2b0 := eq_true c2
  have c2b1 := decide_eq_true c2
  clear c2
  by_cases c3 : ((l0.length : Int) : Int).toNat ≤ 17592186044416
  ·rw [if_pos c3] at H
   have c3b0 := eq_true c3
   have c3b1 := decide_eq_true c3
   clear c3
   obtain ⟨y278, hy278⟩ : ∃ y_ : List ByteArray, y_ = (List.replicate ((l0.length : Int) : Int).toNat (⟨#[]⟩ : ByteArray)) := ⟨_, rfl⟩
   replace H : (laws_toStringS.l0 k l0 y278 0) = some r := by subst hy278; first | with_reducible exact H | with_reducible exact (Option.bind_some _ _).symm.trans H | exact H
   have Ny278 := Aside0.mk hy278
   clear hy278
   have H' := Aside0.mk H
   clear H
   go_enter Tryd.func27, Tryd.ntmps27
   go_wp2_with (first | ((with_reducible refine gd_ 7 ?_); refine Kd.R_make Kd.string _ 9 rfl (N := 7) rfl 22 _ _ rfl (l0.length : Int) rfl rfl Tryd.underlying22 (.string ⟨#[]⟩) 16 info9 rfl (by decide) (by omega) (⟨#[]⟩ : ByteArray) (ok := fun _ => True) (okp := fun _ => True) rfl (fun _ hk => hk) trivial (od_) (Nat.le_trans (Nat.mul_le_mul_right _ (od_ : (l0.length : Int).toNat ≤ 17592186044416)) (by omega)) (Below.refl _ _) (Nat.le_refl _) ?_; intro v279 w4 ho5 hb hg_ hnew_; clear hg_ hnew_; (first | rw [← Ny278.out] at ho5 | (simp only [Int.reduceToNat] at ho5; rw [← Ny278.out] at ho5)); have HO280 := Aside0.mk (Kd.R_lower ho5 (below_size HB.out)); replace HB := hb_ HB hb; clear hb ho5))
   go_loopg [4] k (fun kq v4 w' => ∃ (x3_1 : List ByteArray) (x4_1 : Int), v4 = .int .i64 x4_1 ∧ Aside0 (laws_toStringS.l0 kq l0 x3_1 x4_1 = some r) ∧ Aside0 (kq ≤ k) ∧ Aside0 (Kd.R Kd.string 9 w' w.heap.size (fun _ => True) v279 x3_1) ∧ Aside0 (Below w.heap.size w w'))
   case atStart => exact ⟨(y278), (0), rf_, H', ⟨Nat.le_refl _⟩, ⟨rl_ HO280⟩, ⟨bl_⟩⟩
   case round =>
    clear H'
    try clear c2
    try clear c2b0
    try clear c2b1
    try clear p2
    try clear c3
    try clear c3b0
    try clear c3b1
    obtain ⟨x3_1, x4_1, rfl, HA, HK1, HO_3, HB⟩ := hrel
    cases gk with
    | zero => exact absurd HA.out (by simp [laws_toStringS.l0])
    | succ k1 =>
     have H := HA.out
     clear HA
     simp only [laws_toStringS.l0] at H
     by_cases c6 : x4_1 < (l0.length : Int)
     ·rw [if_pos c6] at H
      have c6b0 := decide_eq_true c6
      clear c6
      by_cases c7 : 0 ≤ x4_1
      ·rw [if_pos c7] at H
       have c7b0 := decide_eq_true c7
       clear c7
       by_cases c8 : x4_1 < (x3_1.length : Int)
       ·rw [if_pos c8] at H
        have c8b0 := decide_eq_true c8
        clear c8
        obtain ⟨y282, hy282⟩ : ∃ y_ : List ByteArray, y_ = (x3_1.set (x4_1 : Int).toNat (rdOf ByteArray.empty l0 x4_1)) := ⟨_, rfl⟩
        replace H : (laws_toStringS.l0 k1 l0 y282 (wrap64 (x4_1 + 1))) = some r := by subst hy282; first | with_reducible exact H | with_reducible exact (Option.bind_some _ _).symm.trans H | exact H
        have Ny282 := Aside0.mk hy282
        clear hy282
        have H' := Aside0.mk H
        clear H
        have p281 : 0 ≤ (x4_1 : Int) := od_
        have q281 : x4_1 < (l0.length : Int) := od_
        obtain ⟨ad281, e281, hx281_0⟩ := Kd.at_string HR0.out x4_1 p281 q281
        cases e281
        replace hx281_0 := cu_ HB hx281_0
        replace p281 := eq_true p281
        replace q281 := eq_true q281
        have p9 : 0 ≤ (x4_1 : Int) := od_
        have q9 : (x4_1 : Int) < ((x3_1.length : Int) : Int) := od_
        obtain ⟨go9, co9, eo9, gb9, gl9, cl9, HG9⟩ := Kd.R_form HO_3.out (by omega)
        (first | cases eo9 | (injection eo9 with ea_ en_ ec_; (first | subst ea_ | (injection ea_ with ea_; subst ea_)); subst ec_; clear en_))
        have GB9 := Aside0.mk gb9
        have GG9 := Aside0.mk HG9
        clear gb9 gl9 HG9
        obtain ⟨hx9_0, hf9_0⟩ := Kd.R_celln (⟨#[]⟩ : ByteArray) HO_3.out (x4_1 : Int) p9 q9
        replace p9 := eq_true p9
        replace q9 := eq_true q9
        have HP10 := Kd.R_putg HO_3.out (x4_1 : Int) (rdOf ByteArray.empty l0 x4_1)
        go_wp2_with (first | ((with_reducible refine gs_ 9 20 ?_); refine store_event (t := 9) (p := 20) (v := ?vo_w11) (w1 := (wr.setCell ⟨go9, (x4_1 : Int).toNat, none⟩ (.string (rdOf ByteArray.empty l0 x4_1)))) ?hg ?ho ?hn ?hr ?_; (case ho => rfl); (case hg => rfl); (case hn => rfl); (case hr => first | (go_simp; done) | (go_simp; rfl)); intro w11 hw; have hg : wr.grownBy w11 (some go9) := (by rw [hw]; exact HP10.2); have hp_ : Kd.R Kd.string 9 w11 w.heap.size (fun _ => True) (.slice (some ⟨go9, 0, none⟩) x3_1.length co9) y282 := (by rw [hw, Ny282.out]; exact HP10.1); clear HP10; replace HO_3 := Aside0.mk (hp_); replace HB := Aside0.mk ((by rw [hw]; exact below_set (HB.out) GB9.out : Below w.heap.size w w11)); clear hg hw hp_))
        go_roundg k1
        case measure => have := HK1.out; omega
        case rel => exact ⟨(y282), (wrap64 (x4_1 + 1)), rf_, H', ⟨by have := HK1.out; omega⟩, ⟨rl_ HO_3⟩, ⟨bl_⟩⟩
       ·rw [if_neg c8] at H
        exact absurd H (by simp)
      ·rw [if_neg c7] at H
       exact absurd H (by simp)
     ·rw [if_neg c6] at H
      have c6b0 := decide_eq_false c6
      clear c6
      obtain rfl := Option.some.inj H
      go_wp2
      go_ret
      exact ⟨_, re_, rl_ HO_3, bl_⟩
  ·rw [if_neg c3] at H
   exact absurd H (by simp)
 ·rw [if_neg c2] at H
  exact absurd H (by simp)

/-! ### laws_toBring: function 7 -/
def laws_toBring.f (k : Nat) (a0_0 : Int) (a0_1 : ByteArray) (l0_2 : List ByteArray) (l0_3 : List ByteArray) : Option (Int × ByteArray × List ByteArray × List ByteArray) := (laws_toStringS.f k l0_2).bind fun t286 => ((laws_toStringS.f k l0_3).bind fun t289 => (some (a0_0, a0_1, t286, t289)))
theorem laws_toBring.mono : ∀ a0 a1 a2 a3 k, LeO (laws_toBring.f k a0 a1 a2 a3) (laws_toBring.f (k + 1) a0 a1 a2 a3) := by
 intro a0 a1 a2 a3 k
 unfold laws_toBring.f
 repeat' first
   | (with_reducible exact laws_toStringS.mono _ _)
   | (with_reducible first | exact LeO.refl _ | exact LeO.none _ | refine LeO.ite ?_ ?_ | refine LeO.bind ?_ (fun _ => ?_))
   | refine LeO.ite ?_ ?_
   | refine LeO.bind ?_ (fun _ => ?_)
theorem laws_toBring.calls (k : Nat) (a0_0 : Int) (a0_1 : ByteArray) (A0_2 : Option Addr) (c0_2 : Nat) (l0_2 : List ByteArray) (A0_3 : Option Addr) (c0_3 : Nat) (l0_3 : List ByteArray) (r1 : Int) (r2 : ByteArray) (r3 : List ByteArray) (r4 : List ByteArray) (w : World) (hr0_2 : Kd.C Kd.string w A0_2 l0_2.length l0_2) (hc0_2 : l0_2.length ≤ c0_2) (hr0_3 : Kd.C Kd.string w A0_3 l0_3.length l0_3) (hc0_3 : l0_3.length ≤ c0_3) (h : laws_toBring.f k a0_0 a0_1 l0_2 l0_3 = some (r1, r2, r3, r4)) :
  Calls Tryd.prog 7 #[.agg #[.int .i64 a0_0, .string a0_1, .slice A0_2 l0_2.length c0_2, .slice A0_3 l0_3.length c0_3]] w fun e w' => ∃ v2_ v3_ : Value, e = .returned (.agg #[.int .i64 r1, .string r2, v2_, v3_]) ∧ Kd.R Kd.string 9 w' w.heap.size (fun k_ => some k_ ≠ (v3_ : Value).ownBlock) v2_ r3 ∧ Kd.R Kd.string 9 w' w.heap.size (fun k_ => some k_ ≠ (v2_ : Value).ownBlock) v3_ r4 ∧ Below w.heap.size w w' := by
 have hu24 := Tryd.underlying24
 have hu30 := Tryd.underlying30
 have HR0_2 := Aside0.mk hr0_2
 have HC0_2 := Aside0.mk hc0_2
 clear hr0_2 hc0_2
 have HR0_3 := Aside0.mk hr0_3
 have HC0_3 := Aside0.mk hc0_3
 clear hr0_3 hc0_3
 have HB := Aside0.mk (Below.refl w.heap.size w)
 have H := h; unfold laws_toBring.f at H
 clear h
 obtain ⟨t286, A2, H⟩ := bs_ H
 obtain ⟨t289, A3, H⟩ := bs_ H
 simp only [Option.some.injEq, Prod.mk.injEq] at H
 obtain ⟨rfl, rfl, rfl, rfl⟩ := H
 go_enter Tryd.func7, Tryd.ntmps7
 go_wp2_with (first | (refine lr_ 30 3 BK285 hu30 ?_) | ((with_reducible refine gd_ 1 ?_); refine bx_ 1 24 #[.int .i64 a0_0, .string a0_1, .slice A0_2 l0_2.length c0_2, .slice A0_3 l0_3.length c0_3] ?_; intro gb283 hg w4 hbox hb; have BK283 := Aside0.mk (hbox); have GE283 := gel_ hg; replace HB := hbl_ hb; clear hb hbox hg) | ((with_reducible refine gd_ 2 ?_); refine bx_ 2 30 #[.int .i64 0, .string (⟨#[]⟩ : ByteArray), .slice none 0 0, .slice none 0 0] ?_; intro gb284 hg w5 hbox hb; have BK284 := Aside0.mk (hbox); have GE284 := gel_ hg; replace HB := hbl_ hb; have NB283_284 := nl_ hg BK283; have NB284_283 := ng_ hg BK283; replace BK283 := bbl_ BK283 hb; clear hb hbox hg) | ((with_reducible refine gd_ 3 ?_); refine bx_ 3 30 #[.int .i64 0, .string (⟨#[]⟩ : ByteArray), .slice none 0 0, .slice none 0 0] ?_; intro gb285 hg w6 hbox hb; have BK285 := Aside0.mk (hbox); have GE285 := gel_ hg; replace HB := hbl_ hb; have NB283_285 := nl_ hg BK283; have NB285_283 := ng_ hg BK283; replace BK283 := bbl_ BK283 hb; have NB284_285 := nl_ hg BK284; have NB285_284 := ng_ hg BK284; replace BK284 := bbl_ BK284 hb; clear hb hbox hg; have hnb7 := NB283_284.out; have hnc7 := NB284_283.out; have hnb8 := NB283_285.out; have hnc8 := NB285_283.out; have hcz9 := blk_cell BK283.out; have hfz9 := blk_frozen BK283.out) | ((with_reducible refine gs_ 3 6 ?_); refine sp_ 3 6 gb285 0 (.int .i64 a0_0) #[.int .i64 a0_0, .string (⟨#[]⟩ : ByteArray), .slice none 0 0, .slice none 0 0] BK285 ?_; intro w10 hbox hbut; replace BK283 := bo_ hbut NB283_285 BK283; replace BK284 := bo_ hbut NB284_285 BK284; replace BK285 := Aside0.mk (hbox); replace HB := hs_ HB hbut GE285; clear hbox hbut; have hcz11 := blk_cell BK283.out; have hfz11 := blk_frozen BK283.out) | ((with_reducible refine gs_ 9 9 ?_); refine sp_ 9 9 gb285 1 (.string a0_1) #[.int .i64 a0_0, .string a0_1, .slice none 0 0, .slice none 0 0] BK285 ?_; intro w12 hbox hbut; replace BK283 := bo_ hbut NB283_285 BK283; replace BK284 := bo_ hbut NB284_285 BK284; replace BK285 := Aside0.mk (hbox); replace HB := hs_ HB hbut GE285; clear hbox hbut; have hcz13 := blk_cell BK283.out; have hfz13 := blk_frozen BK283.out) | ((with_reducible refine gc_ 27 ?_); refine gl_ (some 12) Tryd.func27 #[.slice A0_2 l0_2.length c0_2] ?_; (with_reducible refine (laws_toStringS.calls k _ _ l0_2 t286 _ ?side1 ?side2 A2.out).mono ?_); (case side1 => exact cb_ HR0_2); (case side2 => exact HC0_2.out); rintro e w14 ⟨v287, rfl, ho0, hb⟩; refine ⟨_, rfl, ?_⟩; have HO288 := Aside0.mk (Kd.R_lower ho0 (below_size bl_)); replace BK283 := bbl_ BK283 hb; replace BK284 := bbl_ BK284 hb; replace BK285 := bbl_ BK285 hb; replace HB := hbl_ hb; try clear hb; try clear ho0; obtain ⟨Ao15, co15, rfl⟩ := Kd.R_slice HO288.out) | ((with_reducible refine gs_ 22 13 ?_); refine sp_ 22 13 gb285 2 (.slice Ao15 t286.length co15) #[.int .i64 a0_0, .string a0_1, .slice Ao15 t286.length co15, .slice none 0 0] BK285 ?_; intro w16 hbox hbut; replace HO288 := rs_ hbut HO288 BK285; replace BK283 := bo_ hbut NB283_285 BK283; replace BK284 := bo_ hbut NB284_285 BK284; replace BK285 := Aside0.mk (hbox); replace HB := hs_ HB hbut GE285; clear hbox hbut; have hcz17 := blk_cell BK283.out; have hfz17 := blk_frozen BK283.out) | ((with_reducible refine gc_ 27 ?_); refine gl_ (some 16) Tryd.func27 #[.slice A0_3 l0_3.length c0_3] ?_; (with_reducible refine (laws_toStringS.calls k _ _ l0_3 t289 _ ?side1 ?side2 A3.out).mono ?_); (case side1 => exact cb_ HR0_3); (case side2 => exact HC0_3.out); rintro e w18 ⟨v290, rfl, ho0, hb⟩; refine ⟨_, rfl, ?_⟩; have HO291 := Aside0.mk (Kd.R_lower (Kd.R_new' ho0 (Kd.R_lt (rl_ HO288))) (below_size bl_)); replace HO288 := Aside0.mk (Kd.R_elder' (rl_ HO288) (Kd.R_base ho0) hb); replace BK284 := bbl_ BK284 hb; replace BK285 := bbl_ BK285 hb; replace HB := hbl_ hb; try clear hb; try clear ho0; obtain ⟨Ao19, co19, rfl⟩ := Kd.R_slice HO291.out) | ((with_reducible refine gs_ 22 17 ?_); refine sp_ 22 17 gb285 3 (.slice Ao19 t289.length co19) #[.int .i64 a0_0, .string a0_1, .slice Ao15 t286.length co15, .slice Ao19 t289.length co19] BK285 ?_; intro w20 hbox hbut; replace HO288 := rs_ hbut HO288 BK285; replace HO291 := rs_ hbut HO291 BK285; replace BK284 := bo_ hbut NB284_285 BK284; replace BK285 := Aside0.mk (hbox); replace HB := hs_ HB hbut GE285; clear hbox hbut; have hnb21 := NB285_284.out; have hnc21 := NB284_285.out) | ((with_reducible refine gs_ 30 2 ?_); refine sp_ 30 2 gb284 0 (.agg #[.int .i64 a0_0, .string a0_1, .slice Ao15 t286.length co15, .slice Ao19 t289.length co19]) #[.int .i64 a0_0, .string a0_1, .slice Ao15 t286.length co15, .slice Ao19 t289.length co19] BK284 ?_; intro w23 hbox hbut; replace HO288 := rs_ hbut HO288 BK284; replace HO291 := rs_ hbut HO291 BK284; replace BK284 := Aside0.mk (hbox); replace BK285 := bo_ hbut NB285_284 BK285; replace HB := hs_ HB hbut GE284; clear hbox hbut))
 refine bodyPost_ret (results_cell_row rfl _ _ gb284 30 #[.int .i64 a0_0, .string a0_1, .slice Ao15 t286.length co15, .slice Ao19 t289.length co19] (0, 0) _ rfl (kl_ BK284) Tryd.underlying30 rfl (by kernel_rfl)) rfl ?_
 exact ⟨_, _, re_, rm_ HO288, rm_ HO291, bl_⟩

/-! ### laws_toMail: function 76 -/
def laws_toMail.f (a0_0 : Int) (a0_1 : Int) (a0_2 : ByteArray) : Option (Int × Int × ByteArray) := some (a0_0, a0_1, a0_2)
theorem laws_toMail.calls (a0_0 : Int) (a0_1 : Int) (a0_2 : ByteArray) (r1 : Int) (r2 : Int) (r3 : ByteArray) (w : World) (h : laws_toMail.f a0_0 a0_1 a0_2 = some (r1, r2, r3)) :
  Calls Tryd.prog 76 #[.agg #[.int .i64 a0_0, .int .i64 a0_1, .string a0_2]] w fun e w' => e = .returned (.agg #[.int .i64 r1, .int .i64 r2, .string r3]) ∧ Below w.heap.size w w' := by
 have hu103 := Tryd.underlying103
 have hu101 := Tryd.underlying101
 have HB := Aside0.mk (Below.refl w.heap.size w)
 have H := h; unfold laws_toMail.f at H
 clear h
 simp only [Option.some.injEq, Prod.mk.injEq] at H
 obtain ⟨rfl, rfl, rfl⟩ := H
 go_enter Tryd.func76, Tryd.ntmps76
 go_wp2_with (first | (refine lr_ 101 3 BK294 hu101 ?_) | ((with_reducible refine gd_ 1 ?_); refine bx_ 1 103 #[.int .i64 a0_0, .int .i64 a0_1, .string a0_2] ?_; intro gb292 hg w2 hbox hb; have BK292 := Aside0.mk (hbox); have GE292 := ge_ hg HB; replace HB := hb_ HB hb; clear hb hbox hg) | ((with_reducible refine gd_ 2 ?_); refine bx_ 2 101 #[.int .i64 0, .int .i64 0, .string (⟨#[]⟩ : ByteArray)] ?_; intro gb293 hg w3 hbox hb; have BK293 := Aside0.mk (hbox); have GE293 := ge_ hg HB; replace HB := hb_ HB hb; have NB292_293 := nl_ hg BK292; have NB293_292 := ng_ hg BK292; replace BK292 := bb_ BK292 hb; clear hb hbox hg) | ((with_reducible refine gd_ 3 ?_); refine bx_ 3 101 #[.int .i64 0, .int .i64 0, .string (⟨#[]⟩ : ByteArray)] ?_; intro gb294 hg w4 hbox hb; have BK294 := Aside0.mk (hbox); have GE294 := ge_ hg HB; replace HB := hb_ HB hb; have NB292_294 := nl_ hg BK292; have NB294_292 := ng_ hg BK292; replace BK292 := bb_ BK292 hb; have NB293_294 := nl_ hg BK293; have NB294_293 := ng_ hg BK293; replace BK293 := bb_ BK293 hb; clear hb hbox hg; have hnb5 := NB292_293.out; have hnc5 := NB293_292.out; have hnb6 := NB292_294.out; have hnc6 := NB294_292.out; have hcz7 := blk_cell BK292.out; have hfz7 := blk_frozen BK292.out) | ((with_reducible refine gs_ 3 6 ?_); refine sp_ 3 6 gb294 0 (.int .i64 a0_0) #[.int .i64 a0_0, .int .i64 0, .string (⟨#[]⟩ : ByteArray)] BK294 ?_; intro w8 hbox hbut; replace BK292 := bo_ hbut NB292_294 BK292; replace BK293 := bo_ hbut NB293_294 BK293; replace BK294 := Aside0.mk (hbox); replace HB := hs_ HB hbut GE294; clear hbox hbut; have hcz9 := blk_cell BK292.out; have hfz9 := blk_frozen BK292.out) | ((with_reducible refine gs_ 3 9 ?_); refine sp_ 3 9 gb294 1 (.int .i64 a0_1) #[.int .i64 a0_0, .int .i64 a0_1, .string (⟨#[]⟩ : ByteArray)] BK294 ?_; intro w10 hbox hbut; replace BK292 := bo_ hbut NB292_294 BK292; replace BK293 := bo_ hbut NB293_294 BK293; replace BK294 := Aside0.mk (hbox); replace HB := hs_ HB hbut GE294; clear hbox hbut; have hcz11 := blk_cell BK292.out; have hfz11 := blk_frozen BK292.out) | ((with_reducible refine gs_ 9 12 ?_); refine sp_ 9 12 gb294 2 (.string a0_2) #[.int .i64 a0_0, .int .i64 a0_1, .string a0_2] BK294 ?_; intro w12 hbox hbut; replace BK293 := bo_ hbut NB293_294 BK293; replace BK294 := Aside0.mk (hbox); replace HB := hs_ HB hbut GE294; clear hbox hbut; have hnb13 := NB294_293.out; have hnc13 := NB293_294.out) | ((with_reducible refine gs_ 101 2 ?_); refine sp_ 101 2 gb293 0 (.agg #[.int .i64 a0_0, .int .i64 a0_1, .string a0_2]) #[.int .i64 a0_0, .int .i64 a0_1, .string a0_2] BK293 ?_; intro w15 hbox hbut; replace BK293 := Aside0.mk (hbox); replace BK294 := bo_ hbut NB294_293 BK294; replace HB := hs_ HB hbut GE293; clear hbox hbut))
 refine bodyPost_ret (results_cell_row rfl _ _ gb293 101 #[.int .i64 a0_0, .int .i64 a0_1, .string a0_2] (0, 0) _ rfl (kl_ BK293) Tryd.underlying101 rfl (by kernel_rfl)) rfl ?_
 exact ⟨re_, bl_⟩

/-! ### laws_toMailS: function 67 -/
def laws_toMailS.l0 : Nat → List (S103) → List (S101) → Int → Option ((List (S101)))
 | 0, _, _, _ => none
 | k + 1, x0, x3, x4 => if x4 < (x0.length : Int) then (if 0 ≤ x4 then ((laws_toMail.f ((rd_T103 x0 x4).f0) ((rd_T103 x0 x4).f1) ((rd_T103 x0 x4).f2)).bind fun bt299 => (if x4 < (x3.length : Int) then (laws_toMailS.l0 k x0 (x3.set (x4 : Int).toNat (⟨bt299.1, bt299.2.1, bt299.2.2⟩ : S101)) (wrap64 (x4 + 1))) else (none))) else (none)) else (some x3)
def laws_toMailS.f (k : Nat) (l0 : List (S103)) : Option ((List (S101))) := if 0 ≤ (l0.length : Int) then (if ((l0.length : Int) : Int).toNat ≤ 8796093022208 then (laws_toMailS.l0 k l0 (List.replicate ((l0.length : Int) : Int).toNat z101) 0) else (none)) else (none)
theorem laws_toMailS.mono_l : ∀ k, (∀ y0 y1 y2, LeO (laws_toMailS.l0 k y0 y1 y2) (laws_toMailS.l0 (k + 1) y0 y1 y2))
 | 0 => fun _ _ _ r h => by simp [laws_toMailS.l0] at h
 | k + 1 => by
  have ih0 := laws_toMailS.mono_l k
  ·intro y0 y1 y2
   unfold laws_toMailS.l0
   repeat' first
   | (with_reducible exact ih0 _ _ _)
   | (with_reducible first | exact LeO.refl _ | exact LeO.none _ | refine LeO.ite ?_ ?_ | refine LeO.bind ?_ (fun _ => ?_))
   | refine LeO.ite ?_ ?_
   | refine LeO.bind ?_ (fun _ => ?_)
theorem laws_toMailS.mono : ∀ a0 k, LeO (laws_toMailS.f k a0) (laws_toMailS.f (k + 1) a0) := by
 intro a0 k
 have ih0 := laws_toMailS.mono_l k
 unfold laws_toMailS.f
 repeat' first
   | (with_reducible exact ih0 _ _ _)
   | (with_reducible first | exact LeO.refl _ | exact LeO.none _ | refine LeO.ite ?_ ?_ | refine LeO.bind ?_ (fun _ => ?_))
   | refine LeO.ite ?_ ?_
   | refine LeO.bind ?_ (fun _ => ?_)
theorem laws_toMailS.calls (k : Nat) (A0 : Option Addr) (c0 : Nat) (l0 : List (S103)) (r : List (S101)) (w : World) (hr0 : Kd.C k103 w A0 l0.length l0) (hc0 : l0.length ≤ c0) (h : laws_toMailS.f k l0 = some r) :
  Calls Tryd.prog 67 #[.slice A0 l0.length c0] w fun e w' => ∃ v0_ : Value, e = .returned (v0_) ∧ Kd.R k101 101 w' w.heap.size (fun _ => True) v0_ r ∧ Below w.heap.size w w' := by
 have hu103 := Tryd.underlying103
 have hu101 := Tryd.underlying101
 have HR0 := Aside0.mk hr0
 have HC0 := Aside0.mk hc0
 clear hr0 hc0
 have HB := Aside0.mk (Below.refl w.heap.size w)
 have H := h; unfold laws_toMailS.f at H
 clear h
 by_cases c2 : 0 ≤ (l0.length : Int)
 ·rw [if_pos c2] at H
  have c2b0 := eq_true c2
  have c2b1 := decide_eq_true c2
  clear c2
  by_cases c3 : ((l0.length : Int) : Int).toNat ≤ 8796093022208
  ·rw [if_pos c3] at H
   have c3b0 := eq_true c3
   have c3b1 := decide_eq_true c3
   clear c3
   obtain ⟨y295, hy295⟩ : ∃ y_ : List (S101), y_ = (List.replicate ((l0.length : Int) : Int).toNat z101) := ⟨_, rfl⟩
   replace H : (laws_toMailS.l0 k l0 y295 0) = some r := by subst hy295; first | with_reducible exact H | with_reducible exact (Option.bind_some _ _).symm.trans H | exact H
   have Ny295 := Aside0.mk hy295
   clear hy295
   have H' := Aside0.mk H
   clear H
   go_enter Tryd.func67, Tryd.ntmps67
   go_wp2_with (first | ((with_reducible refine gd_ 7 ?_); refine Kd.R_make k101 _ 101 rfl (N := 7) rfl 82 _ _ rfl (l0.length : Int) rfl rfl Tryd.underlying82 (.agg #[(.int .i64 0), (.int .i64 0), (.string ⟨#[]⟩)]) 32 info101 rfl (by decide) (by omega) z101 (ok := fun _ => True) (okp := fun _ => True) (k101_mkM _ _ _ z101 ) (fun _ hk => hk) trivial (od_) (Nat.le_trans (Nat.mul_le_mul_right _ (od_ : (l0.length : Int).toNat ≤ 8796093022208)) (by omega)) (Below.refl _ _) (Nat.le_refl _) ?_; intro v296 w4 ho5 hb hg_ hnew_; clear hg_ hnew_; (first | rw [← Ny295.out] at ho5 | (simp only [Int.reduceToNat] at ho5; rw [← Ny295.out] at ho5)); have HO297 := Aside0.mk (Kd.R_lower ho5 (below_size HB.out)); replace HB := hb_ HB hb; clear hb ho5))
   go_loopg [4] k (fun kq v4 w' => ∃ (x3_1 : List (S101)) (x4_1 : Int), v4 = .int .i64 x4_1 ∧ Aside0 (laws_toMailS.l0 kq l0 x3_1 x4_1 = some r) ∧ Aside0 (kq ≤ k) ∧ Aside0 (Kd.R k101 101 w' w.heap.size (fun _ => True) v296 x3_1) ∧ Aside0 (Below w.heap.size w w'))
   case atStart => exact ⟨(y295), (0), rf_, H', ⟨Nat.le_refl _⟩, ⟨rl_ HO297⟩, ⟨bl_⟩⟩
   case round =>
    clear H'
    try clear c2
    try clear c2b0
    try clear c2b1
    try clear p2
    try clear c3
    try clear c3b0
    try clear c3b1
    obtain ⟨x3_1, x4_1, rfl, HA, HK1, HO_3, HB⟩ := hrel
    cases gk with
    | zero => exact absurd HA.out (by simp [laws_toMailS.l0])
    | succ k1 =>
     have H := HA.out
     clear HA
     simp only [laws_toMailS.l0] at H
     by_cases c6 : x4_1 < (l0.length : Int)
     ·rw [if_pos c6] at H
      have c6b0 := decide_eq_true c6
      clear c6
      by_cases c7 : 0 ≤ x4_1
      ·rw [if_pos c7] at H
       have c7b0 := decide_eq_true c7
       clear c7
       obtain ⟨⟨t299, t300, t301⟩, A8, H⟩ := bs_ H
       (try set_option simprocs false in dsimp only at H)
       by_cases c9 : x4_1 < (x3_1.length : Int)
       ·rw [if_pos c9] at H
        have c9b0 := decide_eq_true c9
        clear c9
        obtain ⟨y302, hy302⟩ : ∃ y_ : List (S101), y_ = (x3_1.set (x4_1 : Int).toNat (⟨t299, t300, t301⟩ : S101)) := ⟨_, rfl⟩
        replace H : (laws_toMailS.l0 k1 l0 y302 (wrap64 (x4_1 + 1))) = some r := by subst hy302; first | with_reducible exact H | with_reducible exact (Option.bind_some _ _).symm.trans H | exact H
        have Ny302 := Aside0.mk hy302
        clear hy302
        have H' := Aside0.mk H
        clear H
        have p298 : 0 ≤ (x4_1 : Int) := od_
        have q298 : x4_1 < (l0.length : Int) := od_
        obtain ⟨ad298, e298, hx298_0, hx298_1, hx298_2⟩ := at_T103 HR0.out x4_1 p298 q298
        cases e298
        replace hx298_0 := cu_ HB hx298_0
        replace hx298_1 := cu_ HB hx298_1
        replace hx298_2 := cu_ HB hx298_2
        replace p298 := eq_true p298
        replace q298 := eq_true q298
        go_wp2_with (first | ((with_reducible refine gc_ 76 ?_); refine gl_ (some 20) Tryd.func76 #[.agg #[.int .i64 ((rd_T103 l0 x4_1).f0), .int .i64 ((rd_T103 l0 x4_1).f1), .string ((rd_T103 l0 x4_1).f2)]] ?_; (with_reducible refine (laws_toMail.calls ((rd_T103 l0 x4_1).f0) ((rd_T103 l0 x4_1).f1) ((rd_T103 l0 x4_1).f2) t299 t300 t301 _ A8.out).mono ?_); rintro e w11 ⟨rfl, hb⟩; refine ⟨_, rfl, ?_⟩; replace HO_3 := rb_ HO_3 hb; replace HB := hb_ HB hb; try clear hb; have p10 : 0 ≤ (x4_1 : Int) := od_; have q10 : (x4_1 : Int) < ((x3_1.length : Int) : Int) := od_; obtain ⟨go10, co10, eo10, gb10, gl10, cl10, HG10⟩ := Kd.R_form HO_3.out (by omega); (first | cases eo10 | (injection eo10 with ea_ en_ ec_; (first | subst ea_ | (injection ea_ with ea_; subst ea_)); subst ec_; clear en_)); have GB10 := Aside0.mk gb10; have GG10 := Aside0.mk HG10; clear gb10 gl10 HG10; obtain ⟨ce10, hcl10, hM10, hcc10, hfr10⟩ := Kd.R_elem HO_3.out z101 (x4_1 : Int) p10 q10; obtain rfl := k101_openM hM10; have hx10_0 : w11.cell? ⟨go10, (x4_1 : Int).toNat * 3, none⟩ = some (.int .i64 ((rd_T101 x3_1 x4_1).f0)) := hcc10 0 _ rfl; have hx10_1 : w11.cell? ⟨go10, (x4_1 : Int).toNat * 3 + 1, none⟩ = some (.int .i64 ((rd_T101 x3_1 x4_1).f1)) := hcc10 1 _ rfl; have hx10_2 : w11.cell? ⟨go10, (x4_1 : Int).toNat * 3 + 2, none⟩ = some (.string ((rd_T101 x3_1 x4_1).f2)) := hcc10 2 _ rfl; have hf10_0 : w11.frozen? ⟨go10, (x4_1 : Int).toNat * 3, none⟩ = false := hfr10 0; have hf10_1 : w11.frozen? ⟨go10, (x4_1 : Int).toNat * 3 + 1, none⟩ = false := hfr10 1; have hf10_2 : w11.frozen? ⟨go10, (x4_1 : Int).toNat * 3 + 2, none⟩ = false := hfr10 2; clear hcl10 hcc10 hfr10 hM10; replace p10 := eq_true p10; replace q10 := eq_true q10; have HX12 := Aside0.mk (show Kd.R k101 101 w11 w.heap.size (fun _ => True) (.slice (some ⟨go10, 0, none⟩) x3_1.length co10) x3_1 from HO_3.out); obtain ⟨ce12, hcl12, hM12, hcc12, hfr12⟩ := Kd.R_elem HX12.out z101 (x4_1 : Int) (od_) (by have h_ : (x4_1 : Int) < ((x3_1.length : Int) : Int) := od_; first | exact h_ | (have e_ := (Kd.R_reads' HO_3.out).1; omega) | simpa using h_); obtain rfl := k101_openM hM12; have HP12 := Kd.R_seg HX12.out (x4_1 : Int) (od_) (by have h_ : (x4_1 : Int) < ((x3_1.length : Int) : Int) := od_; first | exact h_ | (have e_ := (Kd.R_reads' HO_3.out).1; omega) | simpa using h_) (seg := [.int .i64 t299, .int .i64 t300, .string t301]) (j := 0) hcl12 hcc12 (show 3 ≤ 3 from by decide) (x' := (⟨t299, t300, t301⟩ : S101)) (k101_mkM _ _ _ (⟨t299, t300, t301⟩ : S101) ) (fun _ hk => hk); have hx12_0 := hcc12 0 _ rfl; (try simp only [show (k101).sz = 3 from rfl, Nat.mul_one, Nat.add_zero] at hx12_0); have hf12_0 := hfr12 0; (try simp only [show (k101).sz = 3 from rfl, Nat.mul_one, Nat.add_zero] at hf12_0); have hx12_1 := hcc12 1 _ rfl; (try simp only [show (k101).sz = 3 from rfl, Nat.mul_one, Nat.add_zero] at hx12_1); have hf12_1 := hfr12 1; (try simp only [show (k101).sz = 3 from rfl, Nat.mul_one, Nat.add_zero] at hf12_1); have hx12_2 := hcc12 2 _ rfl; (try simp only [show (k101).sz = 3 from rfl, Nat.mul_one, Nat.add_zero] at hx12_2); have hf12_2 := hfr12 2; (try simp only [show (k101).sz = 3 from rfl, Nat.mul_one, Nat.add_zero] at hf12_2); clear hcl12 hcc12 hfr12 hM12) | ((with_reducible refine gs_ 101 21 ?_); refine store_event (t := 101) (p := 21) (v := ?vo_w13) (w1 := (((w11.setCell ⟨go10, (x4_1 : Int).toNat * 3, none⟩ (.int .i64 t299)).setCell ⟨go10, (x4_1 : Int).toNat * 3 + 1, none⟩ (.int .i64 t300)).setCell ⟨go10, (x4_1 : Int).toNat * 3 + 2, none⟩ (.string t301))) ?hg ?ho ?hn ?hr ?_; (case ho => rfl); (case hg => rfl); (case hn => rfl); (case hr => first | (go_simp; done) | (go_simp; rfl)); intro w13 hw; have hg : w11.grownBy w13 (some go10) := (by rw [hw]; exact HP12.2); have hp_ : Kd.R k101 101 w13 w.heap.size (fun _ => True) (.slice (some ⟨go10, 0, none⟩) x3_1.length co10) y302 := (by rw [hw, Ny302.out]; exact HP12.1); clear HP12; replace HO_3 := Aside0.mk (hp_); replace HB := Aside0.mk ((by rw [hw]; exact below_set (below_set (below_set (HB.out) GB10.out) GB10.out) GB10.out : Below w.heap.size w w13)); clear hg hw hp_))
        go_roundg k1
        case measure => have := HK1.out; omega
        case rel => exact ⟨(y302), (wrap64 (x4_1 + 1)), rf_, H', ⟨by have := HK1.out; omega⟩, ⟨rl_ HO_3⟩, ⟨bl_⟩⟩
       ·rw [if_neg c9] at H
        exact absurd H (by simp)
      ·rw [if_neg c7] at H
       exact absurd H (by simp)
     ·rw [if_neg c6] at H
      have c6b0 := decide_eq_false c6
      clear c6
      obtain rfl := Option.some.inj H
      go_wp2
      go_ret
      exact ⟨_, re_, rl_ HO_3, bl_⟩
  ·rw [if_neg c3] at H
   exact absurd H (by simp)
 ·rw [if_neg c2] at H
  exact absurd H (by simp)

/-! ### laws_toBox: function 54 -/
def laws_toBox.f (k : Nat) (a0_0 : Int) (a0_1 : ByteArray) (a0_2 : ByteArray) (a0_3 : Int) (l0_4 : List (S103)) : Option (Int × ByteArray × ByteArray × Int × (List (S101))) := (laws_toMailS.f k l0_4).bind fun t306 => (some (a0_0, a0_1, a0_2, a0_3, t306))
theorem laws_toBox.mono : ∀ a0 a1 a2 a3 a4 k, LeO (laws_toBox.f k a0 a1 a2 a3 a4) (laws_toBox.f (k + 1) a0 a1 a2 a3 a4) := by
 intro a0 a1 a2 a3 a4 k
 unfold laws_toBox.f
 repeat' first
   | (with_reducible exact laws_toMailS.mono _ _)
   | (with_reducible first | exact LeO.refl _ | exact LeO.none _ | refine LeO.ite ?_ ?_ | refine LeO.bind ?_ (fun _ => ?_))
   | refine LeO.ite ?_ ?_
   | refine LeO.bind ?_ (fun _ => ?_)
theorem laws_toBox.calls (k : Nat) (a0_0 : Int) (a0_1 : ByteArray) (a0_2 : ByteArray) (a0_3 : Int) (A0_4 : Option Addr) (c0_4 : Nat) (l0_4 : List (S103)) (r1 : Int) (r2 : ByteArray) (r3 : ByteArray) (r4 : Int) (r5 : List (S101)) (w : World) (hr0_4 : Kd.C k103 w A0_4 l0_4.length l0_4) (hc0_4 : l0_4.length ≤ c0_4) (h : laws_toBox.f k a0_0 a0_1 a0_2 a0_3 l0_4 = some (r1, r2, r3, r4, r5)) :
  Calls Tryd.prog 54 #[.agg #[.int .i64 a0_0, .string a0_1, .string a0_2, .int .i64 a0_3, .slice A0_4 l0_4.length c0_4]] w fun e w' => ∃ v4_ : Value, e = .returned (.agg #[.int .i64 r1, .string r2, .string r3, .int .i64 r4, v4_]) ∧ Kd.R k101 101 w' w.heap.size (fun _ => True) v4_ r5 ∧ Below w.heap.size w w' := by
 have hu73 := Tryd.underlying73
 have hu84 := Tryd.underlying84
 have HR0_4 := Aside0.mk hr0_4
 have HC0_4 := Aside0.mk hc0_4
 clear hr0_4 hc0_4
 have HB := Aside0.mk (Below.refl w.heap.size w)
 have H := h; unfold laws_toBox.f at H
 clear h
 obtain ⟨t306, A2, H⟩ := bs_ H
 simp only [Option.some.injEq, Prod.mk.injEq] at H
 obtain ⟨rfl, rfl, rfl, rfl, rfl⟩ := H
 go_enter Tryd.func54, Tryd.ntmps54
 go_wp2_with (first | (refine lr_ 84 3 BK305 hu84 ?_) | ((with_reducible refine gd_ 1 ?_); refine bx_ 1 73 #[.int .i64 a0_0, .string a0_1, .string a0_2, .int .i64 a0_3, .slice A0_4 l0_4.length c0_4] ?_; intro gb303 hg w3 hbox hb; have BK303 := Aside0.mk (hbox); have GE303 := ge_ hg HB; replace HB := hb_ HB hb; clear hb hbox hg) | ((with_reducible refine gd_ 2 ?_); refine bx_ 2 84 #[.int .i64 0, .string (⟨#[]⟩ : ByteArray), .string (⟨#[]⟩ : ByteArray), .int .i64 0, .slice none 0 0] ?_; intro gb304 hg w4 hbox hb; have BK304 := Aside0.mk (hbox); have GE304 := ge_ hg HB; replace HB := hb_ HB hb; have NB303_304 := nl_ hg BK303; have NB304_303 := ng_ hg BK303; replace BK303 := bb_ BK303 hb; clear hb hbox hg) | ((with_reducible refine gd_ 3 ?_); refine bx_ 3 84 #[.int .i64 0, .string (⟨#[]⟩ : ByteArray), .string (⟨#[]⟩ : ByteArray), .int .i64 0, .slice none 0 0] ?_; intro gb305 hg w5 hbox hb; have BK305 := Aside0.mk (hbox); have GE305 := ge_ hg HB; replace HB := hb_ HB hb; have NB303_305 := nl_ hg BK303; have NB305_303 := ng_ hg BK303; replace BK303 := bb_ BK303 hb; have NB304_305 := nl_ hg BK304; have NB305_304 := ng_ hg BK304; replace BK304 := bb_ BK304 hb; clear hb hbox hg; have hnb6 := NB303_304.out; have hnc6 := NB304_303.out; have hnb7 := NB303_305.out; have hnc7 := NB305_303.out; have hcz8 := blk_cell BK303.out; have hfz8 := blk_frozen BK303.out) | ((with_reducible refine gs_ 3 6 ?_); refine sp_ 3 6 gb305 0 (.int .i64 a0_0) #[.int .i64 a0_0, .string (⟨#[]⟩ : ByteArray), .string (⟨#[]⟩ : ByteArray), .int .i64 0, .slice none 0 0] BK305 ?_; intro w9 hbox hbut; replace BK303 := bo_ hbut NB303_305 BK303; replace BK304 := bo_ hbut NB304_305 BK304; replace BK305 := Aside0.mk (hbox); replace HB := hs_ HB hbut GE305; clear hbox hbut; have hcz10 := blk_cell BK303.out; have hfz10 := blk_frozen BK303.out) | ((with_reducible refine gs_ 9 9 ?_); refine sp_ 9 9 gb305 1 (.string a0_1) #[.int .i64 a0_0, .string a0_1, .string (⟨#[]⟩ : ByteArray), .int .i64 0, .slice none 0 0] BK305 ?_; intro w11 hbox hbut; replace BK303 := bo_ hbut NB303_305 BK303; replace BK304 := bo_ hbut NB304_305 BK304; replace BK305 := Aside0.mk (hbox); replace HB := hs_ HB hbut GE305; clear hbox hbut; have hcz12 := blk_cell BK303.out; have hfz12 := blk_frozen BK303.out) | ((with_reducible refine gs_ 9 12 ?_); refine sp_ 9 12 gb305 2 (.string a0_2) #[.int .i64 a0_0, .string a0_1, .string a0_2, .int .i64 0, .slice none 0 0] BK305 ?_; intro w13 hbox hbut; replace BK303 := bo_ hbut NB303_305 BK303; replace BK304 := bo_ hbut NB304_305 BK304; replace BK305 := Aside0.mk (hbox); replace HB := hs_ HB hbut GE305; clear hbox hbut; have hcz14 := blk_cell BK303.out; have hfz14 := blk_frozen BK303.out) | ((with_reducible refine gs_ 3 15 ?_); refine sp_ 3 15 gb305 3 (.int .i64 a0_3) #[.int .i64 a0_0, .string a0_1, .string a0_2, .int .i64 a0_3, .slice none 0 0] BK305 ?_; intro w15 hbox hbut; replace BK303 := bo_ hbut NB303_305 BK303; replace BK304 := bo_ hbut NB304_305 BK304; replace BK305 := Aside0.mk (hbox); replace HB := hs_ HB hbut GE305; clear hbox hbut; have hcz16 := blk_cell BK303.out; have hfz16 := blk_frozen BK303.out) | ((with_reducible refine gc_ 67 ?_); refine gl_ (some 18) Tryd.func67 #[.slice A0_4 l0_4.length c0_4] ?_; (with_reducible refine (laws_toMailS.calls k _ _ l0_4 t306 _ ?side1 ?side2 A2.out).mono ?_); (case side1 => exact (Kd.C_below HR0_4.out HB.out)); (case side2 => exact HC0_4.out); rintro e w17 ⟨v307, rfl, ho0, hb⟩; refine ⟨_, rfl, ?_⟩; have HO308 := Aside0.mk (Kd.R_lower ho0 (below_size HB.out)); replace BK304 := bb_ BK304 hb; replace BK305 := bb_ BK305 hb; replace HB := hb_ HB hb; try clear hb; try clear ho0; obtain ⟨Ao18, co18, rfl⟩ := Kd.R_slice HO308.out) | ((with_reducible refine gs_ 82 19 ?_); refine sp_ 82 19 gb305 4 (.slice Ao18 t306.length co18) #[.int .i64 a0_0, .string a0_1, .string a0_2, .int .i64 a0_3, .slice Ao18 t306.length co18] BK305 ?_; intro w19 hbox hbut; replace HO308 := rs_ hbut HO308 BK305; replace BK304 := bo_ hbut NB304_305 BK304; replace BK305 := Aside0.mk (hbox); replace HB := hs_ HB hbut GE305; clear hbox hbut; have hnb20 := NB305_304.out; have hnc20 := NB304_305.out) | ((with_reducible refine gs_ 84 2 ?_); refine sp_ 84 2 gb304 0 (.agg #[.int .i64 a0_0, .string a0_1, .string a0_2, .int .i64 a0_3, .slice Ao18 t306.length co18]) #[.int .i64 a0_0, .string a0_1, .string a0_2, .int .i64 a0_3, .slice Ao18 t306.length co18] BK304 ?_; intro w22 hbox hbut; replace HO308 := rs_ hbut HO308 BK304; replace BK304 := Aside0.mk (hbox); replace BK305 := bo_ hbut NB305_304 BK305; replace HB := hs_ HB hbut GE304; clear hbox hbut))
 refine bodyPost_ret (results_cell_row rfl _ _ gb304 84 #[.int .i64 a0_0, .string a0_1, .string a0_2, .int .i64 a0_3, .slice Ao18 t306.length co18] (0, 0) _ rfl (kl_ BK304) Tryd.underlying84 rfl (by kernel_rfl)) rfl ?_
 exact ⟨_, re_, rl_ HO308, bl_⟩

/-! ### laws_toBoxS: function 28 -/
def laws_toBoxS.l0 : Nat → List (S73) → List (S84) → Int → Option ((List (S84)))
 | 0, _, _, _ => none
 | k + 1, x0, x3, x4 => if x4 < (x0.length : Int) then (if 0 ≤ x4 then ((laws_toBox.f k ((rd_T73 x0 x4).f0) ((rd_T73 x0 x4).f1) ((rd_T73 x0 x4).f2) ((rd_T73 x0 x4).f3) ((rd_T73 x0 x4).f4)).bind fun bt313 => (if x4 < (x3.length : Int) then (laws_toBoxS.l0 k x0 (x3.set (x4 : Int).toNat (⟨bt313.1, bt313.2.1, bt313.2.2.1, bt313.2.2.2.1, bt313.2.2.2.2⟩ : S84)) (wrap64 (x4 + 1))) else (none))) else (none)) else (some x3)
def laws_toBoxS.f (k : Nat) (l0 : List (S73)) : Option ((List (S84))) := if 0 ≤ (l0.length : Int) then (if ((l0.length : Int) : Int).toNat ≤ 3909374676536 then (laws_toBoxS.l0 k l0 (List.replicate ((l0.length : Int) : Int).toNat z84) 0) else (none)) else (none)
theorem laws_toBoxS.mono_l : ∀ k, (∀ y0 y1 y2, LeO (laws_toBoxS.l0 k y0 y1 y2) (laws_toBoxS.l0 (k + 1) y0 y1 y2))
 | 0 => fun _ _ _ r h => by simp [laws_toBoxS.l0] at h
 | k + 1 => by
  have ih0 := laws_toBoxS.mono_l k
  ·intro y0 y1 y2
   unfold laws_toBoxS.l0
   repeat' first
   | (with_reducible exact ih0 _ _ _)
   | (with_reducible exact laws_toBox.mono _ _ _ _ _ _)
   | (with_reducible first | exact LeO.refl _ | exact LeO.none _ | refine LeO.ite ?_ ?_ | refine LeO.bind ?_ (fun _ => ?_))
   | refine LeO.ite ?_ ?_
   | refine LeO.bind ?_ (fun _ => ?_)
theorem laws_toBoxS.mono : ∀ a0 k, LeO (laws_toBoxS.f k a0) (laws_toBoxS.f (k + 1) a0) := by
 intro a0 k
 have ih0 := laws_toBoxS.mono_l k
 unfold laws_toBoxS.f
 repeat' first
   | (with_reducible exact ih0 _ _ _)
   | (with_reducible exact laws_toBox.mono _ _ _ _ _ _)
   | (with_reducible first | exact LeO.refl _ | exact LeO.none _ | refine LeO.ite ?_ ?_ | refine LeO.bind ?_ (fun _ => ?_))
   | refine LeO.ite ?_ ?_
   | refine LeO.bind ?_ (fun _ => ?_)
theorem laws_toBoxS.calls (k : Nat) (A0 : Option Addr) (c0 : Nat) (l0 : List (S73)) (r : List (S84)) (w : World) (hr0 : Kd.C k73 w A0 l0.length l0) (hc0 : l0.length ≤ c0) (h : laws_toBoxS.f k l0 = some r) :
  Calls Tryd.prog 28 #[.slice A0 l0.length c0] w fun e w' => ∃ v0_ : Value, e = .returned (v0_) ∧ Kd.S k84 84 w' w.heap.size (fun _ => True) v0_ r ∧ Below w.heap.size w w' := by
 have hu73 := Tryd.underlying73
 have hu84 := Tryd.underlying84
 have HR0 := Aside0.mk hr0
 have HC0 := Aside0.mk hc0
 clear hr0 hc0
 have HB := Aside0.mk (Below.refl w.heap.size w)
 have H := h; unfold laws_toBoxS.f at H
 clear h
 by_cases c2 : 0 ≤ (l0.length : Int)
 ·rw [if_pos c2] at H
  have c2b0 := eq_true c2
  have c2b1 := decide_eq_true c2
  clear c2
  by_cases c3 : ((l0.length : Int) : Int).toNat ≤ 3909374676536
  ·rw [if_pos c3] at H
   have c3b0 := eq_true c3
   have c3b1 := decide_eq_true c3
   clear c3
   obtain ⟨y309, hy309⟩ : ∃ y_ : List (S84), y_ = (List.replicate ((l0.length : Int) : Int).toNat z84) := ⟨_, rfl⟩
   replace H : (laws_toBoxS.l0 k l0 y309 0) = some r := by subst hy309; first | with_reducible exact H | with_reducible exact (Option.bind_some _ _).symm.trans H | exact H
   have Ny309 := Aside0.mk hy309
   clear hy309
   have H' := Aside0.mk H
   clear H
   go_enter Tryd.func28, Tryd.ntmps28
   go_wp2_with (first | ((with_reducible refine gd_ 7 ?_); refine Kd.S_make k84 _ 84 rfl (N := 7) rfl 35 _ _ rfl (l0.length : Int) rfl rfl Tryd.underlying35 (.agg #[(.int .i64 0), (.string ⟨#[]⟩), (.string ⟨#[]⟩), (.int .i64 0), (.slice none 0 0)]) 72 info84 rfl (by decide) (by omega) z84 (ok := fun _ => True) (okp := fun _ => True) (k84_mkM _ _ _ z84 (Kd.R_nil _ _ _ _ _)) (fun _ hk => hk) trivial (od_) (Nat.le_trans (Nat.mul_le_mul_right _ (od_ : (l0.length : Int).toNat ≤ 3909374676536)) (by omega)) (Below.refl _ _) (Nat.le_refl _) ?_; intro v310 w4 ho5 hb hg_ hnew_; clear hg_ hnew_; (first | rw [← Ny309.out] at ho5 | (simp only [Int.reduceToNat] at ho5; rw [← Ny309.out] at ho5)); have HO311 := Aside0.mk (Kd.S_lower ho5 (below_size HB.out)); replace HB := hb_ HB hb; clear hb ho5))
   go_loopg [4] k (fun kq v4 w' => ∃ (x3_1 : List (S84)) (x4_1 : Int), v4 = .int .i64 x4_1 ∧ Aside0 (laws_toBoxS.l0 kq l0 x3_1 x4_1 = some r) ∧ Aside0 (kq ≤ k) ∧ Aside0 (Kd.S k84 84 w' w.heap.size (fun _ => True) v310 x3_1) ∧ Aside0 (Below w.heap.size w w'))
   case atStart => exact ⟨(y309), (0), rf_, H', ⟨Nat.le_refl _⟩, ⟨sl_ HO311⟩, ⟨bl_⟩⟩
   case round =>
    clear H'
    try clear c2
    try clear c2b0
    try clear c2b1
    try clear p2
    try clear c3
    try clear c3b0
    try clear c3b1
    obtain ⟨x3_1, x4_1, rfl, HA, HK1, HO_3, HB⟩ := hrel
    cases gk with
    | zero => exact absurd HA.out (by simp [laws_toBoxS.l0])
    | succ k1 =>
     have H := HA.out
     clear HA
     simp only [laws_toBoxS.l0] at H
     by_cases c6 : x4_1 < (l0.length : Int)
     ·rw [if_pos c6] at H
      have c6b0 := decide_eq_true c6
      clear c6
      by_cases c7 : 0 ≤ x4_1
      ·rw [if_pos c7] at H
       have c7b0 := decide_eq_true c7
       clear c7
       obtain ⟨⟨t313, t314, t315, t316, t317⟩, A8, H⟩ := bs_ H
       (try set_option simprocs false in dsimp only at H)
       by_cases c9 : x4_1 < (x3_1.length : Int)
       ·rw [if_pos c9] at H
        have c9b0 := decide_eq_true c9
        clear c9
        obtain ⟨y320, hy320⟩ : ∃ y_ : List (S84), y_ = (x3_1.set (x4_1 : Int).toNat (⟨t313, t314, t315, t316, t317⟩ : S84)) := ⟨_, rfl⟩
        replace H : (laws_toBoxS.l0 k1 l0 y320 (wrap64 (x4_1 + 1))) = some r := by subst hy320; first | with_reducible exact H | with_reducible exact (Option.bind_some _ _).symm.trans H | exact H
        have Ny320 := Aside0.mk hy320
        clear hy320
        have H' := Aside0.mk H
        clear H
        have p312 : 0 ≤ (x4_1 : Int) := od_
        have q312 : x4_1 < (l0.length : Int) := od_
        obtain ⟨ad312, A312_4, c312_4, e312, hx312_0, hx312_1, hx312_2, hx312_3, hx312_4, hl312_4, hi312_4⟩ := at_T73 HR0.out x4_1 p312 q312
        cases e312
        replace hx312_0 := cu_ HB hx312_0
        replace hx312_1 := cu_ HB hx312_1
        replace hx312_2 := cu_ HB hx312_2
        replace hx312_3 := cu_ HB hx312_3
        replace hx312_4 := cu_ HB hx312_4
        have HR312_4 := Aside0.mk hi312_4
        have HC312_4 := Aside0.mk hl312_4
        clear hi312_4 hl312_4
        replace p312 := eq_true p312
        replace q312 := eq_true q312
        go_wp2_with (first | ((with_reducible refine gc_ 54 ?_); refine gl_ (some 20) Tryd.func54 #[.agg #[.int .i64 ((rd_T73 l0 x4_1).f0), .string ((rd_T73 l0 x4_1).f1), .string ((rd_T73 l0 x4_1).f2), .int .i64 ((rd_T73 l0 x4_1).f3), .slice A312_4 ((rd_T73 l0 x4_1).f4).length c312_4]] ?_; (with_reducible refine (laws_toBox.calls k1 ((rd_T73 l0 x4_1).f0) ((rd_T73 l0 x4_1).f1) ((rd_T73 l0 x4_1).f2) ((rd_T73 l0 x4_1).f3) _ _ ((rd_T73 l0 x4_1).f4) t313 t314 t315 t316 t317 _ ?side1 ?side2 A8.out).mono ?_); (case side1 => exact (Kd.C_below HR312_4.out HB.out)); (case side2 => exact HC312_4.out); rintro e w11 ⟨v318, rfl, ho0, hb⟩; refine ⟨_, rfl, ?_⟩; replace HO_3 := Aside0.mk (Kd.S_elder' HO_3.out (Kd.R_base ho0) hb); have HO319 := Aside0.mk (Kd.R_lower ho0 (below_size HB.out)); replace HB := hb_ HB hb; try clear hb; try clear ho0; have p10 : 0 ≤ (x4_1 : Int) := od_; have q10 : (x4_1 : Int) < ((x3_1.length : Int) : Int) := od_; obtain ⟨go10, co10, eo10, gb10, gl10, cl10, HG10⟩ := Kd.S_form HO_3.out (by omega); (first | cases eo10 | (injection eo10 with ea_ en_ ec_; (first | subst ea_ | (injection ea_ with ea_; subst ea_)); subst ec_; clear en_)); have GB10 := Aside0.mk gb10; have GG10 := Aside0.mk HG10; clear gb10 gl10 HG10; obtain ⟨_, ce10, hcl10, hM10, hcc10, hfr10, _, _⟩ := Kd.S_elem HO_3.out z84 (x4_1 : Int) p10 q10; obtain ⟨ve10_4, rfl, ge10_4⟩ := k84_openM hM10; have hx10_0 : w11.cell? ⟨go10, (x4_1 : Int).toNat * 5, none⟩ = some (.int .i64 ((rd_T84 x3_1 x4_1).f0)) := hcc10 0 _ rfl; have hx10_1 : w11.cell? ⟨go10, (x4_1 : Int).toNat * 5 + 1, none⟩ = some (.string ((rd_T84 x3_1 x4_1).f1)) := hcc10 1 _ rfl; have hx10_2 : w11.cell? ⟨go10, (x4_1 : Int).toNat * 5 + 2, none⟩ = some (.string ((rd_T84 x3_1 x4_1).f2)) := hcc10 2 _ rfl; have hx10_3 : w11.cell? ⟨go10, (x4_1 : Int).toNat * 5 + 3, none⟩ = some (.int .i64 ((rd_T84 x3_1 x4_1).f3)) := hcc10 3 _ rfl; have hx10_4 : w11.cell? ⟨go10, (x4_1 : Int).toNat * 5 + 4, none⟩ = some (ve10_4) := hcc10 4 _ rfl; have hf10_0 : w11.frozen? ⟨go10, (x4_1 : Int).toNat * 5, none⟩ = false := hfr10 0; have hf10_1 : w11.frozen? ⟨go10, (x4_1 : Int).toNat * 5 + 1, none⟩ = false := hfr10 1; have hf10_2 : w11.frozen? ⟨go10, (x4_1 : Int).toNat * 5 + 2, none⟩ = false := hfr10 2; have hf10_3 : w11.frozen? ⟨go10, (x4_1 : Int).toNat * 5 + 3, none⟩ = false := hfr10 3; have hf10_4 : w11.frozen? ⟨go10, (x4_1 : Int).toNat * 5 + 4, none⟩ = false := hfr10 4; clear hcl10 hcc10 hfr10 hM10; replace p10 := eq_true p10; replace q10 := eq_true q10; have n_ := Aside0.mk (Kd.S_mono (ok' := (fun k_ => some k_ ≠ (v318 : Value).ownBlock)) HO_3.out (fun k_ hk => hk.2)); clear HO_3; have HO_3 := n_; clear n_; have HX12 := Aside0.mk (show Kd.S k84 84 w11 w.heap.size (fun k_ => ((fun _ => True)) k_ ∧ ¬ ((fun k_ => some k_ = (v318 : Value).ownBlock)) k_) (.slice (some ⟨go10, 0, none⟩) x3_1.length co10) x3_1 from (by (with_reducible repeat (first | apply Kd.S_alloc | apply Kd.S_drewN | apply Kd.S_drew)); exact Kd.S_mono HO_3.out (fun k_ hk => ⟨trivial, fun e_ => hk e_⟩))); obtain ⟨oki12, ce12, hcl12, hM12, hcc12, hfr12, hoki12, hH12⟩ := Kd.S_elem HX12.out z84 (x4_1 : Int) (od_) (by have h_ : (x4_1 : Int) < ((x3_1.length : Int) : Int) := od_; first | exact h_ | (have e_ := (Kd.S_reads' HO_3.out).1; omega) | simpa using h_); obtain ⟨ve12_4, rfl, ge12_4⟩ := k84_openM hM12; have HP12 := Kd.S_seg hH12 (od_) (by have h_ : (x4_1 : Int) < ((x3_1.length : Int) : Int) := od_; first | exact h_ | (have e_ := (Kd.S_reads' HO_3.out).1; omega) | simpa using h_) (seg := [.int .i64 t313, .string t314, .string t315, .int .i64 t316, v318]) (j := 0) (show 5 ≤ 5 from by decide) (x' := (⟨t313, t314, t315, t316, t317⟩ : S84)) (k84_mkM _ _ _ (⟨t313, t314, t315, t316, t317⟩ : S84) (Kd.R_mono (Kd.R_tight rfl (Kd.R_mono (ok' := fun k_ => ((fun _ => True)) k_ ∧ k_ ≠ go10) (Kd.R_apart' (HO319.out) (Kd.S_typed HO_3.out) (by decide)) (fun k_ hk => ⟨trivial, fun e_ => (hk.2) (by rw [e_]; rfl)⟩))) (fun _ h_ => Or.inr (h_)))) (fun _ hk => hk) (fun k_ hk_ => ((Kd.R_mono (ok' := fun k_ => ((fun _ => True)) k_ ∧ k_ ≠ go10) (Kd.R_apart' (HO319.out) (Kd.S_typed HO_3.out) (by decide)) (fun k_ hk => ⟨trivial, fun e_ => (hk.2) (by rw [e_]; rfl)⟩))).1 k_ hk_.symm); have hx12_0 := hcc12 0 _ rfl; (try simp only [show (k84).sz = 5 from rfl, Nat.mul_one, Nat.add_zero] at hx12_0); have hf12_0 := hfr12 0; (try simp only [show (k84).sz = 5 from rfl, Nat.mul_one, Nat.add_zero] at hf12_0); have hx12_1 := hcc12 1 _ rfl; (try simp only [show (k84).sz = 5 from rfl, Nat.mul_one, Nat.add_zero] at hx12_1); have hf12_1 := hfr12 1; (try simp only [show (k84).sz = 5 from rfl, Nat.mul_one, Nat.add_zero] at hf12_1); have hx12_2 := hcc12 2 _ rfl; (try simp only [show (k84).sz = 5 from rfl, Nat.mul_one, Nat.add_zero] at hx12_2); have hf12_2 := hfr12 2; (try simp only [show (k84).sz = 5 from rfl, Nat.mul_one, Nat.add_zero] at hf12_2); have hx12_3 := hcc12 3 _ rfl; (try simp only [show (k84).sz = 5 from rfl, Nat.mul_one, Nat.add_zero] at hx12_3); have hf12_3 := hfr12 3; (try simp only [show (k84).sz = 5 from rfl, Nat.mul_one, Nat.add_zero] at hf12_3); have hx12_4 := hcc12 4 _ rfl; (try simp only [show (k84).sz = 5 from rfl, Nat.mul_one, Nat.add_zero] at hx12_4); have hf12_4 := hfr12 4; (try simp only [show (k84).sz = 5 from rfl, Nat.mul_one, Nat.add_zero] at hf12_4); clear hcl12 hcc12 hfr12 hM12 hoki12 hH12) | ((with_reducible refine gs_ 84 21 ?_); have hst_v318 := store_one (P := Tryd.prog) (Kd.R_val HO319.out).2; refine store_event (t := 84) (p := 21) (v := ?vo_w13) (w1 := (((((w11.setCell ⟨go10, (x4_1 : Int).toNat * 5, none⟩ (.int .i64 t313)).setCell ⟨go10, (x4_1 : Int).toNat * 5 + 1, none⟩ (.string t314)).setCell ⟨go10, (x4_1 : Int).toNat * 5 + 2, none⟩ (.string t315)).setCell ⟨go10, (x4_1 : Int).toNat * 5 + 3, none⟩ (.int .i64 t316)).setCell ⟨go10, (x4_1 : Int).toNat * 5 + 4, none⟩ (v318))) ?hg ?ho ?hn ?hr ?_; (case ho => rfl); (case hg => rfl); (case hn => rfl); (case hr => first | (go_simp; done) | (go_simp; rfl)); intro w13 hw; have hg : w11.grownBy w13 (some go10) := (by rw [hw]; exact HP12.2); have hp_ : Kd.S k84 84 w13 w.heap.size (fun _ => True) (.slice (some ⟨go10, 0, none⟩) x3_1.length co10) y320 := (by rw [hw, Ny320.out]; exact HP12.1); clear HP12; replace HO_3 := Aside0.mk (hp_); replace HB := Aside0.mk ((by rw [hw]; exact below_set (below_set (below_set (below_set (below_set (HB.out) GB10.out) GB10.out) GB10.out) GB10.out) GB10.out : Below w.heap.size w w13)); clear HO319; clear hg hw hp_))
        go_roundg k1
        case measure => have := HK1.out; omega
        case rel => exact ⟨(y320), (wrap64 (x4_1 + 1)), rf_, H', ⟨by have := HK1.out; omega⟩, ⟨sl_ HO_3⟩, ⟨bl_⟩⟩
       ·rw [if_neg c9] at H
        exact absurd H (by simp)
      ·rw [if_neg c7] at H
       exact absurd H (by simp)
     ·rw [if_neg c6] at H
      have c6b0 := decide_eq_false c6
      clear c6
      obtain rfl := Option.some.inj H
      go_wp2
      go_ret
      exact ⟨_, re_, sl_ HO_3, bl_⟩
  ·rw [if_neg c3] at H
   exact absurd H (by simp)
 ·rw [if_neg c2] at H
  exact absurd H (by simp)

/-! ### laws_toState: function 8 -/
def laws_toState.f (k : Nat) (l0_0 : List (S73)) : Option ((List (S84))) := (laws_toBoxS.f k l0_0).bind fun t324 => (some t324)
theorem laws_toState.mono : ∀ a0 k, LeO (laws_toState.f k a0) (laws_toState.f (k + 1) a0) := by
 intro a0 k
 unfold laws_toState.f
 repeat' first
   | (with_reducible exact laws_toBoxS.mono _ _)
   | (with_reducible first | exact LeO.refl _ | exact LeO.none _ | refine LeO.ite ?_ ?_ | refine LeO.bind ?_ (fun _ => ?_))
   | refine LeO.ite ?_ ?_
   | refine LeO.bind ?_ (fun _ => ?_)
theorem laws_toState.calls (k : Nat) (A0_0 : Option Addr) (c0_0 : Nat) (l0_0 : List (S73)) (r : List (S84)) (w : World) (hr0_0 : Kd.C k73 w A0_0 l0_0.length l0_0) (hc0_0 : l0_0.length ≤ c0_0) (h : laws_toState.f k l0_0 = some r) :
  Calls Tryd.prog 8 #[.agg #[.slice A0_0 l0_0.length c0_0]] w fun e w' => ∃ v0_ : Value, e = .returned (.agg #[v0_]) ∧ Kd.S k84 84 w' w.heap.size (fun _ => True) v0_ r ∧ Below w.heap.size w w' := by
 have hu27 := Tryd.underlying27
 have hu37 := Tryd.underlying37
 have HR0_0 := Aside0.mk hr0_0
 have HC0_0 := Aside0.mk hc0_0
 clear hr0_0 hc0_0
 have HB := Aside0.mk (Below.refl w.heap.size w)
 have H := h; unfold laws_toState.f at H
 clear h
 obtain ⟨t324, A2, H⟩ := bs_ H
 obtain rfl := Option.some.inj H
 go_enter Tryd.func8, Tryd.ntmps8
 go_wp2_with (first | ((with_reducible refine gd_ 1 ?_); refine bx_ 1 27 #[.slice A0_0 l0_0.length c0_0] ?_; intro gb321 hg w3 hbox hb; have BK321 := Aside0.mk (hbox); have GE321 := ge_ hg HB; replace HB := hb_ HB hb; clear hb hbox hg) | ((with_reducible refine gd_ 2 ?_); refine bx_ 2 37 #[.slice none 0 0] ?_; intro gb322 hg w4 hbox hb; have BK322 := Aside0.mk (hbox); have GE322 := ge_ hg HB; replace HB := hb_ HB hb; have NB321_322 := nl_ hg BK321; have NB322_321 := ng_ hg BK321; replace BK321 := bb_ BK321 hb; clear hb hbox hg) | ((with_reducible refine gd_ 3 ?_); refine bx_ 3 37 #[.slice none 0 0] ?_; intro gb323 hg w5 hbox hb; have BK323 := Aside0.mk (hbox); have GE323 := ge_ hg HB; replace HB := hb_ HB hb; have NB321_323 := nl_ hg BK321; have NB323_321 := ng_ hg BK321; replace BK321 := bb_ BK321 hb; have NB322_323 := nl_ hg BK322; have NB323_322 := ng_ hg BK322; replace BK322 := bb_ BK322 hb; clear hb hbox hg; have hnb6 := NB321_322.out; have hnc6 := NB322_321.out; have hnb7 := NB321_323.out; have hnc7 := NB323_321.out; have hcz8 := blk_cell BK321.out; have hfz8 := blk_frozen BK321.out) | ((with_reducible refine gc_ 28 ?_); refine gl_ (some 6) Tryd.func28 #[.slice A0_0 l0_0.length c0_0] ?_; (with_reducible refine (laws_toBoxS.calls k _ _ l0_0 t324 _ ?side1 ?side2 A2.out).mono ?_); (case side1 => exact (Kd.C_below HR0_0.out HB.out)); (case side2 => exact HC0_0.out); rintro e w9 ⟨v325, rfl, ho0, hb⟩; refine ⟨_, rfl, ?_⟩; have HO326 := Aside0.mk (Kd.S_lower ho0 (below_size HB.out)); replace BK322 := bb_ BK322 hb; replace BK323 := bb_ BK323 hb; replace HB := hb_ HB hb; try clear hb; try clear ho0; obtain ⟨Ao10, co10, rfl⟩ := Kd.S_slice HO326.out; have hnb11 := NB323_322.out; have hnc11 := NB322_323.out; have hcz12 := blk_cell BK323.out; have hfz12 := blk_frozen BK323.out; have hcz13 := blk_cell BK322.out; have hfz13 := blk_frozen BK322.out))
 refine bodyPost_ret (results_cell_row rfl _ _ gb322 37 #[.slice Ao10 t324.length co10] (0, 0) _ rfl (by (with_reducible repeat (first | refine blk_drewN ?_ _ | refine blk_drew ?_ | refine blk_alloc ?_ _)); refine blk_put (cs := #[.slice none 0 0]) ?_ 0 _ rfl; (with_reducible repeat (first | refine blk_drewN ?_ _ | refine blk_drew ?_ | refine blk_alloc ?_ _)); refine blk_far ?_ NB322_323.out _; (with_reducible repeat (first | refine blk_drewN ?_ _ | refine blk_drew ?_ | refine blk_alloc ?_ _)); exact BK322.out) Tryd.underlying37 rfl (by kernel_rfl)) rfl ?_
 exact ⟨_, re_, by (with_reducible repeat (first | apply Kd.S_alloc | apply Kd.S_drewN | apply Kd.S_drew)); exact Kd.S_mono (Kd.S_far (p := ⟨gb322, 0, none⟩) (Kd.S_far (p := ⟨gb323, 0, none⟩) (Kd.S_types (Kd.S_types HO326.out BK323.out (by decide)) BK322.out (by decide)) (fun _ hk => hk.1.2) (.slice Ao10 t324.length co10)) (fun _ hk => hk.2) (.slice Ao10 t324.length co10)) (fun _ hk => trivial), bl_⟩

/-! ### slices_Clone_string_string: function 55 -/
def slices_Clone_string_string.f (l0 : List ByteArray) : Option (List ByteArray) := (some (([] : List ByteArray) : List ByteArray)).bind fun y327 => (if y327.length + l0.length < 8796093022208 then (some (y327 ++ l0)) else (none))
theorem slices_Clone_string_string.calls (A0 : Option Addr) (c0 : Nat) (l0 : List ByteArray) (r : List ByteArray) (w : World) (hr0 : Kd.C Kd.string w A0 l0.length l0) (hc0 : l0.length ≤ c0) (h : slices_Clone_string_string.f l0 = some r) :
  Calls Tryd.prog 55 #[.slice A0 l0.length c0] w fun e w' => ∃ v0_ : Value, e = .returned (v0_) ∧ Kd.R Kd.string 9 w' w.heap.size (fun _ => True) v0_ r ∧ Below w.heap.size w w' := by
 have hqn_ : ∀ (w : World) (a : Option Addr) (n c n' c' : Nat), (binOp .eql 22 (.slice a n c) (.slice none n' c')).run Tryd.prog w = .ok (.bool a.isNone) w := fun w a n c n' c' => Lib.run_eql_slice_nil w 22 _ a n c n' c' Tryd.underlying22
 cases A0 with
 | none =>
  have hl0 : l0 = [] := by
   rcases Nat.eq_zero_or_pos l0.length with h0 | h0
   ·exact List.eq_nil_of_length_eq_zero h0
   ·obtain ⟨ad, e, _⟩ := hr0.2.2 h0
    cases e
  subst hl0
  obtain rfl : r = [] := by
   simp [slices_Clone_string_string.f] at h
   exact h
  clear h
  go_enter Tryd.func55, Tryd.ntmps55
  go_wp2
  go_ret
  exact ⟨_, rfl, Kd.R_nil _ _ _ _ _, Below.refl _ _⟩
 | some a0_ =>
  have HR0 := Aside0.mk hr0
  have HC0 := Aside0.mk hc0
  clear hr0 hc0
  have HB := Aside0.mk (Below.refl w.heap.size w)
  have H := h; unfold slices_Clone_string_string.f at H
  clear h
  obtain ⟨y327, hy327⟩ : ∃ y_ : List ByteArray, y_ = (([] : List ByteArray)) := ⟨_, rfl⟩
  replace H : (if y327.length + l0.length < 8796093022208 then (some (y327 ++ l0)) else (none)) = some r := by subst hy327; first | with_reducible exact H | with_reducible exact (Option.bind_some _ _).symm.trans H | exact H
  have Ny327 := Aside0.mk hy327
  clear hy327
  by_cases c2 : y327.length + l0.length < 8796093022208
  ·rw [if_pos c2] at H
   have LMc2 := Aside0.mk c2
   clear c2
   obtain ⟨y330, hy330⟩ : ∃ y_ : List ByteArray, y_ = (y327 ++ l0) := ⟨_, rfl⟩
   replace H : (some y330) = some r := by subst hy330; first | with_reducible exact H | with_reducible exact (Option.bind_some _ _).symm.trans H | exact H
   have Ny330 := Aside0.mk hy330
   clear hy330
   obtain rfl := Option.some.inj H
   go_enter Tryd.func55, Tryd.ntmps55
   go_wp2_with (first | ((with_reducible refine gd_ 5 ?_); refine Kd.R_lit Kd.string _ 9 ?hg (N := 5) ?hd (xs := ([] : List ByteArray)) (inner := []) (ok := fun _ => True) (okp := fun _ => True) ?hr ?hp (fun _ hk => hk) trivial (Below.refl _ _) (Nat.le_refl _) (by simp) ?_; (case hd => rfl); (case hg => rfl); (case hr => first | (go_simp; done) | (go_simp; rfl)); (case hp => exact (Reps.none _ _)); intro v328 w3 ho4 hb hg_ hnew_; clear hg_ hnew_; (first | rw [← Ny327.out] at ho4 | (simp only [Int.reduceToNat] at ho4; rw [← Ny327.out] at ho4)); have HO329 := Aside0.mk (Kd.R_lower ho4 (below_size HB.out)); replace HB := hb_ HB hb; clear hb ho4) | ((with_reducible refine gate_builtin (b := .append) (xs := #[.tmp 5, .tmp 6]) rfl ?_); at_builtin; refine Kd.R_append_rows Kd.string (w0 := w) w.heap.size rfl (.tmp 5) (.tmp 6) 22 9 (.string ⟨#[]⟩) 16 rfl Tryd.underlying22 info9 rfl (by decide) (by omega) v328 y327 l0 _ _ _ (fun _ => True) (fun _ => False) rfl rfl ?aO ?aR (fun _ _ h => h) (fun _ h => h.elim) ?aF ?aB ?aS ?aL ?_; (case aR => exact (Kd.C_below HR0.out HB.out)); (case aB => exact HB.out); (case aF => exact (fun _ _ => trivial)); (case aO => exact HO329.out); (case aS => exact (below_size HB.out)); (case aL => have := LMc2.out; omega); intro v331 w5 ho hb hg hat; rw [← Ny330.out] at ho; replace HB := Aside0.mk (hb); have HO332 := Aside0.mk (ho); clear HO329; clear ho hb hg hat))
   go_ret
   exact ⟨_, re_, rl_ HO332, bl_⟩
  ·rw [if_neg c2] at H
   exact absurd H (by simp)

/-! ### impl_cloneBring: function 29 -/
def impl_cloneBring.f (a0_0 : Int) (a0_1 : ByteArray) (l0_2 : List ByteArray) (l0_3 : List ByteArray) : Option (Int × ByteArray × List ByteArray × List ByteArray) := (slices_Clone_string_string.f l0_2).bind fun t335 => ((slices_Clone_string_string.f l0_3).bind fun t338 => (some (a0_0, a0_1, t335, t338)))
theorem impl_cloneBring.calls (a0_0 : Int) (a0_1 : ByteArray) (A0_2 : Option Addr) (c0_2 : Nat) (l0_2 : List ByteArray) (A0_3 : Option Addr) (c0_3 : Nat) (l0_3 : List ByteArray) (r1 : Int) (r2 : ByteArray) (r3 : List ByteArray) (r4 : List ByteArray) (w : World) (hr0_2 : Kd.C Kd.string w A0_2 l0_2.length l0_2) (hc0_2 : l0_2.length ≤ c0_2) (hr0_3 : Kd.C Kd.string w A0_3 l0_3.length l0_3) (hc0_3 : l0_3.length ≤ c0_3) (h : impl_cloneBring.f a0_0 a0_1 l0_2 l0_3 = some (r1, r2, r3, r4)) :
  Calls Tryd.prog 29 #[.agg #[.int .i64 a0_0, .string a0_1, .slice A0_2 l0_2.length c0_2, .slice A0_3 l0_3.length c0_3]] w fun e w' => ∃ v2_ v3_ : Value, e = .returned (.agg #[.int .i64 r1, .string r2, v2_, v3_]) ∧ Kd.R Kd.string 9 w' w.heap.size (fun k_ => some k_ ≠ (v3_ : Value).ownBlock) v2_ r3 ∧ Kd.R Kd.string 9 w' w.heap.size (fun k_ => some k_ ≠ (v2_ : Value).ownBlock) v3_ r4 ∧ Below w.heap.size w w' := by
 have hu30 := Tryd.underlying30
 have HR0_2 := Aside0.mk hr0_2
 have HC0_2 := Aside0.mk hc0_2
 clear hr0_2 hc0_2
 have HR0_3 := Aside0.mk hr0_3
 have HC0_3 := Aside0.mk hc0_3
 clear hr0_3 hc0_3
 have HB := Aside0.mk (Below.refl w.heap.size w)
 have H := h; unfold impl_cloneBring.f at H
 clear h
 obtain ⟨t335, A2, H⟩ := bs_ H
 obtain ⟨t338, A3, H⟩ := bs_ H
 simp only [Option.some.injEq, Prod.mk.injEq] at H
 obtain ⟨rfl, rfl, rfl, rfl⟩ := H
 go_enter Tryd.func29, Tryd.ntmps29
 go_wp2_with (first | (refine lr_ 30 1 BK333 hu30 ?_) | ((with_reducible refine gd_ 1 ?_); refine bx_ 1 30 #[.int .i64 a0_0, .string a0_1, .slice A0_2 l0_2.length c0_2, .slice A0_3 l0_3.length c0_3] ?_; intro gb333 hg w4 hbox hb; have BK333 := Aside0.mk (hbox); have GE333 := ge_ hg HB; replace HB := hb_ HB hb; clear hb hbox hg) | ((with_reducible refine gd_ 2 ?_); refine bx_ 2 30 #[.int .i64 0, .string (⟨#[]⟩ : ByteArray), .slice none 0 0, .slice none 0 0] ?_; intro gb334 hg w5 hbox hb; have BK334 := Aside0.mk (hbox); have GE334 := ge_ hg HB; replace HB := hb_ HB hb; have NB333_334 := nl_ hg BK333; have NB334_333 := ng_ hg BK333; replace BK333 := bb_ BK333 hb; clear hb hbox hg; have hnb6 := NB333_334.out; have hnc6 := NB334_333.out; have hcz7 := blk_cell BK333.out; have hfz7 := blk_frozen BK333.out) | ((with_reducible refine gc_ 55 ?_); refine gl_ (some 5) Tryd.func55 #[.slice A0_2 l0_2.length c0_2] ?_; (with_reducible refine (slices_Clone_string_string.calls _ _ l0_2 t335 _ ?side1 ?side2 A2.out).mono ?_); (case side1 => exact (Kd.C_below HR0_2.out HB.out)); (case side2 => exact HC0_2.out); rintro e w8 ⟨v336, rfl, ho0, hb⟩; refine ⟨_, rfl, ?_⟩; have HO337 := Aside0.mk (Kd.R_lower ho0 (below_size HB.out)); replace BK333 := bb_ BK333 hb; replace BK334 := bb_ BK334 hb; replace HB := hb_ HB hb; try clear hb; try clear ho0; obtain ⟨Ao9, co9, rfl⟩ := Kd.R_slice HO337.out) | ((with_reducible refine gs_ 22 6 ?_); refine sp_ 22 6 gb333 2 (.slice Ao9 t335.length co9) #[.int .i64 a0_0, .string a0_1, .slice Ao9 t335.length co9, .slice A0_3 l0_3.length c0_3] BK333 ?_; intro w10 hbox hbut; replace HO337 := rs_ hbut HO337 BK333; replace BK333 := Aside0.mk (hbox); replace BK334 := bo_ hbut NB334_333 BK334; replace HB := hs_ HB hbut GE333; clear hbox hbut; have hcz11 := blk_cell BK333.out; have hfz11 := blk_frozen BK333.out) | ((with_reducible refine gc_ 55 ?_); refine gl_ (some 9) Tryd.func55 #[.slice A0_3 l0_3.length c0_3] ?_; (with_reducible refine (slices_Clone_string_string.calls _ _ l0_3 t338 _ ?side1 ?side2 A3.out).mono ?_); (case side1 => exact (Kd.C_below HR0_3.out HB.out)); (case side2 => exact HC0_3.out); rintro e w12 ⟨v339, rfl, ho0, hb⟩; refine ⟨_, rfl, ?_⟩; have HO340 := Aside0.mk (Kd.R_lower (Kd.R_new' ho0 (Kd.R_lt HO337.out)) (below_size HB.out)); replace HO337 := Aside0.mk (Kd.R_elder' HO337.out (Kd.R_base ho0) hb); replace BK333 := bb_ BK333 hb; replace BK334 := bb_ BK334 hb; replace HB := hb_ HB hb; try clear hb; try clear ho0; obtain ⟨Ao13, co13, rfl⟩ := Kd.R_slice HO340.out) | ((with_reducible refine gs_ 22 10 ?_); refine sp_ 22 10 gb333 3 (.slice Ao13 t338.length co13) #[.int .i64 a0_0, .string a0_1, .slice Ao9 t335.length co9, .slice Ao13 t338.length co13] BK333 ?_; intro w14 hbox hbut; replace HO337 := rs_ hbut HO337 BK333; replace HO340 := rs_ hbut HO340 BK333; replace BK333 := Aside0.mk (hbox); replace BK334 := bo_ hbut NB334_333 BK334; replace HB := hs_ HB hbut GE333; clear hbox hbut; have hcz15 := blk_cell BK333.out; have hfz15 := blk_frozen BK333.out) | ((with_reducible refine gs_ 30 2 ?_); refine sp_ 30 2 gb334 0 (.agg #[.int .i64 a0_0, .string a0_1, .slice Ao9 t335.length co9, .slice Ao13 t338.length co13]) #[.int .i64 a0_0, .string a0_1, .slice Ao9 t335.length co9, .slice Ao13 t338.length co13] BK334 ?_; intro w16 hbox hbut; replace HO337 := rs_ hbut HO337 BK334; replace HO340 := rs_ hbut HO340 BK334; replace BK333 := bo_ hbut NB333_334 BK333; replace BK334 := Aside0.mk (hbox); replace HB := hs_ HB hbut GE334; clear hbox hbut))
 refine bodyPost_ret (results_cell_row rfl _ _ gb334 30 #[.int .i64 a0_0, .string a0_1, .slice Ao9 t335.length co9, .slice Ao13 t338.length co13] (0, 0) _ rfl (kl_ BK334) Tryd.underlying30 rfl (by kernel_rfl)) rfl ?_
 exact ⟨_, _, re_, rm_ HO337, rm_ HO340, bl_⟩

/-! ### impl_hello: function 35 -/
def impl_hello.f  : Option (Int × ByteArray × List ByteArray × List ByteArray) := some (1, (⟨#[]⟩ : ByteArray), ([] : List ByteArray), ([] : List ByteArray))
theorem impl_hello.calls  (r1 : Int) (r2 : ByteArray) (r3 : List ByteArray) (r4 : List ByteArray) (w : World) (h : impl_hello.f  = some (r1, r2, r3, r4)) :
  Calls Tryd.prog 35 #[] w fun e w' => ∃ v2_ v3_ : Value, e = .returned (.agg #[.int .i64 r1, .string r2, v2_, v3_]) ∧ Kd.R Kd.string 9 w' w.heap.size (fun k_ => some k_ ≠ (v3_ : Value).ownBlock) v2_ r3 ∧ Kd.R Kd.string 9 w' w.heap.size (fun k_ => some k_ ≠ (v2_ : Value).ownBlock) v3_ r4 ∧ Below w.heap.size w w' := by
 have hu30 := Tryd.underlying30
 have HB := Aside0.mk (Below.refl w.heap.size w)
 have H := h; unfold impl_hello.f at H
 clear h
 simp only [Option.some.injEq, Prod.mk.injEq] at H
 obtain ⟨rfl, rfl, rfl, rfl⟩ := H
 go_enter Tryd.func35, Tryd.ntmps35
 go_wp2_with (first | ((with_reducible refine gd_ 0 ?_); refine bx_ 0 30 #[.int .i64 0, .string (⟨#[]⟩ : ByteArray), .slice none 0 0, .slice none 0 0] ?_; intro gb341 hg w1 hbox hb; have BK341 := Aside0.mk (hbox); have GE341 := ge_ hg HB; replace HB := hb_ HB hb; clear hb hbox hg) | ((with_reducible refine gs_ 30 0 ?_); refine sp_ 30 0 gb341 0 (.agg #[.int .i64 1, .string (⟨#[]⟩ : ByteArray), .slice none 0 0, .slice none 0 0]) #[.int .i64 1, .string (⟨#[]⟩ : ByteArray), .slice none 0 0, .slice none 0 0] BK341 ?_; intro w2 hbox hbut; replace BK341 := Aside0.mk (hbox); replace HB := hs_ HB hbut GE341; clear hbox hbut))
 refine bodyPost_ret (results_cell_row rfl _ _ gb341 30 #[.int .i64 1, .string (⟨#[]⟩ : ByteArray), .slice none 0 0, .slice none 0 0] (0, 0) _ rfl (kl_ BK341) Tryd.underlying30 rfl (by kernel_rfl)) rfl ?_
 exact ⟨_, _, re_, ni_, ni_, bl_⟩

/-! ### stringslite_HasPrefix: function 82 -/
def stringslite_HasPrefix.f (a0 : ByteArray) (a1 : ByteArray) : Option (Bool) := if (a0.size : Int) ≥ (a1.size : Int) then (if 0 ≤ (a1.size : Int) then (if (a1.size : Int) ≤ (a0.size : Int) then (some ((a0.extract 0 ((a1.size : Int) : Int).toNat).toList == a1.toList)) else (none)) else (none)) else (some false)
theorem stringslite_HasPrefix.calls (a0 : ByteArray) (a1 : ByteArray) (r : Bool) (w : World) (h : stringslite_HasPrefix.f a0 a1 = some r) :
  Calls Tryd.prog 82 #[.string a0, .string a1] w fun e w' => e = .returned (.bool r) ∧ Drawn0 w w' := by
 have H := h; unfold stringslite_HasPrefix.f at H
 clear h
 by_cases c3 : (a0.size : Int) ≥ (a1.size : Int)
 ·rw [if_pos c3] at H
  have c3b0 : decide ((a1.size : Int) ≤ (a0.size : Int)) = true := decide_eq_true c3
  have c3b1 : decide (a1.size ≤ a0.size) = true := decide_eq_true (Int.ofNat_le.mp c3)
  clear c3
  by_cases c4 : 0 ≤ (a1.size : Int)
  ·rw [if_pos c4] at H
   have c4b0 := eq_true c4
   have c4b1 := decide_eq_true c4
   clear c4
   by_cases c5 : (a1.size : Int) ≤ (a0.size : Int)
   ·rw [if_pos c5] at H
    have c5b0 := eq_true c5
    have c5b1 := decide_eq_true c5
    clear c5
    obtain rfl := Option.some.inj H
    go_enter Tryd.func82, Tryd.ntmps82
    go_wp2
    go_ret
    exact ⟨rf_, dn_⟩
   ·rw [if_neg c5] at H
    exact absurd H (by simp)
  ·rw [if_neg c4] at H
   exact absurd H (by simp)
 ·rw [if_neg c3] at H
  have c3b0 : decide ((a1.size : Int) ≤ (a0.size : Int)) = false := decide_eq_false c3
  have c3b1 : decide (a1.size ≤ a0.size) = false := decide_eq_false (fun h => c3 (Int.ofNat_le.mpr h))
  clear c3
  obtain rfl := Option.some.inj H
  go_enter Tryd.func82, Tryd.ntmps82
  go_wp2
  go_ret
  exact ⟨rf_, dn_⟩

/-! ### stringslite_TrimPrefix: function 77 -/
def stringslite_TrimPrefix.f (a0 : ByteArray) (a1 : ByteArray) : Option (ByteArray) := (stringslite_HasPrefix.f a0 a1).bind fun t342 => (if t342 = true then (if 0 ≤ (a1.size : Int) then (if (a1.size : Int) ≤ (a0.size : Int) then (some (a0.extract ((a1.size : Int) : Int).toNat a0.size)) else (none)) else (none)) else (some a0))
theorem stringslite_TrimPrefix.calls (a0 : ByteArray) (a1 : ByteArray) (r : ByteArray) (w : World) (h : stringslite_TrimPrefix.f a0 a1 = some r) :
  Calls Tryd.prog 77 #[.string a0, .string a1] w fun e w' => e = .returned (.string r) ∧ Drawn0 w w' := by
 have H := h; unfold stringslite_TrimPrefix.f at H
 clear h
 obtain ⟨t342, A3, H⟩ := bs_ H
 by_cases c4 : t342 = true
 ·subst c4
  (try rw [if_pos rfl] at H)
  by_cases c5 : 0 ≤ (a1.size : Int)
  ·rw [if_pos c5] at H
   have c5b0 := eq_true c5
   have c5b1 := decide_eq_true c5
   clear c5
   by_cases c6 : (a1.size : Int) ≤ (a0.size : Int)
   ·rw [if_pos c6] at H
    have c6b0 := eq_true c6
    have c6b1 := decide_eq_true c6
    clear c6
    obtain rfl := Option.some.inj H
    go_enter Tryd.func77, Tryd.ntmps77
    go_wp2_with (first | ((with_reducible refine gc_ 82 ?_); refine gl_ (some 7) Tryd.func82 #[.string a0, .string a1] ?_; (with_reducible refine (stringslite_HasPrefix.calls a0 a1 true _ A3.out).mono ?_); rintro e w' ⟨rfl, ⟨nd, rfl⟩⟩; refine ⟨_, rfl, ?_⟩))
    go_ret
    exact ⟨rf_, dn_⟩
   ·rw [if_neg c6] at H
    exact absurd H (by simp)
  ·rw [if_neg c5] at H
   exact absurd H (by simp)
 ·replace c4 := Bool.eq_false_iff.mpr c4
  subst c4
  (try rw [if_neg (show ¬ (false = true) by decide)] at H)
  obtain rfl := Option.some.inj H
  go_enter Tryd.func77, Tryd.ntmps77
  go_wp2_with (first | ((with_reducible refine gc_ 82 ?_); refine gl_ (some 7) Tryd.func82 #[.string a0, .string a1] ?_; (with_reducible refine (stringslite_HasPrefix.calls a0 a1 false _ A3.out).mono ?_); rintro e w' ⟨rfl, ⟨nd, rfl⟩⟩; refine ⟨_, rfl, ?_⟩))
  go_ret
  exact ⟨rf_, dn_⟩

/-! ### strings_TrimPrefix: function 68 -/
def strings_TrimPrefix.f (a0 : ByteArray) (a1 : ByteArray) : Option (ByteArray) := (stringslite_TrimPrefix.f a0 a1).bind fun t343 => (some t343)
theorem strings_TrimPrefix.calls (a0 : ByteArray) (a1 : ByteArray) (r : ByteArray) (w : World) (h : strings_TrimPrefix.f a0 a1 = some r) :
  Calls Tryd.prog 68 #[.string a0, .string a1] w fun e w' => e = .returned (.string r) ∧ Drawn0 w w' := by
 have H := h; unfold strings_TrimPrefix.f at H
 clear h
 obtain ⟨t343, A3, H⟩ := bs_ H
 obtain rfl := Option.some.inj H
 go_enter Tryd.func68, Tryd.ntmps68
 go_wp2_with (first | ((with_reducible refine gc_ 77 ?_); refine gl_ (some 7) Tryd.func77 #[.string a0, .string a1] ?_; (with_reducible refine (stringslite_TrimPrefix.calls a0 a1 t343 _ A3.out).mono ?_); rintro e w' ⟨rfl, ⟨nd, rfl⟩⟩; refine ⟨_, rfl, ?_⟩))
 go_ret
 exact ⟨rf_, dn_⟩

/-! ### impl_UndotLine: function 56 -/
def impl_UndotLine.f (a0 : ByteArray) : Option (ByteArray × Bool) := if a0.toList = ([46] : List UInt8) then (some ((⟨#[]⟩ : ByteArray), false)) else ((strings_TrimPrefix.f a0 (⟨#[46]⟩ : ByteArray)).bind fun t344 => (some (t344, true)))
theorem impl_UndotLine.calls (a0 : ByteArray) (r1 : ByteArray) (r2 : Bool) (w : World) (h : impl_UndotLine.f a0 = some (r1, r2)) :
  Calls Tryd.prog 56 #[.string a0] w fun e w' => e = .returned (.tuple #[.string r1, .bool r2]) ∧ Drawn0 w w' := by
 have H := h; unfold impl_UndotLine.f at H
 clear h
 by_cases c2 : a0.toList = ([46] : List UInt8)
 ·rw [if_pos c2] at H
  have c2b0 := beq_iff_eq.mpr c2
  have c2b1 := bne_eq_false_iff_eq.mpr c2
  clear c2
  simp only [Option.some.injEq, Prod.mk.injEq] at H
  obtain ⟨rfl, rfl⟩ := H
  go_enter Tryd.func56, Tryd.ntmps56
  go_wp2
  go_ret2
  exact ⟨rf_, dn_⟩
 ·rw [if_neg c2] at H
  have c2b0 := beq_eq_false_iff_ne.mpr c2
  have c2b1 := bne_iff_ne.mpr c2
  obtain ⟨t344, A3, H⟩ := bs_ H
  simp only [Option.some.injEq, Prod.mk.injEq] at H
  obtain ⟨rfl, rfl⟩ := H
  go_enter Tryd.func56, Tryd.ntmps56
  go_wp2_with (first | ((with_reducible refine gc_ 68 ?_); refine gl_ (some 7) Tryd.func68 #[.string a0, .string (⟨#[46]⟩ : ByteArray)] ?_; (with_reducible refine (strings_TrimPrefix.calls a0 (⟨#[46]⟩ : ByteArray) t344 _ A3.out).mono ?_); rintro e w' ⟨rfl, ⟨nd, rfl⟩⟩; refine ⟨_, rfl, ?_⟩))
  go_ret2
  exact ⟨rf_, dn_⟩

/-! ### impl_Traced: function 69 -/
def impl_Traced.f (a0 : ByteArray) (a1 : ByteArray) (a2 : ByteArray) : Option (ByteArray) := if 6 + a1.size ≤ 9223372036854775807 then (if ((⟨#[102, 114, 111, 109, 58, 32]⟩ : ByteArray) ++ a1).size + 5 ≤ 9223372036854775807 then (if (((⟨#[102, 114, 111, 109, 58, 32]⟩ : ByteArray) ++ a1) ++ (⟨#[10, 116, 111, 58, 32]⟩ : ByteArray)).size + a2.size ≤ 9223372036854775807 then (if ((((⟨#[102, 114, 111, 109, 58, 32]⟩ : ByteArray) ++ a1) ++ (⟨#[10, 116, 111, 58, 32]⟩ : ByteArray)) ++ a2).size + 1 ≤ 9223372036854775807 then (if (((((⟨#[102, 114, 111, 109, 58, 32]⟩ : ByteArray) ++ a1) ++ (⟨#[10, 116, 111, 58, 32]⟩ : ByteArray)) ++ a2) ++ (⟨#[10]⟩ : ByteArray)).size + a0.size ≤ 9223372036854775807 then (some ((((((⟨#[102, 114, 111, 109, 58, 32]⟩ : ByteArray) ++ a1) ++ (⟨#[10, 116, 111, 58, 32]⟩ : ByteArray)) ++ a2) ++ (⟨#[10]⟩ : ByteArray)) ++ a0)) else (none)) else (none)) else (none)) else (none)) else (none)
theorem impl_Traced.calls (a0 : ByteArray) (a1 : ByteArray) (a2 : ByteArray) (r : ByteArray) (w : World) (h : impl_Traced.f a0 a1 a2 = some r) :
  Calls Tryd.prog 69 #[.string a0, .string a1, .string a2] w fun e w' => e = .returned (.string r) ∧ Drawn0 w w' := by
 have H := h; unfold impl_Traced.f at H
 clear h
 by_cases c4 : 6 + a1.size ≤ 9223372036854775807
 ·rw [if_pos c4] at H
  have c4b0 := eq_true c4
  have c4b1 := decide_eq_true c4
  try have c4b2 : (9223372036854775807 < 6 + a1.size) = False := eq_false (Nat.not_lt.2 c4)
  by_cases c5 : ((⟨#[102, 114, 111, 109, 58, 32]⟩ : ByteArray) ++ a1).size + 5 ≤ 9223372036854775807
  ·rw [if_pos c5] at H
   have c5b0 := eq_true c5
   have c5b1 := decide_eq_true c5
   try have c5b2 : (9223372036854775807 < ((⟨#[102, 114, 111, 109, 58, 32]⟩ : ByteArray) ++ a1).size + 5) = False := eq_false (Nat.not_lt.2 c5)
   have c5n := c5
   (try simp only [ByteArray.size_append, show (⟨#[102, 114, 111, 109, 58, 32]⟩ : ByteArray).size = 6 from rfl] at c5n)
   have c5nb0 := eq_true c5n
   have c5nb1 := decide_eq_true c5n
   have c5nb2 := eq_false (Nat.not_lt.2 c5n)
   by_cases c6 : (((⟨#[102, 114, 111, 109, 58, 32]⟩ : ByteArray) ++ a1) ++ (⟨#[10, 116, 111, 58, 32]⟩ : ByteArray)).size + a2.size ≤ 9223372036854775807
   ·rw [if_pos c6] at H
    have c6b0 := eq_true c6
    have c6b1 := decide_eq_true c6
    try have c6b2 : (9223372036854775807 < (((⟨#[102, 114, 111, 109, 58, 32]⟩ : ByteArray) ++ a1) ++ (⟨#[10, 116, 111, 58, 32]⟩ : ByteArray)).size + a2.size) = False := eq_false (Nat.not_lt.2 c6)
    have c6n := c6
    (try simp only [ByteArray.size_append, show (⟨#[10, 116, 111, 58, 32]⟩ : ByteArray).size = 5 from rfl, show (⟨#[102, 114, 111, 109, 58, 32]⟩ : ByteArray).size = 6 from rfl] at c6n)
    have c6nb0 := eq_true c6n
    have c6nb1 := decide_eq_true c6n
    have c6nb2 := eq_false (Nat.not_lt.2 c6n)
    by_cases c7 : ((((⟨#[102, 114, 111, 109, 58, 32]⟩ : ByteArray) ++ a1) ++ (⟨#[10, 116, 111, 58, 32]⟩ : ByteArray)) ++ a2).size + 1 ≤ 9223372036854775807
    ·rw [if_pos c7] at H
     have c7b0 := eq_true c7
     have c7b1 := decide_eq_true c7
     try have c7b2 : (9223372036854775807 < ((((⟨#[102, 114, 111, 109, 58, 32]⟩ : ByteArray) ++ a1) ++ (⟨#[10, 116, 111, 58, 32]⟩ : ByteArray)) ++ a2).size + 1) = False := eq_false (Nat.not_lt.2 c7)
     have c7n := c7
     (try simp only [ByteArray.size_append, show (⟨#[10, 116, 111, 58, 32]⟩ : ByteArray).size = 5 from rfl, show (⟨#[102, 114, 111, 109, 58, 32]⟩ : ByteArray).size = 6 from rfl] at c7n)
     have c7nb0 := eq_true c7n
     have c7nb1 := decide_eq_true c7n
     have c7nb2 := eq_false (Nat.not_lt.2 c7n)
     by_cases c8 : (((((⟨#[102, 114, 111, 109, 58, 32]⟩ : ByteArray) ++ a1) ++ (⟨#[10, 116, 111, 58, 32]⟩ : ByteArray)) ++ a2) ++ (⟨#[10]⟩ : ByteArray)).size + a0.size ≤ 9223372036854775807
     ·rw [if_pos c8] at H
      have c8b0 := eq_true c8
      have c8b1 := decide_eq_true c8
      try have c8b2 : (9223372036854775807 < (((((⟨#[102, 114, 111, 109, 58, 32]⟩ : ByteArray) ++ a1) ++ (⟨#[10, 116, 111, 58, 32]⟩ : ByteArray)) ++ a2) ++ (⟨#[10]⟩ : ByteArray)).size + a0.size) = False := eq_false (Nat.not_lt.2 c8)
      have c8n := c8
      (try simp only [ByteArray.size_append, show (⟨#[10]⟩ : ByteArray).size = 1 from rfl, show (⟨#[10, 116, 111, 58, 32]⟩ : ByteArray).size = 5 from rfl, show (⟨#[102, 114, 111, 109, 58, 32]⟩ : ByteArray).size = 6 from rfl] at c8n)
      have c8nb0 := eq_true c8n
      have c8nb1 := decide_eq_true c8n
      have c8nb2 := eq_false (Nat.not_lt.2 c8n)
      obtain rfl := Option.some.inj H
      go_enter Tryd.func69, Tryd.ntmps69
      go_wp2
      go_ret
      exact ⟨rf_, dn_⟩
     ·rw [if_neg c8] at H
      exact absurd H (by simp)
    ·rw [if_neg c7] at H
     exact absurd H (by simp)
   ·rw [if_neg c6] at H
    exact absurd H (by simp)
  ·rw [if_neg c5] at H
   exact absurd H (by simp)
 ·rw [if_neg c4] at H
  exact absurd H (by simp)

end Go.Proofs.YtdokcckgnamnfaaDoor.QFnExactStepBring
