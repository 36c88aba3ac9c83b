-- Written by a program of this session (myprint) out of Lean's own print of the translation. Lean checks it.
import Derived.Test.YtdokcckgnamnfaaDoorShorter
import Derived.Test.YtdokcckgnamnfaaDoorHold
import Derived.Test.YtdokcckgnamnfaaDoorQFnExactStepBringx0
import Derived.Test.YtdokcckgnamnfaaDoorQFnExactStepBringx2
namespace Go.Proofs.YtdokcckgnamnfaaDoor.QFnExactStepBring
open Go.Proofs.YtdokcckgnamnfaaDoorF
open Go.RowKit Go.Proofs.YtdokcckgnamnfaaDoorW.PrintWords Go.Proofs.YtdokcckgnamnfaaDoorW.PrintLast Go.Proofs.YtdokcckgnamnfaaDoorW.PrintMore
attribute [local go_sem] max2_int min2_int max_two min_two max_three min_three max_four min_four   -- for this text's walks alone
set_option maxHeartbeats 8000000
set_option maxRecDepth 100000
set_option linter.unusedVariables false
set_option linter.unusedSimpArgs false

/-! ### spec_l19Data: function 20 -/
def spec_l19Data.l0 : Nat → List (S65) → List (S65) → Int → Int → ByteArray → List ByteArray → List ByteArray → Option (Int × ByteArray × List ByteArray × List ByteArray × ByteArray × ByteArray × (List (S65)))
 | 0, _, _, _, _, _, _, _ => none
 | k + 1, x8, x12, x13, x130000, x130001, x130002, x130003 => if x13 < (x130002.length : Int) then ((spec_TextOf.f k x130003).bind fun t151 => (if 0 ≤ x13 then ((spec_Traced.f t151 x130001 (rdOf ByteArray.empty x130002 x13)).bind fun t153 => (if (t153.size : Int) > 100 then (some (1, (⟨#[]⟩ : ByteArray), ([] : List ByteArray), ([] : List ByteArray), (⟨#[53, 53, 50, 32, 108, 111, 110, 103]⟩ : ByteArray), (⟨#[]⟩ : ByteArray), x8)) else (if x12.length < 1256584717458 then (spec_l19Data.l0 k x8 (x12 ++ [(⟨3, rdOf ByteArray.empty x130002 x13, (⟨#[105, 110, 98, 111, 120]⟩ : ByteArray), (⟨#[]⟩ : ByteArray), 0, ([] : List Int), 0, t153⟩ : S65)]) (wrap64 (x13 + 1)) x130000 x130001 x130002 x130003) else (none)))) else (none))) else (if (x12.length : Int) = 0 then (some (1, (⟨#[]⟩ : ByteArray), ([] : List ByteArray), ([] : List ByteArray), (⟨#[50, 53, 48, 32, 111, 107]⟩ : ByteArray), (⟨#[]⟩ : ByteArray), x12)) else (some (1, (⟨#[]⟩ : ByteArray), ([] : List ByteArray), ([] : List ByteArray), (⟨#[50, 53, 48, 32, 111, 107]⟩ : ByteArray), (⟨#[52, 53, 50, 32, 102, 117, 108, 108]⟩ : ByteArray), x12)))
def spec_l19Data.f (k : Nat) (a0_0 : Int) (a0_1 : ByteArray) (l0_2 : List ByteArray) (l0_3 : List ByteArray) (a1 : ByteArray) : Option (Int × ByteArray × List ByteArray × List ByteArray × ByteArray × ByteArray × (List (S65))) := (some (([] : List (S65)) : List (S65))).bind fun y131 => ((spec_l19Copy.f a0_0 a0_1 l0_2 l0_3).bind fun bt134 => ((spec_UndotLine.f a1).bind fun bt143 => (if bt143.2 = true then (if (bt134.2.2.2.length : Int) < 101 then (if bt134.2.2.2.length < 8796093022208 then (some (bt134.1, bt134.2.1, bt134.2.2.1, (bt134.2.2.2 ++ [bt143.1]), (⟨#[]⟩ : ByteArray), (⟨#[]⟩ : ByteArray), y131)) else (none)) else (some (bt134.1, bt134.2.1, bt134.2.2.1, bt134.2.2.2, (⟨#[]⟩ : ByteArray), (⟨#[]⟩ : ByteArray), y131))) else (spec_l19Data.l0 k y131 (([] : List (S65))) 0 a0_0 a0_1 l0_2 l0_3))))
theorem spec_l19Data.mono_l : ∀ k, (∀ y0 y1 y2 y3 y4 y5 y6, LeO (spec_l19Data.l0 k y0 y1 y2 y3 y4 y5 y6) (spec_l19Data.l0 (k + 1) y0 y1 y2 y3 y4 y5 y6))
 | 0 => fun _ _ _ _ _ _ _ r h => by simp [spec_l19Data.l0] at h
 | k + 1 => by
  have ih0 := spec_l19Data.mono_l k
  ·intro y0 y1 y2 y3 y4 y5 y6
   unfold spec_l19Data.l0
   repeat' first
   | (with_reducible exact ih0 _ _ _ _ _ _ _)
   | (with_reducible exact spec_TextOf.mono _ _)
   | (with_reducible first | exact LeO.refl _ | exact LeO.none _ | refine LeO.ite ?_ ?_ | refine LeO.bind ?_ (fun _ => ?_))
   | refine LeO.ite ?_ ?_
   | refine LeO.bind ?_ (fun _ => ?_)
theorem spec_l19Data.mono : ∀ a0 a1 a2 a3 a4 k, LeO (spec_l19Data.f k a0 a1 a2 a3 a4) (spec_l19Data.f (k + 1) a0 a1 a2 a3 a4) := by
 intro a0 a1 a2 a3 a4 k
 have ih0 := spec_l19Data.mono_l k
 unfold spec_l19Data.f
 repeat' first
   | (with_reducible exact ih0 _ _ _ _ _ _ _)
   | (with_reducible exact spec_TextOf.mono _ _)
   | (with_reducible first | exact LeO.refl _ | exact LeO.none _ | refine LeO.ite ?_ ?_ | refine LeO.bind ?_ (fun _ => ?_))
   | refine LeO.ite ?_ ?_
   | refine LeO.bind ?_ (fun _ => ?_)
theorem spec_l19Data.calls (k : Nat) (a0_0 : Int) (a0_1 : ByteArray) (A0_2 : Option Addr) (c0_2 : Nat) (l0_2 : List ByteArray) (A0_3 : Option Addr) (c0_3 : Nat) (l0_3 : List ByteArray) (a1 : ByteArray) (r1 : Int) (r2 : ByteArray) (r3 : List ByteArray) (r4 : List ByteArray) (r5 : ByteArray) (r6 : ByteArray) (r7 : List (S65)) (w : World) (hr0_2 : Kd.C Kd.string w A0_2 l0_2.length l0_2) (hc0_2 : l0_2.length ≤ c0_2) (hr0_3 : Kd.C Kd.string w A0_3 l0_3.length l0_3) (hc0_3 : l0_3.length ≤ c0_3) (h : spec_l19Data.f k a0_0 a0_1 l0_2 l0_3 a1 = some (r1, r2, r3, r4, r5, r6, r7)) :
  Calls Tryd.prog 20 #[.agg #[.int .i64 a0_0, .string a0_1, .slice A0_2 l0_2.length c0_2, .slice A0_3 l0_3.length c0_3], .string a1] w fun e w' => ∃ v2_ v3_ v6_ : Value, e = .returned (.tuple #[.agg #[.int .i64 r1, .string r2, v2_, v3_], .string r5, .string r6, v6_]) ∧ Kd.R Kd.string 9 w' w.heap.size (fun k_ => some k_ ≠ (v3_ : Value).ownBlock) v2_ r3 ∧ Kd.R Kd.string 9 w' w.heap.size (fun k_ => some k_ ≠ (v2_ : Value).ownBlock) v3_ r4 ∧ Kd.S k65 65 w' w.heap.size (fun _ => True) v6_ r7 ∧ Below w.heap.size w w' := by
 have hu30 := Tryd.underlying30
 have hu65 := Tryd.underlying65
 have HR0_2 := Aside0.mk hr0_2
 have HC0_2 := Aside0.mk hc0_2
 clear hr0_2 hc0_2
 have HR0_3 := Aside0.mk hr0_3
 have HC0_3 := Aside0.mk hc0_3
 clear hr0_3 hc0_3
 have HB := Aside0.mk (Below.refl w.heap.size w)
 have H := h; unfold spec_l19Data.f at H
 clear h
 obtain ⟨y131, hy131⟩ : ∃ y_ : List (S65), y_ = (([] : List (S65))) := ⟨_, rfl⟩
 replace H : ((spec_l19Copy.f a0_0 a0_1 l0_2 l0_3).bind fun bt134 => ((spec_UndotLine.f a1).bind fun bt143 => (if bt143.2 = true then (if (bt134.2.2.2.length : Int) < 101 then (if bt134.2.2.2.length < 8796093022208 then (some (bt134.1, bt134.2.1, bt134.2.2.1, (bt134.2.2.2 ++ [bt143.1]), (⟨#[]⟩ : ByteArray), (⟨#[]⟩ : ByteArray), y131)) else (none)) else (some (bt134.1, bt134.2.1, bt134.2.2.1, bt134.2.2.2, (⟨#[]⟩ : ByteArray), (⟨#[]⟩ : ByteArray), y131))) else (spec_l19Data.l0 k y131 (([] : List (S65))) 0 a0_0 a0_1 l0_2 l0_3)))) = some (r1, r2, r3, r4, r5, r6, r7) := by subst hy131; first | with_reducible exact H | with_reducible exact (Option.bind_some _ _).symm.trans H | exact H
 have Ny131 := Aside0.mk hy131
 clear hy131
 obtain ⟨⟨t134, t135, t136, t139⟩, A3, H⟩ := bs_ H
 (try set_option simprocs false in dsimp only at H)
 obtain ⟨⟨t143, t144⟩, A4, H⟩ := bs_ H
 (try set_option simprocs false in dsimp only at H)
 go_enter Tryd.func20, Tryd.ntmps20
 go_wp2_with (first | (refine lr_ 30 2 BK129 hu30 ?_) | (refine lr_ 30 9 BK142 hu30 ?_) | ((with_reducible refine gd_ 2 ?_); refine bx_ 2 30 #[.int .i64 a0_0, .string a0_1, .slice A0_2 l0_2.length c0_2, .slice A0_3 l0_3.length c0_3] ?_; intro gb129 hg w8 hbox hb; have BK129 := Aside0.mk (hbox); have GE129 := gel_ hg; replace HB := hbl_ hb; clear hb hbox hg) | ((with_reducible refine gd_ 4 ?_); refine bx_ 4 30 #[.int .i64 0, .string (⟨#[]⟩ : ByteArray), .slice none 0 0, .slice none 0 0] ?_; intro gb130 hg w9 hbox hb; have BK130 := Aside0.mk (hbox); have GE130 := gel_ hg; replace HB := hbl_ hb; have NB129_130 := nl_ hg BK129; have NB130_129 := ng_ hg BK129; replace BK129 := bbl_ BK129 hb; clear hb hbox hg) | ((with_reducible refine gd_ 15 ?_); refine Kd.S_lit k65 _ 65 ?hg (N := 15) ?hd (xs := ([] : List (S65))) (inner := []) (ok := fun _ => True) (okp := fun _ => True) ?hr ?hp (fun _ hk => hk) trivial (Below.refl _ _) (Nat.le_refl _) (by simp) ?_; (case hd => rfl); (case hg => rfl); (case hr => first | (go_simp; done) | (go_simp; rfl)); (case hp => exact (Reps.none _ _)); intro v132 w10 ho11 hb hg_ hnew_; clear hg_ hnew_; (first | rw [← Ny131.out] at ho11 | (simp only [Int.reduceToNat] at ho11; rw [← Ny131.out] at ho11)); have HO133 := Aside0.mk (Kd.S_lower ho11 (below_size bl_)); replace BK129 := bbl_ BK129 hb; replace BK130 := bbl_ BK130 hb; replace HB := hbl_ hb; clear hb ho11; have hnb12 := NB129_130.out; have hnc12 := NB130_129.out; have hcz13_0 : w10.cell? ⟨gb129, 0, none⟩ = some (.int .i64 a0_0) := bc_ BK129 0; have hcz13_1 : w10.cell? ⟨gb129, 1, none⟩ = some (.string a0_1) := bc_ BK129 1; have hcz13_2 : w10.cell? ⟨gb129, 2, none⟩ = some (.slice A0_2 l0_2.length c0_2) := bc_ BK129 2; have hcz13_3 : w10.cell? ⟨gb129, 3, none⟩ = some (.slice A0_3 l0_3.length c0_3) := bc_ BK129 3; have hfz13_0 := blk_frozen BK129.out 0; have hfz13_1 := blk_frozen BK129.out 1; have hfz13_2 := blk_frozen BK129.out 2; have hfz13_3 := blk_frozen BK129.out 3) | (go_at_call 21; (with_reducible refine (spec_l19Copy.calls a0_0 a0_1 _ _ l0_2 _ _ l0_3 t134 t135 t136 t139 _ ?side1 ?side2 ?side3 ?side4 A3.out).mono ?_); (case side1 => exact cb_ HR0_2); (case side2 => exact HC0_2.out); (case side3 => exact cb_ HR0_3); (case side4 => exact HC0_3.out); rintro e w14 ⟨v137, v140, rfl, ho0, ho1, hb⟩; replace HO133 := sbl_ HO133 hb; have HO138 := Aside0.mk (Kd.R_lower ho0 (below_size bl_)); have HO141 := Aside0.mk (Kd.R_lower ho1 (below_size bl_)); replace BK129 := bbl_ BK129 hb; replace BK130 := bbl_ BK130 hb; replace HB := hbl_ hb; try clear hb; try clear ho0; try clear ho1; obtain ⟨Ao15, co15, rfl⟩ := Kd.R_slice HO138.out; obtain ⟨Ao16, co16, rfl⟩ := Kd.R_slice HO141.out) | ((with_reducible refine gd_ 9 ?_); refine bf_ 9 30 #[.int .i64 0, .string (⟨#[]⟩ : ByteArray), .slice none 0 0, .slice none 0 0] #[.int .i64 t134, .string t135, .slice Ao15 t136.length co15, .slice Ao16 t139.length co16] ?_; intro gb142 hg w17 hbox hb; replace HO133 := sbl_ HO133 hb; replace HO138 := rbl_ HO138 hb; replace HO141 := rbl_ HO141 hb; have BK142 := Aside0.mk (hbox); have GE142 := gel_ hg; replace HB := hbl_ hb; have NB129_142 := nl_ hg BK129; have NB142_129 := ng_ hg BK129; replace BK129 := bbl_ BK129 hb; have NB130_142 := nl_ hg BK130; have NB142_130 := ng_ hg BK130; replace BK130 := bbl_ BK130 hb; clear hb hbox hg; refine stop_ ?_; intro G_ HG_))
 by_cases c5 : t144 = true
 ·subst c5
  (try rw [if_pos rfl] at H)
  by_cases c6 : (t139.length : Int) < 101
  ·rw [if_pos c6] at H
   have c6b0 := decide_eq_true c6
   have c6b1 : decide (t139.length < 101) = true := decide_eq_true (by omega)
   clear c6
   by_cases c7 : t139.length < 8796093022208
   ·rw [if_pos c7] at H
    have LMc7 := Aside0.mk c7
    clear c7
    obtain ⟨y145, hy145⟩ : ∃ y_ : List ByteArray, y_ = (t139 ++ [t143]) := ⟨_, rfl⟩
    replace H : (some (t134, t135, t136, y145, (⟨#[]⟩ : ByteArray), (⟨#[]⟩ : ByteArray), y131)) = some (r1, r2, r3, r4, r5, r6, r7) := by subst hy145; first | with_reducible exact H | with_reducible exact (Option.bind_some _ _).symm.trans H | exact H
    have Ny145 := Aside0.mk hy145
    clear hy145
    simp only [Option.some.injEq, Prod.mk.injEq] at H
    obtain ⟨rfl, rfl, rfl, rfl, rfl, rfl, rfl⟩ := H
    refine HG_.out ?_; clear HG_
    try simp only [c6b0, c6b1, Bool.not_true, Bool.not_false]
    go_wp2_with (first | (refine lr_ 30 2 BK129 hu30 ?_) | (refine lr_ 30 9 BK142 hu30 ?_))
    try (have hnb18 := NB142_129.out; have hnc18 := NB129_142.out; have hnb19 := NB142_130.out; have hnc19 := NB130_142.out; have hcz20_0 : w17.cell? ⟨gb142, 0, none⟩ = some (.int .i64 t134) := bc_ BK142 0; have hcz20_1 : w17.cell? ⟨gb142, 1, none⟩ = some (.string t135) := bc_ BK142 1; have hcz20_2 : w17.cell? ⟨gb142, 2, none⟩ = some (.slice Ao15 t136.length co15) := bc_ BK142 2; have hcz20_3 : w17.cell? ⟨gb142, 3, none⟩ = some (.slice Ao16 t139.length co16) := bc_ BK142 3; have hfz20_0 := blk_frozen BK142.out 0; have hfz20_1 := blk_frozen BK142.out 1; have hfz20_2 := blk_frozen BK142.out 2; have hfz20_3 := blk_frozen BK142.out 3)
    try go_wp2_with (first | (refine lr_ 30 2 BK129 hu30 ?_) | (refine lr_ 30 9 BK142 hu30 ?_) | fail)
    try go_quiet (first | (go_at_call 47; (with_reducible refine (spec_UndotLine.calls a1 t143 true _ A4.out).mono ?_); rintro e w' ⟨rfl, ⟨nd, rfl⟩⟩; (try exact dw_)))
    try go_wp2_with (first | (refine lr_ 30 2 BK129 hu30 ?_) | (refine lr_ 30 9 BK142 hu30 ?_) | (go_at_call 47; (with_reducible refine (spec_UndotLine.calls a1 t143 true _ A4.out).mono ?_); rintro e w' ⟨rfl, ⟨nd, rfl⟩⟩; (try exact dw_)) | ((with_reducible refine gate_builtin (b := .append) (xs := #[.tmp 29, .tmp 31]) rfl ?_); at_builtin; refine Kd.R_append Kd.string (w0 := w) w.heap.size rfl (.tmp 29) (.tmp 31) 22 9 (.string ⟨#[]⟩) 16 rfl Tryd.underlying22 info9 rfl (by decide) (by omega) (.slice Ao16 t139.length co16) t139 t143 [.string t143] (fun k_ => some k_ ≠ (.slice Ao15 t136.length co15 : Value).ownBlock) (fun _ => False) rfl rfl ?aP (fun _ hk => hk.elim) ?aF ?aO ?aB ?aS ?aL ?_; (case aP => exact rfl); (case aB => exact bl_); (case aF => exact (fun k_ hk => Kd.fresh' (Kd.R_lt (rl_ HO138)) k_ hk)); (case aO => exact (rl_ HO141)); (case aS => exact (below_size bl_)); (case aL => have := LMc7.out; omega); intro v146 w21 ho hb hg hat; rw [← Ny145.out] at ho; replace BK129 := bg_ BK129 hg HO141; replace BK130 := bg_ BK130 hg HO141; replace HO133 := Aside0.mk (Kd.S_over' (sl_ HO133) (Kd.R_typed (rl_ HO141)) (by decide) hg); replace HO138 := Aside0.mk (Kd.R_after (ok := (fun _ => True)) (by (with_reducible repeat (first | apply Kd.R_alloc | apply Kd.R_drewN | apply Kd.R_drew)); exact Kd.R_mono HO138.out (fun _ hk => ⟨trivial, hk⟩)) hg hat); replace BK142 := bg_ BK142 hg HO141; replace HB := Aside0.mk (hb); have HO147 := Aside0.mk (ho); clear HO141; clear ho hb hg hat; obtain ⟨Ao22, co22, rfl⟩ := Kd.R_slice HO147.out) | ((with_reducible refine gs_ 22 33 ?_); (try (rw [drewN_self w21]; generalize hq_ : World.drewN w21 _ = w21; replace HO133 := sa_ hq_ HO133; replace HO138 := ra_ hq_ HO138; replace HO147 := ra_ hq_ HO147; replace BK129 := ba_ hq_ BK129; replace BK130 := ba_ hq_ BK130; replace BK142 := ba_ hq_ BK142; replace HB := ha_ hq_ HB; clear hq_)); have hcz129q := blk_cell BK129.out; have hfz129q := blk_frozen BK129.out; have hcz142q := blk_cell BK142.out; have hfz142q := blk_frozen BK142.out; refine sp_ 22 33 gb142 3 (.slice Ao22 y145.length co22) #[.int .i64 t134, .string t135, .slice Ao15 t136.length co15, .slice Ao22 y145.length co22] BK142 ?_; intro w23 hbox hbut; replace HO133 := ss_ hbut HO133 BK142; replace HO138 := rs_ hbut HO138 BK142; replace HO147 := rs_ hbut HO147 BK142; replace BK129 := bo_ hbut NB129_142 BK129; replace BK130 := bo_ hbut NB130_142 BK130; replace BK142 := Aside0.mk (hbox); replace HB := hs_ HB hbut GE142; clear hbox hbut; have hcz24_0 : w23.cell? ⟨gb142, 0, none⟩ = some (.int .i64 t134) := bc_ BK142 0; have hcz24_1 : w23.cell? ⟨gb142, 1, none⟩ = some (.string t135) := bc_ BK142 1; have hcz24_2 : w23.cell? ⟨gb142, 2, none⟩ = some (.slice Ao15 t136.length co15) := bc_ BK142 2; have hcz24_3 : w23.cell? ⟨gb142, 3, none⟩ = some (.slice Ao22 y145.length co22) := bc_ BK142 3; have hfz24_0 := blk_frozen BK142.out 0; have hfz24_1 := blk_frozen BK142.out 1; have hfz24_2 := blk_frozen BK142.out 2; have hfz24_3 := blk_frozen BK142.out 3) | ((with_reducible refine gs_ 30 4 ?_); (try (rw [drewN_self w23]; generalize hq_ : World.drewN w23 _ = w23; replace HO133 := sa_ hq_ HO133; replace HO138 := ra_ hq_ HO138; replace HO147 := ra_ hq_ HO147; replace BK129 := ba_ hq_ BK129; replace BK130 := ba_ hq_ BK130; replace BK142 := ba_ hq_ BK142; replace HB := ha_ hq_ HB; clear hq_)); have hcz129q := blk_cell BK129.out; have hfz129q := blk_frozen BK129.out; have hcz142q := blk_cell BK142.out; have hfz142q := blk_frozen BK142.out; refine sp_ 30 4 gb130 0 (.agg #[.int .i64 t134, .string t135, .slice Ao15 t136.length co15, .slice Ao22 y145.length co22]) #[.int .i64 t134, .string t135, .slice Ao15 t136.length co15, .slice Ao22 y145.length co22] BK130 ?_; intro w25 hbox hbut; replace HO133 := ss_ hbut HO133 BK130; replace HO138 := rs_ hbut HO138 BK130; replace HO147 := rs_ hbut HO147 BK130; replace BK129 := bo_ hbut NB129_130 BK129; replace BK130 := Aside0.mk (hbox); replace BK142 := bo_ hbut NB142_130 BK142; replace HB := hs_ HB hbut GE130; clear hbox hbut))
    refine bodyPost_ret (results_list (rs := [.cell 4 30, .tmp 5, .tmp 6, .tmp 7]) rfl (by simp) (.cell gb130 30 #[.int .i64 t134, .string t135, .slice Ao15 t136.length co15, .slice Ao22 y145.length co22] (0, 0) _ rfl (kl_ BK130) Tryd.underlying30 rfl (by kernel_rfl) (.tmp (.tmp (.tmp .nil))))) rfl ?_
    exact ⟨_, _, _, re_, rm_ HO138, rl_ HO147, sl_ HO133, bl_⟩
   ·rw [if_neg c7] at H
    exact absurd H (by simp)
  ·rw [if_neg c6] at H
   have c6b0 := decide_eq_false c6
   have c6b1 : decide (t139.length < 101) = false := decide_eq_false (by omega)
   clear c6
   simp only [Option.some.injEq, Prod.mk.injEq] at H
   obtain ⟨rfl, rfl, rfl, rfl, rfl, rfl, rfl⟩ := H
   refine HG_.out ?_; clear HG_
   try simp only [c6b0, c6b1, Bool.not_true, Bool.not_false]
   go_wp2_with (first | (refine lr_ 30 2 BK129 hu30 ?_) | (refine lr_ 30 9 BK142 hu30 ?_))
   try (have hnb36 := NB142_129.out; have hnc36 := NB129_142.out; have hnb37 := NB142_130.out; have hnc37 := NB130_142.out; have hcz38_0 : w17.cell? ⟨gb142, 0, none⟩ = some (.int .i64 t134) := bc_ BK142 0; have hcz38_1 : w17.cell? ⟨gb142, 1, none⟩ = some (.string t135) := bc_ BK142 1; have hcz38_2 : w17.cell? ⟨gb142, 2, none⟩ = some (.slice Ao15 t136.length co15) := bc_ BK142 2; have hcz38_3 : w17.cell? ⟨gb142, 3, none⟩ = some (.slice Ao16 t139.length co16) := bc_ BK142 3; have hfz38_0 := blk_frozen BK142.out 0; have hfz38_1 := blk_frozen BK142.out 1; have hfz38_2 := blk_frozen BK142.out 2; have hfz38_3 := blk_frozen BK142.out 3; have hcz39_0 : w17.cell? ⟨gb130, 0, none⟩ = some (.int .i64 0) := bc_ BK130 0; have hcz39_1 : w17.cell? ⟨gb130, 1, none⟩ = some (.string (⟨#[]⟩ : ByteArray)) := bc_ BK130 1; have hcz39_2 : w17.cell? ⟨gb130, 2, none⟩ = some (.slice none 0 0) := bc_ BK130 2; have hcz39_3 : w17.cell? ⟨gb130, 3, none⟩ = some (.slice none 0 0) := bc_ BK130 3; have hfz39_0 := blk_frozen BK130.out 0; have hfz39_1 := blk_frozen BK130.out 1; have hfz39_2 := blk_frozen BK130.out 2; have hfz39_3 := blk_frozen BK130.out 3)
   try go_wp2_with (first | (refine lr_ 30 2 BK129 hu30 ?_) | (refine lr_ 30 9 BK142 hu30 ?_) | fail)
   try go_quiet (first | (go_at_call 47; (with_reducible refine (spec_UndotLine.calls a1 t143 true _ A4.out).mono ?_); rintro e w' ⟨rfl, ⟨nd, rfl⟩⟩; (try exact dw_)))
   try go_wp2_with (first | (refine lr_ 30 2 BK129 hu30 ?_) | (refine lr_ 30 9 BK142 hu30 ?_) | (go_at_call 47; (with_reducible refine (spec_UndotLine.calls a1 t143 true _ A4.out).mono ?_); rintro e w' ⟨rfl, ⟨nd, rfl⟩⟩; (try exact dw_)))
   refine bodyPost_ret (results_list (rs := [.cell 4 30, .tmp 5, .tmp 6, .tmp 7]) rfl (by simp) (.cell gb130 30 #[.int .i64 t134, .string t135, .slice Ao15 t136.length co15, .slice Ao16 t139.length co16] (0, 0) _ rfl (by (with_reducible repeat (first | refine blk_drewN ?_ _ | refine blk_drew ?_ | refine blk_alloc ?_ _)); refine blk_put (cs := #[.int .i64 t134, .string t135, .slice Ao15 t136.length co15, .slice none 0 0]) ?_ 3 _ rfl; (with_reducible repeat (first | refine blk_drewN ?_ _ | refine blk_drew ?_ | refine blk_alloc ?_ _)); refine blk_put (cs := #[.int .i64 t134, .string t135, .slice none 0 0, .slice none 0 0]) ?_ 2 _ rfl; (with_reducible repeat (first | refine blk_drewN ?_ _ | refine blk_drew ?_ | refine blk_alloc ?_ _)); refine blk_put (cs := #[.int .i64 t134, .string (⟨#[]⟩ : ByteArray), .slice none 0 0, .slice none 0 0]) ?_ 1 _ rfl; (with_reducible repeat (first | refine blk_drewN ?_ _ | refine blk_drew ?_ | refine blk_alloc ?_ _)); refine blk_put (cs := #[.int .i64 0, .string (⟨#[]⟩ : ByteArray), .slice none 0 0, .slice none 0 0]) ?_ 0 _ rfl; (with_reducible repeat (first | refine blk_drewN ?_ _ | refine blk_drew ?_ | refine blk_alloc ?_ _)); exact BK130.out) Tryd.underlying30 rfl (by kernel_rfl) (.tmp (.tmp (.tmp .nil))))) rfl ?_
   exact ⟨_, _, _, re_, by (with_reducible repeat (first | apply Kd.R_alloc | apply Kd.R_drewN | apply Kd.R_drew)); exact Kd.R_mono (rg4_ HO138 BK130) (fun _ hk => hk.1), by (with_reducible repeat (first | apply Kd.R_alloc | apply Kd.R_drewN | apply Kd.R_drew)); exact Kd.R_mono (rg4_ HO141 BK130) (fun _ hk => hk.1), by (with_reducible repeat (first | apply Kd.S_alloc | apply Kd.S_drewN | apply Kd.S_drew)); exact Kd.S_mono (Kd.S_far (p := ⟨gb130, 3, none⟩) (Kd.S_far (p := ⟨gb130, 2, none⟩) (Kd.S_far (p := ⟨gb130, 1, none⟩) (Kd.S_far (p := ⟨gb130, 0, none⟩) (Kd.S_types HO133.out BK130.out (by decide)) (fun _ hk => hk.2) (.int .i64 t134)) (fun _ hk => hk.2) (.string t135)) (fun _ hk => hk.2) (.slice Ao15 t136.length co15)) (fun _ hk => hk.2) (.slice Ao16 t139.length co16)) (fun _ hk => trivial), bl_⟩
 ·replace c5 := Bool.eq_false_iff.mpr c5
  subst c5
  (try rw [if_neg (show ¬ (false = true) by decide)] at H)
  obtain ⟨y148, hy148⟩ : ∃ y_ : List (S65), y_ = (([] : List (S65))) := ⟨_, rfl⟩
  replace H : (spec_l19Data.l0 k y131 y148 0 a0_0 a0_1 l0_2 l0_3) = some (r1, r2, r3, r4, r5, r6, r7) := by subst hy148; first | with_reducible exact H | with_reducible exact (Option.bind_some _ _).symm.trans H | exact H
  have Ny148 := Aside0.mk hy148
  clear hy148
  have H' := Aside0.mk H
  clear H
  refine HG_.out ?_; clear HG_
  go_wp2_with (first | (refine lr_ 30 2 BK129 hu30 ?_) | (refine lr_ 30 9 BK142 hu30 ?_))
  try go_wp2_with (first | (refine lr_ 30 2 BK129 hu30 ?_) | (refine lr_ 30 9 BK142 hu30 ?_) | fail)
  try go_quiet (first | (go_at_call 47; (with_reducible refine (spec_UndotLine.calls a1 t143 false _ A4.out).mono ?_); rintro e w' ⟨rfl, ⟨nd, rfl⟩⟩; (try exact dw_)))
  try go_wp2_with (first | (refine lr_ 30 2 BK129 hu30 ?_) | (refine lr_ 30 9 BK142 hu30 ?_) | (go_at_call 47; (with_reducible refine (spec_UndotLine.calls a1 t143 false _ A4.out).mono ?_); rintro e w' ⟨rfl, ⟨nd, rfl⟩⟩; (try exact dw_)) | ((with_reducible refine gd_ 36 ?_); refine Kd.S_lit k65 _ 65 ?hg (N := 36) ?hd (xs := ([] : List (S65))) (inner := []) (ok := fun _ => True) (okp := fun _ => True) ?hr ?hp (fun _ hk => hk) trivial (Below.refl _ _) (Nat.le_refl _) (by simp) ?_; (case hd => rfl); (case hg => rfl); (case hr => first | (go_simp; done) | (go_simp; rfl)); (case hp => exact (Reps.none _ _)); intro v149 w50 ho51 hb hg_ hnew_; clear hg_ hnew_; (first | rw [← Ny148.out] at ho51 | (simp only [Int.reduceToNat] at ho51; rw [← Ny148.out] at ho51)); replace HO138 := rbl_ HO138 hb; replace HO141 := rbl_ HO141 hb; have HO150 := Aside0.mk (Kd.S_lower (Kd.S_new' ho51 (Kd.S_lt (sl_ HO133))) (below_size bl_)); replace HO133 := Aside0.mk (Kd.S_elder' (sl_ HO133) (Kd.S_base ho51) hb); replace BK129 := bbl_ BK129 hb; replace BK130 := bbl_ BK130 hb; replace BK142 := bbl_ BK142 hb; replace HB := hbl_ hb; clear hb ho51))
  go_loopg [12, 13] k (fun kq v12 v13 w' => ∃ (x12_1 : List (S65)) (x13_1 : Int) (x131000_1 : Int) (x131001_1 : ByteArray), v13 = .int .i64 x13_1 ∧ Aside0 (spec_l19Data.l0 kq y131 x12_1 x13_1 a0_0 a0_1 l0_2 l0_3 = some (r1, r2, r3, r4, r5, r6, r7)) ∧ Aside0 (kq ≤ k) ∧ Aside0 (Kd.S k65 65 w' w.heap.size (fun k_ => some k_ ≠ (v12 : Value).ownBlock) v132 y131) ∧ Aside0 (Kd.S k65 65 w' w.heap.size (fun k_ => some k_ ≠ (v132 : Value).ownBlock) v12 x12_1) ∧ Aside0 (Kd.R Kd.string 9 w' w.heap.size (fun k_ => some k_ ≠ ((.slice Ao16 t139.length co16) : Value).ownBlock) (.slice Ao15 t136.length co15) t136) ∧ Aside0 (Kd.R Kd.string 9 w' w.heap.size (fun k_ => some k_ ≠ ((.slice Ao15 t136.length co15) : Value).ownBlock) (.slice Ao16 t139.length co16) t139) ∧ Aside0 (w'.heap[gb129]? = some (.cells #[.int .i64 a0_0, .string a0_1, (.slice A0_2 l0_2.length c0_2), (.slice A0_3 l0_3.length c0_3)] 30 (0, 0))) ∧ Aside0 (w'.heap[gb130]? = some (.cells #[.int .i64 x131000_1, .string x131001_1, (.slice none 0 0), (.slice none 0 0)] 30 (0, 0))) ∧ Aside0 (w'.heap[gb142]? = some (.cells #[.int .i64 t134, .string t135, (.slice Ao15 t136.length co15), (.slice Ao16 t139.length co16)] 30 (0, 0))) ∧ Aside0 (Below w.heap.size w w'))
  case atStart => exact ⟨(y148), (0), (0), ((⟨#[]⟩ : ByteArray)), rf_, H', ⟨Nat.le_refl _⟩, ⟨by (with_reducible repeat (first | apply Kd.S_alloc | apply Kd.S_drewN | apply Kd.S_drew)); exact Kd.S_mono HO133.out (fun _ hk => hk.2)⟩, ⟨by (with_reducible repeat (first | apply Kd.S_alloc | apply Kd.S_drewN | apply Kd.S_drew)); exact Kd.S_mono HO150.out (fun _ hk => hk.2)⟩, ⟨rl_ HO138⟩, ⟨rl_ HO141⟩, ⟨kl_ BK129⟩, ⟨kl_ BK130⟩, ⟨kl_ BK142⟩, ⟨bl_⟩⟩
  case round =>
   clear H'
   try clear c1
   try clear c2
   try clear p2
   try clear c3
   try clear c4
   try clear c5
   try clear c6
   try clear c6b0
   try clear c6b1
   try clear c7
   try clear c12
   try clear c18
   try clear c19
   try clear c20
   try clear c30
   try clear c36
   try clear c37
   try clear c44
   try clear hcz13_0 hcz13_1 hcz13_2 hcz13_3
   try clear hcz20_0 hcz20_1 hcz20_2 hcz20_3
   try clear hcz24_0 hcz24_1 hcz24_2 hcz24_3
   try clear hcz31_0 hcz31_1 hcz31_2 hcz31_3
   try clear hcz38_0 hcz38_1 hcz38_2 hcz38_3
   try clear hcz39_0 hcz39_1 hcz39_2 hcz39_3
   try clear hcz13_0 hcz13_1 hcz13_2 hcz13_3
   try clear hfz13_0 hfz13_1 hfz13_2 hfz13_3
   try clear hfz20_0 hfz20_1 hfz20_2 hfz20_3
   try clear hfz24_0 hfz24_1 hfz24_2 hfz24_3
   try clear hfz31_0 hfz31_1 hfz31_2 hfz31_3
   try clear hfz38_0 hfz38_1 hfz38_2 hfz38_3
   try clear hfz39_0 hfz39_1 hfz39_2 hfz39_3
   try clear hfz13_0 hfz13_1 hfz13_2 hfz13_3
   obtain ⟨x12_1, x13_1, x131000_1, x131001_1, rfl, HA, HK1, HO_8, HO_12, HO_143002, HO_143003, BK129, BK130, BK142, HB⟩ := hrel
   cases gk with
   | zero => exact absurd HA.out (by simp [spec_l19Data.l0])
   | succ k1 =>
    have H := HA.out
    clear HA
    simp only [spec_l19Data.l0] at H
    have hnb57 := NB129_130.out
    have hnc57 := NB130_129.out
    have hnb58 := NB129_142.out
    have hnc58 := NB142_129.out
    have hcz59_0 : wr.cell? ⟨gb129, 0, none⟩ = some (.int .i64 a0_0) := bc_ BK129 0
    have hcz59_1 : wr.cell? ⟨gb129, 1, none⟩ = some (.string a0_1) := bc_ BK129 1
    have hcz59_2 : wr.cell? ⟨gb129, 2, none⟩ = some (.slice A0_2 l0_2.length c0_2) := bc_ BK129 2
    have hcz59_3 : wr.cell? ⟨gb129, 3, none⟩ = some (.slice A0_3 l0_3.length c0_3) := bc_ BK129 3
    have hfz59_0 := blk_frozen BK129.out 0
    have hfz59_1 := blk_frozen BK129.out 1
    have hfz59_2 := blk_frozen BK129.out 2
    have hfz59_3 := blk_frozen BK129.out 3
    by_cases c52 : x13_1 < (l0_2.length : Int)
    ·rw [if_pos c52] at H
     have c52b0 := decide_eq_true c52
     clear c52
     obtain ⟨t151, A53, H⟩ := bs_ H
     by_cases c54 : 0 ≤ x13_1
     ·rw [if_pos c54] at H
      have c54b0 := decide_eq_true c54
      clear c54
      obtain ⟨t153, A55, H⟩ := bs_ H
      try simp only [c52b0, c54b0, Bool.not_true, Bool.not_false]
      have p152 : 0 ≤ (x13_1 : Int) := od_; have q152 : x13_1 < (l0_2.length : Int) := od_; obtain ⟨ad152, e152, hx152_0⟩ := Kd.at_string HR0_2.out x13_1 p152 q152; cases e152; replace hx152_0 := cu_ HB hx152_0; replace p152 := eq_true p152; replace q152 := eq_true q152
      by_cases c56 : (t153.size : Int) > 100
      ·rw [if_pos c56] at H
       have c56b0 : decide (100 < (t153.size : Int)) = true := decide_eq_true c56
       have c56b1 : decide (100 < t153.size) = true := decide_eq_true (by omega)
       clear c56
       simp only [Option.some.injEq, Prod.mk.injEq] at H
       obtain ⟨rfl, rfl, rfl, rfl, rfl, rfl, rfl⟩ := H
       try simp only [c56b0, c56b1, Bool.not_true, Bool.not_false]
       have hnb60 := NB130_142.out; have hnc60 := NB142_130.out; have hcz61_0 : wr.cell? ⟨gb130, 0, none⟩ = some (.int .i64 x131000_1) := bc_ BK130 0; have hcz61_1 : wr.cell? ⟨gb130, 1, none⟩ = some (.string x131001_1) := bc_ BK130 1; have hcz61_2 : wr.cell? ⟨gb130, 2, none⟩ = some (.slice none 0 0) := bc_ BK130 2; have hcz61_3 : wr.cell? ⟨gb130, 3, none⟩ = some (.slice none 0 0) := bc_ BK130 3; have hfz61_0 := blk_frozen BK130.out 0; have hfz61_1 := blk_frozen BK130.out 1; have hfz61_2 := blk_frozen BK130.out 2; have hfz61_3 := blk_frozen BK130.out 3
       try go_wp2_with (first | fail)
       try go_quiet (first | (go_at_call 49; (with_reducible refine (spec_TextOf.calls k1 _ _ l0_3 t151 _ ?side1 ?side2 A53.out).mono ?_); (case side1 => exact cb_ HR0_3); (case side2 => exact HC0_3.out); rintro e w' ⟨rfl, ⟨nd, rfl⟩⟩; (try exact dw_)) | (go_at_call 48; (with_reducible refine (spec_Traced.calls t151 a0_1 (rdOf ByteArray.empty l0_2 x13_1) t153 _ A55.out).mono ?_); rintro e w' ⟨rfl, ⟨nd, rfl⟩⟩; (try exact dw_)))
       try go_wp2_with (first | (go_at_call 49; (with_reducible refine (spec_TextOf.calls k1 _ _ l0_3 t151 _ ?side1 ?side2 A53.out).mono ?_); (case side1 => exact cb_ HR0_3); (case side2 => exact HC0_3.out); rintro e w' ⟨rfl, ⟨nd, rfl⟩⟩; (try exact dw_)) | (go_at_call 48; (with_reducible refine (spec_Traced.calls t151 a0_1 (rdOf ByteArray.empty l0_2 x13_1) t153 _ A55.out).mono ?_); rintro e w' ⟨rfl, ⟨nd, rfl⟩⟩; (try exact dw_)))
       refine bodyPost_ret (results_list (rs := [.cell 4 30, .tmp 5, .tmp 6, .tmp 7]) rfl (by simp) (.cell gb130 30 #[.int .i64 1, .string (⟨#[]⟩ : ByteArray), .slice none 0 0, .slice none 0 0] (0, 0) _ rfl (by (with_reducible repeat (first | refine blk_drewN ?_ _ | refine blk_drew ?_ | refine blk_alloc ?_ _)); refine blk_put (cs := #[.int .i64 1, .string (⟨#[]⟩ : ByteArray), .slice none 0 0, .slice none 0 0]) ?_ 3 _ rfl; (with_reducible repeat (first | refine blk_drewN ?_ _ | refine blk_drew ?_ | refine blk_alloc ?_ _)); refine blk_put (cs := #[.int .i64 1, .string (⟨#[]⟩ : ByteArray), .slice none 0 0, .slice none 0 0]) ?_ 2 _ rfl; (with_reducible repeat (first | refine blk_drewN ?_ _ | refine blk_drew ?_ | refine blk_alloc ?_ _)); refine blk_put (cs := #[.int .i64 1, .string x131001_1, .slice none 0 0, .slice none 0 0]) ?_ 1 _ rfl; (with_reducible repeat (first | refine blk_drewN ?_ _ | refine blk_drew ?_ | refine blk_alloc ?_ _)); refine blk_put (cs := #[.int .i64 x131000_1, .string x131001_1, .slice none 0 0, .slice none 0 0]) ?_ 0 _ rfl; (with_reducible repeat (first | refine blk_drewN ?_ _ | refine blk_drew ?_ | refine blk_alloc ?_ _)); exact BK130.out) Tryd.underlying30 rfl (by kernel_rfl) (.tmp (.tmp (.tmp .nil))))) rfl ?_
       exact ⟨_, _, _, re_, ni_, ni_, by (with_reducible repeat (first | apply Kd.S_alloc | apply Kd.S_drewN | apply Kd.S_drew)); exact Kd.S_mono (Kd.S_far (p := ⟨gb130, 3, none⟩) (Kd.S_far (p := ⟨gb130, 2, none⟩) (Kd.S_far (p := ⟨gb130, 1, none⟩) (Kd.S_far (p := ⟨gb130, 0, none⟩) (Kd.S_types HO_8.out BK130.out (by decide)) (fun _ hk => hk.2) (.int .i64 1)) (fun _ hk => hk.2) (.string (⟨#[]⟩ : ByteArray))) (fun _ hk => hk.2) (.slice none 0 0)) (fun _ hk => hk.2) (.slice none 0 0)) (fun _ hk => trivial), bl_⟩
      ·rw [if_neg c56] at H
       have c56b0 : decide (100 < (t153.size : Int)) = false := decide_eq_false c56
       have c56b1 : decide (100 < t153.size) = false := decide_eq_false (by omega)
       clear c56
       by_cases c62 : x12_1.length < 1256584717458
       ·rw [if_pos c62] at H
        have LMc62 := Aside0.mk c62
        clear c62
        obtain ⟨y155, hy155⟩ : ∃ y_ : List (S65), y_ = (x12_1 ++ [(⟨3, rdOf ByteArray.empty l0_2 x13_1, (⟨#[105, 110, 98, 111, 120]⟩ : ByteArray), (⟨#[]⟩ : ByteArray), 0, ([] : List Int), 0, t153⟩ : S65)]) := ⟨_, rfl⟩
        replace H : (spec_l19Data.l0 k1 y131 y155 (wrap64 (x13_1 + 1)) a0_0 a0_1 l0_2 l0_3) = some (r1, r2, r3, r4, r5, r6, r7) := by subst hy155; first | with_reducible exact H | with_reducible exact (Option.bind_some _ _).symm.trans H | exact H
        have Ny155 := Aside0.mk hy155
        clear hy155
        have H' := Aside0.mk H
        clear H
        try simp only [c56b0, c56b1, Bool.not_true, Bool.not_false]
        have p154 : 0 ≤ (x13_1 : Int) := od_; have q154 : x13_1 < (l0_2.length : Int) := od_; obtain ⟨ad154, e154, hx154_0⟩ := Kd.at_string HR0_2.out x13_1 p154 q154; obtain rfl : ad152 = ad154 := (by injection e154); replace hx154_0 := cu_ HB hx154_0; replace p154 := eq_true p154; replace q154 := eq_true q154
        try go_wp2_with (first | fail)
        try go_quiet (first | (go_at_call 49; (with_reducible refine (spec_TextOf.calls k1 _ _ l0_3 t151 _ ?side1 ?side2 A53.out).mono ?_); (case side1 => exact cb_ HR0_3); (case side2 => exact HC0_3.out); rintro e w' ⟨rfl, ⟨nd, rfl⟩⟩; (try exact dw_)) | (go_at_call 48; (with_reducible refine (spec_Traced.calls t151 a0_1 (rdOf ByteArray.empty l0_2 x13_1) t153 _ A55.out).mono ?_); rintro e w' ⟨rfl, ⟨nd, rfl⟩⟩; (try exact dw_)))
        try go_wp2_with (first | (go_at_call 49; (with_reducible refine (spec_TextOf.calls k1 _ _ l0_3 t151 _ ?side1 ?side2 A53.out).mono ?_); (case side1 => exact cb_ HR0_3); (case side2 => exact HC0_3.out); rintro e w' ⟨rfl, ⟨nd, rfl⟩⟩; (try exact dw_)) | (go_at_call 48; (with_reducible refine (spec_Traced.calls t151 a0_1 (rdOf ByteArray.empty l0_2 x13_1) t153 _ A55.out).mono ?_); rintro e w' ⟨rfl, ⟨nd, rfl⟩⟩; (try exact dw_)) | ((with_reducible refine gate_builtin (b := .append) (xs := #[.tmp 60, .tmp 68]) rfl ?_); at_builtin; refine Kd.S_append k65 (w0 := w) w.heap.size rfl (.tmp 60) (.tmp 68) 31 65 (.agg #[(.int .i64 0), (.string ⟨#[]⟩), (.string ⟨#[]⟩), (.string ⟨#[]⟩), (.int .i64 0), (.slice none 0 0), (.int .i64 0), (.string ⟨#[]⟩)]) 112 rfl Tryd.underlying31 info65 rfl (by decide) (by omega) u12 x12_1 (⟨3, rdOf ByteArray.empty l0_2 x13_1, (⟨#[105, 110, 98, 111, 120]⟩ : ByteArray), (⟨#[]⟩ : ByteArray), 0, ([] : List Int), 0, t153⟩ : S65) [.int .i64 3, .string (rdOf ByteArray.empty l0_2 x13_1), .string (⟨#[105, 110, 98, 111, 120]⟩ : ByteArray), .string (⟨#[]⟩ : ByteArray), .int .i64 0, .slice none 0 0, .int .i64 0, .string t153] (fun k_ => some k_ ≠ (v132 : Value).ownBlock) (fun _ => False) rfl rfl ?aP (fun k_ hk_ => hk_.elim) ?aF ?aO ?aB ?aS ?aL ?_; (case aP => exact k65_mkM _ _ _ (⟨3, rdOf ByteArray.empty l0_2 x13_1, (⟨#[105, 110, 98, 111, 120]⟩ : ByteArray), (⟨#[]⟩ : ByteArray), 0, ([] : List Int), 0, t153⟩ : S65) (Kd.R_nil _ _ _ _ _)); (case aB => exact bl_); (case aF => exact (fun k_ hk => Kd.fresh' (Kd.S_lt (sl_ HO_8)) k_ hk)); (case aO => exact (by (with_reducible repeat (first | apply Kd.S_alloc | apply Kd.S_drewN | apply Kd.S_drew)); exact Kd.S_mono HO_12.out (fun k_ hk => ⟨hk, fun e_ => e_⟩))); (case aS => exact (below_size bl_)); (case aL => have := LMc62.out; omega); intro v156 w66 ho hb hg hat; rw [← Ny155.out] at ho; replace HO_8 := Aside0.mk (Kd.S_after (ok := (fun _ => True)) (by (with_reducible repeat (first | apply Kd.S_alloc | apply Kd.S_drewN | apply Kd.S_drew)); exact Kd.S_mono HO_8.out (fun _ hk => ⟨trivial, hk⟩)) hg hat); replace HO_143002 := Aside0.mk (Kd.R_over' (rl_ HO_143002) (Kd.S_typed (sl_ HO_12)) (by decide) hg); replace HO_143003 := Aside0.mk (Kd.R_over' (rl_ HO_143003) (Kd.S_typed (sl_ HO_12)) (by decide) hg); replace BK129 := Aside0.mk (blk_grown (g := gb129) (o := .cells #[.int .i64 a0_0, .string a0_1, .slice (some ad152) l0_2.length c0_2, .slice A0_3 l0_3.length c0_3] 30 (0, 0)) (kl_ BK129) hg (Kd.S_ne HO_12.out BK129.out (by decide))); replace BK130 := Aside0.mk (blk_grown (g := gb130) (o := .cells #[.int .i64 x131000_1, .string x131001_1, .slice none 0 0, .slice none 0 0] 30 (0, 0)) (kl_ BK130) hg (Kd.S_ne HO_12.out BK130.out (by decide))); replace BK142 := Aside0.mk (blk_grown (g := gb142) (o := .cells #[.int .i64 t134, .string t135, .slice Ao15 t136.length co15, .slice Ao16 t139.length co16] 30 (0, 0)) (kl_ BK142) hg (Kd.S_ne HO_12.out BK142.out (by decide))); replace HB := Aside0.mk (hb); have HO157 := Aside0.mk (ho); clear HO_12; clear ho hb hg hat))
        go_roundg k1
        case measure => have := HK1.out; omega
        case rel => exact ⟨(y155), (wrap64 (x13_1 + 1)), (x131000_1), (x131001_1), rf_, H', ⟨by have := HK1.out; omega⟩, ⟨by (with_reducible repeat (first | apply Kd.S_alloc | apply Kd.S_drewN | apply Kd.S_drew)); exact Kd.S_mono HO_8.out (fun _ hk => hk.2)⟩, ⟨sl_ HO157⟩, ⟨rl_ HO_143002⟩, ⟨rl_ HO_143003⟩, ⟨kl_ BK129⟩, ⟨kl_ BK130⟩, ⟨kl_ BK142⟩, ⟨bl_⟩⟩
       ·rw [if_neg c62] at H
        exact absurd H (by simp)
     ·rw [if_neg c54] at H
      exact absurd H (by simp)
    ·rw [if_neg c52] at H
     have c52b0 := decide_eq_false c52
     clear c52
     try simp only [c52b0, Bool.not_true, Bool.not_false]
     obtain ⟨Ao71, co71, rfl⟩ := Kd.S_slice HO_12.out
     by_cases c67 : (x12_1.length : Int) = 0
     ·rw [if_pos c67] at H
      have c67b0 := beq_iff_eq.mpr c67
      have c67b1 := bne_eq_false_iff_eq.mpr c67
      clear c67
      simp only [Option.some.injEq, Prod.mk.injEq] at H
      obtain ⟨rfl, rfl, rfl, rfl, rfl, rfl, rfl⟩ := H
      try simp only [c67b0, c67b1, Bool.not_true, Bool.not_false]
      go_wp2_with (first | ((with_reducible refine gs_ 30 4 ?_); (try (rw [drewN_self wr]; generalize hq_ : World.drewN wr _ = wr; replace HO_12 := sa_ hq_ HO_12; replace BK129 := ba_ hq_ BK129; replace BK130 := ba_ hq_ BK130; replace HB := ha_ hq_ HB; clear hq_)); have hcz129q := blk_cell BK129.out; have hfz129q := blk_frozen BK129.out; refine sp_ 30 4 gb130 0 (.agg #[.int .i64 1, .string (⟨#[]⟩ : ByteArray), .slice none 0 0, .slice none 0 0]) #[.int .i64 1, .string (⟨#[]⟩ : ByteArray), .slice none 0 0, .slice none 0 0] BK130 ?_; intro w72 hbox hbut; replace HO_12 := ss_ hbut HO_12 BK130; replace BK130 := Aside0.mk (hbox); replace HB := hs_ HB hbut GE130; clear hbox hbut))
      refine bodyPost_ret (results_list (rs := [.cell 4 30, .tmp 5, .tmp 6, .tmp 7]) rfl (by simp) (.cell gb130 30 #[.int .i64 1, .string (⟨#[]⟩ : ByteArray), .slice none 0 0, .slice none 0 0] (0, 0) _ rfl (kl_ BK130) Tryd.underlying30 rfl (by kernel_rfl) (.tmp (.tmp (.tmp .nil))))) rfl ?_
      exact ⟨_, _, _, re_, ni_, ni_, by (with_reducible repeat (first | apply Kd.S_alloc | apply Kd.S_drewN | apply Kd.S_drew)); exact Kd.S_mono HO_12.out (fun _ hk => trivial), bl_⟩
     ·rw [if_neg c67] at H
      have c67b0 := beq_eq_false_iff_ne.mpr c67
      have c67b1 := bne_iff_ne.mpr c67
      have c67b2 : ¬ (x12_1 = []) := fun h_ => c67 (by rw [h_]; rfl)
      simp only [Option.some.injEq, Prod.mk.injEq] at H
      obtain ⟨rfl, rfl, rfl, rfl, rfl, rfl, rfl⟩ := H
      try simp only [c67b0, c67b1, c67b2, Bool.not_true, Bool.not_false]
      go_wp2_with (first | ((with_reducible refine gs_ 30 4 ?_); (try (rw [drewN_self wr]; generalize hq_ : World.drewN wr _ = wr; replace HO_12 := sa_ hq_ HO_12; replace BK129 := ba_ hq_ BK129; replace BK130 := ba_ hq_ BK130; replace HB := ha_ hq_ HB; clear hq_)); have hcz129q := blk_cell BK129.out; have hfz129q := blk_frozen BK129.out; refine sp_ 30 4 gb130 0 (.agg #[.int .i64 1, .string (⟨#[]⟩ : ByteArray), .slice none 0 0, .slice none 0 0]) #[.int .i64 1, .string (⟨#[]⟩ : ByteArray), .slice none 0 0, .slice none 0 0] BK130 ?_; intro w77 hbox hbut; replace HO_12 := ss_ hbut HO_12 BK130; replace BK130 := Aside0.mk (hbox); replace HB := hs_ HB hbut GE130; clear hbox hbut))
      refine bodyPost_ret (results_list (rs := [.cell 4 30, .tmp 5, .tmp 6, .tmp 7]) rfl (by simp) (.cell gb130 30 #[.int .i64 1, .string (⟨#[]⟩ : ByteArray), .slice none 0 0, .slice none 0 0] (0, 0) _ rfl (kl_ BK130) Tryd.underlying30 rfl (by kernel_rfl) (.tmp (.tmp (.tmp .nil))))) rfl ?_
      exact ⟨_, _, _, re_, ni_, ni_, by (with_reducible repeat (first | apply Kd.S_alloc | apply Kd.S_drewN | apply Kd.S_drew)); exact Kd.S_mono HO_12.out (fun _ hk => trivial), bl_⟩

/-! ### spec_PartsOf: function 50 -/
mutual
def spec_PartsOf.l0 : Nat → ByteArray → List ByteArray → Int → Int → Option (List ByteArray × Bool)
 | 0, _, _, _, _ => none
 | k + 1, x0, x4, x5, x6 => if x6 ≤ (x0.size : Int) then (if x6 < (x0.size : Int) then (if 0 ≤ x6 then (if (bt x0 x6) < 32 then (spec_PartsOf.j1 k x0 x4 x5 x6 true) else (spec_PartsOf.j1 k x0 x4 x5 x6 (decide ((bt x0 x6) > 126)))) else (none)) else (spec_PartsOf.j1 k x0 x4 x5 x6 false)) else (if (x4.length : Int) > 10 then (some ((([] : List ByteArray)), false)) else (some (x4, true)))
def spec_PartsOf.j1 : Nat → ByteArray → List ByteArray → Int → Int → Bool → Option (List ByteArray × Bool)
 | 0, _, _, _, _, _ => none
 | k + 1, x0, x4, x5, x6, x33 => if x33 = true then (some ((([] : List ByteArray)), false)) else (if x6 < (x0.size : Int) then (if 0 ≤ x6 then (spec_PartsOf.j2 k x0 x4 x5 x6 ((bt x0 x6) != 32)) else (none)) else (spec_PartsOf.j2 k x0 x4 x5 x6 false))
def spec_PartsOf.j2 : Nat → ByteArray → List ByteArray → Int → Int → Bool → Option (List ByteArray × Bool)
 | 0, _, _, _, _, _ => none
 | k + 1, x0, x4, x5, x6, x44 => if x44 = true then (spec_PartsOf.l0 k x0 x4 x5 (wrap64 (x6 + 1))) else (if x5 < x6 then (if 0 ≤ x5 then (if x5 ≤ x6 then (if x6 ≤ (x0.size : Int) then (if x4.length < 8796093022208 then (spec_PartsOf.l0 k x0 (x4 ++ [x0.extract (x5 : Int).toNat (x6 : Int).toNat]) (wrap64 (x6 + 1)) (wrap64 (x6 + 1))) else (none)) else (none)) else (none)) else (none)) else (spec_PartsOf.l0 k x0 x4 (wrap64 (x6 + 1)) (wrap64 (x6 + 1))))
end
def spec_PartsOf.f (k : Nat) (a0 : ByteArray) : Option (List ByteArray × Bool) := (some (([] : List ByteArray) : List ByteArray)).bind fun y158 => (if (a0.size : Int) > 600 then (some (y158, false)) else (spec_PartsOf.l0 k a0 y158 0 0))
theorem spec_PartsOf.mono_l : ∀ k, (∀ y0 y1 y2 y3, LeO (spec_PartsOf.l0 k y0 y1 y2 y3) (spec_PartsOf.l0 (k + 1) y0 y1 y2 y3)) ∧ (∀ y0 y1 y2 y3 y4, LeO (spec_PartsOf.j1 k y0 y1 y2 y3 y4) (spec_PartsOf.j1 (k + 1) y0 y1 y2 y3 y4)) ∧ (∀ y0 y1 y2 y3 y4, LeO (spec_PartsOf.j2 k y0 y1 y2 y3 y4) (spec_PartsOf.j2 (k + 1) y0 y1 y2 y3 y4))
 | 0 => ⟨fun _ _ _ _ r h => by simp [spec_PartsOf.l0] at h, fun _ _ _ _ _ r h => by simp [spec_PartsOf.j1] at h, fun _ _ _ _ _ r h => by simp [spec_PartsOf.j2] at h⟩
 | k + 1 => by
  obtain ⟨ih0, ih1, ih2⟩ := spec_PartsOf.mono_l k
  refine ⟨?_, ?_, ?_⟩
  ·intro y0 y1 y2 y3
   unfold spec_PartsOf.l0
   repeat' first
   | (with_reducible exact ih0 _ _ _ _)
   | (with_reducible exact ih1 _ _ _ _ _)
   | (with_reducible exact ih2 _ _ _ _ _)
   | (with_reducible first | exact LeO.refl _ | exact LeO.none _ | refine LeO.ite ?_ ?_ | refine LeO.bind ?_ (fun _ => ?_))
   | refine LeO.ite ?_ ?_
   | refine LeO.bind ?_ (fun _ => ?_)
  ·intro y0 y1 y2 y3 y4
   unfold spec_PartsOf.j1
   repeat' first
   | (with_reducible exact ih0 _ _ _ _)
   | (with_reducible exact ih1 _ _ _ _ _)
   | (with_reducible exact ih2 _ _ _ _ _)
   | (with_reducible first | exact LeO.refl _ | exact LeO.none _ | refine LeO.ite ?_ ?_ | refine LeO.bind ?_ (fun _ => ?_))
   | refine LeO.ite ?_ ?_
   | refine LeO.bind ?_ (fun _ => ?_)
  ·intro y0 y1 y2 y3 y4
   unfold spec_PartsOf.j2
   repeat' first
   | (with_reducible exact ih0 _ _ _ _)
   | (with_reducible exact ih1 _ _ _ _ _)
   | (with_reducible exact ih2 _ _ _ _ _)
   | (with_reducible first | exact LeO.refl _ | exact LeO.none _ | refine LeO.ite ?_ ?_ | refine LeO.bind ?_ (fun _ => ?_))
   | refine LeO.ite ?_ ?_
   | refine LeO.bind ?_ (fun _ => ?_)
theorem spec_PartsOf.mono : ∀ a0 k, LeO (spec_PartsOf.f k a0) (spec_PartsOf.f (k + 1) a0) := by
 intro a0 k
 obtain ⟨ih0, ih1, ih2⟩ := spec_PartsOf.mono_l k
 unfold spec_PartsOf.f
 repeat' first
   | (with_reducible exact ih0 _ _ _ _)
   | (with_reducible exact ih1 _ _ _ _ _)
   | (with_reducible exact ih2 _ _ _ _ _)
   | (with_reducible first | exact LeO.refl _ | exact LeO.none _ | refine LeO.ite ?_ ?_ | refine LeO.bind ?_ (fun _ => ?_))
   | refine LeO.ite ?_ ?_
   | refine LeO.bind ?_ (fun _ => ?_)
theorem spec_PartsOf.calls (k : Nat) (a0 : ByteArray) (r1 : List ByteArray) (r2 : Bool) (w : World) (h : spec_PartsOf.f k a0 = some (r1, r2)) :
  Calls Tryd.prog 50 #[.string a0] w fun e w' => ∃ v0_ : Value, e = .returned (.tuple #[v0_, .bool r2]) ∧ Kd.R Kd.string 9 w' w.heap.size (fun _ => True) v0_ r1 ∧ Below w.heap.size w w' := by
 have HB := Aside0.mk (Below.refl w.heap.size w)
 have H := h; unfold spec_PartsOf.f at H
 clear h
 obtain ⟨y158, hy158⟩ : ∃ y_ : List ByteArray, y_ = (([] : List ByteArray)) := ⟨_, rfl⟩
 replace H : (if (a0.size : Int) > 600 then (some (y158, false)) else (spec_PartsOf.l0 k a0 y158 0 0)) = some (r1, r2) := by subst hy158; first | with_reducible exact H | with_reducible exact (Option.bind_some _ _).symm.trans H | exact H
 have Ny158 := Aside0.mk hy158
 clear hy158
 go_enter Tryd.func50, Tryd.ntmps50
 go_wp2_with (first | ((with_reducible refine gd_ 7 ?_); refine Kd.R_lit Kd.string _ 9 ?hg (N := 7) ?hd (xs := ([] : List ByteArray)) (inner := []) (ok := fun _ => True) (okp := fun _ => True) ?hr ?hp (fun _ hk => hk) trivial (Below.refl _ _) (Nat.le_refl _) (by simp) ?_; (case hd => rfl); (case hg => rfl); (case hr => first | (go_simp; done) | (go_simp; rfl)); (case hp => exact (Reps.none _ _)); intro v159 w3 ho4 hb hg_ hnew_; clear hg_ hnew_; (first | rw [← Ny158.out] at ho4 | (simp only [Int.reduceToNat] at ho4; rw [← Ny158.out] at ho4)); have HO160 := Aside0.mk (Kd.R_lower ho4 (below_size HB.out)); replace HB := hb_ HB hb; clear hb ho4; refine stop_ ?_; intro G_ HG_))
 by_cases c2 : (a0.size : Int) > 600
 ·rw [if_pos c2] at H
  have c2b0 : decide (600 < (a0.size : Int)) = true := decide_eq_true c2
  have c2b1 : decide (600 < a0.size) = true := decide_eq_true (by omega)
  clear c2
  simp only [Option.some.injEq, Prod.mk.injEq] at H
  obtain ⟨rfl, rfl⟩ := H
  refine HG_.out ?_; clear HG_
  try simp only [c2b0, c2b1, Bool.not_true, Bool.not_false]
  go_wp2_with fail
  go_ret2
  exact ⟨_, re_, rl_ HO160, bl_⟩
 ·rw [if_neg c2] at H
  have c2b0 : decide (600 < (a0.size : Int)) = false := decide_eq_false c2
  have c2b1 : decide (600 < a0.size) = false := decide_eq_false (by omega)
  clear c2
  have H' := Aside0.mk H
  clear H
  refine HG_.out ?_; clear HG_
  try simp only [c2b0, c2b1, Bool.not_true, Bool.not_false]
  go_wp2_with fail
  go_loopg [4, 5, 6] k (fun kq v4 v5 v6 w' => ∃ (x4_1 : List ByteArray) (x5_1 : Int) (x6_1 : Int), v5 = .int .i64 x5_1 ∧ v6 = .int .i64 x6_1 ∧ Aside0 (spec_PartsOf.l0 kq a0 x4_1 x5_1 x6_1 = some (r1, r2)) ∧ Aside0 (kq ≤ k) ∧ Aside0 (Kd.R Kd.string 9 w' w.heap.size (fun _ => True) v4 x4_1) ∧ Aside0 (Below w.heap.size w w'))
  case atStart => exact ⟨(y158), (0), (0), rf_, rf_, H', ⟨Nat.le_refl _⟩, ⟨rl_ HO160⟩, ⟨bl_⟩⟩
  case round =>
   clear H'
   try clear c2
   try clear c2b0
   try clear c2b1
   try clear p2
   try clear c5
   obtain ⟨x4_1, x5_1, x6_1, rfl, rfl, HA, HK1, HO_4, HB⟩ := hrel
   cases gk with
   | zero => exact absurd HA.out (by simp [spec_PartsOf.l0])
   | succ k1 =>
    have H := HA.out
    clear HA
    simp only [spec_PartsOf.l0] at H
    by_cases c7 : x6_1 ≤ (a0.size : Int)
    ·rw [if_pos c7] at H
     have c7b0 := decide_eq_true c7
     clear c7
     have HC8 := Aside0.mk H
     clear H
     go_upto_region 8 with (fail)
     go_cut [33] (fun v33 wc => ∃ (kq : Nat) (x33_7 : Bool), v33 = .bool x33_7 ∧ Aside0 (spec_PartsOf.j1 kq a0 x4_1 x5_1 x6_1 x33_7 = some (r1, r2)) ∧ Aside0 (kq ≤ k1) ∧ Aside0 (Kd.R Kd.string 9 wc w.heap.size (fun _ => True) u4 x4_1) ∧ Aside0 (Below w.heap.size w wc))
     case first =>
      have H := HC8.out
      clear HC8
      by_cases c9 : x6_1 < (a0.size : Int)
      ·rw [if_pos c9] at H
       have c9b0 := decide_eq_true c9
       clear c9
       (first | rw [c9b0] | (simp only [i64_w, i32_w]; rw [c9b0]) | skip)
       by_cases c10 : 0 ≤ x6_1
       ·rw [if_pos c10] at H
        have c10b0 := decide_eq_true c10
        clear c10
        have p11 : 0 ≤ (x6_1 : Int) := od_
        have q11 : x6_1 < (a0.size : Int) := od_
        have hx11 := bt_at a0 x6_1
        replace p11 := eq_true p11
        replace q11 := eq_true q11
        by_cases c12 : (bt a0 x6_1) < 32
        ·rw [if_pos c12] at H
         have c12b0 := decide_eq_true c12
         clear c12
         have H' := Aside0.mk H
         clear H
         try simp only [c12b0, Bool.not_true, Bool.not_false]
         go_wp2
         go_meet
         case rel => exact ⟨_, (true), rf_, H', ⟨by have := HK1.out; first | omega | exact Nat.le_refl _⟩, ⟨rl_ HO_4⟩, ⟨bl_⟩⟩
        ·rw [if_neg c12] at H
         have c12b0 := decide_eq_false c12
         clear c12
         have H' := Aside0.mk H
         clear H
         try simp only [c12b0, Bool.not_true, Bool.not_false]
         have p13 : 0 ≤ (x6_1 : Int) := od_
         have q13 : x6_1 < (a0.size : Int) := od_
         have hx13 := bt_at a0 x6_1
         replace p13 := eq_true p13
         replace q13 := eq_true q13
         go_wp2
         go_meet
         case rel => exact ⟨_, (decide ((bt a0 x6_1) > 126)), rf_, H', ⟨by have := HK1.out; first | omega | exact Nat.le_refl _⟩, ⟨rl_ HO_4⟩, ⟨bl_⟩⟩
       ·rw [if_neg c10] at H
        exact absurd H (by simp)
      ·rw [if_neg c9] at H
       have c9b0 := decide_eq_false c9
       clear c9
       (first | rw [c9b0] | (simp only [i64_w, i32_w]; rw [c9b0]) | skip)
       have H' := Aside0.mk H
       clear H
       go_wp2
       go_meet
       case rel => exact ⟨_, (false), rf_, H', ⟨by have := HK1.out; first | omega | exact Nat.le_refl _⟩, ⟨rl_ HO_4⟩, ⟨bl_⟩⟩
     case rest =>
      clear HC8
      try clear c1
      try clear p1
      try clear q1
      try clear hx1
      try clear c2
      try clear c2b0
      try clear c2b1
      try clear p2
      try clear c5
      try clear c7
      try clear c7b0
      try clear c9
      try clear c9b0
      try clear c10
      try clear c10b0
      try clear p11
      try clear q11
      try clear hx11
      try clear c12
      try clear c12b0
      try clear p13
      try clear q13
      try clear hx13
      try clear p11
      try clear p13
      try clear p2
      try clear q11
      try clear q13
      obtain ⟨kq, x33_7, rfl, HA, HJ7, HO_4, HB⟩ := hcut
      cases kq with
      | zero => exact absurd HA.out (by simp [spec_PartsOf.j1])
      | succ kj7 =>
       have H := HA.out
       clear HA
       simp only [spec_PartsOf.j1] at H
       by_cases c14 : x33_7 = true
       ·subst c14
        (try rw [if_pos rfl] at H)
        obtain ⟨y164, hy164⟩ : ∃ y_ : List ByteArray, y_ = (([] : List ByteArray)) := ⟨_, rfl⟩
        replace H : (some (y164, false)) = some (r1, r2) := by subst hy164; first | with_reducible exact H | with_reducible exact (Option.bind_some _ _).symm.trans H | exact H
        have Ny164 := Aside0.mk hy164
        clear hy164
        simp only [Option.some.injEq, Prod.mk.injEq] at H
        obtain ⟨rfl, rfl⟩ := H
        go_wp2_with (first | ((with_reducible refine gd_ 34 ?_); refine Kd.R_lit Kd.string _ 9 ?hg (N := 34) ?hd (xs := ([] : List ByteArray)) (inner := []) (ok := fun _ => True) (okp := fun _ => True) ?hr ?hp (fun _ hk => hk) trivial (Below.refl _ _) (Nat.le_refl _) (by simp) ?_; (case hd => rfl); (case hg => rfl); (case hr => first | (go_simp; done) | (go_simp; rfl)); (case hp => exact (Reps.none _ _)); intro v165 w15 ho16 hb hg_ hnew_; clear hg_ hnew_; (first | rw [← Ny164.out] at ho16 | (simp only [Int.reduceToNat] at ho16; rw [← Ny164.out] at ho16)); have HO166 := Aside0.mk (Kd.R_lower (Kd.R_new' ho16 (Kd.R_lt HO_4.out)) (below_size HB.out)); replace HB := hb_ HB hb; clear hb ho16))
        go_ret2
        exact ⟨_, re_, by (with_reducible repeat (first | apply Kd.R_alloc | apply Kd.R_drewN | apply Kd.R_drew)); exact Kd.R_mono HO166.out (fun _ hk => trivial), bl_⟩
       ·replace c14 := Bool.eq_false_iff.mpr c14
        subst c14
        (try rw [if_neg (show ¬ (false = true) by decide)] at H)
        have HC17 := Aside0.mk H
        clear H
        go_upto_region 10 with (fail)
        go_cut [44] (fun v44 wc => ∃ (kq : Nat) (x44_16 : Bool), v44 = .bool x44_16 ∧ Aside0 (spec_PartsOf.j2 kq a0 x4_1 x5_1 x6_1 x44_16 = some (r1, r2)) ∧ Aside0 (kq ≤ kj7) ∧ Aside0 (Kd.R Kd.string 9 wc w.heap.size (fun _ => True) u4 x4_1) ∧ Aside0 (Below w.heap.size w wc))
        case first =>
         have H := HC17.out
         clear HC17
         by_cases c18 : x6_1 < (a0.size : Int)
         ·rw [if_pos c18] at H
          have c18b0 := decide_eq_true c18
          clear c18
          (first | rw [c18b0] | (simp only [i64_w, i32_w]; rw [c18b0]) | skip)
          by_cases c19 : 0 ≤ x6_1
          ·rw [if_pos c19] at H
           have c19b0 := decide_eq_true c19
           clear c19
           have H' := Aside0.mk H
           clear H
           have p20 : 0 ≤ (x6_1 : Int) := od_
           have q20 : x6_1 < (a0.size : Int) := od_
           have hx20 := bt_at a0 x6_1
           replace p20 := eq_true p20
           replace q20 := eq_true q20
           go_wp2
           go_meet
           case rel => exact ⟨_, (((bt a0 x6_1) != 32)), rf_, H', ⟨by have := HK1.out; have := HJ7.out; first | omega | exact Nat.le_refl _⟩, ⟨rl_ HO_4⟩, ⟨bl_⟩⟩
          ·rw [if_neg c19] at H
           exact absurd H (by simp)
         ·rw [if_neg c18] at H
          have c18b0 := decide_eq_false c18
          clear c18
          (first | rw [c18b0] | (simp only [i64_w, i32_w]; rw [c18b0]) | skip)
          have H' := Aside0.mk H
          clear H
          go_wp2
          go_meet
          case rel => exact ⟨_, (false), rf_, H', ⟨by have := HK1.out; have := HJ7.out; first | omega | exact Nat.le_refl _⟩, ⟨rl_ HO_4⟩, ⟨bl_⟩⟩
        case rest =>
         clear HC17
         try clear c1
         try clear p1
         try clear q1
         try clear hx1
         try clear c2
         try clear c2b0
         try clear c2b1
         try clear p2
         try clear q2
         try clear hx2
         try clear c5
         try clear c7
         try clear c7b0
         try clear c9
         try clear c9b0
         try clear c10
         try clear c10b0
         try clear p11
         try clear q11
         try clear hx11
         try clear c12
         try clear c12b0
         try clear p13
         try clear q13
         try clear hx13
         try clear c14
         try clear c18
         try clear c18b0
         try clear c19
         try clear c19b0
         try clear p20
         try clear q20
         try clear hx20
         try clear p1
         try clear p11
         try clear p13
         try clear p2
         try clear p20
         try clear q1
         try clear q11
         try clear q13
         try clear q20
         obtain ⟨kq, x44_16, rfl, HA, HJ16, HO_4, HB⟩ := hcut
         cases kq with
         | zero => exact absurd HA.out (by simp [spec_PartsOf.j2])
         | succ kj16 =>
          have H := HA.out
          clear HA
          simp only [spec_PartsOf.j2] at H
          by_cases c21 : x44_16 = true
          ·subst c21
           (try rw [if_pos rfl] at H)
           have H' := Aside0.mk H
           clear H
           go_wp2
           go_roundg kj16
           case measure => have := HK1.out; have := HJ7.out; have := HJ16.out; omega
           case rel => exact ⟨(x4_1), (x5_1), (wrap64 (x6_1 + 1)), rf_, rf_, H', ⟨by have := HK1.out; have := HJ7.out; have := HJ16.out; omega⟩, ⟨rl_ HO_4⟩, ⟨bl_⟩⟩
          ·replace c21 := Bool.eq_false_iff.mpr c21
           subst c21
           (try rw [if_neg (show ¬ (false = true) by decide)] at H)
           by_cases c22 : x5_1 < x6_1
           ·rw [if_pos c22] at H
            have c22b0 := decide_eq_true c22
            clear c22
            by_cases c23 : 0 ≤ x5_1
            ·rw [if_pos c23] at H
             have c23b0 := eq_true c23
             have c23b1 := decide_eq_true c23
             clear c23
             by_cases c24 : x5_1 ≤ x6_1
             ·rw [if_pos c24] at H
              have c24b0 := eq_true c24
              have c24b1 := decide_eq_true c24
              clear c24
              by_cases c25 : x6_1 ≤ (a0.size : Int)
              ·rw [if_pos c25] at H
               have c25b0 := eq_true c25
               have c25b1 := decide_eq_true c25
               clear c25
               by_cases c26 : x4_1.length < 8796093022208
               ·rw [if_pos c26] at H
                have LMc26 := Aside0.mk c26
                clear c26
                obtain ⟨y167, hy167⟩ : ∃ y_ : List ByteArray, y_ = (x4_1 ++ [a0.extract (x5_1 : Int).toNat (x6_1 : Int).toNat]) := ⟨_, rfl⟩
                replace H : (spec_PartsOf.l0 kj16 a0 y167 (wrap64 (x6_1 + 1)) (wrap64 (x6_1 + 1))) = some (r1, r2) := by subst hy167; first | with_reducible exact H | with_reducible exact (Option.bind_some _ _).symm.trans H | exact H
                have Ny167 := Aside0.mk hy167
                clear hy167
                have H' := Aside0.mk H
                clear H
                go_wp2_with (first | ((with_reducible refine gate_builtin (b := .append) (xs := #[.tmp 48, .tmp 53]) rfl ?_); at_builtin; refine Kd.R_append Kd.string (w0 := w) w.heap.size rfl (.tmp 48) (.tmp 53) 22 9 (.string ⟨#[]⟩) 16 rfl Tryd.underlying22 info9 rfl (by decide) (by omega) u4 x4_1 (a0.extract (x5_1 : Int).toNat (x6_1 : Int).toNat) [.string (a0.extract (x5_1 : Int).toNat (x6_1 : Int).toNat)] (fun _ => True) (fun _ => False) rfl rfl ?aP (fun _ hk => hk.elim) ?aF ?aO ?aB ?aS ?aL ?_; (case aP => exact rfl); (case aB => exact HB.out); (case aF => exact (fun _ _ => trivial)); (case aO => exact HO_4.out); (case aS => exact (below_size HB.out)); (case aL => have := LMc26.out; omega); intro v168 w27 ho hb hg hat; rw [← Ny167.out] at ho; replace HB := Aside0.mk (hb); have HO169 := Aside0.mk (ho); clear HO_4; clear ho hb hg hat))
                go_roundg kj16
                case measure => have := HK1.out; have := HJ7.out; have := HJ16.out; omega
                case rel => exact ⟨(y167), (wrap64 (x6_1 + 1)), (wrap64 (x6_1 + 1)), rf_, rf_, H', ⟨by have := HK1.out; have := HJ7.out; have := HJ16.out; omega⟩, ⟨rl_ HO169⟩, ⟨bl_⟩⟩
               ·rw [if_neg c26] at H
                exact absurd H (by simp)
              ·rw [if_neg c25] at H
               exact absurd H (by simp)
             ·rw [if_neg c24] at H
              exact absurd H (by simp)
            ·rw [if_neg c23] at H
             exact absurd H (by simp)
           ·rw [if_neg c22] at H
            have c22b0 := decide_eq_false c22
            clear c22
            have H' := Aside0.mk H
            clear H
            go_wp2
            go_roundg kj16
            case measure => have := HK1.out; have := HJ7.out; have := HJ16.out; omega
            case rel => exact ⟨(x4_1), (wrap64 (x6_1 + 1)), (wrap64 (x6_1 + 1)), rf_, rf_, H', ⟨by have := HK1.out; have := HJ7.out; have := HJ16.out; omega⟩, ⟨rl_ HO_4⟩, ⟨bl_⟩⟩
    ·rw [if_neg c7] at H
     have c7b0 := decide_eq_false c7
     clear c7
     obtain ⟨Ao29, co29, rfl⟩ := Kd.R_slice HO_4.out
     by_cases c28 : (x4_1.length : Int) > 10
     ·rw [if_pos c28] at H
      have c28b0 : decide (10 < (x4_1.length : Int)) = true := decide_eq_true c28
      have c28b1 : decide (10 < x4_1.length) = true := decide_eq_true (by omega)
      clear c28
      obtain ⟨y161, hy161⟩ : ∃ y_ : List ByteArray, y_ = (([] : List ByteArray)) := ⟨_, rfl⟩
      replace H : (some (y161, false)) = some (r1, r2) := by subst hy161; first | with_reducible exact H | with_reducible exact (Option.bind_some _ _).symm.trans H | exact H
      have Ny161 := Aside0.mk hy161
      clear hy161
      simp only [Option.some.injEq, Prod.mk.injEq] at H
      obtain ⟨rfl, rfl⟩ := H
      try simp only [c28b0, c28b1, Bool.not_true, Bool.not_false]
      go_wp2_with (first | ((with_reducible refine gd_ 60 ?_); refine Kd.R_lit Kd.string _ 9 ?hg (N := 60) ?hd (xs := ([] : List ByteArray)) (inner := []) (ok := fun _ => True) (okp := fun _ => True) ?hr ?hp (fun _ hk => hk) trivial (Below.refl _ _) (Nat.le_refl _) (by simp) ?_; (case hd => rfl); (case hg => rfl); (case hr => first | (go_simp; done) | (go_simp; rfl)); (case hp => exact (Reps.none _ _)); intro v162 w30 ho31 hb hg_ hnew_; clear hg_ hnew_; (first | rw [← Ny161.out] at ho31 | (simp only [Int.reduceToNat] at ho31; rw [← Ny161.out] at ho31)); have HO163 := Aside0.mk (Kd.R_lower (Kd.R_new' ho31 (Kd.R_lt HO_4.out)) (below_size HB.out)); replace HB := hb_ HB hb; clear hb ho31))
      go_ret2
      exact ⟨_, re_, by (with_reducible repeat (first | apply Kd.R_alloc | apply Kd.R_drewN | apply Kd.R_drew)); exact Kd.R_mono HO163.out (fun _ hk => trivial), bl_⟩
     ·rw [if_neg c28] at H
      have c28b0 : decide (10 < (x4_1.length : Int)) = false := decide_eq_false c28
      have c28b1 : decide (10 < x4_1.length) = false := decide_eq_false (by omega)
      clear c28
      simp only [Option.some.injEq, Prod.mk.injEq] at H
      obtain ⟨rfl, rfl⟩ := H
      try simp only [c28b0, c28b1, Bool.not_true, Bool.not_false]
      go_wp2
      go_ret2
      exact ⟨_, re_, rl_ HO_4, bl_⟩

/-! ### spec_WordsOf: function 22 -/
def spec_WordsOf.f (k : Nat) (a0 : ByteArray) : Option (List ByteArray) := (spec_PartsOf.f k a0).bind fun bt170 => (if bt170.2 = true then ((some (([] : List ByteArray) : List ByteArray)).bind fun y174 => (if y174.length + bt170.1.length < 8796093022208 then (some (y174 ++ bt170.1)) else (none))) else (some (([] : List ByteArray))))
theorem spec_WordsOf.mono : ∀ a0 k, LeO (spec_WordsOf.f k a0) (spec_WordsOf.f (k + 1) a0) := by
 intro a0 k
 unfold spec_WordsOf.f
 repeat' first
   | (with_reducible exact spec_PartsOf.mono _ _)
   | (with_reducible first | exact LeO.refl _ | exact LeO.none _ | refine LeO.ite ?_ ?_ | refine LeO.bind ?_ (fun _ => ?_))
   | refine LeO.ite ?_ ?_
   | refine LeO.bind ?_ (fun _ => ?_)
theorem spec_WordsOf.calls (k : Nat) (a0 : ByteArray) (r : List ByteArray) (w : World) (h : spec_WordsOf.f k a0 = some r) :
  Calls Tryd.prog 22 #[.string a0] w fun e w' => ∃ v0_ : Value, e = .returned (v0_) ∧ Kd.R Kd.string 9 w' w.heap.size (fun _ => True) v0_ r ∧ Below w.heap.size w w' := by
 have HB := Aside0.mk (Below.refl w.heap.size w)
 have H := h; unfold spec_WordsOf.f at H
 clear h
 obtain ⟨⟨t170, t171⟩, A2, H⟩ := bs_ H
 (try set_option simprocs false in dsimp only at H)
 go_enter Tryd.func22, Tryd.ntmps22
 go_wp2_with (first | ((with_reducible refine gc_ 50 ?_); refine gl_ (some 7) Tryd.func50 #[.string a0] ?_; (with_reducible refine (spec_PartsOf.calls k a0 t170 t171 _ A2.out).mono ?_); rintro e w5 ⟨v172, rfl, ho0, hb⟩; refine ⟨_, rfl, ?_⟩; have HO173 := Aside0.mk (Kd.R_lower ho0 (below_size HB.out)); replace HB := hb_ HB hb; try clear hb; try clear ho0; refine stop_ ?_; intro G_ HG_))
 by_cases c3 : t171 = true
 ·subst c3
  (try rw [if_pos rfl] at H)
  obtain ⟨y174, hy174⟩ : ∃ y_ : List ByteArray, y_ = (([] : List ByteArray)) := ⟨_, rfl⟩
  replace H : (if y174.length + t170.length < 8796093022208 then (some (y174 ++ t170)) else (none)) = some r := by subst hy174; first | with_reducible exact H | with_reducible exact (Option.bind_some _ _).symm.trans H | exact H
  have Ny174 := Aside0.mk hy174
  clear hy174
  by_cases c4 : y174.length + t170.length < 8796093022208
  ·rw [if_pos c4] at H
   have LMc4 := Aside0.mk c4
   clear c4
   obtain ⟨y177, hy177⟩ : ∃ y_ : List ByteArray, y_ = (y174 ++ t170) := ⟨_, rfl⟩
   replace H : (some y177) = some r := by subst hy177; first | with_reducible exact H | with_reducible exact (Option.bind_some _ _).symm.trans H | exact H
   have Ny177 := Aside0.mk hy177
   clear hy177
   obtain rfl := Option.some.inj H
   refine HG_.out ?_; clear HG_
   go_wp2_with (first | ((with_reducible refine gd_ 13 ?_); refine Kd.R_lit Kd.string _ 9 ?hg (N := 13) ?hd (xs := ([] : List ByteArray)) (inner := []) (ok := fun _ => True) (okp := fun _ => True) ?hr ?hp (fun _ hk => hk) trivial (Below.refl _ _) (Nat.le_refl _) (by simp) ?_; (case hd => rfl); (case hg => rfl); (case hr => first | (go_simp; done) | (go_simp; rfl)); (case hp => exact (Reps.none _ _)); intro v175 w6 ho7 hb hg_ hnew_; clear hg_ hnew_; (first | rw [← Ny174.out] at ho7 | (simp only [Int.reduceToNat] at ho7; rw [← Ny174.out] at ho7)); have HO176 := Aside0.mk (Kd.R_lower (Kd.R_new' ho7 (Kd.R_lt HO173.out)) (below_size HB.out)); replace HO173 := Aside0.mk (Kd.R_elder' HO173.out (Kd.R_base ho7) hb); replace HB := hb_ HB hb; clear hb ho7; obtain ⟨Ao9, co9, rfl⟩ := Kd.R_slice HO173.out) | ((with_reducible refine gate_builtin (b := .append) (xs := #[.tmp 13, .tmp 14]) rfl ?_); at_builtin; refine Kd.R_append_rows Kd.string (w0 := w) w.heap.size rfl (.tmp 13) (.tmp 14) 22 9 (.string ⟨#[]⟩) 16 rfl Tryd.underlying22 info9 rfl (by decide) (by omega) v175 y174 t170 _ _ _ (fun k_ => some k_ ≠ (.slice Ao9 t170.length co9 : Value).ownBlock) (fun _ => False) rfl rfl ?aO ?aR (fun _ _ h => h) (fun _ h => h.elim) ?aF ?aB ?aS ?aL ?_; (case aR => exact (Kd.R_reads' HO173.out).2.2); (case aB => exact HB.out); (case aF => exact (fun k_ hk => Kd.fresh' (Kd.R_lt HO173.out) k_ hk)); (case aO => exact (rm_ HO176)); (case aS => exact (below_size HB.out)); (case aL => have := LMc4.out; omega); intro v178 w8 ho hb hg hat; rw [← Ny177.out] at ho; replace HB := Aside0.mk (hb); have HO179 := Aside0.mk (ho); clear HO176; clear ho hb hg hat))
   go_ret
   exact ⟨_, re_, by (with_reducible repeat (first | apply Kd.R_alloc | apply Kd.R_drewN | apply Kd.R_drew)); exact Kd.R_mono HO179.out (fun _ hk => trivial), bl_⟩
  ·rw [if_neg c4] at H
   exact absurd H (by simp)
 ·replace c3 := Bool.eq_false_iff.mpr c3
  subst c3
  (try rw [if_neg (show ¬ (false = true) by decide)] at H)
  obtain ⟨y180, hy180⟩ : ∃ y_ : List ByteArray, y_ = (([] : List ByteArray)) := ⟨_, rfl⟩
  replace H : (some y180) = some r := by subst hy180; first | with_reducible exact H | with_reducible exact (Option.bind_some _ _).symm.trans H | exact H
  have Ny180 := Aside0.mk hy180
  clear hy180
  obtain rfl := Option.some.inj H
  refine HG_.out ?_; clear HG_
  go_wp2_with (first | ((with_reducible refine gd_ 12 ?_); refine Kd.R_lit Kd.string _ 9 ?hg (N := 12) ?hd (xs := ([] : List ByteArray)) (inner := []) (ok := fun _ => True) (okp := fun _ => True) ?hr ?hp (fun _ hk => hk) trivial (Below.refl _ _) (Nat.le_refl _) (by simp) ?_; (case hd => rfl); (case hg => rfl); (case hr => first | (go_simp; done) | (go_simp; rfl)); (case hp => exact (Reps.none _ _)); intro v181 w11 ho12 hb hg_ hnew_; clear hg_ hnew_; (first | rw [← Ny180.out] at ho12 | (simp only [Int.reduceToNat] at ho12; rw [← Ny180.out] at ho12)); have HO182 := Aside0.mk (Kd.R_lower (Kd.R_new' ho12 (Kd.R_lt HO173.out)) (below_size HB.out)); replace HB := hb_ HB hb; clear hb ho12))
  go_ret
  exact ⟨_, re_, by (with_reducible repeat (first | apply Kd.R_alloc | apply Kd.R_drewN | apply Kd.R_drew)); exact Kd.R_mono HO182.out (fun _ hk => trivial), bl_⟩

end Go.Proofs.YtdokcckgnamnfaaDoor.QFnExactStepBring
