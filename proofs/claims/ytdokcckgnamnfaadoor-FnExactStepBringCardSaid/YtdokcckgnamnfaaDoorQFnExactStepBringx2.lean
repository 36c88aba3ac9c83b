-- Written by a program of this session (myprint) out of Lean's own print of the translation. Lean checks it.
import Derived.Test.YtdokcckgnamnfaaDoorShorter
import Derived.Test.YtdokcckgnamnfaaDoorSteps
import Derived.Test.YtdokcckgnamnfaaDoorQFnExactStepBringx0
namespace Go.Proofs.YtdokcckgnamnfaaDoor.QFnExactStepBring
open Go.Proofs.YtdokcckgnamnfaaDoorF
open Go.RowKit Go.Proofs.YtdokcckgnamnfaaDoorW.PrintWords Go.Proofs.YtdokcckgnamnfaaDoorW.PrintLast Go.Proofs.YtdokcckgnamnfaaDoorW.PrintMore
attribute [local go_sem] max2_int min2_int max_two min_two max_three min_three max_four min_four   -- for this text's walks alone
set_option maxHeartbeats 8000000
set_option maxRecDepth 100000
set_option linter.unusedVariables false
set_option linter.unusedSimpArgs false

/-! ### spec_l19Copy: function 21 -/
def spec_l19Copy.f (a0_0 : Int) (a0_1 : ByteArray) (l0_2 : List ByteArray) (l0_3 : List ByteArray) : Option (Int × ByteArray × List ByteArray × List ByteArray) := (some (([] : List ByteArray) : List ByteArray)).bind fun y116 => (if y116.length + l0_2.length < 8796093022208 then ((some (([] : List ByteArray) : List ByteArray)).bind fun y122 => (if y122.length + l0_3.length < 8796093022208 then (some (a0_0, a0_1, (y116 ++ l0_2), (y122 ++ l0_3))) else (none))) else (none))
def spec_l19Copy.T1 : Bool × List (List Nat × List Nat) := (true, [([], []), ([0], [0]), ([], []), ([2], [2]), ([], []), ([], []), ([5], [5]), ([4, 6], [4, 6]), ([], []), ([], []), ([9], [9]), ([8, 10, 7], [8, 10]), ([1, 3, 7, 11], [1, 3, 7, 11]), ([12, 11, 0, 1, 2, 3, 4, 5, 6, 7, 8, 9, 10, 11, 12], [12])])
def spec_l19Copy.B1 : List Nat := [0, 1, 0, 4, 0, 0, 32, 112, 0, 0, 512, 2032, 4095, 8191]
theorem spec_l19Copy.tab1 : rtab .any (opsOf Tryd.f21 1) = spec_l19Copy.T1 := by kernel_rfl
theorem spec_l19Copy.bits1 : waitsOk spec_l19Copy.T1.2 spec_l19Copy.B1 = true := by kernel_rfl
theorem spec_l19Copy.calls (a0_0 : Int) (a0_1 : ByteArray) (A0_2 : Option Addr) (c0_2 : Nat) (l0_2 : List ByteArray) (A0_3 : Option Addr) (c0_3 : Nat) (l0_3 : List ByteArray) (r1 : Int) (r2 : ByteArray) (r3 : List ByteArray) (r4 : List ByteArray) (w : World) (hr0_2 : Kd.C Kd.string w A0_2 l0_2.length l0_2) (hc0_2 : l0_2.length ≤ c0_2) (hr0_3 : Kd.C Kd.string w A0_3 l0_3.length l0_3) (hc0_3 : l0_3.length ≤ c0_3) (h : spec_l19Copy.f a0_0 a0_1 l0_2 l0_3 = some (r1, r2, r3, r4)) :
  Calls Tryd.prog 21 #[.agg #[.int .i64 a0_0, .string a0_1, .slice A0_2 l0_2.length c0_2, .slice A0_3 l0_3.length c0_3]] w fun e w' => ∃ v2_ v3_ : Value, e = .returned (.agg #[.int .i64 r1, .string r2, v2_, v3_]) ∧ Kd.R Kd.string 9 w' w.heap.size (fun k_ => some k_ ≠ (v3_ : Value).ownBlock) v2_ r3 ∧ Kd.R Kd.string 9 w' w.heap.size (fun k_ => some k_ ≠ (v2_ : Value).ownBlock) v3_ r4 ∧ Below w.heap.size w w' := by
 have hu30 := Tryd.underlying30
 have HR0_2 := Aside0.mk hr0_2
 have HC0_2 := Aside0.mk hc0_2
 clear hr0_2 hc0_2
 have HR0_3 := Aside0.mk hr0_3
 have HC0_3 := Aside0.mk hc0_3
 clear hr0_3 hc0_3
 have HB := Aside0.mk (Below.refl w.heap.size w)
 have H := h; unfold spec_l19Copy.f at H
 clear h
 obtain ⟨y116, hy116⟩ : ∃ y_ : List ByteArray, y_ = (([] : List ByteArray)) := ⟨_, rfl⟩
 replace H : (if y116.length + l0_2.length < 8796093022208 then ((some (([] : List ByteArray) : List ByteArray)).bind fun y122 => (if y122.length + l0_3.length < 8796093022208 then (some (a0_0, a0_1, (y116 ++ l0_2), (y122 ++ l0_3))) else (none))) else (none)) = some (r1, r2, r3, r4) := by subst hy116; first | with_reducible exact H | with_reducible exact (Option.bind_some _ _).symm.trans H | exact H
 have Ny116 := Aside0.mk hy116
 clear hy116
 by_cases c2 : y116.length + l0_2.length < 8796093022208
 ·rw [if_pos c2] at H
  have LMc2 := Aside0.mk c2
  clear c2
  obtain ⟨y119, hy119⟩ : ∃ y_ : List ByteArray, y_ = (y116 ++ l0_2) := ⟨_, rfl⟩
  replace H : ((some (([] : List ByteArray) : List ByteArray)).bind fun y122 => (if y122.length + l0_3.length < 8796093022208 then (some (a0_0, a0_1, y119, (y122 ++ l0_3))) else (none))) = some (r1, r2, r3, r4) := by subst hy119; first | with_reducible exact H | with_reducible exact (Option.bind_some _ _).symm.trans H | exact H
  have Ny119 := Aside0.mk hy119
  clear hy119
  obtain ⟨y122, hy122⟩ : ∃ y_ : List ByteArray, y_ = (([] : List ByteArray)) := ⟨_, rfl⟩
  replace H : (if y122.length + l0_3.length < 8796093022208 then (some (a0_0, a0_1, y119, (y122 ++ l0_3))) else (none)) = some (r1, r2, r3, r4) := by subst hy122; first | with_reducible exact H | with_reducible exact (Option.bind_some _ _).symm.trans H | exact H
  have Ny122 := Aside0.mk hy122
  clear hy122
  by_cases c3 : y122.length + l0_3.length < 8796093022208
  ·rw [if_pos c3] at H
   have LMc3 := Aside0.mk c3
   clear c3
   obtain ⟨y125, hy125⟩ : ∃ y_ : List ByteArray, y_ = (y122 ++ l0_3) := ⟨_, rfl⟩
   replace H : (some (a0_0, a0_1, y119, y125)) = some (r1, r2, r3, r4) := by subst hy125; first | with_reducible exact H | with_reducible exact (Option.bind_some _ _).symm.trans H | exact H
   have Ny125 := Aside0.mk hy125
   clear hy125
   simp only [Option.some.injEq, Prod.mk.injEq] at H
   obtain ⟨rfl, rfl, rfl, rfl⟩ := H
   go_enter Tryd.func21, Tryd.ntmps21
   try go_wp2_with (first | ((with_reducible refine gd_ 1 ?_); refine bx_ 1 30 #[.int .i64 a0_0, .string a0_1, .slice A0_2 l0_2.length c0_2, .slice A0_3 l0_3.length c0_3] ?_; intro gb114 hg w4 hbox hb; have BK114 := Aside0.mk (hbox); have GE114 := ge_ hg HB; replace HB := hb_ HB hb; clear hb hbox hg) | ((with_reducible refine gd_ 2 ?_); refine bx_ 2 30 #[.int .i64 0, .string (⟨#[]⟩ : ByteArray), .slice none 0 0, .slice none 0 0] ?_; intro gb115 hg w5 hbox hb; have BK115 := Aside0.mk (hbox); have GE115 := ge_ hg HB; replace HB := hb_ HB hb; have NB114_115 := nl_ hg BK114; have NB115_114 := ng_ hg BK114; replace BK114 := bb_ BK114 hb; clear hb hbox hg))
   replace BK114 := Aside0.mk (blk_drew BK114.out)
   replace BK115 := Aside0.mk (blk_drew BK115.out)
   replace HB := hd_ HB
   refine start_ (n := 14) (S := fun w' => w'.cell? ⟨gb114, 0, none⟩ = some (.int .i64 a0_0) ∧ w'.cell? ⟨gb114, 1, none⟩ = some (.string a0_1) ∧ w'.cell? ⟨gb114, 2, none⟩ = some (.slice A0_2 l0_2.length c0_2) ∧ w'.cell? ⟨gb114, 3, none⟩ = some (.slice A0_3 l0_3.length c0_3)) (ds := []) (fl 14 0) (by kernel_rfl) rfl rfl ⟨bc_ BK114 0, bc_ BK114 1, bc_ BK114 2, bc_ BK114 3⟩ (fun hHeld => ?_); refine with_tabW spec_l19Copy.tab1 spec_l19Copy.bits1 (fun HT_ HW_ => ?_)
   generalize w5.drew = w6 at BK114 BK115 HB hHeld ⊢
   refine pq_ 0 3 (fl 14 1) HT_.out ?_
   refine pq_ 2 5 (fl 14 5) HT_.out ?_
   refine pq_ 5 8 (fl 14 37) HT_.out ?_
   refine pq_ 9 12 (fl 14 549) HT_.out ?_
   refine tq_ 1 4 (fl 14 551) HT_.out HW_.out hHeld ?_
   refine tq_ 3 6 (fl 14 559) HT_.out HW_.out hHeld ?_
   refine tq_ 6 9 (fl 14 623) HT_.out HW_.out hHeld ?_
   refine tq_ 10 13 (fl 14 1647) HT_.out HW_.out hHeld ?_
   refine join_ (σ := Value × Value × Value) 3 (fl 14 2047) (fun s_ => [(7, s_.1), (10, s_.2.1), (11, s_.2.2)]) (fun s_ w' => (w'.cell? ⟨gb114, 0, none⟩ = some (.int .i64 a0_0) ∧ w'.cell? ⟨gb114, 1, none⟩ = some (.string a0_1) ∧ w'.cell? ⟨gb114, 2, none⟩ = some (.slice A0_2 l0_2.length c0_2) ∧ w'.cell? ⟨gb114, 3, none⟩ = some (.slice A0_3 l0_3.length c0_3)) ∧ (Kd.R Kd.string 9 w' w.heap.size (fun k_ => some k_ ≠ (s_.2.2 : Value).ownBlock) s_.2.1 y119) ∧ (Kd.R Kd.string 9 w' w.heap.size (fun k_ => some k_ ≠ (s_.2.1 : Value).ownBlock) s_.2.2 y122) ∧ (w'.heap[gb114]? = some (.cells #[.int .i64 a0_0, .string a0_1, .slice A0_2 l0_2.length c0_2, .slice A0_3 l0_3.length c0_3] 30 (0, 0))) ∧ (w'.heap[gb115]? = some (.cells #[.int .i64 0, .string (⟨#[]⟩ : ByteArray), .slice none 0 0, .slice none 0 0] 30 (0, 0))) ∧ (Below w.heap.size w w')) ?_ ?_
   rotate_left
   ·intro hCont
    refine two_ (i := 4) (j := 8) (Ni := some 7) (Nj := some 11) (fl 14 1663) (fl 14 1903) rfl rfl rfl rfl (two_of HT_.out (by kernel_rfl)) (by decide) (by decide) (fun K hK => ?_) (fun K hK => ?_)
    ·skip
     refine Kd.R_lit_step Kd.string _ 9 ?hg (N := 7) ?hd (xs := ([] : List ByteArray)) (inner := []) (ok := fun _ => True) (okp := fun _ => True) ?hr ?hp (fun _ hk => hk) trivial (Below.refl _ _) (Nat.le_refl _) (by simp) ?_; (case hd => rfl); (case hg => rfl); (case hr => first | (go_simp; done) | (go_simp; rfl)); (case hp => exact (Reps.none _ _))
     intro v117 w7 ho8 hb hg_ hnew_
     clear hg_ hnew_
     (first | rw [← Ny116.out] at ho8 | (simp only [Int.reduceToNat] at ho8; rw [← Ny116.out] at ho8))
     have HO118 := Aside0.mk (Kd.R_lower ho8 (below_size HB.out))
     replace BK114 := bb_ BK114 hb
     replace BK115 := bb_ BK115 hb
     replace HB := hb_ HB hb
     clear hb ho8
     refine hK.out _ _ ⟨bc_ BK114 0, bc_ BK114 1, bc_ BK114 2, bc_ BK114 3⟩ (fun hHeld => ?_)
     clear hK K
     refine nq_ ?_
     refine two_ (i := 7) (j := 8) (Ni := some 10) (Nj := some 11) (fl 14 1791) (fl 14 1919) rfl rfl rfl rfl (two_of HT_.out (by kernel_rfl)) (by decide) (by decide) (fun K hK => ?_) (fun K hK => ?_)
     ·skip
      refine Kd.R_append_rows_step Kd.string (w0 := w) w.heap.size (by rfl) (.tmp 7) (.tmp 9) 22 9 (.string ⟨#[]⟩) 16 rfl Tryd.underlying22 info9 rfl (by decide) (by omega) v117 y116 l0_2 _ _ _ (fun _ => True) (fun _ => False) rfl rfl ?aO ?aR (fun _ _ h => h) (fun _ h => h.elim) ?aF ?aB ?aS ?aL ?_
      (case aR => exact (Kd.C_below HR0_2.out HB.out))
      (case aB => exact HB.out)
      (case aF => exact (fun _ _ => trivial))
      (case aO => exact HO118.out)
      (case aS => exact (below_size HB.out))
      (case aL => have := LMc2.out; omega)
      intro v120 w9 ho hb hg hat
      rw [← Ny119.out] at ho
      replace BK114 := bg_ BK114 hg HO118
      replace BK115 := bg_ BK115 hg HO118
      replace HB := Aside0.mk (hb)
      have HO121 := Aside0.mk (ho)
      clear HO118
      clear ho hb hg hat
      refine hK.out _ _ ⟨bc_ BK114 0, bc_ BK114 1, bc_ BK114 2, bc_ BK114 3⟩ (fun hHeld => ?_)
      clear hK K
      refine nq_ ?_
      refine one_ (i := 8) (N := some 11) (fl 14 2047) rfl rfl (one_of HT_.out (by kernel_rfl)) (by decide) (fun K hK => ?_)
      refine Kd.R_lit_step Kd.string _ 9 ?hg (N := 11) ?hd (xs := ([] : List ByteArray)) (inner := []) (ok := fun _ => True) (okp := fun _ => True) ?hr ?hp (fun _ hk => hk) trivial (Below.refl _ _) (Nat.le_refl _) (by simp) ?_; (case hd => rfl); (case hg => rfl); (case hr => first | (go_simp; done) | (go_simp; rfl)); (case hp => exact (Reps.none _ _))
      intro v123 w10 ho11 hb hg_ hnew_
      clear hg_ hnew_
      (first | rw [← Ny122.out] at ho11 | (simp only [Int.reduceToNat] at ho11; rw [← Ny122.out] at ho11))
      have HO124 := Aside0.mk (Kd.R_lower (Kd.R_new' ho11 (Kd.R_lt HO121.out)) (below_size HB.out))
      replace HO121 := Aside0.mk (Kd.R_elder' HO121.out (Kd.R_base ho11) hb)
      replace BK114 := bb_ BK114 hb
      replace BK115 := bb_ BK115 hb
      replace HB := hb_ HB hb
      clear hb ho11
      refine hK.out _ _ ⟨bc_ BK114 0, bc_ BK114 1, bc_ BK114 2, bc_ BK114 3⟩ (fun hHeld => ?_)
      clear hK K
      refine nq_ ?_
      exact norm_ (by simp only [putAll, Act.put, List.setIfInBounds_toArray, List.set_cons_zero, List.set_cons_succ]) (hCont (v117, v120, v123) _ ⟨hHeld, (rm_ HO121), (rm_ HO124), (kl_ BK114), (kl_ BK115), HB.out⟩)
     ·skip
      refine Kd.R_lit_step Kd.string _ 9 ?hg (N := 11) ?hd (xs := ([] : List ByteArray)) (inner := []) (ok := fun _ => True) (okp := fun _ => True) ?hr ?hp (fun _ hk => hk) trivial (Below.refl _ _) (Nat.le_refl _) (by simp) ?_; (case hd => rfl); (case hg => rfl); (case hr => first | (go_simp; done) | (go_simp; rfl)); (case hp => exact (Reps.none _ _))
      intro v123 w9 ho10 hb hg_ hnew_
      clear hg_ hnew_
      (first | rw [← Ny122.out] at ho10 | (simp only [Int.reduceToNat] at ho10; rw [← Ny122.out] at ho10))
      have HO124 := Aside0.mk (Kd.R_lower (Kd.R_new' ho10 (Kd.R_lt HO118.out)) (below_size HB.out))
      replace HO118 := Aside0.mk (Kd.R_elder' HO118.out (Kd.R_base ho10) hb)
      replace BK114 := bb_ BK114 hb
      replace BK115 := bb_ BK115 hb
      replace HB := hb_ HB hb
      clear hb ho10
      refine hK.out _ _ ⟨bc_ BK114 0, bc_ BK114 1, bc_ BK114 2, bc_ BK114 3⟩ (fun hHeld => ?_)
      clear hK K
      refine nq_ ?_
      refine one_ (i := 7) (N := some 10) (fl 14 2047) rfl rfl (one_of HT_.out (by kernel_rfl)) (by decide) (fun K hK => ?_)
      refine Kd.R_append_rows_step Kd.string (w0 := w) w.heap.size (by rfl) (.tmp 7) (.tmp 9) 22 9 (.string ⟨#[]⟩) 16 rfl Tryd.underlying22 info9 rfl (by decide) (by omega) v117 y116 l0_2 _ _ _ (fun k_ => some k_ ≠ (v123 : Value).ownBlock) (fun _ => False) rfl rfl ?aO ?aR (fun _ _ h => h) (fun _ h => h.elim) ?aF ?aB ?aS ?aL ?_
      (case aR => exact (Kd.C_below HR0_2.out HB.out))
      (case aB => exact HB.out)
      (case aF => exact (fun k_ hk => Kd.fresh' (Kd.R_lt HO124.out) k_ hk))
      (case aO => exact (rm_ HO118))
      (case aS => exact (below_size HB.out))
      (case aL => have := LMc2.out; omega)
      intro v120 w11 ho hb hg hat
      rw [← Ny119.out] at ho
      replace BK114 := bg_ BK114 hg HO118
      replace BK115 := bg_ BK115 hg HO118
      replace HO124 := Aside0.mk (Kd.R_after (ok := (fun _ => True)) HO124.out hg hat)
      replace HB := Aside0.mk (hb)
      have HO121 := Aside0.mk (ho)
      clear HO118
      clear ho hb hg hat
      refine hK.out _ _ ⟨bc_ BK114 0, bc_ BK114 1, bc_ BK114 2, bc_ BK114 3⟩ (fun hHeld => ?_)
      clear hK K
      refine nq_ ?_
      exact norm_ (by simp only [putAll, Act.put, List.setIfInBounds_toArray, List.set_cons_zero, List.set_cons_succ]) (hCont (v117, v120, v123) _ ⟨hHeld, HO121.out, (rm_ HO124), (kl_ BK114), (kl_ BK115), HB.out⟩)
    ·skip
     refine Kd.R_lit_step Kd.string _ 9 ?hg (N := 11) ?hd (xs := ([] : List ByteArray)) (inner := []) (ok := fun _ => True) (okp := fun _ => True) ?hr ?hp (fun _ hk => hk) trivial (Below.refl _ _) (Nat.le_refl _) (by simp) ?_; (case hd => rfl); (case hg => rfl); (case hr => first | (go_simp; done) | (go_simp; rfl)); (case hp => exact (Reps.none _ _))
     intro v123 w7 ho8 hb hg_ hnew_
     clear hg_ hnew_
     (first | rw [← Ny122.out] at ho8 | (simp only [Int.reduceToNat] at ho8; rw [← Ny122.out] at ho8))
     have HO124 := Aside0.mk (Kd.R_lower ho8 (below_size HB.out))
     replace BK114 := bb_ BK114 hb
     replace BK115 := bb_ BK115 hb
     replace HB := hb_ HB hb
     clear hb ho8
     refine hK.out _ _ ⟨bc_ BK114 0, bc_ BK114 1, bc_ BK114 2, bc_ BK114 3⟩ (fun hHeld => ?_)
     clear hK K
     refine nq_ ?_
     refine one_ (i := 4) (N := some 7) (fl 14 1919) rfl rfl (one_of HT_.out (by kernel_rfl)) (by decide) (fun K hK => ?_)
     refine Kd.R_lit_step Kd.string _ 9 ?hg (N := 7) ?hd (xs := ([] : List ByteArray)) (inner := []) (ok := fun _ => True) (okp := fun _ => True) ?hr ?hp (fun _ hk => hk) trivial (Below.refl _ _) (Nat.le_refl _) (by simp) ?_; (case hd => rfl); (case hg => rfl); (case hr => first | (go_simp; done) | (go_simp; rfl)); (case hp => exact (Reps.none _ _))
     intro v117 w9 ho10 hb hg_ hnew_
     clear hg_ hnew_
     (first | rw [← Ny116.out] at ho10 | (simp only [Int.reduceToNat] at ho10; rw [← Ny116.out] at ho10))
     have HO118 := Aside0.mk (Kd.R_lower (Kd.R_new' ho10 (Kd.R_lt HO124.out)) (below_size HB.out))
     replace HO124 := Aside0.mk (Kd.R_elder' HO124.out (Kd.R_base ho10) hb)
     replace BK114 := bb_ BK114 hb
     replace BK115 := bb_ BK115 hb
     replace HB := hb_ HB hb
     clear hb ho10
     refine hK.out _ _ ⟨bc_ BK114 0, bc_ BK114 1, bc_ BK114 2, bc_ BK114 3⟩ (fun hHeld => ?_)
     clear hK K
     refine nq_ ?_
     refine one_ (i := 7) (N := some 10) (fl 14 2047) rfl rfl (one_of HT_.out (by kernel_rfl)) (by decide) (fun K hK => ?_)
     refine Kd.R_append_rows_step Kd.string (w0 := w) w.heap.size (by rfl) (.tmp 7) (.tmp 9) 22 9 (.string ⟨#[]⟩) 16 rfl Tryd.underlying22 info9 rfl (by decide) (by omega) v117 y116 l0_2 _ _ _ (fun k_ => some k_ ≠ (v123 : Value).ownBlock) (fun _ => False) rfl rfl ?aO ?aR (fun _ _ h => h) (fun _ h => h.elim) ?aF ?aB ?aS ?aL ?_
     (case aR => exact (Kd.C_below HR0_2.out HB.out))
     (case aB => exact HB.out)
     (case aF => exact (fun k_ hk => Kd.fresh' (Kd.R_lt HO124.out) k_ hk))
     (case aO => exact (rm_ HO118))
     (case aS => exact (below_size HB.out))
     (case aL => have := LMc2.out; omega)
     intro v120 w11 ho hb hg hat
     rw [← Ny119.out] at ho
     replace BK114 := bg_ BK114 hg HO118
     replace BK115 := bg_ BK115 hg HO118
     replace HO124 := Aside0.mk (Kd.R_after (ok := (fun _ => True)) HO124.out hg hat)
     replace HB := Aside0.mk (hb)
     have HO121 := Aside0.mk (ho)
     clear HO118
     clear ho hb hg hat
     refine hK.out _ _ ⟨bc_ BK114 0, bc_ BK114 1, bc_ BK114 2, bc_ BK114 3⟩ (fun hHeld => ?_)
     clear hK K
     refine nq_ ?_
     exact norm_ (by simp only [putAll, Act.put, List.setIfInBounds_toArray, List.set_cons_zero, List.set_cons_succ]) (hCont (v117, v120, v123) _ ⟨hHeld, HO121.out, (rm_ HO124), (kl_ BK114), (kl_ BK115), HB.out⟩)
   rintro ⟨v117, v120, v123⟩ w12 ⟨hS_, h0_, h1_, h2_, h3_, h4_⟩
   have n0_ : Aside0 (Kd.R Kd.string 9 w12 w.heap.size (fun k_ => some k_ ≠ (v123 : Value).ownBlock) v120 y119) := ⟨h0_⟩
   have n1_ : Aside0 (Kd.R Kd.string 9 w12 w.heap.size (fun k_ => some k_ ≠ (v120 : Value).ownBlock) v123 y122) := ⟨h1_⟩
   have n2_ : Aside0 (w12.heap[gb114]? = some (.cells #[.int .i64 a0_0, .string a0_1, .slice A0_2 l0_2.length c0_2, .slice A0_3 l0_3.length c0_3] 30 (0, 0))) := ⟨h2_⟩
   have n3_ : Aside0 (w12.heap[gb115]? = some (.cells #[.int .i64 0, .string (⟨#[]⟩ : ByteArray), .slice none 0 0, .slice none 0 0] 30 (0, 0))) := ⟨h3_⟩
   have n4_ : Aside0 (Below w.heap.size w w12) := ⟨h4_⟩
   clear BK114
   clear BK115
   clear HB
   clear h0_ h1_ h2_ h3_ h4_
   have HO121 := n0_
   have HO124 := n1_
   have BK114 := n2_
   have BK115 := n3_
   have HB := n4_
   clear n0_ n1_ n2_ n3_ n4_
   have hHeld : w12.cell? ⟨gb114, 0, none⟩ = some (.int .i64 a0_0) ∧ w12.cell? ⟨gb114, 1, none⟩ = some (.string a0_1) ∧ w12.cell? ⟨gb114, 2, none⟩ = some (.slice A0_2 l0_2.length c0_2) ∧ w12.cell? ⟨gb114, 3, none⟩ = some (.slice A0_3 l0_3.length c0_3) := hS_
   refine norm_ (a' := ?_) ?_ ?_
   rotate_left
   ·simp only [putAll, Act.put, List.setIfInBounds_toArray, List.set_cons_zero, List.set_cons_succ]
    rfl
   refine one_ (i := 11) (N := some 14) (fl 14 4095) rfl rfl (one_of HT_.out (by kernel_rfl)) (by decide) (fun K hK => ?_)
   refine Kd.R_append_rows_step Kd.string (w0 := w) w.heap.size (by rfl) (.tmp 11) (.tmp 13) 22 9 (.string ⟨#[]⟩) 16 rfl Tryd.underlying22 info9 rfl (by decide) (by omega) v123 y122 l0_3 _ _ _ (fun k_ => some k_ ≠ (v120 : Value).ownBlock) (fun _ => False) rfl rfl ?aO ?aR (fun _ _ h => h) (fun _ h => h.elim) ?aF ?aB ?aS ?aL ?_
   (case aR => exact (Kd.C_below HR0_3.out HB.out))
   (case aB => exact HB.out)
   (case aF => exact (fun k_ hk => Kd.fresh' (Kd.R_lt HO121.out) k_ hk))
   (case aO => exact HO124.out)
   (case aS => exact (below_size HB.out))
   (case aL => have := LMc3.out; omega)
   intro v126 w13 ho hb hg hat
   rw [← Ny125.out] at ho
   replace BK114 := bg_ BK114 hg HO124
   replace BK115 := bg_ BK115 hg HO124
   replace HO121 := Aside0.mk (Kd.R_after (ok := (fun _ => True)) (by (with_reducible repeat (first | apply Kd.R_alloc | apply Kd.R_drewN | apply Kd.R_drew)); exact Kd.R_mono HO121.out (fun _ hk => ⟨trivial, hk⟩)) hg hat)
   replace HB := Aside0.mk (hb)
   have HO127 := Aside0.mk (ho)
   clear HO124
   clear ho hb hg hat
   obtain ⟨Ao14, co14, eo14⟩ := Kd.R_slice HO127.out
   (first | subst eo14 | (injection eo14 with f1_ f2_ f3_; have f4_ := f1_.symm; have f5_ := f3_.symm; clear f1_ f2_ f3_; subst f4_; subst f5_))
   obtain ⟨Ao15, co15, eo15⟩ := Kd.R_slice HO121.out
   (first | subst eo15 | (injection eo15 with f1_ f2_ f3_; have f4_ := f1_.symm; have f5_ := f3_.symm; clear f1_ f2_ f3_; subst f4_; subst f5_))
   refine hK.out _ _ ⟨bc_ BK114 0, bc_ BK114 1, bc_ BK114 2, bc_ BK114 3⟩ (fun hHeld => ?_)
   clear hK K
   refine nq_ ?_
   refine pq_ 12 15 (fl 14 8191) HT_.out ?_
   refine one_ (i := 13) (N := none) (fl 14 16383) rfl rfl (one_of HT_.out (by kernel_rfl)) (by decide) (fun K hK => ?_)
   have hs16 : w13.cell? ⟨gb115, 0, none⟩ = some (.int .i64 0) := bc_ BK115 0
   have hfs16 := blk_frozen BK115.out 0
   have hns16_0 := NB114_115.out
   have hms16_0 := NB115_114.out
   have hs17 : w13.cell? ⟨gb115, 1, none⟩ = some (.string (⟨#[]⟩ : ByteArray)) := bc_ BK115 1
   have hfs17 := blk_frozen BK115.out 1
   have hns17_0 := NB114_115.out
   have hms17_0 := NB115_114.out
   have hs18 : w13.cell? ⟨gb115, 2, none⟩ = some (.slice none 0 0) := bc_ BK115 2
   have hfs18 := blk_frozen BK115.out 2
   have hns18_0 := NB114_115.out
   have hms18_0 := NB115_114.out
   have hs19 : w13.cell? ⟨gb115, 3, none⟩ = some (.slice none 0 0) := bc_ BK115 3
   have hfs19 := blk_frozen BK115.out 3
   have hns19_0 := NB114_115.out
   have hms19_0 := NB115_114.out
   refine skip_ (w1 := ?_) (by rfl) rfl ?_ ?_
   rotate_left
   ·go_simp
    rfl
   refine hK.out _ _ ⟨((cell_far (p := ⟨gb115, _, none⟩) NB114_115.out _).trans (((cell_far (p := ⟨gb115, _, none⟩) NB114_115.out _).trans (((cell_far (p := ⟨gb115, _, none⟩) NB114_115.out _).trans (((cell_far (p := ⟨gb115, _, none⟩) NB114_115.out _).trans (hHeld.1)))))))), ((cell_far (p := ⟨gb115, _, none⟩) NB114_115.out _).trans (((cell_far (p := ⟨gb115, _, none⟩) NB114_115.out _).trans (((cell_far (p := ⟨gb115, _, none⟩) NB114_115.out _).trans (((cell_far (p := ⟨gb115, _, none⟩) NB114_115.out _).trans (hHeld.2.1)))))))), ((cell_far (p := ⟨gb115, _, none⟩) NB114_115.out _).trans (((cell_far (p := ⟨gb115, _, none⟩) NB114_115.out _).trans (((cell_far (p := ⟨gb115, _, none⟩) NB114_115.out _).trans (((cell_far (p := ⟨gb115, _, none⟩) NB114_115.out _).trans (hHeld.2.2.1)))))))), ((cell_far (p := ⟨gb115, _, none⟩) NB114_115.out _).trans (((cell_far (p := ⟨gb115, _, none⟩) NB114_115.out _).trans (((cell_far (p := ⟨gb115, _, none⟩) NB114_115.out _).trans (((cell_far (p := ⟨gb115, _, none⟩) NB114_115.out _).trans (hHeld.2.2.2))))))))⟩ (fun hHeld => ?_)
   clear hK K
   refine done_ (done_of HT_.out (by kernel_rfl)) ?_
   try go_wp2
   refine bodyPost_ret (results_cell_row rfl _ _ gb115 30 #[.int .i64 a0_0, .string a0_1, .slice Ao15 y119.length co15, .slice Ao14 y125.length co14] (0, 0) _ rfl (by (with_reducible repeat (first | refine blk_drewN ?_ _ | refine blk_drew ?_ | refine blk_alloc ?_ _)); refine blk_put (cs := #[.int .i64 a0_0, .string a0_1, .slice Ao15 y119.length co15, .slice none 0 0]) ?_ 3 _ rfl; (with_reducible repeat (first | refine blk_drewN ?_ _ | refine blk_drew ?_ | refine blk_alloc ?_ _)); refine blk_put (cs := #[.int .i64 a0_0, .string a0_1, .slice none 0 0, .slice none 0 0]) ?_ 2 _ rfl; (with_reducible repeat (first | refine blk_drewN ?_ _ | refine blk_drew ?_ | refine blk_alloc ?_ _)); refine blk_put (cs := #[.int .i64 a0_0, .string (⟨#[]⟩ : ByteArray), .slice none 0 0, .slice none 0 0]) ?_ 1 _ rfl; (with_reducible repeat (first | refine blk_drewN ?_ _ | refine blk_drew ?_ | refine blk_alloc ?_ _)); refine blk_put (cs := #[.int .i64 0, .string (⟨#[]⟩ : ByteArray), .slice none 0 0, .slice none 0 0]) ?_ 0 _ rfl; (with_reducible repeat (first | refine blk_drewN ?_ _ | refine blk_drew ?_ | refine blk_alloc ?_ _)); exact BK115.out) Tryd.underlying30 rfl (by kernel_rfl)) rfl ?_
   exact ⟨_, _, re_, by (with_reducible repeat (first | apply Kd.R_alloc | apply Kd.R_drewN | apply Kd.R_drew)); exact Kd.R_mono (rg4_ HO121 BK115) (fun _ hk => hk.1.2), by (with_reducible repeat (first | apply Kd.R_alloc | apply Kd.R_drewN | apply Kd.R_drew)); exact Kd.R_mono (rg4_ HO127 BK115) (fun _ hk => hk.1), bl_⟩
  ·rw [if_neg c3] at H
   exact absurd H (by simp)
 ·rw [if_neg c2] at H
  exact absurd H (by simp)

/-! ### spec_UndotLine: function 47 -/
def spec_UndotLine.f (a0 : ByteArray) : Option (ByteArray × Bool) := if a0.toList = ([46] : List UInt8) then (some ((⟨#[]⟩ : ByteArray), false)) else (if (a0.size : Int) > 1 then (if 0 < (a0.size : Int) then (if (bt a0 0) = 46 then (if 1 ≤ (a0.size : Int) then (some (a0.extract 1 a0.size, true)) else (none)) else (some (a0, true))) else (none)) else (some (a0, true)))
theorem spec_UndotLine.calls (a0 : ByteArray) (r1 : ByteArray) (r2 : Bool) (w : World) (h : spec_UndotLine.f a0 = some (r1, r2)) :
  Calls Tryd.prog 47 #[.string a0] w fun e w' => e = .returned (.tuple #[.string r1, .bool r2]) ∧ Drawn0 w w' := by
 have H := h; unfold spec_UndotLine.f at H
 clear h
 by_cases c2 : a0.toList = ([46] : List UInt8)
 ·rw [if_pos c2] at H
  have c2b0 := beq_iff_eq.mpr c2
  have c2b1 := bne_eq_false_iff_eq.mpr c2
  clear c2
  simp only [Option.some.injEq, Prod.mk.injEq] at H
  obtain ⟨rfl, rfl⟩ := H
  go_enter Tryd.func47, Tryd.ntmps47
  go_wp2
  go_ret2
  exact ⟨rf_, dn_⟩
 ·rw [if_neg c2] at H
  have c2b0 := beq_eq_false_iff_ne.mpr c2
  have c2b1 := bne_iff_ne.mpr c2
  by_cases c3 : (a0.size : Int) > 1
  ·rw [if_pos c3] at H
   have c3b0 : decide (1 < (a0.size : Int)) = true := decide_eq_true c3
   have c3b1 : decide (1 < a0.size) = true := decide_eq_true (by omega)
   clear c3
   by_cases c4 : 0 < (a0.size : Int)
   ·rw [if_pos c4] at H
    have c4b0 := decide_eq_true c4
    have c4b1 : decide (0 < a0.size) = true := decide_eq_true (by omega)
    clear c4
    by_cases c6 : (bt a0 0) = 46
    ·rw [if_pos c6] at H
     have c6b0 := beq_iff_eq.mpr c6
     have c6b1 := bne_eq_false_iff_eq.mpr c6
     clear c6
     by_cases c7 : 1 ≤ (a0.size : Int)
     ·rw [if_pos c7] at H
      have c7b0 := eq_true c7
      have c7b1 := decide_eq_true c7
      clear c7
      simp only [Option.some.injEq, Prod.mk.injEq] at H
      obtain ⟨rfl, rfl⟩ := H
      have p5 : 0 ≤ (0 : Int) := (by omega)
      have q5 : 0 < a0.size := (by have : (0 : Int) < (a0.size : Int) := od_; omega)
      have hx5 : ∀ h : 0 < a0.size, ((a0[0]'h).toNat : Int) = bt a0 0 := bt_at a0 0
      clear p5
      have qi5 : (0 < (a0.size : Int)) = True := eq_true (od_)
      replace q5 := eq_true q5
      go_enter Tryd.func47, Tryd.ntmps47
      go_wp2
      go_ret2
      exact ⟨rf_, dn_⟩
     ·rw [if_neg c7] at H
      exact absurd H (by simp)
    ·rw [if_neg c6] at H
     have c6b0 := beq_eq_false_iff_ne.mpr c6
     have c6b1 := bne_iff_ne.mpr c6
     simp only [Option.some.injEq, Prod.mk.injEq] at H
     obtain ⟨rfl, rfl⟩ := H
     have p5 : 0 ≤ (0 : Int) := (by omega)
     have q5 : 0 < a0.size := (by have : (0 : Int) < (a0.size : Int) := od_; omega)
     have hx5 : ∀ h : 0 < a0.size, ((a0[0]'h).toNat : Int) = bt a0 0 := bt_at a0 0
     clear p5
     have qi5 : (0 < (a0.size : Int)) = True := eq_true (od_)
     replace q5 := eq_true q5
     go_enter Tryd.func47, Tryd.ntmps47
     go_wp2
     go_ret2
     exact ⟨rf_, dn_⟩
   ·rw [if_neg c4] at H
    exact absurd H (by simp)
  ·rw [if_neg c3] at H
   have c3b0 : decide (1 < (a0.size : Int)) = false := decide_eq_false c3
   have c3b1 : decide (1 < a0.size) = false := decide_eq_false (by omega)
   clear c3
   simp only [Option.some.injEq, Prod.mk.injEq] at H
   obtain ⟨rfl, rfl⟩ := H
   go_enter Tryd.func47, Tryd.ntmps47
   go_wp2
   go_ret2
   exact ⟨rf_, dn_⟩

/-! ### spec_Traced: function 48 -/
def spec_Traced.f (a0 : ByteArray) (a1 : ByteArray) (a2 : ByteArray) : Option (ByteArray) := if 6 + a1.size ≤ 9223372036854775807 then (if ((⟨#[102, 114, 111, 109, 58, 32]⟩ : ByteArray) ++ a1).size + 5 ≤ 9223372036854775807 then (if (((⟨#[102, 114, 111, 109, 58, 32]⟩ : ByteArray) ++ a1) ++ (⟨#[10, 116, 111, 58, 32]⟩ : ByteArray)).size + a2.size ≤ 9223372036854775807 then (if ((((⟨#[102, 114, 111, 109, 58, 32]⟩ : ByteArray) ++ a1) ++ (⟨#[10, 116, 111, 58, 32]⟩ : ByteArray)) ++ a2).size + 1 ≤ 9223372036854775807 then (if (((((⟨#[102, 114, 111, 109, 58, 32]⟩ : ByteArray) ++ a1) ++ (⟨#[10, 116, 111, 58, 32]⟩ : ByteArray)) ++ a2) ++ (⟨#[10]⟩ : ByteArray)).size + a0.size ≤ 9223372036854775807 then (some ((((((⟨#[102, 114, 111, 109, 58, 32]⟩ : ByteArray) ++ a1) ++ (⟨#[10, 116, 111, 58, 32]⟩ : ByteArray)) ++ a2) ++ (⟨#[10]⟩ : ByteArray)) ++ a0)) else (none)) else (none)) else (none)) else (none)) else (none)
theorem spec_Traced.calls (a0 : ByteArray) (a1 : ByteArray) (a2 : ByteArray) (r : ByteArray) (w : World) (h : spec_Traced.f a0 a1 a2 = some r) :
  Calls Tryd.prog 48 #[.string a0, .string a1, .string a2] w fun e w' => e = .returned (.string r) ∧ Drawn0 w w' := by
 have H := h; unfold spec_Traced.f at H
 clear h
 by_cases c4 : 6 + a1.size ≤ 9223372036854775807
 ·rw [if_pos c4] at H
  have c4b0 := eq_true c4
  have c4b1 := decide_eq_true c4
  try have c4b2 : (9223372036854775807 < 6 + a1.size) = False := eq_false (Nat.not_lt.2 c4)
  by_cases c5 : ((⟨#[102, 114, 111, 109, 58, 32]⟩ : ByteArray) ++ a1).size + 5 ≤ 9223372036854775807
  ·rw [if_pos c5] at H
   have c5b0 := eq_true c5
   have c5b1 := decide_eq_true c5
   try have c5b2 : (9223372036854775807 < ((⟨#[102, 114, 111, 109, 58, 32]⟩ : ByteArray) ++ a1).size + 5) = False := eq_false (Nat.not_lt.2 c5)
   have c5n := c5
   (try simp only [ByteArray.size_append, show (⟨#[102, 114, 111, 109, 58, 32]⟩ : ByteArray).size = 6 from rfl] at c5n)
   have c5nb0 := eq_true c5n
   have c5nb1 := decide_eq_true c5n
   have c5nb2 := eq_false (Nat.not_lt.2 c5n)
   by_cases c6 : (((⟨#[102, 114, 111, 109, 58, 32]⟩ : ByteArray) ++ a1) ++ (⟨#[10, 116, 111, 58, 32]⟩ : ByteArray)).size + a2.size ≤ 9223372036854775807
   ·rw [if_pos c6] at H
    have c6b0 := eq_true c6
    have c6b1 := decide_eq_true c6
    try have c6b2 : (9223372036854775807 < (((⟨#[102, 114, 111, 109, 58, 32]⟩ : ByteArray) ++ a1) ++ (⟨#[10, 116, 111, 58, 32]⟩ : ByteArray)).size + a2.size) = False := eq_false (Nat.not_lt.2 c6)
    have c6n := c6
    (try simp only [ByteArray.size_append, show (⟨#[10, 116, 111, 58, 32]⟩ : ByteArray).size = 5 from rfl, show (⟨#[102, 114, 111, 109, 58, 32]⟩ : ByteArray).size = 6 from rfl] at c6n)
    have c6nb0 := eq_true c6n
    have c6nb1 := decide_eq_true c6n
    have c6nb2 := eq_false (Nat.not_lt.2 c6n)
    by_cases c7 : ((((⟨#[102, 114, 111, 109, 58, 32]⟩ : ByteArray) ++ a1) ++ (⟨#[10, 116, 111, 58, 32]⟩ : ByteArray)) ++ a2).size + 1 ≤ 9223372036854775807
    ·rw [if_pos c7] at H
     have c7b0 := eq_true c7
     have c7b1 := decide_eq_true c7
     try have c7b2 : (9223372036854775807 < ((((⟨#[102, 114, 111, 109, 58, 32]⟩ : ByteArray) ++ a1) ++ (⟨#[10, 116, 111, 58, 32]⟩ : ByteArray)) ++ a2).size + 1) = False := eq_false (Nat.not_lt.2 c7)
     have c7n := c7
     (try simp only [ByteArray.size_append, show (⟨#[10, 116, 111, 58, 32]⟩ : ByteArray).size = 5 from rfl, show (⟨#[102, 114, 111, 109, 58, 32]⟩ : ByteArray).size = 6 from rfl] at c7n)
     have c7nb0 := eq_true c7n
     have c7nb1 := decide_eq_true c7n
     have c7nb2 := eq_false (Nat.not_lt.2 c7n)
     by_cases c8 : (((((⟨#[102, 114, 111, 109, 58, 32]⟩ : ByteArray) ++ a1) ++ (⟨#[10, 116, 111, 58, 32]⟩ : ByteArray)) ++ a2) ++ (⟨#[10]⟩ : ByteArray)).size + a0.size ≤ 9223372036854775807
     ·rw [if_pos c8] at H
      have c8b0 := eq_true c8
      have c8b1 := decide_eq_true c8
      try have c8b2 : (9223372036854775807 < (((((⟨#[102, 114, 111, 109, 58, 32]⟩ : ByteArray) ++ a1) ++ (⟨#[10, 116, 111, 58, 32]⟩ : ByteArray)) ++ a2) ++ (⟨#[10]⟩ : ByteArray)).size + a0.size) = False := eq_false (Nat.not_lt.2 c8)
      have c8n := c8
      (try simp only [ByteArray.size_append, show (⟨#[10]⟩ : ByteArray).size = 1 from rfl, show (⟨#[10, 116, 111, 58, 32]⟩ : ByteArray).size = 5 from rfl, show (⟨#[102, 114, 111, 109, 58, 32]⟩ : ByteArray).size = 6 from rfl] at c8n)
      have c8nb0 := eq_true c8n
      have c8nb1 := decide_eq_true c8n
      have c8nb2 := eq_false (Nat.not_lt.2 c8n)
      obtain rfl := Option.some.inj H
      go_enter Tryd.func48, Tryd.ntmps48
      go_wp2
      go_ret
      exact ⟨rf_, dn_⟩
     ·rw [if_neg c8] at H
      exact absurd H (by simp)
    ·rw [if_neg c7] at H
     exact absurd H (by simp)
   ·rw [if_neg c6] at H
    exact absurd H (by simp)
  ·rw [if_neg c5] at H
   exact absurd H (by simp)
 ·rw [if_neg c4] at H
  exact absurd H (by simp)

/-! ### spec_TextOf: function 49 -/
def spec_TextOf.l0 : Nat → List ByteArray → ByteArray → Int → Option (ByteArray)
 | 0, _, _, _ => none
 | k + 1, x0, x3, x4 => if x4 < (x0.length : Int) then (if 0 ≤ x4 then (if x3.size + (rdOf ByteArray.empty x0 x4).size ≤ 9223372036854775807 then (if (x3 ++ (rdOf ByteArray.empty x0 x4)).size + 1 ≤ 9223372036854775807 then (spec_TextOf.l0 k x0 ((x3 ++ (rdOf ByteArray.empty x0 x4)) ++ (⟨#[10]⟩ : ByteArray)) (wrap64 (x4 + 1))) else (none)) else (none)) else (none)) else (some x3)
def spec_TextOf.f (k : Nat) (l0 : List ByteArray) : Option (ByteArray) := spec_TextOf.l0 k l0 (⟨#[]⟩ : ByteArray) 0
theorem spec_TextOf.mono_l : ∀ k, (∀ y0 y1 y2, LeO (spec_TextOf.l0 k y0 y1 y2) (spec_TextOf.l0 (k + 1) y0 y1 y2))
 | 0 => fun _ _ _ r h => by simp [spec_TextOf.l0] at h
 | k + 1 => by
  have ih0 := spec_TextOf.mono_l k
  ·intro y0 y1 y2
   unfold spec_TextOf.l0
   repeat' first
   | (with_reducible exact ih0 _ _ _)
   | (with_reducible first | exact LeO.refl _ | exact LeO.none _ | refine LeO.ite ?_ ?_ | refine LeO.bind ?_ (fun _ => ?_))
   | refine LeO.ite ?_ ?_
   | refine LeO.bind ?_ (fun _ => ?_)
theorem spec_TextOf.mono : ∀ a0 k, LeO (spec_TextOf.f k a0) (spec_TextOf.f (k + 1) a0) := by
 intro a0 k
 have ih0 := spec_TextOf.mono_l k
 unfold spec_TextOf.f
 repeat' first
   | (with_reducible exact ih0 _ _ _)
   | (with_reducible first | exact LeO.refl _ | exact LeO.none _ | refine LeO.ite ?_ ?_ | refine LeO.bind ?_ (fun _ => ?_))
   | refine LeO.ite ?_ ?_
   | refine LeO.bind ?_ (fun _ => ?_)
theorem spec_TextOf.calls (k : Nat) (A0 : Option Addr) (c0 : Nat) (l0 : List ByteArray) (r : ByteArray) (w : World) (hr0 : Kd.C Kd.string w A0 l0.length l0) (hc0 : l0.length ≤ c0) (h : spec_TextOf.f k l0 = some r) :
  Calls Tryd.prog 49 #[.slice A0 l0.length c0] w fun e w' => e = .returned (.string r) ∧ Drawn0 w w' := by
 have HR0 := Aside0.mk hr0
 have HC0 := Aside0.mk hc0
 clear hr0 hc0
 have H := h; unfold spec_TextOf.f at H
 clear h
 have H' := Aside0.mk H
 clear H
 go_enter Tryd.func49, Tryd.ntmps49
 go_wp2
 go_loopg [3, 4] k (fun kq v3 v4 w' => ∃ (x3_1 : ByteArray) (x4_1 : Int), v3 = .string x3_1 ∧ v4 = .int .i64 x4_1 ∧ Aside0 (spec_TextOf.l0 kq l0 x3_1 x4_1 = some r) ∧ Aside0 (kq ≤ k) ∧ Drawn0 w w')
 case atStart => exact ⟨((⟨#[]⟩ : ByteArray)), (0), rf_, rf_, H', ⟨Nat.le_refl _⟩, dn_⟩
 case round =>
  clear H'
  obtain ⟨x3_1, x4_1, rfl, rfl, HA, HK1, ⟨m1, rfl⟩⟩ := hrel
  cases gk with
  | zero => exact absurd HA.out (by simp [spec_TextOf.l0])
  | succ k1 =>
   have H := HA.out
   clear HA
   simp only [spec_TextOf.l0] at H
   by_cases c2 : x4_1 < (l0.length : Int)
   ·rw [if_pos c2] at H
    have c2b0 := decide_eq_true c2
    clear c2
    by_cases c3 : 0 ≤ x4_1
    ·rw [if_pos c3] at H
     have c3b0 := decide_eq_true c3
     clear c3
     by_cases c4 : x3_1.size + (rdOf ByteArray.empty l0 x4_1).size ≤ 9223372036854775807
     ·rw [if_pos c4] at H
      have c4b0 := eq_true c4
      have c4b1 := decide_eq_true c4
      try have c4b2 : (9223372036854775807 < x3_1.size + (rdOf ByteArray.empty l0 x4_1).size) = False := eq_false (Nat.not_lt.2 c4)
      by_cases c5 : (x3_1 ++ (rdOf ByteArray.empty l0 x4_1)).size + 1 ≤ 9223372036854775807
      ·rw [if_pos c5] at H
       have c5b0 := eq_true c5
       have c5b1 := decide_eq_true c5
       try have c5b2 : (9223372036854775807 < (x3_1 ++ (rdOf ByteArray.empty l0 x4_1)).size + 1) = False := eq_false (Nat.not_lt.2 c5)
       have c5n := c5
       (try simp only [ByteArray.size_append] at c5n)
       have c5nb0 := eq_true c5n
       have c5nb1 := decide_eq_true c5n
       have c5nb2 := eq_false (Nat.not_lt.2 c5n)
       have H' := Aside0.mk H
       clear H
       have p128 : 0 ≤ (x4_1 : Int) := od_
       have q128 : x4_1 < (l0.length : Int) := od_
       obtain ⟨ad128, e128, hx128_0⟩ := Kd.at_string HR0.out x4_1 p128 q128
       cases e128
       replace p128 := eq_true p128
       replace q128 := eq_true q128
       go_wp2
       go_roundg k1
       case measure => have := HK1.out; omega
       case rel => exact ⟨((x3_1 ++ (rdOf ByteArray.empty l0 x4_1)) ++ (⟨#[10]⟩ : ByteArray)), (wrap64 (x4_1 + 1)), rf_, rf_, H', ⟨by have := HK1.out; omega⟩, dn_⟩
      ·rw [if_neg c5] at H
       exact absurd H (by simp)
     ·rw [if_neg c4] at H
      exact absurd H (by simp)
    ·rw [if_neg c3] at H
     exact absurd H (by simp)
   ·rw [if_neg c2] at H
    have c2b0 := decide_eq_false c2
    clear c2
    obtain rfl := Option.some.inj H
    go_wp2
    go_ret
    exact ⟨rf_, dn_⟩

end Go.Proofs.YtdokcckgnamnfaaDoor.QFnExactStepBring
