-- Written by a program of this session (myprint) out of Lean's own print of the translation. Lean checks it.
import Derived.Test.YtdokcckgnamnfaaDoorShorter
import Derived.Test.YtdokcckgnamnfaaDoorHold
import Derived.Test.YtdokcckgnamnfaaDoorQFnExactStepBringx0
import Derived.Test.YtdokcckgnamnfaaDoorQFnExactStepBringx7
namespace Go.Proofs.YtdokcckgnamnfaaDoor.QFnExactStepBring
open Go.Proofs.YtdokcckgnamnfaaDoorF
open Go.RowKit Go.Proofs.YtdokcckgnamnfaaDoorW.PrintWords Go.Proofs.YtdokcckgnamnfaaDoorW.PrintLast Go.Proofs.YtdokcckgnamnfaaDoorW.PrintMore
attribute [local go_sem] max2_int min2_int max_two min_two max_three min_three max_four min_four   -- for this text's walks alone
set_option maxHeartbeats 8000000
set_option maxRecDepth 100000
set_option linter.unusedVariables false
set_option linter.unusedSimpArgs false

/-! ### impl_WordOk: function 34 -/
def impl_WordOk.l0 : Nat → ByteArray → Int → Int → Option (Bool)
 | 0, _, _, _ => none
 | k + 1, x0, x9, x10 => if x10 < x9 then (if 0 ≤ x10 then (if x10 < (x0.size : Int) then (if (bt x0 x10) < 97 then (some false) else (if (bt x0 x10) > 122 then (some false) else (impl_WordOk.l0 k x0 x9 (wrap64 (x10 + 1))))) else (none)) else (none)) else (some true)
def impl_WordOk.f (k : Nat) (a0 : ByteArray) : Option (Bool) := (impl_in.f (a0.size : Int) 1 8).bind fun t383 => (if t383 = true then (impl_WordOk.l0 k a0 (a0.size : Int) 0) else (some false))
theorem impl_WordOk.mono_l : ∀ k, (∀ y0 y1 y2, LeO (impl_WordOk.l0 k y0 y1 y2) (impl_WordOk.l0 (k + 1) y0 y1 y2))
 | 0 => fun _ _ _ r h => by simp [impl_WordOk.l0] at h
 | k + 1 => by
  have ih0 := impl_WordOk.mono_l k
  ·intro y0 y1 y2
   unfold impl_WordOk.l0
   repeat' first
   | (with_reducible exact ih0 _ _ _)
   | (with_reducible first | exact LeO.refl _ | exact LeO.none _ | refine LeO.ite ?_ ?_ | refine LeO.bind ?_ (fun _ => ?_))
   | refine LeO.ite ?_ ?_
   | refine LeO.bind ?_ (fun _ => ?_)
theorem impl_WordOk.mono : ∀ a0 k, LeO (impl_WordOk.f k a0) (impl_WordOk.f (k + 1) a0) := by
 intro a0 k
 have ih0 := impl_WordOk.mono_l k
 unfold impl_WordOk.f
 repeat' first
   | (with_reducible exact ih0 _ _ _)
   | (with_reducible first | exact LeO.refl _ | exact LeO.none _ | refine LeO.ite ?_ ?_ | refine LeO.bind ?_ (fun _ => ?_))
   | refine LeO.ite ?_ ?_
   | refine LeO.bind ?_ (fun _ => ?_)
theorem impl_WordOk.calls (k : Nat) (a0 : ByteArray) (r : Bool) (w : World) (h : impl_WordOk.f k a0 = some r) :
  Calls Tryd.prog 34 #[.string a0] w fun e w' => e = .returned (.bool r) ∧ Drawn0 w w' := by
 have H := h; unfold impl_WordOk.f at H
 clear h
 obtain ⟨t383, A2, H⟩ := bs_ H
 go_enter Tryd.func34, Tryd.ntmps34
 go_wp2_with (first | ((with_reducible refine gc_ 59 ?_); refine gl_ (some 6) Tryd.func59 #[.int .i64 (a0.size : Int), .int .i64 1, .int .i64 8] ?_; (with_reducible refine (impl_in.calls (a0.size : Int) 1 8 t383 _ A2.out).mono ?_); rintro e w' ⟨rfl, ⟨nd, rfl⟩⟩; refine ⟨_, rfl, ?_⟩; refine stop_ ?_; intro G_ HG_))
 by_cases c3 : t383 = true
 ·subst c3
  (try rw [if_pos rfl] at H)
  have H' := Aside0.mk H
  clear H
  refine HG_.out ?_; clear HG_
  go_wp2_with fail
  go_loopg [10] k (fun kq v10 w' => ∃ (x10_1 : Int), v10 = .int .i64 x10_1 ∧ Aside0 (impl_WordOk.l0 kq a0 (a0.size : Int) x10_1 = some r) ∧ Aside0 (kq ≤ k) ∧ Drawn0 w w')
  case atStart => exact ⟨(0), rf_, H', ⟨Nat.le_refl _⟩, dn_⟩
  case round =>
   clear H'
   try clear p2
   try clear c3
   obtain ⟨x10_1, rfl, HA, HK1, ⟨m1, rfl⟩⟩ := hrel
   cases gk with
   | zero => exact absurd HA.out (by simp [impl_WordOk.l0])
   | succ k1 =>
    have H := HA.out
    clear HA
    simp only [impl_WordOk.l0] at H
    by_cases c4 : x10_1 < (a0.size : Int)
    ·rw [if_pos c4] at H
     have c4b0 := decide_eq_true c4
     clear c4
     by_cases c5 : 0 ≤ x10_1
     ·rw [if_pos c5] at H
      have c5b0 := decide_eq_true c5
      clear c5
      by_cases c6 : x10_1 < (a0.size : Int)
      ·rw [if_pos c6] at H
       have c6b0 := decide_eq_true c6
       clear c6
       have p7 : 0 ≤ (x10_1 : Int) := od_
       have q7 : x10_1 < (a0.size : Int) := od_
       have hx7 := bt_at a0 x10_1
       replace p7 := eq_true p7
       replace q7 := eq_true q7
       by_cases c8 : (bt a0 x10_1) < 97
       ·rw [if_pos c8] at H
        have c8b0 := decide_eq_true c8
        clear c8
        obtain rfl := Option.some.inj H
        try simp only [c8b0, Bool.not_true, Bool.not_false]
        go_wp2
        go_ret
        exact ⟨rf_, dn_⟩
       ·rw [if_neg c8] at H
        have c8b0 := decide_eq_false c8
        clear c8
        try simp only [c8b0, Bool.not_true, Bool.not_false]
        have p9 : 0 ≤ (x10_1 : Int) := od_
        have q9 : x10_1 < (a0.size : Int) := od_
        have hx9 := bt_at a0 x10_1
        replace p9 := eq_true p9
        replace q9 := eq_true q9
        by_cases c10 : (bt a0 x10_1) > 122
        ·rw [if_pos c10] at H
         have c10b0 : decide (122 < (bt a0 x10_1)) = true := decide_eq_true c10
         clear c10
         obtain rfl := Option.some.inj H
         try simp only [c10b0, Bool.not_true, Bool.not_false]
         go_wp2
         go_ret
         exact ⟨rf_, dn_⟩
        ·rw [if_neg c10] at H
         have c10b0 : decide (122 < (bt a0 x10_1)) = false := decide_eq_false c10
         clear c10
         have H' := Aside0.mk H
         clear H
         try simp only [c10b0, Bool.not_true, Bool.not_false]
         go_wp2
         go_roundg k1
         case measure => have := HK1.out; omega
         case rel => exact ⟨(wrap64 (x10_1 + 1)), rf_, H', ⟨by have := HK1.out; omega⟩, dn_⟩
      ·rw [if_neg c6] at H
       exact absurd H (by simp)
     ·rw [if_neg c5] at H
      exact absurd H (by simp)
    ·rw [if_neg c4] at H
     have c4b0 := decide_eq_false c4
     clear c4
     obtain rfl := Option.some.inj H
     go_wp2
     go_ret
     exact ⟨rf_, dn_⟩
 ·replace c3 := Bool.eq_false_iff.mpr c3
  subst c3
  (try rw [if_neg (show ¬ (false = true) by decide)] at H)
  obtain rfl := Option.some.inj H
  refine HG_.out ?_; clear HG_
  go_wp2_with fail
  go_ret
  exact ⟨rf_, dn_⟩

/-! ### impl_Mail: function 80 -/
def impl_Mail.f (l0 : List (S101)) : Option ((List (S101))) := (some (([] : List (S101)) : List (S101))).bind fun y384 => (if y384.length + l0.length < 4398046511104 then (some (y384 ++ l0)) else (none))
theorem impl_Mail.calls (A0 : Option Addr) (c0 : Nat) (l0 : List (S101)) (r : List (S101)) (w : World) (hr0 : Kd.C k101 w A0 l0.length l0) (hc0 : l0.length ≤ c0) (h : impl_Mail.f l0 = some r) :
  Calls Tryd.prog 80 #[.slice A0 l0.length c0] w fun e w' => ∃ v0_ : Value, e = .returned (v0_) ∧ Kd.R k101 101 w' w.heap.size (fun _ => True) v0_ r ∧ Below w.heap.size w w' := by
 have hqn_ : ∀ (w : World) (a : Option Addr) (n c n' c' : Nat), (binOp .eql 82 (.slice a n c) (.slice none n' c')).run Tryd.prog w = .ok (.bool a.isNone) w := fun w a n c n' c' => Lib.run_eql_slice_nil w 82 _ a n c n' c' Tryd.underlying82
 cases A0 with
 | none =>
  have hl0 : l0 = [] := by
   rcases Nat.eq_zero_or_pos l0.length with h0 | h0
   ·exact List.eq_nil_of_length_eq_zero h0
   ·obtain ⟨ad, e, _⟩ := hr0.2.2 h0
    cases e
  subst hl0
  obtain rfl : r = [] := by
   simp [impl_Mail.f] at h
   exact h
  clear h
  go_enter Tryd.func80, Tryd.ntmps80
  go_wp2
  go_ret
  exact ⟨_, rfl, Kd.R_nil _ _ _ _ _, Below.refl _ _⟩
 | some a0_ =>
  have HR0 := Aside0.mk hr0
  have HC0 := Aside0.mk hc0
  clear hr0 hc0
  have HB := Aside0.mk (Below.refl w.heap.size w)
  have H := h; unfold impl_Mail.f at H
  clear h
  obtain ⟨y384, hy384⟩ : ∃ y_ : List (S101), y_ = (([] : List (S101))) := ⟨_, rfl⟩
  replace H : (if y384.length + l0.length < 4398046511104 then (some (y384 ++ l0)) else (none)) = some r := by subst hy384; first | with_reducible exact H | with_reducible exact (Option.bind_some _ _).symm.trans H | exact H
  have Ny384 := Aside0.mk hy384
  clear hy384
  by_cases c2 : y384.length + l0.length < 4398046511104
  ·rw [if_pos c2] at H
   have LMc2 := Aside0.mk c2
   clear c2
   obtain ⟨y387, hy387⟩ : ∃ y_ : List (S101), y_ = (y384 ++ l0) := ⟨_, rfl⟩
   replace H : (some y387) = some r := by subst hy387; first | with_reducible exact H | with_reducible exact (Option.bind_some _ _).symm.trans H | exact H
   have Ny387 := Aside0.mk hy387
   clear hy387
   obtain rfl := Option.some.inj H
   go_enter Tryd.func80, Tryd.ntmps80
   go_wp2_with (first | ((with_reducible refine gd_ 5 ?_); refine Kd.R_lit k101 _ 101 ?hg (N := 5) ?hd (xs := ([] : List (S101))) (inner := []) (ok := fun _ => True) (okp := fun _ => True) ?hr ?hp (fun _ hk => hk) trivial (Below.refl _ _) (Nat.le_refl _) (by simp) ?_; (case hd => rfl); (case hg => rfl); (case hr => first | (go_simp; done) | (go_simp; rfl)); (case hp => exact (Reps.none _ _)); intro v385 w3 ho4 hb hg_ hnew_; clear hg_ hnew_; (first | rw [← Ny384.out] at ho4 | (simp only [Int.reduceToNat] at ho4; rw [← Ny384.out] at ho4)); have HO386 := Aside0.mk (Kd.R_lower ho4 (below_size HB.out)); replace HB := hb_ HB hb; clear hb ho4) | ((with_reducible refine gate_builtin (b := .append) (xs := #[.tmp 5, .tmp 6]) rfl ?_); at_builtin; refine Kd.R_append_rows k101 (w0 := w) w.heap.size rfl (.tmp 5) (.tmp 6) 82 101 (.agg #[(.int .i64 0), (.int .i64 0), (.string ⟨#[]⟩)]) 32 rfl Tryd.underlying82 info101 rfl (by decide) (by omega) v385 y384 l0 _ _ _ (fun _ => True) (fun _ => False) rfl rfl ?aO ?aR (fun _ _ h => h) (fun _ h => h.elim) ?aF ?aB ?aS ?aL ?_; (case aR => exact (Kd.C_below HR0.out HB.out)); (case aB => exact HB.out); (case aF => exact (fun _ _ => trivial)); (case aO => exact HO386.out); (case aS => exact (below_size HB.out)); (case aL => have := LMc2.out; omega); intro v388 w5 ho hb hg hat; rw [← Ny387.out] at ho; replace HB := Aside0.mk (hb); have HO389 := Aside0.mk (ho); clear HO386; clear ho hb hg hat))
   go_ret
   exact ⟨_, re_, rl_ HO389, bl_⟩
  ·rw [if_neg c2] at H
   exact absurd H (by simp)

/-! ### impl_cloneBox: function 72 -/
def impl_cloneBox.f (a0_0 : Int) (a0_1 : ByteArray) (a0_2 : ByteArray) (a0_3 : Int) (l0_4 : List (S101)) : Option (Int × ByteArray × ByteArray × Int × (List (S101))) := (impl_Mail.f l0_4).bind fun t392 => (some (a0_0, a0_1, a0_2, a0_3, t392))
theorem impl_cloneBox.calls (a0_0 : Int) (a0_1 : ByteArray) (a0_2 : ByteArray) (a0_3 : Int) (A0_4 : Option Addr) (c0_4 : Nat) (l0_4 : List (S101)) (r1 : Int) (r2 : ByteArray) (r3 : ByteArray) (r4 : Int) (r5 : List (S101)) (w : World) (hr0_4 : Kd.C k101 w A0_4 l0_4.length l0_4) (hc0_4 : l0_4.length ≤ c0_4) (h : impl_cloneBox.f a0_0 a0_1 a0_2 a0_3 l0_4 = some (r1, r2, r3, r4, r5)) :
  Calls Tryd.prog 72 #[.agg #[.int .i64 a0_0, .string a0_1, .string a0_2, .int .i64 a0_3, .slice A0_4 l0_4.length c0_4]] w fun e w' => ∃ v4_ : Value, e = .returned (.agg #[.int .i64 r1, .string r2, .string r3, .int .i64 r4, v4_]) ∧ Kd.R k101 101 w' w.heap.size (fun _ => True) v4_ r5 ∧ Below w.heap.size w w' := by
 have hu84 := Tryd.underlying84
 have HR0_4 := Aside0.mk hr0_4
 have HC0_4 := Aside0.mk hc0_4
 clear hr0_4 hc0_4
 have HB := Aside0.mk (Below.refl w.heap.size w)
 have H := h; unfold impl_cloneBox.f at H
 clear h
 obtain ⟨t392, A2, H⟩ := bs_ H
 simp only [Option.some.injEq, Prod.mk.injEq] at H
 obtain ⟨rfl, rfl, rfl, rfl, rfl⟩ := H
 go_enter Tryd.func72, Tryd.ntmps72
 go_wp2_with (first | (refine lr_ 84 1 BK390 hu84 ?_) | ((with_reducible refine gd_ 1 ?_); refine bx_ 1 84 #[.int .i64 a0_0, .string a0_1, .string a0_2, .int .i64 a0_3, .slice A0_4 l0_4.length c0_4] ?_; intro gb390 hg w3 hbox hb; have BK390 := Aside0.mk (hbox); have GE390 := ge_ hg HB; replace HB := hb_ HB hb; clear hb hbox hg) | ((with_reducible refine gd_ 2 ?_); refine bx_ 2 84 #[.int .i64 0, .string (⟨#[]⟩ : ByteArray), .string (⟨#[]⟩ : ByteArray), .int .i64 0, .slice none 0 0] ?_; intro gb391 hg w4 hbox hb; have BK391 := Aside0.mk (hbox); have GE391 := ge_ hg HB; replace HB := hb_ HB hb; have NB390_391 := nl_ hg BK390; have NB391_390 := ng_ hg BK390; replace BK390 := bb_ BK390 hb; clear hb hbox hg; have hnb5 := NB390_391.out; have hnc5 := NB391_390.out; have hcz6 := blk_cell BK390.out; have hfz6 := blk_frozen BK390.out) | ((with_reducible refine gc_ 80 ?_); refine gl_ (some 5) Tryd.func80 #[.slice A0_4 l0_4.length c0_4] ?_; (with_reducible refine (impl_Mail.calls _ _ l0_4 t392 _ ?side1 ?side2 A2.out).mono ?_); (case side1 => exact (Kd.C_below HR0_4.out HB.out)); (case side2 => exact HC0_4.out); rintro e w7 ⟨v393, rfl, ho0, hb⟩; refine ⟨_, rfl, ?_⟩; have HO394 := Aside0.mk (Kd.R_lower ho0 (below_size HB.out)); replace BK390 := bb_ BK390 hb; replace BK391 := bb_ BK391 hb; replace HB := hb_ HB hb; try clear hb; try clear ho0; obtain ⟨Ao8, co8, rfl⟩ := Kd.R_slice HO394.out) | ((with_reducible refine gs_ 82 6 ?_); refine sp_ 82 6 gb390 4 (.slice Ao8 t392.length co8) #[.int .i64 a0_0, .string a0_1, .string a0_2, .int .i64 a0_3, .slice Ao8 t392.length co8] BK390 ?_; intro w9 hbox hbut; replace HO394 := rs_ hbut HO394 BK390; replace BK390 := Aside0.mk (hbox); replace BK391 := bo_ hbut NB391_390 BK391; replace HB := hs_ HB hbut GE390; clear hbox hbut; have hcz10 := blk_cell BK390.out; have hfz10 := blk_frozen BK390.out) | ((with_reducible refine gs_ 84 2 ?_); refine sp_ 84 2 gb391 0 (.agg #[.int .i64 a0_0, .string a0_1, .string a0_2, .int .i64 a0_3, .slice Ao8 t392.length co8]) #[.int .i64 a0_0, .string a0_1, .string a0_2, .int .i64 a0_3, .slice Ao8 t392.length co8] BK391 ?_; intro w11 hbox hbut; replace HO394 := rs_ hbut HO394 BK391; replace BK390 := bo_ hbut NB390_391 BK390; replace BK391 := Aside0.mk (hbox); replace HB := hs_ HB hbut GE391; clear hbox hbut))
 refine bodyPost_ret (results_cell_row rfl _ _ gb391 84 #[.int .i64 a0_0, .string a0_1, .string a0_2, .int .i64 a0_3, .slice Ao8 t392.length co8] (0, 0) _ rfl (kl_ BK391) Tryd.underlying84 rfl (by kernel_rfl)) rfl ?_
 exact ⟨_, re_, rl_ HO394, bl_⟩

/-! ### impl_BoxOf: function 60 -/
def impl_BoxOf.l0 : Nat → ByteArray → ByteArray → List (S84) → Int → Int → Option (Int × ByteArray × ByteArray × Int × (List (S101)) × Bool)
 | 0, _, _, _, _, _ => none
 | k + 1, x1, x2, x11, x12, x13 => if x13 < x12 then (if 0 ≤ x13 then (if x13 < (x11.length : Int) then (if ((rd_T84 x11 x13).f1).toList = x1.toList then (if ((rd_T84 x11 x13).f2).toList = x2.toList then ((impl_cloneBox.f ((rd_T84 x11 x13).f0) ((rd_T84 x11 x13).f1) ((rd_T84 x11 x13).f2) ((rd_T84 x11 x13).f3) ((rd_T84 x11 x13).f4)).bind fun bt399 => (some (bt399.1, bt399.2.1, bt399.2.2.1, bt399.2.2.2.1, bt399.2.2.2.2, true))) else (impl_BoxOf.l0 k x1 x2 x11 x12 (wrap64 (x13 + 1)))) else (impl_BoxOf.l0 k x1 x2 x11 x12 (wrap64 (x13 + 1)))) else (none)) else (none)) else (some (0, (⟨#[]⟩ : ByteArray), (⟨#[]⟩ : ByteArray), 0, ([] : List (S101)), false))
def impl_BoxOf.f (k : Nat) (l0_0 : List (S84)) (a1 : ByteArray) (a2 : ByteArray) : Option (Int × ByteArray × ByteArray × Int × (List (S101)) × Bool) := impl_BoxOf.l0 k a1 a2 l0_0 (l0_0.length : Int) 0
theorem impl_BoxOf.mono_l : ∀ k, (∀ y0 y1 y2 y3 y4, LeO (impl_BoxOf.l0 k y0 y1 y2 y3 y4) (impl_BoxOf.l0 (k + 1) y0 y1 y2 y3 y4))
 | 0 => fun _ _ _ _ _ r h => by simp [impl_BoxOf.l0] at h
 | k + 1 => by
  have ih0 := impl_BoxOf.mono_l k
  ·intro y0 y1 y2 y3 y4
   unfold impl_BoxOf.l0
   repeat' first
   | (with_reducible exact ih0 _ _ _ _ _)
   | (with_reducible first | exact LeO.refl _ | exact LeO.none _ | refine LeO.ite ?_ ?_ | refine LeO.bind ?_ (fun _ => ?_))
   | refine LeO.ite ?_ ?_
   | refine LeO.bind ?_ (fun _ => ?_)
theorem impl_BoxOf.mono : ∀ a0 a1 a2 k, LeO (impl_BoxOf.f k a0 a1 a2) (impl_BoxOf.f (k + 1) a0 a1 a2) := by
 intro a0 a1 a2 k
 have ih0 := impl_BoxOf.mono_l k
 unfold impl_BoxOf.f
 repeat' first
   | (with_reducible exact ih0 _ _ _ _ _)
   | (with_reducible first | exact LeO.refl _ | exact LeO.none _ | refine LeO.ite ?_ ?_ | refine LeO.bind ?_ (fun _ => ?_))
   | refine LeO.ite ?_ ?_
   | refine LeO.bind ?_ (fun _ => ?_)
theorem impl_BoxOf.calls (k : Nat) (A0_0 : Option Addr) (c0_0 : Nat) (l0_0 : List (S84)) (a1 : ByteArray) (a2 : ByteArray) (r1 : Int) (r2 : ByteArray) (r3 : ByteArray) (r4 : Int) (r5 : List (S101)) (r6 : Bool) (w : World) (hr0_0 : Kd.C k84 w A0_0 l0_0.length l0_0) (hc0_0 : l0_0.length ≤ c0_0) (h : impl_BoxOf.f k l0_0 a1 a2 = some (r1, r2, r3, r4, r5, r6)) :
  Calls Tryd.prog 60 #[.agg #[.slice A0_0 l0_0.length c0_0], .string a1, .string a2] w fun e w' => ∃ v4_ : Value, e = .returned (.tuple #[.agg #[.int .i64 r1, .string r2, .string r3, .int .i64 r4, v4_], .bool r6]) ∧ Kd.R k101 101 w' w.heap.size (fun _ => True) v4_ r5 ∧ Below w.heap.size w w' := by
 have hu37 := Tryd.underlying37
 have hu84 := Tryd.underlying84
 have HR0_0 := Aside0.mk hr0_0
 have HC0_0 := Aside0.mk hc0_0
 clear hr0_0 hc0_0
 have HB := Aside0.mk (Below.refl w.heap.size w)
 have H := h; unfold impl_BoxOf.f at H
 clear h
 have H' := Aside0.mk H
 clear H
 go_enter Tryd.func60, Tryd.ntmps60
 go_wp2_with (first | ((with_reducible refine gd_ 3 ?_); refine bx_ 3 37 #[.slice A0_0 l0_0.length c0_0] ?_; intro gb395 hg w4 hbox hb; have BK395 := Aside0.mk (hbox); have GE395 := ge_ hg HB; replace HB := hb_ HB hb; clear hb hbox hg) | ((with_reducible refine gd_ 6 ?_); refine bx_ 6 84 #[.int .i64 0, .string (⟨#[]⟩ : ByteArray), .string (⟨#[]⟩ : ByteArray), .int .i64 0, .slice none 0 0] ?_; intro gb396 hg w5 hbox hb; have BK396 := Aside0.mk (hbox); have GE396 := ge_ hg HB; replace HB := hb_ HB hb; have NB395_396 := nl_ hg BK395; have NB396_395 := ng_ hg BK395; replace BK395 := bb_ BK395 hb; clear hb hbox hg; have hnb6 := NB395_396.out; have hnc6 := NB396_395.out; have hcz7 := blk_cell BK395.out; have hfz7 := blk_frozen BK395.out))
 go_loopg [13] k (fun kq v13 w' => ∃ (x13_1 : Int) (x397000_1 : Int) (x397001_1 : ByteArray) (x397002_1 : ByteArray) (x397003_1 : Int), v13 = .int .i64 x13_1 ∧ Aside0 (impl_BoxOf.l0 kq a1 a2 l0_0 (l0_0.length : Int) x13_1 = some (r1, r2, r3, r4, r5, r6)) ∧ Aside0 (kq ≤ k) ∧ Aside0 (w'.heap[gb395]? = some (.cells #[(.slice A0_0 l0_0.length c0_0)] 37 (0, 0))) ∧ Aside0 (w'.heap[gb396]? = some (.cells #[.int .i64 x397000_1, .string x397001_1, .string x397002_1, .int .i64 x397003_1, (.slice none 0 0)] 84 (0, 0))) ∧ Aside0 (Below w.heap.size w w'))
 case atStart => exact ⟨(0), (0), ((⟨#[]⟩ : ByteArray)), ((⟨#[]⟩ : ByteArray)), (0), rf_, H', ⟨Nat.le_refl _⟩, ⟨kl_ BK395⟩, ⟨kl_ BK396⟩, ⟨bl_⟩⟩
 case round =>
  clear H'
  try clear p2
  try clear c6
  try clear hcz7_0
  try clear hfz7_0
  obtain ⟨x13_1, x397000_1, x397001_1, x397002_1, x397003_1, rfl, HA, HK1, BK395, BK396, HB⟩ := hrel
  cases gk with
  | zero => exact absurd HA.out (by simp [impl_BoxOf.l0])
  | succ k1 =>
   have H := HA.out
   clear HA
   simp only [impl_BoxOf.l0] at H
   by_cases c8 : x13_1 < (l0_0.length : Int)
   ·rw [if_pos c8] at H
    have c8b0 := decide_eq_true c8
    clear c8
    by_cases c9 : 0 ≤ x13_1
    ·rw [if_pos c9] at H
     have c9b0 := decide_eq_true c9
     clear c9
     by_cases c10 : x13_1 < (l0_0.length : Int)
     ·rw [if_pos c10] at H
      have c10b0 := decide_eq_true c10
      clear c10
      have p397 : 0 ≤ (x13_1 : Int) := od_
      have q397 : x13_1 < (l0_0.length : Int) := od_
      obtain ⟨ad397, A397_4, c397_4, e397, hx397_0, hx397_1, hx397_2, hx397_3, hx397_4, hl397_4, hi397_4⟩ := at_T84 HR0_0.out x13_1 p397 q397
      cases e397
      replace hx397_0 := cu_ HB hx397_0
      replace hx397_1 := cu_ HB hx397_1
      replace hx397_2 := cu_ HB hx397_2
      replace hx397_3 := cu_ HB hx397_3
      replace hx397_4 := cu_ HB hx397_4
      have HR397_4 := Aside0.mk hi397_4
      have HC397_4 := Aside0.mk hl397_4
      clear hi397_4 hl397_4
      replace p397 := eq_true p397
      replace q397 := eq_true q397
      go_wp2_with (first | (refine lr_ 84 9 BK398 hu84 ?_) | ((with_reducible refine gd_ 9 ?_); refine bf_ 9 84 #[.int .i64 0, .string (⟨#[]⟩ : ByteArray), .string (⟨#[]⟩ : ByteArray), .int .i64 0, .slice none 0 0] #[.int .i64 ((rd_T84 l0_0 x13_1).f0), .string ((rd_T84 l0_0 x13_1).f1), .string ((rd_T84 l0_0 x13_1).f2), .int .i64 ((rd_T84 l0_0 x13_1).f3), .slice A397_4 ((rd_T84 l0_0 x13_1).f4).length c397_4] ?_; intro gb398 hg w14 hbox hb; have BK398 := Aside0.mk (hbox); have GE398 := ge_ hg HB; replace HB := hb_ HB hb; have NB395_398 := nl_ hg BK395; have NB398_395 := ng_ hg BK395; replace BK395 := bb_ BK395 hb; have NB396_398 := nl_ hg BK396; have NB398_396 := ng_ hg BK396; replace BK396 := bb_ BK396 hb; clear hb hbox hg; have hnb15 := NB398_395.out; have hnc15 := NB395_398.out; have hnb16 := NB398_396.out; have hnc16 := NB396_398.out; have hcz17 := blk_cell BK398.out; have hfz17 := blk_frozen BK398.out; refine stop_ ?_; intro G_ HG_))
      by_cases c11 : ((rd_T84 l0_0 x13_1).f1).toList = a1.toList
      ·rw [if_pos c11] at H
       have c11b0 := beq_iff_eq.mpr c11
       have c11b1 := bne_eq_false_iff_eq.mpr c11
       clear c11
       by_cases c12 : ((rd_T84 l0_0 x13_1).f2).toList = a2.toList
       ·rw [if_pos c12] at H
        have c12b0 := beq_iff_eq.mpr c12
        have c12b1 := bne_eq_false_iff_eq.mpr c12
        clear c12
        obtain ⟨⟨t399, t400, t401, t402, t403⟩, A13, H⟩ := bs_ H
        (try set_option simprocs false in dsimp only at H)
        simp only [Option.some.injEq, Prod.mk.injEq] at H
        obtain ⟨rfl, rfl, rfl, rfl, rfl, rfl⟩ := H
        refine HG_.out ?_; clear HG_
        try simp only [c11b0, c11b1, c12b0, c12b1, Bool.not_true, Bool.not_false]
        go_wp2_with (first | (refine lr_ 84 9 BK398 hu84 ?_) | ((with_reducible refine gc_ 72 ?_); refine gl_ (some 28) Tryd.func72 #[.agg #[.int .i64 ((rd_T84 l0_0 x13_1).f0), .string ((rd_T84 l0_0 x13_1).f1), .string ((rd_T84 l0_0 x13_1).f2), .int .i64 ((rd_T84 l0_0 x13_1).f3), .slice A397_4 ((rd_T84 l0_0 x13_1).f4).length c397_4]] ?_; (with_reducible refine (impl_cloneBox.calls ((rd_T84 l0_0 x13_1).f0) ((rd_T84 l0_0 x13_1).f1) ((rd_T84 l0_0 x13_1).f2) ((rd_T84 l0_0 x13_1).f3) _ _ ((rd_T84 l0_0 x13_1).f4) t399 t400 t401 t402 t403 _ ?side1 ?side2 A13.out).mono ?_); (case side1 => exact (Kd.C_below HR397_4.out HB.out)); (case side2 => exact HC397_4.out); rintro e w18 ⟨v404, rfl, ho0, hb⟩; refine ⟨_, rfl, ?_⟩; have HO405 := Aside0.mk (Kd.R_lower ho0 (below_size HB.out)); replace BK396 := bb_ BK396 hb; replace BK398 := bb_ BK398 hb; replace HB := hb_ HB hb; try clear hb; try clear ho0; obtain ⟨Ao19, co19, rfl⟩ := Kd.R_slice HO405.out) | ((with_reducible refine gs_ 84 6 ?_); refine sp_ 84 6 gb396 0 (.agg #[.int .i64 t399, .string t400, .string t401, .int .i64 t402, .slice Ao19 t403.length co19]) #[.int .i64 t399, .string t400, .string t401, .int .i64 t402, .slice Ao19 t403.length co19] BK396 ?_; intro w20 hbox hbut; replace HO405 := rs_ hbut HO405 BK396; replace BK396 := Aside0.mk (hbox); replace BK398 := bo_ hbut NB398_396 BK398; replace HB := hs_ HB hbut GE396; clear hbox hbut))
        refine bodyPost_ret (results_ct rfl _ _ gb396 84 #[.int .i64 t399, .string t400, .string t401, .int .i64 t402, .slice Ao19 t403.length co19] (0, 0) _ rfl (kl_ BK396) Tryd.underlying84 rfl (by kernel_rfl)) rfl ?_
        exact ⟨_, re_, rl_ HO405, bl_⟩
       ·rw [if_neg c12] at H
        have c12b0 := beq_eq_false_iff_ne.mpr c12
        have c12b1 := bne_iff_ne.mpr c12
        have H' := Aside0.mk H
        clear H
        refine HG_.out ?_; clear HG_
        try simp only [c11b0, c11b1, c12b0, c12b1, Bool.not_true, Bool.not_false]
        go_wp2_with (first | (refine lr_ 84 9 BK398 hu84 ?_))
        go_roundg k1
        case measure => have := HK1.out; omega
        case rel => exact ⟨(wrap64 (x13_1 + 1)), (x397000_1), (x397001_1), (x397002_1), (x397003_1), rf_, H', ⟨by have := HK1.out; omega⟩, ⟨kl_ BK395⟩, ⟨kl_ BK396⟩, ⟨bl_⟩⟩
      ·rw [if_neg c11] at H
       have c11b0 := beq_eq_false_iff_ne.mpr c11
       have c11b1 := bne_iff_ne.mpr c11
       have H' := Aside0.mk H
       clear H
       refine HG_.out ?_; clear HG_
       try simp only [c11b0, c11b1, Bool.not_true, Bool.not_false]
       go_wp2_with (first | (refine lr_ 84 9 BK398 hu84 ?_))
       go_roundg k1
       case measure => have := HK1.out; omega
       case rel => exact ⟨(wrap64 (x13_1 + 1)), (x397000_1), (x397001_1), (x397002_1), (x397003_1), rf_, H', ⟨by have := HK1.out; omega⟩, ⟨kl_ BK395⟩, ⟨kl_ BK396⟩, ⟨bl_⟩⟩
     ·rw [if_neg c10] at H
      exact absurd H (by simp)
    ·rw [if_neg c9] at H
     exact absurd H (by simp)
   ·rw [if_neg c8] at H
    have c8b0 := decide_eq_false c8
    clear c8
    simp only [Option.some.injEq, Prod.mk.injEq] at H
    obtain ⟨rfl, rfl, rfl, rfl, rfl, rfl⟩ := H
    go_wp2_with (first | (refine lr_ 84 9 BK398 hu84 ?_) | ((with_reducible refine gs_ 84 6 ?_); refine sp_ 84 6 gb396 0 (.agg #[.int .i64 0, .string (⟨#[]⟩ : ByteArray), .string (⟨#[]⟩ : ByteArray), .int .i64 0, .slice none 0 0]) #[.int .i64 0, .string (⟨#[]⟩ : ByteArray), .string (⟨#[]⟩ : ByteArray), .int .i64 0, .slice none 0 0] BK396 ?_; intro w29 hbox hbut; replace BK396 := Aside0.mk (hbox); replace HB := hs_ HB hbut GE396; clear hbox hbut))
    refine bodyPost_ret (results_ct rfl _ _ gb396 84 #[.int .i64 0, .string (⟨#[]⟩ : ByteArray), .string (⟨#[]⟩ : ByteArray), .int .i64 0, .slice none 0 0] (0, 0) _ rfl (kl_ BK396) Tryd.underlying84 rfl (by kernel_rfl)) rfl ?_
    exact ⟨_, re_, ni_, bl_⟩

/-! ### slices_Index_string_string: function 73 -/
def slices_Index_string_string.l0 : Nat → List ByteArray → ByteArray → Int → Int → Option (Int)
 | 0, _, _, _, _ => none
 | k + 1, x0, x1, x7, x8 => if x8 < x7 then (if 0 ≤ x8 then (if x8 < (x0.length : Int) then (if x1.toList = (rdOf ByteArray.empty x0 x8).toList then (some x8) else (slices_Index_string_string.l0 k x0 x1 x7 (wrap64 (x8 + 1)))) else (none)) else (none)) else (some (-1))
def slices_Index_string_string.f (k : Nat) (l0 : List ByteArray) (a1 : ByteArray) : Option (Int) := slices_Index_string_string.l0 k l0 a1 (l0.length : Int) 0
theorem slices_Index_string_string.mono_l : ∀ k, (∀ y0 y1 y2 y3, LeO (slices_Index_string_string.l0 k y0 y1 y2 y3) (slices_Index_string_string.l0 (k + 1) y0 y1 y2 y3))
 | 0 => fun _ _ _ _ r h => by simp [slices_Index_string_string.l0] at h
 | k + 1 => by
  have ih0 := slices_Index_string_string.mono_l k
  ·intro y0 y1 y2 y3
   unfold slices_Index_string_string.l0
   repeat' first
   | (with_reducible exact ih0 _ _ _ _)
   | (with_reducible first | exact LeO.refl _ | exact LeO.none _ | refine LeO.ite ?_ ?_ | refine LeO.bind ?_ (fun _ => ?_))
   | refine LeO.ite ?_ ?_
   | refine LeO.bind ?_ (fun _ => ?_)
theorem slices_Index_string_string.mono : ∀ a0 a1 k, LeO (slices_Index_string_string.f k a0 a1) (slices_Index_string_string.f (k + 1) a0 a1) := by
 intro a0 a1 k
 have ih0 := slices_Index_string_string.mono_l k
 unfold slices_Index_string_string.f
 repeat' first
   | (with_reducible exact ih0 _ _ _ _)
   | (with_reducible first | exact LeO.refl _ | exact LeO.none _ | refine LeO.ite ?_ ?_ | refine LeO.bind ?_ (fun _ => ?_))
   | refine LeO.ite ?_ ?_
   | refine LeO.bind ?_ (fun _ => ?_)
theorem slices_Index_string_string.calls (k : Nat) (A0 : Option Addr) (c0 : Nat) (l0 : List ByteArray) (a1 : ByteArray) (r : Int) (w : World) (hr0 : Kd.C Kd.string w A0 l0.length l0) (hc0 : l0.length ≤ c0) (h : slices_Index_string_string.f k l0 a1 = some r) :
  Calls Tryd.prog 73 #[.slice A0 l0.length c0, .string a1] w fun e w' => e = .returned (.int .i64 r) ∧ Drawn0 w w' := by
 have HR0 := Aside0.mk hr0
 have HC0 := Aside0.mk hc0
 clear hr0 hc0
 have H := h; unfold slices_Index_string_string.f at H
 clear h
 have H' := Aside0.mk H
 clear H
 go_enter Tryd.func73, Tryd.ntmps73
 go_wp2
 go_loopg [8] k (fun kq v8 w' => ∃ (x8_1 : Int), v8 = .int .i64 x8_1 ∧ Aside0 (slices_Index_string_string.l0 kq l0 a1 (l0.length : Int) x8_1 = some r) ∧ Aside0 (kq ≤ k) ∧ Drawn0 w w')
 case atStart => exact ⟨(0), rf_, H', ⟨Nat.le_refl _⟩, dn_⟩
 case round =>
  clear H'
  try clear p2
  obtain ⟨x8_1, rfl, HA, HK1, ⟨m1, rfl⟩⟩ := hrel
  cases gk with
  | zero => exact absurd HA.out (by simp [slices_Index_string_string.l0])
  | succ k1 =>
   have H := HA.out
   clear HA
   simp only [slices_Index_string_string.l0] at H
   by_cases c3 : x8_1 < (l0.length : Int)
   ·rw [if_pos c3] at H
    have c3b0 := decide_eq_true c3
    clear c3
    by_cases c4 : 0 ≤ x8_1
    ·rw [if_pos c4] at H
     have c4b0 := decide_eq_true c4
     clear c4
     by_cases c5 : x8_1 < (l0.length : Int)
     ·rw [if_pos c5] at H
      have c5b0 := decide_eq_true c5
      clear c5
      have p406 : 0 ≤ (x8_1 : Int) := od_
      have q406 : x8_1 < (l0.length : Int) := od_
      obtain ⟨ad406, e406, hx406_0⟩ := Kd.at_string HR0.out x8_1 p406 q406
      cases e406
      replace p406 := eq_true p406
      replace q406 := eq_true q406
      by_cases c6 : a1.toList = (rdOf ByteArray.empty l0 x8_1).toList
      ·rw [if_pos c6] at H
       have c6b0 := beq_iff_eq.mpr c6
       have c6b1 := bne_eq_false_iff_eq.mpr c6
       clear c6
       obtain rfl := Option.some.inj H
       try simp only [c6b0, c6b1, Bool.not_true, Bool.not_false]
       go_wp2
       go_ret
       exact ⟨rf_, dn_⟩
      ·rw [if_neg c6] at H
       have c6b0 := beq_eq_false_iff_ne.mpr c6
       have c6b1 := bne_iff_ne.mpr c6
       have H' := Aside0.mk H
       clear H
       try simp only [c6b0, c6b1, Bool.not_true, Bool.not_false]
       go_wp2
       go_roundg k1
       case measure => have := HK1.out; omega
       case rel => exact ⟨(wrap64 (x8_1 + 1)), rf_, H', ⟨by have := HK1.out; omega⟩, dn_⟩
     ·rw [if_neg c5] at H
      exact absurd H (by simp)
    ·rw [if_neg c4] at H
     exact absurd H (by simp)
   ·rw [if_neg c3] at H
    have c3b0 := decide_eq_false c3
    clear c3
    obtain rfl := Option.some.inj H
    go_wp2
    go_ret
    exact ⟨rf_, dn_⟩

/-! ### slices_Contains_string_string: function 61 -/
def slices_Contains_string_string.f (k : Nat) (l0 : List ByteArray) (a1 : ByteArray) : Option (Bool) := (slices_Index_string_string.f k l0 a1).bind fun t407 => (some (decide (t407 ≥ 0)))
theorem slices_Contains_string_string.mono : ∀ a0 a1 k, LeO (slices_Contains_string_string.f k a0 a1) (slices_Contains_string_string.f (k + 1) a0 a1) := by
 intro a0 a1 k
 unfold slices_Contains_string_string.f
 repeat' first
   | (with_reducible exact slices_Index_string_string.mono _ _ _)
   | (with_reducible first | exact LeO.refl _ | exact LeO.none _ | refine LeO.ite ?_ ?_ | refine LeO.bind ?_ (fun _ => ?_))
   | refine LeO.ite ?_ ?_
   | refine LeO.bind ?_ (fun _ => ?_)
theorem slices_Contains_string_string.calls (k : Nat) (A0 : Option Addr) (c0 : Nat) (l0 : List ByteArray) (a1 : ByteArray) (r : Bool) (w : World) (hr0 : Kd.C Kd.string w A0 l0.length l0) (hc0 : l0.length ≤ c0) (h : slices_Contains_string_string.f k l0 a1 = some r) :
  Calls Tryd.prog 61 #[.slice A0 l0.length c0, .string a1] w fun e w' => e = .returned (.bool r) ∧ Drawn0 w w' := by
 have HR0 := Aside0.mk hr0
 have HC0 := Aside0.mk hc0
 clear hr0 hc0
 have H := h; unfold slices_Contains_string_string.f at H
 clear h
 obtain ⟨t407, A3, H⟩ := bs_ H
 obtain rfl := Option.some.inj H
 go_enter Tryd.func61, Tryd.ntmps61
 go_wp2_with (first | ((with_reducible refine gc_ 73 ?_); refine gl_ (some 7) Tryd.func73 #[.slice A0 l0.length c0, .string a1] ?_; (with_reducible refine (slices_Index_string_string.calls k _ _ l0 a1 t407 _ ?side1 ?side2 A3.out).mono ?_); (case side1 => exact HR0.out); (case side2 => exact HC0.out); rintro e w' ⟨rfl, ⟨nd, rfl⟩⟩; refine ⟨_, rfl, ?_⟩))
 go_ret
 exact ⟨rf_, dn_⟩

/-! ### impl_rcpt: function 36 -/
def impl_rcpt.f (k : Nat) (a0_0 : Int) (a0_1 : ByteArray) (l0_2 : List ByteArray) (l0_3 : List ByteArray) (l1_0 : List (S84)) (a2 : ByteArray) : Option (Int × ByteArray × List ByteArray × List ByteArray × ByteArray) := (impl_BoxOf.f k l1_0 a2 (⟨#[105, 110, 98, 111, 120]⟩ : ByteArray)).bind fun bt411 => (if bt411.2.2.2.2.2 = true then ((slices_Contains_string_string.f k l0_2 a2).bind fun t420 => (if t420 = true then (some (3, a0_1, l0_2, l0_3, (⟨#[50, 53, 48, 32, 111, 107]⟩ : ByteArray))) else (if (l0_2.length : Int) ≥ 3 then (some (a0_0, a0_1, l0_2, l0_3, (⟨#[53, 53, 50, 32, 109, 97, 110, 121]⟩ : ByteArray))) else (if l0_2.length < 8796093022208 then (some (3, a0_1, (l0_2 ++ [a2]), l0_3, (⟨#[50, 53, 48, 32, 111, 107]⟩ : ByteArray))) else (none))))) else (some (a0_0, a0_1, l0_2, l0_3, (⟨#[53, 53, 48, 32, 110, 111, 98, 111, 100, 121]⟩ : ByteArray))))
theorem impl_rcpt.mono : ∀ a0 a1 a2 a3 a4 a5 k, LeO (impl_rcpt.f k a0 a1 a2 a3 a4 a5) (impl_rcpt.f (k + 1) a0 a1 a2 a3 a4 a5) := by
 intro a0 a1 a2 a3 a4 a5 k
 unfold impl_rcpt.f
 repeat' first
   | (with_reducible exact impl_BoxOf.mono _ _ _ _)
   | (with_reducible exact slices_Contains_string_string.mono _ _ _)
   | (with_reducible first | exact LeO.refl _ | exact LeO.none _ | refine LeO.ite ?_ ?_ | refine LeO.bind ?_ (fun _ => ?_))
   | refine LeO.ite ?_ ?_
   | refine LeO.bind ?_ (fun _ => ?_)
theorem impl_rcpt.calls (k : Nat) (a0_0 : Int) (a0_1 : ByteArray) (P0_2_ : Nat → Prop) (u9000_ : Value) (l0_2 : List ByteArray) (P0_3_ : Nat → Prop) (u9001_ : Value) (l0_3 : List ByteArray) (A1_0 : Option Addr) (c1_0 : Nat) (l1_0 : List (S84)) (a2 : ByteArray) (r1 : Int) (r2 : ByteArray) (r3 : List ByteArray) (r4 : List ByteArray) (r5 : ByteArray) (w0 w : World) (hB : Below w0.heap.size w0 w) (ho0_2 : Kd.R Kd.string 9 w w0.heap.size P0_2_ u9000_ l0_2) (hp0_2_0_3 : ∀ k_, P0_2_ k_ → ¬ P0_3_ k_) (ho0_3 : Kd.R Kd.string 9 w w0.heap.size P0_3_ u9001_ l0_3) (hp0_3_0_2 : ∀ k_, P0_3_ k_ → ¬ P0_2_ k_) (hr1_0 : ∀ W_, Kept w W_ (fun k_ => P0_2_ k_ ∨ P0_3_ k_) → Kd.C k84 W_ A1_0 l1_0.length l1_0) (hc1_0 : l1_0.length ≤ c1_0) (h : impl_rcpt.f k a0_0 a0_1 l0_2 l0_3 l1_0 a2 = some (r1, r2, r3, r4, r5)) :
  Calls Tryd.prog 36 #[.agg #[.int .i64 a0_0, .string a0_1, u9000_, u9001_], .agg #[.slice A1_0 l1_0.length c1_0], .string a2] w fun e w' => ∃ v2_ v3_ : Value, e = .returned (.tuple #[.agg #[.int .i64 r1, .string r2, v2_, v3_], .string r5]) ∧ Kd.R Kd.string 9 w' w0.heap.size (fun k_ => ((P0_2_ k_ ∨ P0_3_ k_) ∨ w.heap.size ≤ k_) ∧ some k_ ≠ (v3_ : Value).ownBlock) v2_ r3 ∧ Kd.R Kd.string 9 w' w0.heap.size (fun k_ => ((P0_2_ k_ ∨ P0_3_ k_) ∨ w.heap.size ≤ k_) ∧ some k_ ≠ (v2_ : Value).ownBlock) v3_ r4 ∧ Below w0.heap.size w0 w' ∧ Kept w w' (fun k_ => P0_2_ k_ ∨ P0_3_ k_) := by
 have hu30 := Tryd.underlying30
 have hu37 := Tryd.underlying37
 have hu84 := Tryd.underlying84
 have HO0_2 := Aside0.mk (show Kd.R Kd.string 9 w w0.heap.size (fun k_ => ((P0_2_ k_ ∨ P0_3_ k_) ∨ w.heap.size ≤ k_) ∧ some k_ ≠ (u9001_ : Value).ownBlock) u9000_ l0_2 from Kd.R_mono ho0_2 (fun k_ hk => ⟨(.inl (.inl hk)), fun e_ => hp0_2_0_3 k_ hk (ho0_3.1 k_ e_.symm)⟩))
 have HO0_3 := Aside0.mk (show Kd.R Kd.string 9 w w0.heap.size (fun k_ => ((P0_2_ k_ ∨ P0_3_ k_) ∨ w.heap.size ≤ k_) ∧ some k_ ≠ (u9000_ : Value).ownBlock) u9001_ l0_3 from Kd.R_mono ho0_3 (fun k_ hk => ⟨(.inl (.inr hk)), fun e_ => hp0_3_0_2 k_ hk (ho0_2.1 k_ e_.symm)⟩))
 have HR1_0 := Aside0.mk hr1_0
 have HC1_0 := Aside0.mk hc1_0
 clear hr1_0 hc1_0
 have HK := Aside0.mk (Kept.refl w (fun k_ => P0_2_ k_ ∨ P0_3_ k_))
 have HW0 := Aside0.mk hB.size
 have HB := Aside0.mk hB
 clear hB
 have H := h; unfold impl_rcpt.f at H
 clear h
 obtain ⟨⟨t411, t412, t413, t414, t415, t418⟩, A4, H⟩ := bs_ H
 (try set_option simprocs false in dsimp only at H)
 obtain ⟨Ao8, co8, rfl⟩ := Kd.R_slice HO0_2.out
 obtain ⟨Ao9, co9, rfl⟩ := Kd.R_slice HO0_3.out
 go_enter Tryd.func36, Tryd.ntmps36
 go_wp2_with (first | (refine lr_ 37 4 BK409 hu37 ?_) | (refine lr_ 30 3 BK408 hu30 ?_) | ((with_reducible refine gd_ 3 ?_); refine bx_ 3 30 #[.int .i64 a0_0, .string a0_1, .slice Ao8 l0_2.length co8, .slice Ao9 l0_3.length co9] ?_; intro gb408 hg w10 hbox hb; replace HO0_2 := rb_ HO0_2 hb; replace HO0_3 := rb_ HO0_3 hb; have BK408 := Aside0.mk (hbox); have GW408 := gw_ hg HK; replace HK := kb_ HK hb; have GE408 := ge_ hg HB; replace HB := hb_ HB hb; clear hb hbox hg) | ((with_reducible refine gd_ 4 ?_); refine bx_ 4 37 #[.slice A1_0 l1_0.length c1_0] ?_; intro gb409 hg w11 hbox hb; replace HO0_2 := rb_ HO0_2 hb; replace HO0_3 := rb_ HO0_3 hb; have BK409 := Aside0.mk (hbox); have GW409 := gw_ hg HK; replace HK := kb_ HK hb; have GE409 := ge_ hg HB; replace HB := hb_ HB hb; have NB408_409 := nl_ hg BK408; have NB409_408 := ng_ hg BK408; replace BK408 := bb_ BK408 hb; clear hb hbox hg) | ((with_reducible refine gd_ 6 ?_); refine bx_ 6 30 #[.int .i64 0, .string (⟨#[]⟩ : ByteArray), .slice none 0 0, .slice none 0 0] ?_; intro gb410 hg w12 hbox hb; replace HO0_2 := rb_ HO0_2 hb; replace HO0_3 := rb_ HO0_3 hb; have BK410 := Aside0.mk (hbox); have GW410 := gw_ hg HK; replace HK := kb_ HK hb; have GE410 := ge_ hg HB; replace HB := hb_ HB hb; have NB408_410 := nl_ hg BK408; have NB410_408 := ng_ hg BK408; replace BK408 := bb_ BK408 hb; have NB409_410 := nl_ hg BK409; have NB410_409 := ng_ hg BK409; replace BK409 := bb_ BK409 hb; clear hb hbox hg; have hnb13 := NB409_408.out; have hnc13 := NB408_409.out; have hnb14 := NB409_410.out; have hnc14 := NB410_409.out) | ((with_reducible refine gc_ 60 ?_); refine gl_ (some 13) Tryd.func60 #[.agg #[.slice A1_0 l1_0.length c1_0], .string a2, .string (⟨#[105, 110, 98, 111, 120]⟩ : ByteArray)] ?_; (with_reducible refine (impl_BoxOf.calls k _ _ l1_0 a2 (⟨#[105, 110, 98, 111, 120]⟩ : ByteArray) t411 t412 t413 t414 t415 t418 _ ?side1 ?side2 A4.out).mono ?_); (case side1 => exact Kd.C_kept_now HR1_0.out (by repeat (first | (with_reducible first | exact HK.out | apply Kept.alloc | apply Kept.drewN | apply Kept.drew | refine Kept.setCell ?_ (.inr GW408.out) _ | refine Kept.setCell ?_ (.inr GW409.out) _ | refine Kept.setCell ?_ (.inr GW410.out) _) | exact HK.out))); (case side2 => exact HC1_0.out); rintro e w16 ⟨v416, rfl, ho0, hb⟩; refine ⟨_, rfl, ?_⟩; replace HO0_2 := rb_ HO0_2 hb; replace HO0_3 := rb_ HO0_3 hb; have HO417 := Aside0.mk (Kd.R_lower (Kd.R_newM (M := fun k_ => ((P0_2_ k_ ∨ P0_3_ k_) ∨ w.heap.size ≤ k_)) ho0 (by first | exact HK.out.1 | exact (show Kept w _ (fun k_ => P0_2_ k_ ∨ P0_3_ k_) from by repeat (first | (with_reducible first | exact HK.out | apply Kept.alloc | apply Kept.drewN | apply Kept.drew | refine Kept.setCell ?_ (.inr GW408.out) _ | refine Kept.setCell ?_ (.inr GW409.out) _ | refine Kept.setCell ?_ (.inr GW410.out) _) | exact HK.out)).1) (fun k_ h_ => .inr h_)) (below_size HB.out)); replace BK408 := bb_ BK408 hb; replace BK409 := bb_ BK409 hb; replace BK410 := bb_ BK410 hb; replace HK := kb_ HK hb; replace HB := hb_ HB hb; try clear hb; try clear ho0; obtain ⟨Ao17, co17, rfl⟩ := Kd.R_slice HO417.out) | ((with_reducible refine gd_ 8 ?_); refine bf_ 8 84 #[.int .i64 0, .string (⟨#[]⟩ : ByteArray), .string (⟨#[]⟩ : ByteArray), .int .i64 0, .slice none 0 0] #[.int .i64 t411, .string t412, .string t413, .int .i64 t414, .slice Ao17 t415.length co17] ?_; intro gb419 hg w18 hbox hb; replace HO0_2 := rb_ HO0_2 hb; replace HO0_3 := rb_ HO0_3 hb; have GW419 := gw_ hg HK; replace HK := kb_ HK hb; have GE419 := ge_ hg HB; replace HB := hb_ HB hb; have NB408_419 := nl_ hg BK408; have NB419_408 := ng_ hg BK408; replace BK408 := bb_ BK408 hb; replace BK409 := bb_ BK409 hb; have NB410_419 := nl_ hg BK410; have NB419_410 := ng_ hg BK410; replace BK410 := bb_ BK410 hb; clear hb hbox hg; have hnb19 := NB408_410.out; have hnc19 := NB410_408.out; have hnb20 := NB408_419.out; have hnc20 := NB419_408.out; have hcz21 := blk_cell BK408.out; have hfz21 := blk_frozen BK408.out; refine stop_ ?_; intro G_ HG_))
 by_cases c5 : t418 = true
 ·subst c5
  (try rw [if_pos rfl] at H)
  obtain ⟨t420, A6, H⟩ := bs_ H
  refine HG_.out ?_; clear HG_
  go_wp2_with (first | (refine lr_ 30 3 BK408 hu30 ?_) | ((with_reducible refine gc_ 61 ?_); refine gl_ (some 22) Tryd.func61 #[.slice Ao8 l0_2.length co8, .string a2] ?_; (with_reducible refine (slices_Contains_string_string.calls k _ _ l0_2 a2 t420 _ ?side1 ?side2 A6.out).mono ?_); (case side1 => exact (Kd.R_reads' HO0_2.out).2.2); (case side2 => exact nr_ HO0_2); rintro e w' ⟨rfl, ⟨nd, rfl⟩⟩; refine ⟨_, rfl, ?_⟩; (try (rw [drewN_self w18]; generalize hq_ : World.drewN w18 _ = w18; replace HO0_2 := ra_ hq_ HO0_2; replace HO0_3 := ra_ hq_ HO0_3; replace BK408 := ba_ hq_ BK408; replace BK409 := ba_ hq_ BK409; replace BK410 := ba_ hq_ BK410; replace HK := ka_ hq_ HK; replace HB := ha_ hq_ HB; clear hq_)); have hcz408q := blk_cell BK408.out; have hfz408q := blk_frozen BK408.out; have hcz409q := blk_cell BK409.out; have hfz409q := blk_frozen BK409.out; refine stop_ ?_; intro G_ HG_))
  by_cases c7 : t420 = true
  ·subst c7
   (try rw [if_pos rfl] at H)
   simp only [Option.some.injEq, Prod.mk.injEq] at H
   obtain ⟨rfl, rfl, rfl, rfl, rfl⟩ := H
   refine HG_.out ?_; clear HG_
   have hnb22 := NB410_419.out
   have hnc22 := NB419_410.out
   have hcz23 := blk_cell BK410.out
   have hfz23 := blk_frozen BK410.out
   go_wp2_with (first | (refine lr_ 30 3 BK408 hu30 ?_) | (refine lr_ 30 3 BK408 hu30 ?_))
   refine bodyPost_ret (results_ct rfl _ _ gb410 30 #[.int .i64 3, .string a0_1, .slice Ao8 l0_2.length co8, .slice Ao9 l0_3.length co9] (0, 0) _ rfl (by (with_reducible repeat (first | refine blk_drewN ?_ _ | refine blk_drew ?_ | refine blk_alloc ?_ _)); refine blk_put (cs := #[.int .i64 3, .string a0_1, .slice Ao8 l0_2.length co8, .slice none 0 0]) ?_ 3 _ rfl; (with_reducible repeat (first | refine blk_drewN ?_ _ | refine blk_drew ?_ | refine blk_alloc ?_ _)); refine blk_put (cs := #[.int .i64 3, .string a0_1, .slice none 0 0, .slice none 0 0]) ?_ 2 _ rfl; (with_reducible repeat (first | refine blk_drewN ?_ _ | refine blk_drew ?_ | refine blk_alloc ?_ _)); refine blk_put (cs := #[.int .i64 3, .string (⟨#[]⟩ : ByteArray), .slice none 0 0, .slice none 0 0]) ?_ 1 _ rfl; (with_reducible repeat (first | refine blk_drewN ?_ _ | refine blk_drew ?_ | refine blk_alloc ?_ _)); refine blk_put (cs := #[.int .i64 0, .string (⟨#[]⟩ : ByteArray), .slice none 0 0, .slice none 0 0]) ?_ 0 _ rfl; (with_reducible repeat (first | refine blk_drewN ?_ _ | refine blk_drew ?_ | refine blk_alloc ?_ _)); refine blk_far ?_ NB410_408.out _; (with_reducible repeat (first | refine blk_drewN ?_ _ | refine blk_drew ?_ | refine blk_alloc ?_ _)); exact BK410.out) Tryd.underlying30 rfl (by kernel_rfl)) rfl ?_
   exact ⟨_, _, re_, by (with_reducible repeat (first | apply Kd.R_alloc | apply Kd.R_drewN | apply Kd.R_drew)); exact Kd.R_mono (Kd.R_far (p := ⟨gb410, 3, none⟩) (Kd.R_far (p := ⟨gb410, 2, none⟩) (Kd.R_far (p := ⟨gb410, 1, none⟩) (Kd.R_far (p := ⟨gb410, 0, none⟩) (Kd.R_far (p := ⟨gb408, 0, none⟩) (Kd.R_types (Kd.R_types HO0_2.out BK408.out (by decide)) BK410.out (by decide)) (fun _ hk => hk.1.2) (.int .i64 3)) (fun _ hk => hk.2) (.int .i64 3)) (fun _ hk => hk.2) (.string a0_1)) (fun _ hk => hk.2) (.slice Ao8 l0_2.length co8)) (fun _ hk => hk.2) (.slice Ao9 l0_3.length co9)) (fun _ hk => ⟨hk.1.1.1, hk.1.1.2⟩), by (with_reducible repeat (first | apply Kd.R_alloc | apply Kd.R_drewN | apply Kd.R_drew)); exact Kd.R_mono (Kd.R_far (p := ⟨gb410, 3, none⟩) (Kd.R_far (p := ⟨gb410, 2, none⟩) (Kd.R_far (p := ⟨gb410, 1, none⟩) (Kd.R_far (p := ⟨gb410, 0, none⟩) (Kd.R_far (p := ⟨gb408, 0, none⟩) (Kd.R_types (Kd.R_types HO0_3.out BK408.out (by decide)) BK410.out (by decide)) (fun _ hk => hk.1.2) (.int .i64 3)) (fun _ hk => hk.2) (.int .i64 3)) (fun _ hk => hk.2) (.string a0_1)) (fun _ hk => hk.2) (.slice Ao8 l0_2.length co8)) (fun _ hk => hk.2) (.slice Ao9 l0_3.length co9)) (fun _ hk => ⟨hk.1.1.1, hk.1.1.2⟩), bl_, by repeat (first | (with_reducible first | exact HK.out | apply Kept.alloc | apply Kept.drewN | apply Kept.drew | refine Kept.setCell ?_ (.inr GW408.out) _ | refine Kept.setCell ?_ (.inr GW409.out) _ | refine Kept.setCell ?_ (.inr GW410.out) _ | refine Kept.setCell ?_ (.inr GW419.out) _) | exact HK.out)⟩
  ·replace c7 := Bool.eq_false_iff.mpr c7
   subst c7
   (try rw [if_neg (show ¬ (false = true) by decide)] at H)
   refine HG_.out ?_; clear HG_
   have hcz410q := blk_cell BK410.out
   have hfz410q := blk_frozen BK410.out
   by_cases c24 : (l0_2.length : Int) ≥ 3
   ·rw [if_pos c24] at H
    have c24b0 : decide (3 ≤ (l0_2.length : Int)) = true := decide_eq_true c24
    have c24b1 : decide (3 ≤ l0_2.length) = true := decide_eq_true (by omega)
    clear c24
    simp only [Option.some.injEq, Prod.mk.injEq] at H
    obtain ⟨rfl, rfl, rfl, rfl, rfl⟩ := H
    try simp only [c24b0, c24b1, Bool.not_true, Bool.not_false]
    have hnb39 := NB410_419.out
    have hnc39 := NB419_410.out
    have hcz40 := blk_cell BK410.out
    have hfz40 := blk_frozen BK410.out
    go_wp2_with (first | (refine lr_ 30 3 BK408 hu30 ?_) | (refine lr_ 30 3 BK408 hu30 ?_))
    refine bodyPost_ret (results_ct rfl _ _ gb410 30 #[.int .i64 a0_0, .string a0_1, .slice Ao8 l0_2.length co8, .slice Ao9 l0_3.length co9] (0, 0) _ rfl (by (with_reducible repeat (first | refine blk_drewN ?_ _ | refine blk_drew ?_ | refine blk_alloc ?_ _)); refine blk_put (cs := #[.int .i64 a0_0, .string a0_1, .slice Ao8 l0_2.length co8, .slice none 0 0]) ?_ 3 _ rfl; (with_reducible repeat (first | refine blk_drewN ?_ _ | refine blk_drew ?_ | refine blk_alloc ?_ _)); refine blk_put (cs := #[.int .i64 a0_0, .string a0_1, .slice none 0 0, .slice none 0 0]) ?_ 2 _ rfl; (with_reducible repeat (first | refine blk_drewN ?_ _ | refine blk_drew ?_ | refine blk_alloc ?_ _)); refine blk_put (cs := #[.int .i64 a0_0, .string (⟨#[]⟩ : ByteArray), .slice none 0 0, .slice none 0 0]) ?_ 1 _ rfl; (with_reducible repeat (first | refine blk_drewN ?_ _ | refine blk_drew ?_ | refine blk_alloc ?_ _)); refine blk_put (cs := #[.int .i64 0, .string (⟨#[]⟩ : ByteArray), .slice none 0 0, .slice none 0 0]) ?_ 0 _ rfl; (with_reducible repeat (first | refine blk_drewN ?_ _ | refine blk_drew ?_ | refine blk_alloc ?_ _)); exact BK410.out) Tryd.underlying30 rfl (by kernel_rfl)) rfl ?_
    exact ⟨_, _, re_, by (with_reducible repeat (first | apply Kd.R_alloc | apply Kd.R_drewN | apply Kd.R_drew)); exact Kd.R_mono (rg4_ HO0_2 BK410) (fun _ hk => ⟨hk.1.1, hk.1.2⟩), by (with_reducible repeat (first | apply Kd.R_alloc | apply Kd.R_drewN | apply Kd.R_drew)); exact Kd.R_mono (rg4_ HO0_3 BK410) (fun _ hk => ⟨hk.1.1, hk.1.2⟩), bl_, by repeat (first | (with_reducible first | exact HK.out | apply Kept.alloc | apply Kept.drewN | apply Kept.drew | refine Kept.setCell ?_ (.inr GW408.out) _ | refine Kept.setCell ?_ (.inr GW409.out) _ | refine Kept.setCell ?_ (.inr GW410.out) _ | refine Kept.setCell ?_ (.inr GW419.out) _) | exact HK.out)⟩
   ·rw [if_neg c24] at H
    have c24b0 : decide (3 ≤ (l0_2.length : Int)) = false := decide_eq_false c24
    have c24b1 : decide (3 ≤ l0_2.length) = false := decide_eq_false (by omega)
    clear c24
    by_cases c41 : l0_2.length < 8796093022208
    ·rw [if_pos c41] at H
     have LMc41 := Aside0.mk c41
     clear c41
     obtain ⟨y421, hy421⟩ : ∃ y_ : List ByteArray, y_ = (l0_2 ++ [a2]) := ⟨_, rfl⟩
     replace H : (some (3, a0_1, y421, l0_3, (⟨#[50, 53, 48, 32, 111, 107]⟩ : ByteArray))) = some (r1, r2, r3, r4, r5) := by subst hy421; first | with_reducible exact H | with_reducible exact (Option.bind_some _ _).symm.trans H | exact H
     have Ny421 := Aside0.mk hy421
     clear hy421
     simp only [Option.some.injEq, Prod.mk.injEq] at H
     obtain ⟨rfl, rfl, rfl, rfl, rfl⟩ := H
     try simp only [c24b0, c24b1, Bool.not_true, Bool.not_false]
     go_wp2_with (first | (refine lr_ 30 3 BK408 hu30 ?_) | ((with_reducible refine gate_builtin (b := .append) (xs := #[.tmp 30, .tmp 32]) rfl ?_); at_builtin; refine Kd.R_append Kd.string (w0 := w0) w0.heap.size rfl (.tmp 30) (.tmp 32) 22 9 (.string ⟨#[]⟩) 16 rfl Tryd.underlying22 info9 rfl (by decide) (by omega) (.slice Ao8 l0_2.length co8) l0_2 a2 [.string a2] (fun k_ => ((P0_2_ k_ ∨ P0_3_ k_) ∨ w.heap.size ≤ k_) ∧ some k_ ≠ (.slice Ao9 l0_3.length co9 : Value).ownBlock) (fun _ => False) rfl rfl ?aP (fun _ hk => hk.elim) ?aF ?aO ?aB ?aS ?aL ?_; (case aP => exact rfl); (case aB => exact HB.out); (case aF => exact (fun k_ hk => ⟨(.inr (Nat.le_trans (by first | exact HK.out.1 | exact (show Kept w _ (fun k_ => P0_2_ k_ ∨ P0_3_ k_) from by repeat (first | (with_reducible first | exact HK.out | apply Kept.alloc | apply Kept.drewN | apply Kept.drew | refine Kept.setCell ?_ (.inr GW408.out) _ | refine Kept.setCell ?_ (.inr GW409.out) _ | refine Kept.setCell ?_ (.inr GW410.out) _ | refine Kept.setCell ?_ (.inr GW419.out) _) | exact HK.out)).1) hk)), Kd.fresh' (Kd.R_lt HO0_3.out) k_ hk⟩)); (case aO => exact HO0_2.out); (case aS => exact (below_size HB.out)); (case aL => have := LMc41.out; omega); intro v422 w56 ho hb hg hat; rw [← Ny421.out] at ho; replace HO0_3 := Aside0.mk (Kd.R_after (ok := (fun k_ => ((P0_2_ k_ ∨ P0_3_ k_) ∨ w.heap.size ≤ k_))) HO0_3.out hg hat); replace BK408 := bg_ BK408 hg HO0_2; replace BK410 := bg_ BK410 hg HO0_2; replace HB := Aside0.mk (hb); replace HK := Aside0.mk (Kept.of_grown (S := (fun k_ => P0_2_ k_ ∨ P0_3_ k_)) hg (by repeat (first | (with_reducible first | exact HK.out | apply Kept.alloc | apply Kept.drewN | apply Kept.drew | refine Kept.setCell ?_ (.inr GW408.out) _ | refine Kept.setCell ?_ (.inr GW409.out) _ | refine Kept.setCell ?_ (.inr GW410.out) _ | refine Kept.setCell ?_ (.inr GW419.out) _) | exact HK.out)) (fun k_ e_ => (HO0_2.out.1 k_ e_).1)); have HO423 := Aside0.mk (ho); clear HO0_2; clear ho hb hg hat; obtain ⟨Ao57, co57, rfl⟩ := Kd.R_slice HO423.out; have hcz58 := blk_cell BK408.out; have hfz58 := blk_frozen BK408.out; have hnb59 := NB410_419.out; have hnc59 := NB419_410.out; have hcz60 := blk_cell BK410.out; have hfz60 := blk_frozen BK410.out))
     refine bodyPost_ret (results_ct rfl _ _ gb410 30 #[.int .i64 3, .string a0_1, .slice Ao57 y421.length co57, .slice Ao9 l0_3.length co9] (0, 0) _ rfl (by (with_reducible repeat (first | refine blk_drewN ?_ _ | refine blk_drew ?_ | refine blk_alloc ?_ _)); refine blk_put (cs := #[.int .i64 3, .string a0_1, .slice Ao57 y421.length co57, .slice none 0 0]) ?_ 3 _ rfl; (with_reducible repeat (first | refine blk_drewN ?_ _ | refine blk_drew ?_ | refine blk_alloc ?_ _)); refine blk_put (cs := #[.int .i64 3, .string a0_1, .slice none 0 0, .slice none 0 0]) ?_ 2 _ rfl; (with_reducible repeat (first | refine blk_drewN ?_ _ | refine blk_drew ?_ | refine blk_alloc ?_ _)); refine blk_put (cs := #[.int .i64 3, .string (⟨#[]⟩ : ByteArray), .slice none 0 0, .slice none 0 0]) ?_ 1 _ rfl; (with_reducible repeat (first | refine blk_drewN ?_ _ | refine blk_drew ?_ | refine blk_alloc ?_ _)); refine blk_put (cs := #[.int .i64 0, .string (⟨#[]⟩ : ByteArray), .slice none 0 0, .slice none 0 0]) ?_ 0 _ rfl; (with_reducible repeat (first | refine blk_drewN ?_ _ | refine blk_drew ?_ | refine blk_alloc ?_ _)); refine blk_far ?_ NB410_408.out _; (with_reducible repeat (first | refine blk_drewN ?_ _ | refine blk_drew ?_ | refine blk_alloc ?_ _)); refine blk_far ?_ NB410_408.out _; (with_reducible repeat (first | refine blk_drewN ?_ _ | refine blk_drew ?_ | refine blk_alloc ?_ _)); exact BK410.out) Tryd.underlying30 rfl (by kernel_rfl)) rfl ?_
     exact ⟨_, _, re_, by (with_reducible repeat (first | apply Kd.R_alloc | apply Kd.R_drewN | apply Kd.R_drew)); exact Kd.R_mono (Kd.R_far (p := ⟨gb410, 3, none⟩) (Kd.R_far (p := ⟨gb410, 2, none⟩) (Kd.R_far (p := ⟨gb410, 1, none⟩) (Kd.R_far (p := ⟨gb410, 0, none⟩) (Kd.R_far (p := ⟨gb408, 0, none⟩) (Kd.R_far (p := ⟨gb408, 2, none⟩) (Kd.R_types (Kd.R_types HO423.out BK408.out (by decide)) BK410.out (by decide)) (fun _ hk => hk.1.2) (.slice Ao57 y421.length co57)) (fun _ hk => hk.1.2) (.int .i64 3)) (fun _ hk => hk.2) (.int .i64 3)) (fun _ hk => hk.2) (.string a0_1)) (fun _ hk => hk.2) (.slice Ao57 y421.length co57)) (fun _ hk => hk.2) (.slice Ao9 l0_3.length co9)) (fun _ hk => ⟨hk.1.1.1, hk.1.1.2⟩), by (with_reducible repeat (first | apply Kd.R_alloc | apply Kd.R_drewN | apply Kd.R_drew)); exact Kd.R_mono (Kd.R_far (p := ⟨gb410, 3, none⟩) (Kd.R_far (p := ⟨gb410, 2, none⟩) (Kd.R_far (p := ⟨gb410, 1, none⟩) (Kd.R_far (p := ⟨gb410, 0, none⟩) (Kd.R_far (p := ⟨gb408, 0, none⟩) (Kd.R_far (p := ⟨gb408, 2, none⟩) (Kd.R_types (Kd.R_types HO0_3.out BK408.out (by decide)) BK410.out (by decide)) (fun _ hk => hk.1.2) (.slice Ao57 y421.length co57)) (fun _ hk => hk.1.2) (.int .i64 3)) (fun _ hk => hk.2) (.int .i64 3)) (fun _ hk => hk.2) (.string a0_1)) (fun _ hk => hk.2) (.slice Ao57 y421.length co57)) (fun _ hk => hk.2) (.slice Ao9 l0_3.length co9)) (fun _ hk => ⟨hk.1.1.1, hk.1.1.2⟩), bl_, by repeat (first | (with_reducible first | exact HK.out | apply Kept.alloc | apply Kept.drewN | apply Kept.drew | refine Kept.setCell ?_ (.inr GW408.out) _ | refine Kept.setCell ?_ (.inr GW409.out) _ | refine Kept.setCell ?_ (.inr GW410.out) _ | refine Kept.setCell ?_ (.inr GW419.out) _) | exact HK.out)⟩
    ·rw [if_neg c41] at H
     exact absurd H (by simp)
 ·replace c5 := Bool.eq_false_iff.mpr c5
  subst c5
  (try rw [if_neg (show ¬ (false = true) by decide)] at H)
  simp only [Option.some.injEq, Prod.mk.injEq] at H
  obtain ⟨rfl, rfl, rfl, rfl, rfl⟩ := H
  refine HG_.out ?_; clear HG_
  have hnb75 := NB410_419.out
  have hnc75 := NB419_410.out
  have hcz76 := blk_cell BK410.out
  have hfz76 := blk_frozen BK410.out
  go_wp2_with (first | (refine lr_ 30 3 BK408 hu30 ?_) | (refine lr_ 30 3 BK408 hu30 ?_))
  refine bodyPost_ret (results_ct rfl _ _ gb410 30 #[.int .i64 a0_0, .string a0_1, .slice Ao8 l0_2.length co8, .slice Ao9 l0_3.length co9] (0, 0) _ rfl (by (with_reducible repeat (first | refine blk_drewN ?_ _ | refine blk_drew ?_ | refine blk_alloc ?_ _)); refine blk_put (cs := #[.int .i64 a0_0, .string a0_1, .slice Ao8 l0_2.length co8, .slice none 0 0]) ?_ 3 _ rfl; (with_reducible repeat (first | refine blk_drewN ?_ _ | refine blk_drew ?_ | refine blk_alloc ?_ _)); refine blk_put (cs := #[.int .i64 a0_0, .string a0_1, .slice none 0 0, .slice none 0 0]) ?_ 2 _ rfl; (with_reducible repeat (first | refine blk_drewN ?_ _ | refine blk_drew ?_ | refine blk_alloc ?_ _)); refine blk_put (cs := #[.int .i64 a0_0, .string (⟨#[]⟩ : ByteArray), .slice none 0 0, .slice none 0 0]) ?_ 1 _ rfl; (with_reducible repeat (first | refine blk_drewN ?_ _ | refine blk_drew ?_ | refine blk_alloc ?_ _)); refine blk_put (cs := #[.int .i64 0, .string (⟨#[]⟩ : ByteArray), .slice none 0 0, .slice none 0 0]) ?_ 0 _ rfl; (with_reducible repeat (first | refine blk_drewN ?_ _ | refine blk_drew ?_ | refine blk_alloc ?_ _)); exact BK410.out) Tryd.underlying30 rfl (by kernel_rfl)) rfl ?_
  exact ⟨_, _, re_, by (with_reducible repeat (first | apply Kd.R_alloc | apply Kd.R_drewN | apply Kd.R_drew)); exact Kd.R_mono (rg4_ HO0_2 BK410) (fun _ hk => ⟨hk.1.1, hk.1.2⟩), by (with_reducible repeat (first | apply Kd.R_alloc | apply Kd.R_drewN | apply Kd.R_drew)); exact Kd.R_mono (rg4_ HO0_3 BK410) (fun _ hk => ⟨hk.1.1, hk.1.2⟩), bl_, by repeat (first | (with_reducible first | exact HK.out | apply Kept.alloc | apply Kept.drewN | apply Kept.drew | refine Kept.setCell ?_ (.inr GW408.out) _ | refine Kept.setCell ?_ (.inr GW409.out) _ | refine Kept.setCell ?_ (.inr GW410.out) _ | refine Kept.setCell ?_ (.inr GW419.out) _) | exact HK.out)⟩

end Go.Proofs.YtdokcckgnamnfaaDoor.QFnExactStepBring
