-- Written by a program of this session (myprint) out of Lean's own print of the translation. Lean checks it.
import Derived.Test.YtdclbjfpkhljeaaQFnExactLowWordx0
namespace Go.Proofs.Ytdclbjfpkhljeaa.QFnExactLowWord
open Go.RowKit Go.Proofs.YtdclbjfpkhljeaaW.PrintWords Go.Proofs.YtdclbjfpkhljeaaW.PrintLast Go.Proofs.YtdclbjfpkhljeaaW.PrintMore
attribute [local go_sem] max2_int min2_int max_two min_two max_three min_three max_four min_four   -- for this text's walks alone
set_option linter.unusedVariables false
set_option linter.unusedSimpArgs false

/-! ### spec_LowWord: function 13 -/
def spec_LowWord.f (a0 : ByteArray) : Option ByteArray := if a0.size ≤ 1048576 then some (Go.Proofs.YtdclbjfpkhljeaaL.lowered a0) else none
set_option maxRecDepth 100000 in
theorem spec_LowWord.calls (a0 : ByteArray) (r : ByteArray) (w : World) (h : spec_LowWord.f a0 = some r) :
    Calls Try.prog 13 #[.string a0] w fun e w' => e = .returned (.string r) ∧ Below w.heap.size w w' := by
  unfold spec_LowWord.f at h
  split at h
  case isFalse => exact absurd h (by simp)
  rename_i hs
  obtain rfl := Option.some.inj h
  clear h
  obtain ⟨cap, W0, hconv, hI0⟩ := Go.Proofs.YtdclbjfpkhljeaaL.low_start (P := Try.prog) w 9 35 5 a0 Try.underlying9 Try.underlying35 Try.underlying5
  have HI0 := Aside0.mk hI0
  clear hI0
  go_enter Try.func13, Try.ntmps13
  go_wp2
  clear hconv
  go_loopg [4] a0.size (fun gg i wr => ∃ k : Nat, k ≤ a0.size ∧ a0.size - k ≤ gg ∧ i = .int .i64 k ∧ Aside0 (Go.Proofs.YtdclbjfpkhljeaaL.LowInv a0 w wr k))
  case atStart => exact ⟨0, Nat.zero_le _, by omega, rfl, HI0⟩
  case round =>
    obtain ⟨k, hk, hg, rfl, HI⟩ := hrel
    by_cases hlt : k < a0.size
    · have hd : k < a0.data.size := hlt
      have hx := HI.out.2.1 k hd
      rw [if_neg (by omega)] at hx
      have hz := HI.out.2.2 k hd
      have hltz : (k : Int) < (a0.size : Int) := by omega
      have hc : a0.data[k].toNat < 256 := a0.data[k].toNat_lt
      have P1 := Aside0.mk (HI.out.put hd)
      have P2 := Aside0.mk (HI.out.keep hd)
      have L1 := Aside0.mk (@Go.Proofs.YtdclbjfpkhljeaaL.low_n a0.data[k])
      have L2 := Aside0.mk (show ¬ (65 ≤ a0.data[k].toNat ∧ a0.data[k].toNat ≤ 90) → Go.Proofs.YtdclbjfpkhljeaaL.lowB a0.data[k] = a0.data[k] from fun q => by unfold Go.Proofs.YtdclbjfpkhljeaaL.lowB; rw [if_neg q])
      generalize hcc : a0.data[k] = c at hx hc P1 P2 L1 L2
      clear hcc
      have h0 : (0 : Int) ≤ (c.toNat : Int) := by omega
      by_cases q1 : 65 ≤ c.toNat
      · have q1z : (65 : Int) ≤ (c.toNat : Int) := by omega
        by_cases q2 : c.toNat ≤ 90
        · have q2z : (c.toNat : Int) ≤ 90 := by omega
          go_wp2
          go_roundg (a0.size - (k + 1))
          case measure => omega
          case rel => exact ⟨k + 1, by omega, by omega, by go_num, ⟨P1.out _ (by have e_ := L1.out ⟨q1, q2⟩; exact congrArg (Value.int IntKind.u8) (by omega))⟩⟩
        · have q2z : ¬ (c.toNat : Int) ≤ 90 := by omega
          go_wp2
          go_roundg (a0.size - (k + 1))
          case measure => omega
          case rel => exact ⟨k + 1, by omega, by omega, by go_num, ⟨P2.out (L2.out (fun q => q2 q.2))⟩⟩
      · have q1z : ¬ (65 : Int) ≤ (c.toNat : Int) := by omega
        go_wp2
        go_roundg (a0.size - (k + 1))
        case measure => omega
        case rel => exact ⟨k + 1, by omega, by omega, by go_num, ⟨P2.out (L2.out (fun q => q1 q.1))⟩⟩
    · have : k = a0.size := by omega
      subst this
      have hb := HI.out.back (P := Try.prog) 35 9 5 cap Try.underlying35 Try.underlying5 Try.underlying9
      go_wp2
      go_ret
      exact ⟨rfl, HI.out.1⟩


/-! ### impl_LowWord: function 14 -/
def impl_LowWord.f (a0 : ByteArray) : Option ByteArray := if a0.size ≤ 1048576 then some (Go.Proofs.YtdclbjfpkhljeaaL.lowered a0) else none
set_option maxRecDepth 100000 in
theorem impl_LowWord.calls (a0 : ByteArray) (r : ByteArray) (w : World) (h : impl_LowWord.f a0 = some r) :
    Calls Try.prog 14 #[.string a0] w fun e w' => e = .returned (.string r) ∧ Below w.heap.size w w' := by
  unfold impl_LowWord.f at h
  split at h
  case isFalse => exact absurd h (by simp)
  rename_i hs
  obtain rfl := Option.some.inj h
  clear h
  obtain ⟨cap, W0, hconv, hI0⟩ := Go.Proofs.YtdclbjfpkhljeaaL.low_start (P := Try.prog) w 9 35 5 a0 Try.underlying9 Try.underlying35 Try.underlying5
  have HI0 := Aside0.mk hI0
  clear hI0
  go_enter Try.func14, Try.ntmps14
  go_wp2
  clear hconv
  go_loopg [10] a0.size (fun gg i wr => ∃ k : Nat, k ≤ a0.size ∧ a0.size - k ≤ gg ∧ i = .int .i64 k ∧ Aside0 (Go.Proofs.YtdclbjfpkhljeaaL.LowInv a0 w wr k))
  case atStart => exact ⟨0, Nat.zero_le _, by omega, rfl, HI0⟩
  case round =>
    obtain ⟨k, hk, hg, rfl, HI⟩ := hrel
    by_cases hlt : k < a0.size
    · have hd : k < a0.data.size := hlt
      have hx := HI.out.2.1 k hd
      rw [if_neg (by omega)] at hx
      have hz := HI.out.2.2 k hd
      have hltz : (k : Int) < (a0.size : Int) := by omega
      have hc : a0.data[k].toNat < 256 := a0.data[k].toNat_lt
      have P1 := Aside0.mk (HI.out.put hd)
      have P2 := Aside0.mk (HI.out.keep hd)
      have L1 := Aside0.mk (@Go.Proofs.YtdclbjfpkhljeaaL.low_n a0.data[k])
      have L2 := Aside0.mk (show ¬ (65 ≤ a0.data[k].toNat ∧ a0.data[k].toNat ≤ 90) → Go.Proofs.YtdclbjfpkhljeaaL.lowB a0.data[k] = a0.data[k] from fun q => by unfold Go.Proofs.YtdclbjfpkhljeaaL.lowB; rw [if_neg q])
      generalize hcc : a0.data[k] = c at hx hc P1 P2 L1 L2
      clear hcc
      have h0 : (0 : Int) ≤ (c.toNat : Int) := by omega
      by_cases q1 : 65 ≤ c.toNat
      · have q1z : (65 : Int) ≤ (c.toNat : Int) := by omega
        by_cases q2 : c.toNat ≤ 90
        · have q2z : (c.toNat : Int) ≤ 90 := by omega
          go_wp2
          go_roundg (a0.size - (k + 1))
          case measure => omega
          case rel => exact ⟨k + 1, by omega, by omega, by go_num, ⟨P1.out _ (by have e_ := L1.out ⟨q1, q2⟩; exact congrArg (Value.int IntKind.u8) (by omega))⟩⟩
        · have q2z : ¬ (c.toNat : Int) ≤ 90 := by omega
          go_wp2
          go_roundg (a0.size - (k + 1))
          case measure => omega
          case rel => exact ⟨k + 1, by omega, by omega, by go_num, ⟨P2.out (L2.out (fun q => q2 q.2))⟩⟩
      · have q1z : ¬ (65 : Int) ≤ (c.toNat : Int) := by omega
        go_wp2
        go_roundg (a0.size - (k + 1))
        case measure => omega
        case rel => exact ⟨k + 1, by omega, by omega, by go_num, ⟨P2.out (L2.out (fun q => q1 q.1))⟩⟩
    · have : k = a0.size := by omega
      subst this
      have hb := HI.out.back (P := Try.prog) 35 9 5 cap Try.underlying35 Try.underlying5 Try.underlying9
      go_wp2
      go_ret
      exact ⟨rfl, HI.out.1⟩


/-! ### laws_FnExactLowWord: function 5 -/
def laws_FnExactLowWord.f (a0 : ByteArray) : Option (Bool) := if (a0.size : Int) > 1048576 then (some true) else ((spec_LowWord.f a0).bind fun t101 => ((impl_LowWord.f a0).bind fun t102 => (if t102.toList = t101.toList then (some true) else (some false))))
set_option maxHeartbeats 8000000 in
set_option maxRecDepth 100000 in
theorem laws_FnExactLowWord.calls (a0 : ByteArray) (w : World) (h : laws_FnExactLowWord.f a0 = some true) :
    Calls Try.prog 5 #[.string a0] w fun e w' => e = .returned (.bool true) ∧ Below w.heap.size w w' := by
  have HB := Aside0.mk (Below.refl w.heap.size w)
  have H : (if (a0.size : Int) > 1048576 then (some true) else ((spec_LowWord.f a0).bind fun t101 => ((impl_LowWord.f a0).bind fun t102 => (if t102.toList = t101.toList then (some true) else (some false))))) = some true := h
  clear h
  by_cases c2 : (a0.size : Int) > 1048576
  · rw [if_pos c2] at H
    have c2b0 : decide (1048576 < (a0.size : Int)) = true := decide_eq_true c2
    have c2b1 : decide (1048576 < a0.size) = true := decide_eq_true (by omega)
    clear c2
    clear H
    go_enter Try.func5, Try.ntmps5
    go_wp2
    go_ret
    exact ⟨by first | rfl | (simp [errW_none, errW_some] <;> rfl) | (simp [*, errW_none, errW_some] <;> rfl), by repeat (first | (with_reducible first | exact HB.out | apply below_alloc | apply pw_below_drewN | apply below_drew1) | exact HB.out)⟩
  · rw [if_neg c2] at H
    have c2b0 : decide (1048576 < (a0.size : Int)) = false := decide_eq_false c2
    have c2b1 : decide (1048576 < a0.size) = false := decide_eq_false (by omega)
    clear c2
    replace H := Option.bind_eq_some_iff.mp H
    obtain ⟨t101, A30, H⟩ := H
    replace H : ((impl_LowWord.f a0).bind fun t102 => (if t102.toList = t101.toList then (some true) else (some false))) = some true := H
    have A3 := Aside0.mk A30
    clear A30
    replace H := Option.bind_eq_some_iff.mp H
    obtain ⟨t102, A40, H⟩ := H
    replace H : (if t102.toList = t101.toList then (some true) else (some false)) = some true := H
    have A4 := Aside0.mk A40
    clear A40
    by_cases c5 : t102.toList = t101.toList
    · rw [if_pos c5] at H
      have c5b0 : (t102.toList == t101.toList) = true := beq_iff_eq.mpr c5
      have c5b1 : (t102.toList != t101.toList) = false := bne_eq_false_iff_eq.mpr c5
      clear c5
      clear H
      go_enter Try.func5, Try.ntmps5
      go_wp2_with (first | ((with_reducible refine gate_callee (f := 13) rfl ?_); refine goesL_ (some 9) rfl rfl Try.func13 (by kernel_rfl) rfl #[.string a0] rfl (by (try simp only [List.map_toArray, List.map_cons, List.map_nil]); first | done | rfl | (simp only [List.length_drop, List.length_take]; rfl)) ?_; (with_reducible refine (spec_LowWord.calls a0 t101 _ A3.out).mono ?_); rintro e w6 ⟨rfl, hb⟩; refine ⟨_, rfl, ?_⟩; have n0_ := Aside0.mk (below_step (by repeat (first | (with_reducible first | exact HB.out | apply below_alloc | apply pw_below_drewN | apply below_drew1) | exact HB.out)) hb); clear HB; have HB := n0_; clear n0_; (try clear hb); (try clear hb2); (try clear hk); (try clear hi)) | ((with_reducible refine gate_callee (f := 14) rfl ?_); refine goesL_ (some 11) rfl rfl Try.func14 (by kernel_rfl) rfl #[.string a0] rfl (by (try simp only [List.map_toArray, List.map_cons, List.map_nil]); first | done | rfl | (simp only [List.length_drop, List.length_take]; rfl)) ?_; (with_reducible refine (impl_LowWord.calls a0 t102 _ A4.out).mono ?_); rintro e w7 ⟨rfl, hb⟩; refine ⟨_, rfl, ?_⟩; have n0_ := Aside0.mk (below_step (by repeat (first | (with_reducible first | exact HB.out | apply below_alloc | apply pw_below_drewN | apply below_drew1) | exact HB.out)) hb); clear HB; have HB := n0_; clear n0_; (try clear hb); (try clear hb2); (try clear hk); (try clear hi)))
      go_ret
      exact ⟨by first | rfl | (simp [errW_none, errW_some] <;> rfl) | (simp [*, errW_none, errW_some] <;> rfl), by repeat (first | (with_reducible first | exact HB.out | apply below_alloc | apply pw_below_drewN | apply below_drew1) | exact HB.out)⟩
    · rw [if_neg c5] at H
      have c5b0 : (t102.toList == t101.toList) = false := beq_eq_false_iff_ne.mpr c5
      have c5b1 : (t102.toList != t101.toList) = true := bne_iff_ne.mpr c5
      exact absurd H (by simp)

end Go.Proofs.Ytdclbjfpkhljeaa.QFnExactLowWord
