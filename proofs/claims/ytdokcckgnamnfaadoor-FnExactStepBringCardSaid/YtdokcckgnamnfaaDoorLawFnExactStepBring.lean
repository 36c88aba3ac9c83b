/- FnExactStepBring: the program and the reference step alike, at all arguments. -/
import Derived.Test.YtdokcckgnamnfaaDoorRows
import Derived.Test.YtdokcckgnamnfaaDoorQFnExactStepBringPure0
import Derived.Test.YtdokcckgnamnfaaDoorPureFnExactStepBring
import Derived.WalkKit
import Derived.ProofKit
import Derived.OpenShut
import Derived.ShutString
import Derived.ChangeOld
import Derived.Below
import Derived.SizedLaws
import Derived.Carry
import Derived.HandedShaped
import Derived.Shelf.Vars
import Derived.Test.YtdokcckgnamnfaaDoorLaid
import Derived.Test.YtdokcckgnamnfaaDoorTie
import Derived.Test.YtdokcckgnamnfaaDoorCards
import Derived.LaidMore
import Derived.LaidLaws
import Derived.SevenTiedAt
import Derived.Stop.Joined
import Derived.Handed
import Derived.MakeChecks
import Derived.Stop.LaidErr
namespace Go.Proofs.YtdokcckgnamnfaaDoor.fnExactStepBring
open Go.ChangeShapes Go.WideShapes Go.ChangeAt Go.RowKit
open Go.ChangeMaps (open_string shut_string)
open Go.Proofs.YtdokcckgnamnfaaDoorO Go.Proofs.YtdokcckgnamnfaaDoor.QFnExactStepBring
open Go.Proofs.YtdokcckgnamnfaaDoorW.PrintWords
set_option linter.unusedVariables false
theorem own : ownKnob Tryd.prog.godebug = none := by kernel_rfl
theorem laidOut : laidOutB Tryd.prog = true := by kernel_rfl
theorem list_of {cs : Array Value} {l : List Value} (h : cs.toList = l) : cs = l.toArray := by rw [← h]
noncomputable def start (os : Os) : World :=
  let w := World.doorLaid Tryd.prog 400 os
  w
set_option maxRecDepth 100000 in
theorem start_met (os : Os) (args : Array Value) : laidMetH Tryd.prog Rows.fnExactStepBringRow.laid ((start os).forCall (fun _ _ => 0) ⟨#[], args, []⟩).memory :=
  laidMetH_of_parts3 (fuel := 300) (laidMet_of_run' 300 (by kernel_rfl) (by kernel_rfl)) (by kernel_rfl) (by kernel_rfl)
theorem of_tab0 {W : World} (h : laidMetH Tryd.prog Rows.fnExactStepBringRow.laid W) : Lib.TabIs Tryd.prog W "strings.asciiSpace" .u8 Lib.asciiSpaceTab := by
  have e : Rows.fnExactStepBringRow.laid = [("unicode.White_Space", Rows.laid_unicode_White_Space), ("strings.asciiSpace", Lib.tabData .u8 Lib.asciiSpaceTab)] := by kernel_rfl
  rw [e, MakeChecks.laidMetH_plain _ _ _ (by kernel_rfl)] at h
  have h := laidMet.tail h
  exact Lib.tabIs_of_head (g := 0) (by kernel_rfl) (by kernel_rfl) Tryd.underlying105 Tryd.underlying5 (by kernel_rfl) (by kernel_rfl) h
set_option maxRecDepth 100000 in
theorem lifted (os : Os) (started : os.Started) (H : Type) (enc : TypeId × Value → H) :
    ReturnsInHanded {} Tryd.checked os 3 .any (fun w args => (Rows.fnExactStepBringSpec.pre enc Tryd.prog Tryd.f3 [] false w args ∧ laidMetH Tryd.prog Rows.fnExactStepBringRow.laid w) ∧ sizedMet enc Tryd.prog Tryd.f3 (OpenSpec.ofChange Rows.fnExactStepBringSpec) false w args) (Rows.fnExactStepBringSpec.post enc Tryd.prog Tryd.f3 false true false false) := by
  refine laid_shaped (C := Tryd.checked) (X := fun w _ => laidMetH Tryd.prog Rows.fnExactStepBringRow.laid w) (fun _ _ _ hh h => h.of_heap hh) own started (by kernel_rfl) Tryd.func3
    (ChangeSpec.witness_shaped (enc := enc) (C := Tryd.checked) (os := os) (X := fun w _ => laidMetH Tryd.prog Rows.fnExactStepBringRow.laid w) false (start os) #[.agg #[(.int .i64 0), (.string ⟨#[]⟩), (.slice none 0 0), (.slice none 0 0)], .agg #[(.slice none 0 0)], .string ByteArray.empty] 8 rfl (World.shaped_of_RefB (by kernel_rfl) (by kernel_rfl)) (by kernel_rfl) (by kernel_rfl) (by kernel_rfl) (start_met os _)) ?_
  intro W base args ds gs before hval0 hW hL hshape
  have hval : ∀ (j : Nat) t v, Tryd.f3.params[j]? = some t → args[j]? = some v → Value.okWide Tryd.prog W .any base t v := hval0
  have hW' := hW
  obtain ⟨p, q, hA0, hV, rfl, hfz, hnd⟩ := hW
  have hA : DataW.TrodAll enc Tryd.prog W 0 (fun _ => true) true Tryd.f3.params.toList args.toList ds p := hA0
  rw [Tryd.params3] at hA hval
  obtain ⟨v0, vs0, d0, ds0, p0, q0, hargs, rfl, rfl, h0, r0⟩ := trodAll_cons hA
  obtain ⟨v1, vs1, d1, ds1, p1, q1, rfl, rfl, rfl, h1, r1⟩ := trodAll_cons r0
  obtain ⟨v2, vs2, d2, ds2, p2, q2, rfl, rfl, rfl, h2, r2⟩ := trodAll_cons r1
  obtain ⟨rfl, rfl, rfl⟩ := trodAll_nil r2
  obtain rfl : args = #[v0, v1, v2] := by cases args; simp_all
  obtain ⟨rfl, rfl⟩ := trodVars_none hV
  have g0 := h0
  obtain ⟨x0, hK0, hG0⟩ := opens_value opens24 g0
  obtain ⟨cs0_, rfl, _⟩ := okWide_struct Tryd.underlying24 (hval 0 24 v0 rfl rfl)
  obtain ⟨A0_2, c0_2, A0_3, c0_3, hE0, hL0_2, hC0_2, hL0_3, hC0_3⟩ := k24_open hK0
  obtain rfl := list_of (show cs0_.toList = _ from hE0)
  have g1 := h1
  obtain ⟨x1, hK1, hG1⟩ := opens_value opens27 g1
  obtain ⟨cs1_, rfl, _⟩ := okWide_struct Tryd.underlying27 (hval 1 27 v1 rfl rfl)
  obtain ⟨A1_0, c1_0, hE1, hL1_0, hC1_0⟩ := k27_open hK1
  obtain rfl := list_of (show cs1_.toList = _ from hE1)
  have g2 := h2
  obtain ⟨a2, hK2, hG2⟩ := opens_value (opens_string Tryd.underlying9) g2
  obtain ⟨n2_, rfl⟩ := okWide_string Tryd.underlying9 (hval 2 9 v2 rfl rfl)
  obtain rfl : n2_ = a2 := by simpa [Kd.string, Kd.scalar, Value.cells] using hK2
  have P := Pure.FnExactStepBring x0 x1 n2_ hG0 hG1 hG2
  have hG : GInt W := ⟨trivial, of_tab0 hL⟩
  obtain ⟨k, hk⟩ := P
  refine (laws_FnExactStepBring.calls k x0.f0 x0.f1 _ _ x0.f2 _ _ x0.f3 _ _ x1.f0 n2_ W hC0_2 hL0_2 hC0_3 hL0_3 hC1_0 hL1_0 hG hk).mono fun e W' ⟨he, bel0⟩ => ?_
  have bel : Below W.heap.size W W' := bel0
  subst he
  exact ⟨_, rfl, _, _, _, [], _, [], hW', trodAll_mk1 (shut_bool Tryd.underlying4 _), (trodAll_cons_mk (Below.trod laidOut (by kernel_rfl) (of_decide_eq_true (by kernel_rfl)) h0 bel (trod_lt h0)) (trodAll_cons_mk (Below.trod laidOut (by kernel_rfl) (of_decide_eq_true (by kernel_rfl)) h1 bel (trod_lt h1)) (trodAll_cons_mk (Below.trod laidOut (by kernel_rfl) (of_decide_eq_true (by kernel_rfl)) h2 bel (trod_lt h2)) trodAll_mk0))), rfl, bel.frame _, fun h => by cases h⟩
theorem over : Rows.fnExactStepBringRow.holds Tryd.pinned (OpenSpec.ofChange Rows.fnExactStepBringSpec) :=
  OpenClaim.holds_of_wide 3 Tryd.f3 rfl rfl rfl rfl rfl rfl rfl ⟨rfl, rfl, rfl, rfl, rfl⟩ rfl rfl rfl rfl rfl (by kernel_rfl) Tryd.func3 (by kernel_rfl)
    (of_decide_eq_true (by kernel_rfl)) (by unfold Func.isWrapper; first | (rw [if_pos (by decide +kernel)]; kernel_rfl) | (rw [if_neg (by decide +kernel)]; exact ⟨rfl, rfl⟩))
    (fun os started H enc _ => lifted os started H enc)
theorem proved : Rows.FnExactStepBringCardSaid :=
  Claim7.holds_tied_plain_at .later [] [.listed, .data] true (true, "714d1a9eb15a2c08bd688602be2debca940d39f657923ab2a5d10b416b726a3b") false over (fun _ h => by cases h) (by kernel_rfl) (fun _ h => by cases h) fnExactStepBring_row_tie rfl ⟨rfl, rfl⟩ (by kernel_rfl) rfl
    (fun f fn hf hfn => by
      obtain rfl : f = 3 := Option.some.inj ((show Tryd.prog.funcNamed Rows.fnExactStepBringRow.func = some 3 by kernel_rfl).symm.trans hf) |>.symm
      obtain rfl : fn = Tryd.f3 := (Option.some.inj (Tryd.func3.symm.trans hfn)).symm
      exact ⟨by kernel_rfl, fun j t ht => by
        rw [Tryd.params3] at ht
        have hm : t ∈ [24, 27, 9] := by simpa using Array.mem_of_getElem? ht
        have hall : ([24, 27, 9].all fun u => !Tryd.prog.wantsStandIn u) = true := by kernel_rfl
        exact (show Tryd.prog.wantsStandIn t = false by simpa using List.all_eq_true.1 hall t hm)⟩)
    (by kernel_rfl)
end Go.Proofs.YtdokcckgnamnfaaDoor.fnExactStepBring
namespace Go.Proofs.YtdokcckgnamnfaaDoor
theorem fnExactStepBring_holds : Rows.FnExactStepBringCardSaid := fnExactStepBring.proved
end Go.Proofs.YtdokcckgnamnfaaDoor
