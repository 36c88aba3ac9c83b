-- Written by a program of this session (myprint) out of Lean's own print of the translation. Lean checks it.
import Derived.Test.YtfinlknabjgapaaRows
import Derived.Test.YtfinlknabjgapaaQFnExactFeedSessionPure0
import Derived.Test.YtfinlknabjgapaaPureFnExactFeedSession
import Derived.WalkKit
import Derived.ProofKit
import Derived.OpenShut
import Derived.ShutString
import Derived.ChangeOld
import Derived.Below
import Derived.SizedLaws
import Derived.Carry
namespace Go.Proofs.Ytfinlknabjgapaa.fnExactFeedSession
open Go.ChangeShapes Go.WideShapes Go.ChangeAt Go.RowKit
open Go.ChangeMaps (open_string shut_string)
open Go.Proofs.YtfinlknabjgapaaO Go.Proofs.Ytfinlknabjgapaa.QFnExactFeedSession
open Go.Proofs.YtfinlknabjgapaaW.PrintWords
set_option linter.unusedVariables false
theorem own : ownKnob Try.prog.godebug = none := by kernel_rfl
theorem laidOut : laidOutB Try.prog = true := by kernel_rfl
theorem list_of {cs : Array Value} {l : List Value} (h : cs.toList = l) : cs = l.toArray := by rw [← h]
set_option maxRecDepth 100000 in
theorem lifted (os : Os) (started : os.Started) (H : Type) (enc : TypeId × Value → H) :
    ReturnsInHanded {} Try.checked os 4 .any (Rows.fnExactFeedSessionSpec.pre6 enc Try.prog Try.f4 Rows.fnExactFeedSessionRow.domain false) (Rows.fnExactFeedSessionSpec.post enc Try.prog Try.f4 false true false false) := by
  refine returnsInHanded_of_change_sized (C := Try.checked) own started (by kernel_rfl) Try.func4
    (ChangeSpec.witness6 (enc := enc) (C := Try.checked) false ⟨#[], #[.agg #[(.int .i64 0), (.string ⟨#[]⟩), (.string ⟨#[]⟩), (.bool false), (.int .i64 0), (.string ⟨#[]⟩), (.slice none 0 0), (.slice none 0 0), (.int .i64 0), (.string ⟨#[]⟩), (.slice none 0 0), (.slice none 0 0), (.int .i64 0), (.string ⟨#[]⟩), (.string ⟨#[]⟩), (.int .i64 0), (.slice none 0 0)], .string ByteArray.empty], []⟩ 8 (by kernel_rfl) (by kernel_rfl) (by kernel_rfl) (by kernel_rfl)) ?_
  intro W base args ds gs before hval0 hW hcnd hsz0 _
  have hval : ∀ (j : Nat) t v, Try.f4.params[j]? = some t → args[j]? = some v → Value.okWide Try.prog W .any base t v := hval0
  have hW' := hW
  obtain ⟨p, q, hA0, hV, rfl, hfz, hnd⟩ := hW
  have hA : DataW.TrodAll enc Try.prog W 0 (fun _ => true) true Try.f4.params.toList args.toList ds p := hA0
  rw [Try.params4] at hA hval
  obtain ⟨v0, vs0, d0, ds0, p0, q0, hargs, rfl, rfl, h0, r0⟩ := trodAll_cons hA
  obtain ⟨v1, vs1, d1, ds1, p1, q1, rfl, rfl, rfl, h1, r1⟩ := trodAll_cons r0
  obtain ⟨rfl, rfl, rfl⟩ := trodAll_nil r1
  obtain rfl : args = #[v0, v1] := by cases args; simp_all
  obtain ⟨rfl, rfl⟩ := trodVars_none hV
  have g0 := h0
  obtain ⟨x0, hK0, hG0⟩ := opens_value opens33 g0
  obtain ⟨cs0_, rfl, _⟩ := okWide_struct Try.underlying33 (hval 0 33 v0 rfl rfl)
  obtain ⟨A0_6, c0_6, A0_7, c0_7, A0_10, c0_10, A0_11, c0_11, A0_16, c0_16, hE0, hL0_6, hC0_6, hL0_7, hC0_7, hL0_10, hC0_10, hL0_11, hC0_11, hL0_16, hC0_16⟩ := k33_open hK0
  obtain rfl := list_of (show cs0_.toList = _ from hE0)
  have g1 := h1
  obtain ⟨a1, hK1, hG1⟩ := opens_value (opens_string Try.underlying9) g1
  obtain ⟨n1_, rfl⟩ := okWide_string Try.underlying9 (hval 1 9 v1 rfl rfl)
  obtain rfl : n1_ = a1 := by simpa [Kd.string, Kd.scalar, Value.cells] using hK1
  have P := Pure.FnExactFeedSession x0 n1_ hG0 hG1
  obtain ⟨k, hk⟩ := P
  refine (laws_FnExactFeedSession.calls k x0.f0 x0.f1 x0.f2 x0.f3 x0.f4.f0 x0.f4.f1 _ _ x0.f4.f2 _ _ x0.f4.f3 x0.f5.f0 x0.f5.f1 _ _ x0.f5.f2 _ _ x0.f5.f3 x0.f6.f0 x0.f6.f1 x0.f6.f2 x0.f6.f3 _ _ x0.f6.f4 n1_ W hC0_6 hL0_6 hC0_7 hL0_7 hC0_10 hL0_10 hC0_11 hL0_11 hC0_16 hL0_16 hk).mono fun e W' ⟨he, bel0⟩ => ?_
  have bel : Below W.heap.size W W' := bel0
  subst he
  exact ⟨_, rfl, _, _, _, [], _, [], hW', trodAll_mk1 (shut_bool Try.underlying4 _), (trodAll_cons_mk (Below.trod laidOut (by kernel_rfl) (of_decide_eq_true (by kernel_rfl)) h0 bel (trod_lt h0)) (trodAll_cons_mk (Below.trod laidOut (by kernel_rfl) (of_decide_eq_true (by kernel_rfl)) h1 bel (trod_lt h1)) trodAll_mk0)), rfl, bel.frame _, fun h => by cases h⟩
theorem over : Rows.fnExactFeedSessionRow.holds Try.pinned (OpenSpec.ofChange Rows.fnExactFeedSessionSpec) :=
  OpenClaim.holds_of_wide 4 Try.f4 rfl rfl rfl rfl rfl rfl rfl ⟨rfl, rfl, rfl, rfl, rfl⟩ rfl rfl rfl rfl rfl (by kernel_rfl) Try.func4 (by kernel_rfl)
    (of_decide_eq_true (by kernel_rfl)) (by unfold Func.isWrapper; first | (rw [if_pos (by decide +kernel)]; kernel_rfl) | (rw [if_neg (by decide +kernel)]; exact ⟨rfl, rfl⟩))
    (fun os started H enc _ => lifted os started H enc)
theorem proved : Rows.FnExactFeedSessionSaid := over
#print axioms proved
end Go.Proofs.Ytfinlknabjgapaa.fnExactFeedSession
namespace Go.Proofs.Ytfinlknabjgapaa
/-- The row, under a short name, for the claim. -/
theorem fnExactFeedSession_holds : Rows.FnExactFeedSessionSaid := fnExactFeedSession.proved
end Go.Proofs.Ytfinlknabjgapaa
