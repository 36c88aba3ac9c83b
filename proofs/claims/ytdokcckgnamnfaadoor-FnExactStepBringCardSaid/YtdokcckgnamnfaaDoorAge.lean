/- Two rows of rows of one type, told apart by their age: the elder one's blocks lie below the size of the memory in which the younger one was begun. -/
import Derived.Test.YtdokcckgnamnfaaDoorShorter
namespace Go.Proofs.YtdokcckgnamnfaaDoorW.PrintLast
open Go.RowKit Go.Proofs.YtdokcckgnamnfaaDoorW.PrintWords Go.Proofs.YtdokcckgnamnfaaDoorW.PrintMore
variable {α : Type} {d : Kd α} {e base : Nat} {ok : Nat → Prop} {w : World} {v : Value} {xs : List α}
theorem ag_ (h : Kd.S d e w base ok v xs) : Kd.S d e w base (fun k => base ≤ k) v xs := Kd.S_mono (Kd.S_bound h) (fun _ hk => hk.2.1)
theorem el_ (h : Kd.S d e w base ok v xs) : Kd.S d e w base (fun k => k < w.heap.size) v xs := Kd.S_mono (Kd.S_bound h) (fun _ hk => hk.2.2.1)
theorem bt_ {P : Nat → Prop} {L : List Nat} {w1 : World} {g b : Nat} {t : TypeId} {cs : Array Value} (x : Aside0 (w.heap[g]? = some (.cells cs t (0, 0)))) (hk_ : Kept w w1 (fun k => P k ∧ b ≤ k ∧ k < w.heap.size ∧ ∃ q, q ∈ L ∧ ∃ cells, w.heap[k]? = some (.cells cells q (0, 0)))) (ht : ∀ q, q ∈ L → q ≠ t := by decide) : Aside0 (w1.heap[g]? = some (.cells cs t (0, 0))) :=
  ⟨(hk_.2 g (blk_lt x.out) (fun hP_ => Go.Proofs.YtdokcckgnamnfaaDoorR.typed_off hP_.2.2.2 ⟨_, x.out⟩ ht)).trans x.out⟩
end Go.Proofs.YtdokcckgnamnfaaDoorW.PrintLast
