/- More short names of what printed walks say again and again. -/
import Derived.Test.YtdokcckgnamnfaaDoorShort
namespace Go.Proofs.YtdokcckgnamnfaaDoorW.PrintLast
open Go.RowKit Go.Proofs.YtdokcckgnamnfaaDoorW.PrintWords Go.Proofs.YtdokcckgnamnfaaDoorW.PrintMore
section
variable {w w0 w1 W : World} {g : Nat} {t : TypeId} {cs : Array Value}
section
variable {α : Type} {d : Kd α} {e base n m : Nat} {ok ok' : Nat → Prop} {v : Value} {A : Option Addr} {xs : List α}
theorem rm_ (_x : Aside0 (d.R e w base ok v xs)) (h : d.R e W base ok v xs := by exact rl_ (by assumption)) (hk : ∀ k, ok k → ok' k := by intro k_ hk_; simp only [hk_, ne_eq, not_false_eq_true, and_self]) : d.R e W base ok' v xs := Kd.R_mono h hk
theorem rf4_ (x : Aside0 (d.R e w base ok v xs)) (k : Aside0 (w.heap[g]? = some (.cells cs t (0, 0)))) {u0 u1 u2 u3 : Value} (ht : ∀ q, q ∈ e :: d.E → q ≠ t := by decide) : d.R e ((((w.setCell ⟨g, 0, none⟩ u0).setCell ⟨g, 1, none⟩ u1).setCell ⟨g, 2, none⟩ u2).setCell ⟨g, 3, none⟩ u3) base ok v xs :=
  Kd.R_mono (Kd.R_far (p := ⟨g, 3, none⟩) (Kd.R_far (p := ⟨g, 2, none⟩) (Kd.R_far (p := ⟨g, 1, none⟩) (Kd.R_far (p := ⟨g, 0, none⟩) (Kd.R_types x.out k.out ht) (fun _ hk => hk.2) u0) (fun _ hk => hk.2) u1) (fun _ hk => hk.2) u2) (fun _ hk => hk.2) u3) (fun _ hk => hk.1)
theorem rg4_ (x : Aside0 (d.R e w base ok v xs)) (k : Aside0 (w.heap[g]? = some (.cells cs t (0, 0)))) {u0 u1 u2 u3 : Value} (ht : ∀ q, q ∈ e :: d.E → q ≠ t := by decide) : d.R e ((((w.setCell ⟨g, 0, none⟩ u0).setCell ⟨g, 1, none⟩ u1).setCell ⟨g, 2, none⟩ u2).setCell ⟨g, 3, none⟩ u3) base (fun k => ok k ∧ k ≠ g) v xs :=
  Kd.R_far (p := ⟨g, 3, none⟩) (Kd.R_far (p := ⟨g, 2, none⟩) (Kd.R_far (p := ⟨g, 1, none⟩) (Kd.R_far (p := ⟨g, 0, none⟩) (Kd.R_types x.out k.out ht) (fun _ hk => hk.2) u0) (fun _ hk => hk.2) u1) (fun _ hk => hk.2) u2) (fun _ hk => hk.2) u3
theorem tt_ {P : Nat → Prop} {L : List Nat} (x : Aside0 (d.R e w base ok v xs)) (hk_ : Kept w w1 (fun k => P k ∧ base ≤ k ∧ k < w.heap.size ∧ ∃ q, q ∈ L ∧ ∃ cells, w.heap[k]? = some (.cells cells q (0, 0)))) (hE : d.E = [] := by exact rfl) (ht : ∀ q, q ∈ L → q ≠ e := by decide) : Aside0 (d.R e w1 base ok v xs) :=
  ⟨Kd.R_mono (Kd.R_step (Kd.R_tight hE x.out) (fun k_ hk hl_ => hk_.2 k_ hl_ (fun hP_ => Go.Proofs.YtdokcckgnamnfaaDoorR.typed_off hP_.2.2.2 (Kd.R_typed x.out k_ hk.symm) ht))) (fun k_ hk => (x.out).1 k_ hk.symm)⟩
theorem sf4_ (x : Aside0 (Kd.S d e w base ok v xs)) (k : Aside0 (w.heap[g]? = some (.cells cs t (0, 0)))) {u0 u1 u2 u3 : Value} (ht : ∀ q, q ∈ e :: d.E → q ≠ t := by decide) : Kd.S d e ((((w.setCell ⟨g, 0, none⟩ u0).setCell ⟨g, 1, none⟩ u1).setCell ⟨g, 2, none⟩ u2).setCell ⟨g, 3, none⟩ u3) base ok v xs :=
  Kd.S_mono (Kd.S_far (p := ⟨g, 3, none⟩) (Kd.S_far (p := ⟨g, 2, none⟩) (Kd.S_far (p := ⟨g, 1, none⟩) (Kd.S_far (p := ⟨g, 0, none⟩) (Kd.S_types x.out k.out ht) (fun _ hk => hk.2) u0) (fun _ hk => hk.2) u1) (fun _ hk => hk.2) u2) (fun _ hk => hk.2) u3) (fun _ hk => hk.1)
end
theorem bf4_ {g' : Nat} (x : Aside0 (w.heap[g]? = some (.cells cs t (0, 0)))) (hn : Aside0 (g ≠ g')) {u0 u1 u2 u3 : Value} : ((((w.setCell ⟨g', 0, none⟩ u0).setCell ⟨g', 1, none⟩ u1).setCell ⟨g', 2, none⟩ u2).setCell ⟨g', 3, none⟩ u3).heap[g]? = some (.cells cs t (0, 0)) :=
  blk_far (blk_far (blk_far (blk_far x.out hn.out u0) hn.out u1) hn.out u2) hn.out u3
theorem bc_ {v : Value} (x : Aside0 (w.heap[g]? = some (.cells cs t (0, 0)))) (i : Nat) (h : cs[i]? = some v := by exact rfl) : w.cell? ⟨g, i, none⟩ = some v := (blk_cell x.out i).trans h
end
theorem dw_ {p : Prop} (h : p := by first | exact ⟨rfl, _, World.drewN_drewN _ _ _⟩ | exact ⟨rfl, _, Eq.trans (World.drewN_drewN _ _ _) (congrArg (World.drewN _) (Nat.add_assoc _ _ _))⟩) : p := h
theorem dn_ {w w' : World} (h : Drawn0 w w' := by repeat (first | exact Drawn0.refl _ | apply Drawn0.step)) : Drawn0 w w' := h
theorem ni_ {p : Prop} (h : p := by first | exact Kd.S_nil _ _ _ _ _ | exact Kd.N_nil _ _ _ _ _ | exact Kd.V_nil _ _ _ _ _ | exact Kd.Q_nil _ _ _ _ _ | exact Kd.R_nil _ _ _ _ _) : p := h
end Go.Proofs.YtdokcckgnamnfaaDoorW.PrintLast
