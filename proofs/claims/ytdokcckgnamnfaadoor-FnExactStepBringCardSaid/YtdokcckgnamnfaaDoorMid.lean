/- A box and the store of a whole struct into it, with one operation between the two. Conditions: as the lemma names them. -/
import Derived.Test.YtdokcckgnamnfaaDoorRow
namespace Go.Proofs.YtdokcckgnamnfaaDoorR
open Go.RowKit Go.Proofs.YtdokcckgnamnfaaDoorW.PrintWords Go.Proofs.YtdokcckgnamnfaaDoorW.PrintLast
section
variable {P : Program} {ops : Array Oper} {rest : List Oper} {o : Oper} {a : Act} {Q : Exit → Act → World → Prop} {W : World}
/-- The same, with one operation between the two that only gives a value. -/
theorem box_full_mid {om o2 : Oper} (hgd : o.guard = none) (hgm : om.guard = none) (hgd2 : o2.guard = none) {N : Tmp} (_hd : o.dst = some N) (hd2 : o2.dst = none) {t : TypeId} {v : Operand} (ho : o2.op = .store t (.tmp N) v) {cs cells : Array Value} (vm : Value)
    (hi : (P.info? t).map (·.size) = some cells.size) (hs : cs.size = cells.size) (h1 : cells.all (·.oneCell') = true)
    (hrun : (execOp a.eval o).run P W = .ok (.value (.pointer (some ⟨W.heap.size, 0, none⟩))) (W.alloc (.cells cs t (0, 0))))
    (hrm : ∀ p w, (execOp (a.put o.dst p).eval om).run P w = .ok (.value vm) w)
    (hx : ∀ p, ((a.put o.dst p).put om.dst vm).eval (.tmp N) = p) (hv : ∀ p, ((a.put o.dst p).put om.dst vm).eval v = .agg cells)
    (h : ∀ g, g = W.heap.size → ∀ w1, w1.heap[g]? = some (.cells cells t (0, 0)) → Below W.heap.size W w1 → wpList P ops Q rest ((a.put o.dst (.pointer (some ⟨g, 0, none⟩))).put om.dst vm) w1) : wpList P ops Q (o :: om :: o2 :: rest) a W := by
  refine Kd.event_run hgd hrun ?_
  refine Kd.event_run hgm (hrm _ _) ?_
  have hn : (W.alloc (.cells cs t (0, 0))).heap[W.heap.size]? = some (.cells cs t (0, 0)) := blk_new W _
  refine wpList_store_row hgd2 t (.tmp N) v ho W.heap.size cells (hx _) (hv _) t cs hn hi hs h1 ?_
  rw [hd2]
  exact h _ rfl _ (setRow_heap _ _ cs cells t (0, 0) hn) ((below_alloc (Below.refl _ _) _).trans ((but_setRow _ _ _).below (Nat.le_refl _)))
end
end Go.Proofs.YtdokcckgnamnfaaDoorR
