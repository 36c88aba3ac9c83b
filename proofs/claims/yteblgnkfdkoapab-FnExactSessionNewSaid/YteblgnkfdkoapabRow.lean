/- A store of a whole struct into a variable's block, as one step, the world behind it told by what lies in that block. Conditions: as each lemma names them. -/
import Derived.Test.YteblgnkfdkoapabWWords
import Derived.Test.YteblgnkfdkoapabWLast
import Derived.Laws.Tables
import Derived.Laws.Rows
import Derived.Below
namespace Go.Proofs.YteblgnkfdkoapabR
open Go.RowKit Go.Proofs.YteblgnkfdkoapabW.PrintWords Go.Proofs.YteblgnkfdkoapabW.PrintLast
section
variable {P : Program} {ops : Array Oper} {rest : List Oper} {o : Oper} {a : Act} {Q : Exit → Act → World → Prop} {W : World}
/-- All but block g as it was. -/
def But (g : Nat) (W w1 : World) : Prop := (∀ k, k ≠ g → w1.heap[k]? = W.heap[k]?) ∧ ∀ B, B ≤ g → Below B W w1
theorem But.below {g B : Nat} {W w1 : World} (h : But g W w1) (hB : B ≤ g) : Below B W w1 := h.2 B hB
theorem But.other {g k : Nat} {W w1 : World} (h : But g W w1) (hk : k ≠ g) : w1.heap[k]? = W.heap[k]? := h.1 k hk
theorem but_setRow (W : World) (g : Nat) (cs : Array Value) : But g W (W.setRow g cs) :=
  ⟨fun k hk => setRow_other W g k cs hk, fun B hB => ⟨rfl, rfl, rfl, by simp, fun k hk => setRow_other W g k cs (by omega)⟩⟩
theorem box_full_event {o2 : Oper} (hgd : o.guard = none) (hgd2 : o2.guard = none) {N : Tmp} (_hd : o.dst = some N) (hd2 : o2.dst = none) {t : TypeId} {v : Operand} (ho : o2.op = .store t (.tmp N) v) {cs cells : Array Value}
    (hi : (P.info? t).map (·.size) = some cells.size) (hs : cs.size = cells.size) (h1 : cells.all (·.oneCell') = true)
    (hrun : (execOp a.eval o).run P W = .ok (.value (.pointer (some ⟨W.heap.size, 0, none⟩))) (W.alloc (.cells cs t (0, 0))))
    (hx : ∀ p, (a.put o.dst p).eval (.tmp N) = p) (hv : ∀ p, (a.put o.dst p).eval v = .agg cells)
    (h : ∀ g, g = W.heap.size → ∀ w1, w1.heap[g]? = some (.cells cells t (0, 0)) → Below W.heap.size W w1 → wpList P ops Q rest (a.put o.dst (.pointer (some ⟨g, 0, none⟩))) w1) : wpList P ops Q (o :: o2 :: rest) a W := by
  refine Kd.event_run hgd hrun ?_
  have hn : (W.alloc (.cells cs t (0, 0))).heap[W.heap.size]? = some (.cells cs t (0, 0)) := blk_new W _
  refine wpList_store_row hgd2 t (.tmp N) v ho W.heap.size cells (hx _) (hv _) t cs hn hi hs h1 ?_
  rw [hd2]
  exact h _ rfl _ (setRow_heap _ _ cs cells t (0, 0) hn) ((below_alloc (Below.refl _ _) _).trans ((but_setRow _ _ _).below (Nat.le_refl _)))
theorem store_row_event (hgd : o.guard = none) {t : TypeId} (p : Tmp) {v : Operand} (ho : o.op = .store t (.tmp p) v) (hN : o.dst = none) (g : Nat) (old cells : Array Value)
    (hx : a.eval (.tmp p) = .pointer (some ⟨g, 0, none⟩)) (hy : a.eval v = .agg cells) (hg : W.heap[g]? = some (.cells old t (0, 0))) (hi : (P.info? t).map (·.size) = some cells.size) (ho2 : old.size = cells.size) (h1 : cells.all (·.oneCell') = true)
    (h : ∀ w1, w1.heap[g]? = some (.cells cells t (0, 0)) → But g W w1 → wpList P ops Q rest a w1) : wpList P ops Q (o :: rest) a W := by
  refine wpList_store_row hgd t (.tmp p) v ho g cells hx hy t old hg hi ho2 h1 ?_
  rw [hN]
  exact h _ (setRow_heap W g old cells t (0, 0) hg) (but_setRow W g cells)
theorem store_cell_event (hgd : o.guard = none) {t : TypeId} (p : Tmp) {v : Operand} (ho : o.op = .store t (.tmp p) v) (hN : o.dst = none) (g i : Nat) (old : Array Value) (T : TypeId) (x : Value) (hg : W.heap[g]? = some (.cells old T (0, 0)))
    (hrun : (execOp a.eval o).run P W = .ok .skip (W.setCell ⟨g, i, none⟩ x))
    (h : ∀ w1, w1.heap[g]? = some (.cells (old.setIfInBounds i x) T (0, 0)) → But g W w1 → wpList P ops Q rest a w1) : wpList P ops Q (o :: rest) a W := by
  refine store_event hgd ho hN hrun fun w' hw => ?_
  subst hw
  rw [setCell_eq_setRow W g i old T (0, 0) x hg]
  exact h _ (setRow_heap W g old _ T (0, 0) hg) (but_setRow W g _)
end
end Go.Proofs.YteblgnkfdkoapabR
