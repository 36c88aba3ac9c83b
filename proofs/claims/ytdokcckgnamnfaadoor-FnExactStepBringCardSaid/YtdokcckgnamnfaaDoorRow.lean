/- A store of a whole struct into a variable's block, as one step, the world behind it told by what lies in that block. Conditions: as each lemma names them. -/
import Derived.Test.YtdokcckgnamnfaaDoorWWords
import Derived.Test.YtdokcckgnamnfaaDoorWLast
import Derived.Laws.Tables
import Derived.Laws.Rows
import Derived.Below
namespace Go.Proofs.YtdokcckgnamnfaaDoorR
open Go.RowKit Go.Proofs.YtdokcckgnamnfaaDoorW.PrintWords Go.Proofs.YtdokcckgnamnfaaDoorW.PrintLast
section
variable {P : Program} {ops : Array Oper} {rest : List Oper} {o : Oper} {a : Act} {Q : Exit → Act → World → Prop} {W : World}
/-- All but block g as it was. -/
def But (g : Nat) (W w1 : World) : Prop := (∀ k, k ≠ g → w1.heap[k]? = W.heap[k]?) ∧ ∀ B, B ≤ g → Below B W w1
theorem But.below {g B : Nat} {W w1 : World} (h : But g W w1) (hB : B ≤ g) : Below B W w1 := h.2 B hB
theorem But.other {g k : Nat} {W w1 : World} (h : But g W w1) (hk : k ≠ g) : w1.heap[k]? = W.heap[k]? := h.1 k hk
theorem but_setRow (W : World) (g : Nat) (cs : Array Value) : But g W (W.setRow g cs) :=
  ⟨fun k hk => setRow_other W g k cs hk, fun B hB => ⟨rfl, rfl, rfl, by simp, fun k hk => setRow_other W g k cs (by omega)⟩⟩
theorem box_full_event {o2 : Oper} (hgd : o.guard = none) (hgd2 : o2.guard = none) {N : Tmp} (_hd : o.dst = some N) (hd2 : o2.dst = none) {t : TypeId} {v : Operand} (ho : o2.op = .store t (.tmp N) v) {cs cells : Array Value}
    (hi : (P.info? t).map (·.size) = some cells.size) (hs : cs.size = cells.size) (h1 : cells.all (·.oneCell') = true)
    (hrun : (execOp a.eval o).run P W = .ok (.value (.pointer (some ⟨W.heap.size, 0, none⟩))) (W.alloc (.cells cs t (0, 0))))
    (hx : ∀ p, (a.put o.dst p).eval (.tmp N) = p) (hv : ∀ p, (a.put o.dst p).eval v = .agg cells)
    (h : ∀ g, g = W.heap.size → ∀ w1, w1.heap[g]? = some (.cells cells t (0, 0)) → Below W.heap.size W w1 → wpList P ops Q rest (a.put o.dst (.pointer (some ⟨g, 0, none⟩))) w1) : wpList P ops Q (o :: o2 :: rest) a W := by
  refine Kd.event_run hgd hrun ?_
  have hn : (W.alloc (.cells cs t (0, 0))).heap[W.heap.size]? = some (.cells cs t (0, 0)) := blk_new W _
  refine wpList_store_row hgd2 t (.tmp N) v ho W.heap.size cells (hx _) (hv _) t cs hn hi hs h1 ?_
  rw [hd2]
  exact h _ rfl _ (setRow_heap _ _ cs cells t (0, 0) hn) ((below_alloc (Below.refl _ _) _).trans ((but_setRow _ _ _).below (Nat.le_refl _)))
theorem store_row_event (hgd : o.guard = none) {t : TypeId} (p : Tmp) {v : Operand} (ho : o.op = .store t (.tmp p) v) (hN : o.dst = none) (g : Nat) (old cells : Array Value)
    (hx : a.eval (.tmp p) = .pointer (some ⟨g, 0, none⟩)) (hy : a.eval v = .agg cells) (hg : W.heap[g]? = some (.cells old t (0, 0))) (hi : (P.info? t).map (·.size) = some cells.size) (ho2 : old.size = cells.size) (h1 : cells.all (·.oneCell') = true)
    (h : ∀ w1, w1.heap[g]? = some (.cells cells t (0, 0)) → But g W w1 → wpList P ops Q rest a w1) : wpList P ops Q (o :: rest) a W := by
  refine wpList_store_row hgd t (.tmp p) v ho g cells hx hy t old hg hi ho2 h1 ?_
  rw [hN]
  exact h _ (setRow_heap W g old cells t (0, 0) hg) (but_setRow W g cells)
theorem store_cell_event (hgd : o.guard = none) {t : TypeId} (p : Tmp) {v : Operand} (ho : o.op = .store t (.tmp p) v) (hN : o.dst = none) (g i : Nat) (old : Array Value) (T : TypeId) (x : Value) (hg : W.heap[g]? = some (.cells old T (0, 0)))
    (hrun : (execOp a.eval o).run P W = .ok .skip (W.setCell ⟨g, i, none⟩ x))
    (h : ∀ w1, w1.heap[g]? = some (.cells (old.setIfInBounds i x) T (0, 0)) → But g W w1 → wpList P ops Q rest a w1) : wpList P ops Q (o :: rest) a W := by
  refine store_event hgd ho hN hrun fun w' hw => ?_
  subst hw
  rw [setCell_eq_setRow W g i old T (0, 0) x hg]
  exact h _ (setRow_heap W g old _ T (0, 0) hg) (but_setRow W g _)
/-- The cells vs laid from place i of block g on, one by one. -/
def chain (g : Nat) : List Value → Nat → World → World
  | [], _, W => W
  | v :: vs, i, W => chain g vs (i + 1) (W.setCell ⟨g, i, none⟩ v)
theorem run_chain (g b : Nat) (T : TypeId) : ∀ (vs : List Value) (k : Nat) (cur : Array Value) (w : World), w.heap[g]? = some (.cells cur T (0, 0)) → b + k + vs.length ≤ cur.size → (∀ v ∈ vs, v.oneCell' = true) →
    (storeCells ⟨g, b, none⟩ vs k).run P w = .ok () (chain g vs (b + k) w)
  | [], k, cur, w, _, _, _ => by simp [storeCells, chain]
  | v :: rest, k, cur, w, hg, hl, h1 => by
    have hi : b + k < cur.size := by simp at hl; omega
    have hadd : (⟨g, b, none⟩ : Addr).add k = ⟨g, b + k, none⟩ := by unfold Addr.add; split <;> simp_all
    have hcell : w.cell? ⟨g, b + k, none⟩ = some cur[b + k] := by simp [World.cell?, hg, hi]
    have hfro : w.frozen? ⟨g, b + k, none⟩ = false := by simp [World.frozen?, hg]
    have hst : (store ((⟨g, b, none⟩ : Addr).add k) v).run P w = .ok () (w.setCell ⟨g, b + k, none⟩ v) := by
      rw [hadd, run_store P w _ v _ (h1 v (by simp)), hcell]
      simp [hfro]
    have ih := run_chain g b T rest (k + 1) (cur.setIfInBounds (b + k) v) (w.setCell ⟨g, b + k, none⟩ v) (by rw [setCell_eq_setRow w g (b + k) cur T (0, 0) v hg]; exact setRow_heap w g cur _ T _ hg) (by simp at hl ⊢; omega) (fun x hx => h1 x (by simp [hx]))
    simp only [storeCells, Sem.run_bind, hst, Result.andThen_ok, ih, chain]
    rfl
theorem But.refl (g : Nat) (W : World) : But g W W := ⟨fun _ _ => rfl, fun _ _ => Below.refl _ _⟩
theorem But.trans {g : Nat} {W w1 w2 : World} (h : But g W w1) (k : But g w1 w2) : But g W w2 := ⟨fun q hq => (k.1 q hq).trans (h.1 q hq), fun B hB => (h.2 B hB).trans (k.2 B hB)⟩
def splice : Nat → List Value → Array Value → Array Value
  | _, [], cs => cs
  | i, v :: vs, cs => splice (i + 1) vs (cs.setIfInBounds i v)
theorem chain_told (g : Nat) (T : TypeId) : ∀ (vs : List Value) (i : Nat) (cur : Array Value) (w : World), w.heap[g]? = some (.cells cur T (0, 0)) → (chain g vs i w).heap[g]? = some (.cells (splice i vs cur) T (0, 0)) ∧ But g w (chain g vs i w)
  | [], _, _, _, h => ⟨h, But.refl _ _⟩
  | v :: vs, i, cur, w, h => by
    have e := setCell_eq_setRow w g i cur T (0, 0) v h
    obtain ⟨h1, h2⟩ := chain_told g T vs (i + 1) (cur.setIfInBounds i v) (w.setCell ⟨g, i, none⟩ v) (by rw [e]; exact setRow_heap w g cur _ T _ h)
    exact ⟨h1, But.trans (by rw [e]; exact but_setRow w g _) h2⟩
theorem store_part_event (hgd : o.guard = none) {t : TypeId} (p : Tmp) {v : Operand} (ho : o.op = .store t (.tmp p) v) (hN : o.dst = none) (g b : Nat) (u : Value) (vs old cells : Array Value) (T : TypeId)
    (hx : a.eval (.tmp p) = .pointer (some ⟨g, b, none⟩)) (hy : a.eval v = u) (hu : u.cells = vs) (hg : W.heap[g]? = some (.cells old T (0, 0))) (hi : (P.info? t).map (·.size) = some vs.size) (hb : b + vs.size ≤ old.size) (h1 : vs.all (·.oneCell') = true)
    (hc : splice b vs.toList old = cells) (h : ∀ w1, w1.heap[g]? = some (.cells cells T (0, 0)) → But g W w1 → wpList P ops Q rest a w1) : wpList P ops Q (o :: rest) a W := by
  have hrun : (execOp a.eval o).run P W = .ok .skip (chain g vs.toList b W) := by
    have hc := run_chain (P := P) g b T vs.toList 0 old W hg (by simpa using hb) (fun v hv => (Array.all_eq_true_iff_forall_mem.1 h1) v (by simpa using hv))
    cases hq : P.info? t with
    | none => simp [hq] at hi
    | some i =>
      have hs : vs.size = i.size := by simp [hq] at hi; omega
      rw [Nat.add_zero] at hc
      unfold execOp
      simp only [ho, hx, hy, Instr.storeAt, Instr.sureAddr, Sem.run_bind, Sem.run_pure, Result.andThen_ok]
      simp [storeVar, sizeOf, typeInfo, hq, hu, hs, hc]
  obtain ⟨k1, k2⟩ := chain_told g T vs.toList b old W hg
  rw [hc] at k1
  refine store_event hgd ho hN hrun fun w1 hw => ?_
  subst hw
  exact h _ k1 k2
theorem exec_load_row (ty : TypeId) (x : Operand) (ho : o.op = .load ty x) (g : Nat) (hx : a.eval x = .pointer (some ⟨g, 0, none⟩)) (t : TypeId) (cs : Array Value) (fr : Nat × Nat) (d : TypeDesc) (hg : W.heap[g]? = some (.cells cs t fr))
    (hu : P.underlying ty = some d) (hd : (match d with | .struct _ | .array _ _ => true | _ => false) = true) (hi : (P.info? ty).map (·.size) = some cs.size) : (execOp a.eval o).run P W = .ok (.value (.agg cs)) W := by
  unfold execOp
  simp only [ho, hx, Instr.loadAt, Instr.sureAddr, Sem.run_bind, Sem.run_pure, Result.andThen_ok, run_loadVar_row W g t ty cs fr d hg hu hd hi]
theorem typed_off2 {w : World} {k : Nat} {L L' : List Nat} (h : ∃ q, q ∈ L ∧ ∃ cells, w.heap[k]? = some (.cells cells q (0, 0))) (h' : ∃ q, q ∈ L' ∧ ∃ cells, w.heap[k]? = some (.cells cells q (0, 0))) (ht : ∀ q, q ∈ L → ∀ q', q' ∈ L' → q ≠ q') : False := by
  obtain ⟨q, hq, c, hc⟩ := h
  obtain ⟨q', hq', c', hc'⟩ := h'
  rw [hc] at hc'
  injection hc' with e
  injection e with _ e
  exact ht q hq q' hq' e
theorem typed_off {w : World} {k : Nat} {L : List Nat} {t : Nat} (h : ∃ q, q ∈ L ∧ ∃ cells, w.heap[k]? = some (.cells cells q (0, 0))) (h' : ∃ cells, w.heap[k]? = some (.cells cells t (0, 0))) (ht : ∀ q, q ∈ L → q ≠ t) : False := by
  obtain ⟨q, hq, c, hc⟩ := h
  obtain ⟨c', hc'⟩ := h'
  rw [hc] at hc'
  injection hc' with e
  injection e with _ e
  exact ht q hq e
end
end Go.Proofs.YtdokcckgnamnfaaDoorR
