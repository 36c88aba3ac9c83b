/- Short names of what printed walks say again and again: their side conditions are settled by the lemmas' own tactics. -/
import Derived.Test.YtdokcckgnamnfaaDoorWLast
import Derived.Test.YtdokcckgnamnfaaDoorWMore
import Derived.Test.YtdokcckgnamnfaaDoorWAt
import Derived.Test.YtdokcckgnamnfaaDoorWKept
import Derived.Test.YtdokcckgnamnfaaDoorWApart
import Derived.Test.YtdokcckgnamnfaaDoorRow
import Derived.Tactics
import Derived.Tactics2
namespace Go.Proofs.YtdokcckgnamnfaaDoorW.PrintLast
open Go.RowKit Go.Proofs.YtdokcckgnamnfaaDoorW.PrintWords Go.Proofs.YtdokcckgnamnfaaDoorW.PrintMore
section
variable {P : Program} {ops : Array Oper} {Q : Exit → Act → World → Prop} {a : Act} {o : Oper} {rest : List Oper} {W : World}
theorem gd_ (N : Tmp) (h : wpList P ops Q (o :: rest) a W) (_hN : o.dst = some N := by exact rfl) : wpList P ops Q (o :: rest) a W := h
theorem gs_ (t : TypeId) (p : Tmp) {v : Operand} (h : wpList P ops Q (o :: rest) a W) (_ho : o.op = .store t (.tmp p) v := by exact rfl) : wpList P ops Q (o :: rest) a W := h
theorem gc_ (f : FuncId) {as : Array Operand} {ts : Array TypeId} (h : wpList P ops Q (o :: rest) a W) (_ho : o.op = .call { callee := .value (.func f), args := as, argTypes := ts } := by exact rfl) : wpList P ops Q (o :: rest) a W := h
/-- A variable's block. -/
theorem bx_ (N : Tmp) (t : TypeId) (cs : Array Value)
    (h : ∀ g, g = W.heap.size → ∀ w1, w1.heap[g]? = some (.cells cs t (0, 0)) → Below W.heap.size W w1 → wpList P ops Q rest (a.put o.dst (.pointer (some ⟨g, 0, none⟩))) w1)
    (hd : o.dst = some N := by exact rfl) (hg : o.guard = none := by exact rfl)
    (hr : (execOp a.eval o).run P W = .ok (.value (.pointer (some ⟨W.heap.size, 0, none⟩))) (W.alloc (.cells cs t (0, 0))) := by first | (go_simp; done) | (go_simp; rfl)) : wpList P ops Q (o :: rest) a W := box_event hg hd hr h
/-- A variable's block and the whole store behind it. -/
theorem bf_ {o2 : Oper} (N : Tmp) (t : TypeId) (cs cells : Array Value) {v : Operand}
    (h : ∀ g, g = W.heap.size → ∀ w1, w1.heap[g]? = some (.cells cells t (0, 0)) → Below W.heap.size W w1 → wpList P ops Q rest (a.put o.dst (.pointer (some ⟨g, 0, none⟩))) w1)
    (hd : o.dst = some N := by exact rfl) (hd2 : o2.dst = none := by exact rfl) (ho : o2.op = .store t (.tmp N) v := by exact rfl) (hg : o.guard = none := by exact rfl) (hg2 : o2.guard = none := by exact rfl)
    (hi : (P.info? t).map (·.size) = some cells.size := by kernel_rfl) (hs : cs.size = cells.size := by exact rfl) (h1 : cells.all (·.oneCell') = true := by first | kernel_rfl | rfl)
    (hx : ∀ p, (a.put o.dst p).eval (.tmp N) = p := by intro p_; first | rfl | (go_simp; done) | (go_simp; rfl)) (hv : ∀ p, (a.put o.dst p).eval v = .agg cells := by intro p_; first | rfl | (go_simp; done) | (go_simp; rfl))
    (hr : (execOp a.eval o).run P W = .ok (.value (.pointer (some ⟨W.heap.size, 0, none⟩))) (W.alloc (.cells cs t (0, 0))) := by first | (go_simp; done) | (go_simp; rfl)) : wpList P ops Q (o :: o2 :: rest) a W :=
  Go.Proofs.YtdokcckgnamnfaaDoorR.box_full_event hg hg2 hd hd2 ho hi hs h1 hr hx hv h
/-- A store of a part of a variable's block. -/
theorem sp_ (t : TypeId) (p : Tmp) {v : Operand} (g b : Nat) (u : Value) (cells : Array Value) {old : Array Value} {T : TypeId} (hb : Aside0 (W.heap[g]? = some (.cells old T (0, 0))))
    (h : ∀ w1, w1.heap[g]? = some (.cells cells T (0, 0)) → Go.Proofs.YtdokcckgnamnfaaDoorR.But g W w1 → wpList P ops Q rest a w1)
    (ho : o.op = .store t (.tmp p) v := by exact rfl) (hg : o.guard = none := by exact rfl) (hn : o.dst = none := by exact rfl)
    (hx : a.eval (.tmp p) = .pointer (some ⟨g, b, none⟩) := by first | rfl | (go_simp; done) | (go_simp; rfl)) (hy : a.eval v = u := by first | rfl | (go_simp; done) | (go_simp; rfl))
    (hi : (P.info? t).map (·.size) = some u.cells.size := by kernel_rfl) (hl : b + u.cells.size ≤ old.size := by exact Nat.le_of_ble_eq_true rfl) (h1 : u.cells.all (·.oneCell') = true := by first | kernel_rfl | rfl)
    (hc : Go.Proofs.YtdokcckgnamnfaaDoorR.splice b u.cells.toList old = cells := by kernel_rfl) : wpList P ops Q (o :: rest) a W :=
  Go.Proofs.YtdokcckgnamnfaaDoorR.store_part_event hg p ho hn g b u u.cells old cells T hx hy rfl hb.out hi hl h1 hc h
/-- A load of a whole variable's block. -/
theorem lr_ (t : TypeId) (p : Tmp) {g T : Nat} {cells : Array Value} {fr : Nat × Nat} {d : TypeDesc} (hb : Aside0 (W.heap[g]? = some (.cells cells T fr))) (hu : P.underlying t = some d)
    (h : wpList P ops Q rest (a.put o.dst (.agg cells)) W) (hg : o.guard = none := by exact rfl) (ho : o.op = .load t (.tmp p) := by exact rfl)
    (hx : a.eval (.tmp p) = .pointer (some ⟨g, 0, none⟩) := by exact rfl) (hd : (match d with | .struct _ | .array _ _ => true | _ => false) = true := by exact rfl) (hi : (P.info? t).map (·.size) = some cells.size := by kernel_rfl) : wpList P ops Q (o :: rest) a W :=
  wpList_load_row hg t (.tmp p) ho g hx T cells fr d hb.out hu hd hi h
/-- A call, as an arm. -/
theorem gl_ {f : FuncId} {fn : Func} {as : Array Operand} {ts : Array TypeId} (N : Option Tmp) (hf : P.funcs[f]? = some fn) (args : Array Value)
    (h : Calls P f args W fun e w' => ∃ v, e = .returned v ∧ wpList P ops Q rest (a.put N v) w')
    (hd : o.dst = N := by exact rfl) (hg : o.guard = none := by exact rfl) (hname : (fn.name == "runtime.NumGoroutine") = false := by kernel_rfl) (hb : fn.body.isSome = true := by exact rfl)
    (hop : o.op = .call { callee := .value (.func f), args := as, argTypes := ts } := by exact rfl)
    (hargs : as.map a.eval = args := by (try simp only [List.map_toArray, List.map_cons, List.map_nil]); first | done | rfl | (simp only [List.length_drop, List.length_take]; rfl)) : wpList P ops Q (o :: rest) a W :=
  goesL_ N hd hg hf hname hb args hop hargs h
end
section
variable {P : Program} {ops : Array Oper} {Q : Exit → Act → World → Prop} {md : Region.Mode} {S : World → Prop} {ds : List Nat}
theorem go_ {oi : Oper} {N : Option Tmp} {a : Act} {w : World} {K : Act → World → Prop} {f : FuncId} {fn : Func} {as : Array Operand} {ts : Array TypeId} (hf : P.funcs[f]? = some fn) (args : Array Value)
    (h : Calls P f args w fun e w' => ∃ v, e = .returned v ∧ K (a.put N v) w') (hname : (fn.name == "runtime.NumGoroutine") = false := by kernel_rfl) (hb : fn.body.isSome = true := by exact rfl)
    (hw : Region.wanted oi (yielded ops a.tmps) = true := by rfl) (hN : oi.dst = N := by exact rfl) (hop : oi.op = .call { callee := .value (.func f), args := as, argTypes := ts } := by exact rfl)
    (hargs : as.map a.eval = args := by (try simp only [List.map_toArray, List.map_cons, List.map_nil]); first | done | rfl | (simp only [List.length_drop, List.length_take]; rfl)) :
    if Region.wanted oi (yielded ops a.tmps) = true then Oper.wp P oi a w K Q else K (a.put N undef) w := goes_ hf hname hb args hw hN hop hargs h
theorem nq_ {fuel : Nat} {l : Array Bool} {a a' : Act} {w : World} (h : wpAnyLast P md ops Q S ds fuel l a' w)
    (ha : a = a' := by (show Act.put _ (some _) _ = _); simp only [Act.put, List.setIfInBounds_toArray, List.set_cons_zero, List.set_cons_succ, i64_w, i32_w]; rfl) : wpAnyLast P md ops Q S ds fuel l a w := norm_ ha h
end
section
variable {w w0 w1 W : World} {g g' : Nat} {o : Obj} {t t' : TypeId} {cs cs' : Array Value} {S : Nat → Prop}
theorem bb_ (h : Aside0 (w.heap[g]? = some o)) (hb : Below w.heap.size w w1) : Aside0 (w1.heap[g]? = some o) := ⟨blk_below h.out hb⟩
theorem ba_ {m : Nat} (hq : w.drewN m = w1) (h : Aside0 (w.heap[g]? = some o)) : Aside0 (w1.heap[g]? = some o) := ⟨blk_at hq h.out⟩
theorem hb_ (h : Aside0 (Below w0.heap.size w0 w)) (hb : Below w.heap.size w w1) : Aside0 (Below w0.heap.size w0 w1) := ⟨below_step h.out hb⟩
theorem ha_ {m : Nat} {B : Nat} (hq : w.drewN m = w1) (h : Aside0 (Below B w0 w)) : Aside0 (Below B w0 w1) := ⟨below_at hq h.out⟩
theorem hd_ {B : Nat} (h : Aside0 (Below B w0 w)) : Aside0 (Below B w0 w.drew) := ⟨below_drew1 h.out⟩
theorem ge_ (hg : g = w.heap.size) (h : Aside0 (Below w0.heap.size w0 w)) : Aside0 (w0.heap.size ≤ g) := ⟨hg ▸ below_size h.out⟩
theorem gw_ (hg : g = w.heap.size) (h : Aside0 (Kept w0 w S)) : Aside0 (w0.heap.size ≤ g) := ⟨hg ▸ h.out.1⟩
theorem kb_ (h : Aside0 (Kept w0 w S)) (hb : Below w.heap.size w w1) : Aside0 (Kept w0 w1 S) := ⟨Kept.below h.out hb⟩
theorem ka_ {m : Nat} (hq : w.drewN m = w1) (h : Aside0 (Kept w0 w S)) : Aside0 (Kept w0 w1 S) := ⟨kept_at hq h.out⟩
theorem nl_ (hg : g' = w.heap.size) (h : Aside0 (w.heap[g]? = some o)) : Aside0 (g ≠ g') := ⟨hg ▸ Nat.ne_of_lt (blk_lt h.out)⟩
theorem ng_ (hg : g' = w.heap.size) (h : Aside0 (w.heap[g]? = some o)) : Aside0 (g' ≠ g) := ⟨hg ▸ Nat.ne_of_gt (blk_lt h.out)⟩
theorem kl_ (_x : Aside0 (w.heap[g]? = some o)) (h : W.heap[g]? = some o := by ((with_reducible repeat (first | refine blk_drewN ?_ _ | refine blk_drew ?_ | refine blk_alloc ?_ _)); exact Aside0.out (by assumption))) : W.heap[g]? = some o := h
theorem bbl_ (_x : Aside0 (w.heap[g]? = some o)) (hb : Below W.heap.size W w1) (h : W.heap[g]? = some o := by ((with_reducible repeat (first | refine blk_drewN ?_ _ | refine blk_drew ?_ | refine blk_alloc ?_ _)); exact Aside0.out (by assumption))) : Aside0 (w1.heap[g]? = some o) := ⟨blk_below h hb⟩
theorem bo_ (hb : Go.Proofs.YtdokcckgnamnfaaDoorR.But g w w1) (hn : Aside0 (g' ≠ g)) (h : Aside0 (w.heap[g']? = some o)) : Aside0 (w1.heap[g']? = some o) := ⟨(hb.other hn.out).trans h.out⟩
theorem hs_ (h : Aside0 (Below w0.heap.size w0 w)) (hb : Go.Proofs.YtdokcckgnamnfaaDoorR.But g w w1) (hg : Aside0 (w0.heap.size ≤ g)) : Aside0 (Below w0.heap.size w0 w1) := ⟨h.out.trans (hb.below hg.out)⟩
theorem cu_ {p : Addr} {v : Value} (h : Aside0 (Below w.heap.size w w1)) (hc : w.cell? p = some v) : w1.cell? p = some v := (h.out.cell (World.block_lt_of_cell? w _ hc)).trans hc
section
variable {α : Type} {d : Kd α} {e base n m : Nat} {ok : Nat → Prop} {v : Value} {A : Option Addr} {xs : List α}
theorem rb_ (h : Aside0 (d.R e w base ok v xs)) (hb : Below w.heap.size w w1) : Aside0 (d.R e w1 base ok v xs) := ⟨Kd.R_below h.out hb⟩
theorem sb_ (h : Aside0 (Kd.S d e w base ok v xs)) (hb : Below w.heap.size w w1) : Aside0 (Kd.S d e w1 base ok v xs) := ⟨Kd.S_below h.out hb⟩
theorem ra_ (hq : w.drewN m = w1) (h : Aside0 (d.R e w base ok v xs)) : Aside0 (d.R e w1 base ok v xs) := ⟨Kd.R_at hq h.out⟩
theorem sa_ (hq : w.drewN m = w1) (h : Aside0 (Kd.S d e w base ok v xs)) : Aside0 (Kd.S d e w1 base ok v xs) := ⟨Kd.S_at hq h.out⟩
theorem rs_ (hb : Go.Proofs.YtdokcckgnamnfaaDoorR.But g w w1) (h : Aside0 (d.R e w base ok v xs)) (k : Aside0 (w.heap[g]? = some (.cells cs t (0, 0)))) (ht : ∀ q, q ∈ e :: d.E → q ≠ t := by decide) : Aside0 (d.R e w1 base ok v xs) :=
  ⟨Kd.R_mono (Kd.R_step (Kd.R_types h.out k.out ht) (fun _ hk _ => hb.other hk.2)) (fun _ hk => hk.1)⟩
theorem ss_ (hb : Go.Proofs.YtdokcckgnamnfaaDoorR.But g w w1) (h : Aside0 (Kd.S d e w base ok v xs)) (k : Aside0 (w.heap[g]? = some (.cells cs t (0, 0)))) (ht : ∀ q, q ∈ e :: d.E → q ≠ t := by decide) : Aside0 (Kd.S d e w1 base ok v xs) :=
  ⟨Kd.S_mono (Kd.S_step (Kd.S_types h.out k.out ht) (fun _ hk _ => hb.other hk.2)) (fun _ hk => hk.1)⟩
theorem rl_ (_x : Aside0 (d.R e w base ok v xs)) (h : d.R e W base ok v xs := by ((with_reducible repeat (first | apply Kd.R_alloc | apply Kd.R_drewN | apply Kd.R_drew)); exact Aside0.out (by assumption))) : d.R e W base ok v xs := h
theorem sl_ (_x : Aside0 (Kd.S d e w base ok v xs)) (h : Kd.S d e W base ok v xs := by ((with_reducible repeat (first | apply Kd.S_alloc | apply Kd.S_drewN | apply Kd.S_drew)); exact Aside0.out (by assumption))) : Kd.S d e W base ok v xs := h
theorem rbl_ (_x : Aside0 (d.R e w base ok v xs)) (hb : Below W.heap.size W w1) (h : d.R e W base ok v xs := by exact rl_ (by assumption)) : Aside0 (d.R e w1 base ok v xs) := ⟨Kd.R_below h hb⟩
theorem sbl_ (_x : Aside0 (Kd.S d e w base ok v xs)) (hb : Below W.heap.size W w1) (h : Kd.S d e W base ok v xs := by exact sl_ (by assumption)) : Aside0 (Kd.S d e w1 base ok v xs) := ⟨Kd.S_below h hb⟩
theorem cr_ {c : Nat} (_x : Aside0 (d.R e w base ok (.slice A n c) xs)) (h : d.R e W base ok (.slice A n c) xs := by exact rl_ (by assumption)) : d.C W A xs.length xs := (Kd.R_reads' h).2.2
theorem cs_ {c : Nat} (_x : Aside0 (Kd.S d e w base ok (.slice A n c) xs)) (h : Kd.S d e W base ok (.slice A n c) xs := by exact sl_ (by assumption)) : d.C W A xs.length xs := (Kd.S_reads' h).2.2
theorem nr_ {c : Nat} (x : Aside0 (d.R e w base ok (.slice A n c) xs)) : n ≤ c := (Kd.R_reads' x.out).2.1
theorem ns_ {c : Nat} (x : Aside0 (Kd.S d e w base ok (.slice A n c) xs)) : n ≤ c := (Kd.S_reads' x.out).2.1
theorem rt2_ {α1 α2 : Type} {d1 : Kd α1} {d2 : Kd α2} {e1 e2 : Nat} {ok1 ok2 : Nat → Prop} {v1 v2 : Value} {x1 : List α1} {x2 : List α2} (_x : Aside0 (d.R e w base ok v xs)) (hb : Below W.heap.size W w1) (h1 : d1.R e1 w1 W.heap.size ok1 v1 x1) (h2 : d2.R e2 w1 W.heap.size ok2 v2 x2) (h : d.R e W base ok v xs := by exact rl_ (by assumption)) : Aside0 (d.R e w1 base (fun k => (ok k ∧ some k ≠ v1.ownBlock) ∧ some k ≠ v2.ownBlock) v xs) :=
  ⟨Kd.R_mono (Kd.R_told (Kd.R_told (Kd.R_old h hb) (Kd.R_base h1)) (Kd.R_base h2)) (fun _ h_ => h_.1)⟩
theorem bg_ (x : Aside0 (w.heap[g]? = some (.cells cs t (0, 0)))) (hg : W.grownBy w1 v.ownBlock) (k : Aside0 (d.R e w base ok v xs)) (ht : e ≠ t := by decide) (h : W.heap[g]? = some (.cells cs t (0, 0)) := by exact kl_ (by assumption)) : Aside0 (w1.heap[g]? = some (.cells cs t (0, 0))) := ⟨blk_grown h hg (Kd.R_ne k.out x.out ht)⟩
end
end
theorem rf_ {p : Prop} (h : p := by first | rfl | (simp; done) | (simp [*]; done) | (simp; exact (by intro l; cases l <;> rfl : ∀ l : List UInt8, l.isEmpty = !(l != [])) _)) : p := h
theorem re_ {p : Prop} (h : p := by first | rfl | (simp [errW_none, errW_some] <;> rfl) | (simp [*, errW_none, errW_some] <;> rfl)) : p := h
theorem od_ {p : Prop} [Decidable p] (h : decide p = true := by first | (with_reducible assumption) | assumption) : p := of_decide_eq_true h
theorem bl_ {B : Nat} {w W : World} (h : Below B w W := by repeat (first | (with_reducible first | exact Aside0.out (by assumption) | apply below_alloc | apply pw_below_drewN | apply below_drew1 | refine below_set ?_ (Aside0.out (by assumption))) | exact Aside0.out (by assumption))) : Below B w W := h
theorem gel_ {w w0 : World} {g : Nat} (hg : g = w.heap.size) (h : Below w0.heap.size w0 w := by exact bl_) : Aside0 (w0.heap.size ≤ g) := ⟨hg ▸ below_size h⟩
theorem hbl_ {w w0 w1 : World} (hb : Below w.heap.size w w1) (h : Below w0.heap.size w0 w := by exact bl_) : Aside0 (Below w0.heap.size w0 w1) := ⟨below_step h hb⟩
theorem cb_ {α : Type} {d : Kd α} {w W : World} {A : Option Addr} {n : Nat} {xs : List α} (x : Aside0 (d.C w A n xs)) (hb : Below w.heap.size w W := by exact bl_) : d.C W A n xs := Kd.C_below x.out hb
theorem bs_ {α β : Type} {o : Option α} {f : α → Option β} {r : β} (h : o.bind f = some r) : ∃ a, Aside0 (o = some a) ∧ f a = some r := by
  obtain ⟨a, h1, h2⟩ := Option.bind_eq_some_iff.mp h
  exact ⟨a, ⟨h1⟩, h2⟩
end Go.Proofs.YtdokcckgnamnfaaDoorW.PrintLast
