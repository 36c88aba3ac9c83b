/- What an argument's reading says of its cells, kind by kind: whatever the type of an argument (whole numbers, bools, strings, slices, structs), its cells are those of a value of the printed kind, and that value is within its bounds. Conditions: the type's shape in the program, as each lemma names it. -/
import Derived.Test.YtdokcckgnamnfaaDoorWWords
import Derived.Carry
import Derived.ChangeArms
import Derived.DataReads
namespace Go.Proofs.YtdokcckgnamnfaaDoorO
open Go.RowKit Go.Proofs.YtdokcckgnamnfaaDoorW.PrintWords
set_option linter.unusedVariables false

/-- At type t every reading is a value of kind d that is good. -/
def Opens {α : Type} (P : Program) (t : TypeId) (d : Kd α) (G : α → Prop) : Prop :=
  ∀ (H : Type) (enc : TypeId × Value → H) (w : World) (base : Nat) (spare : Nat → Bool) (held : Bool) (fuel : Nat) (cs : List Value) (x : DataW H × List MemPlace),
    DataW.trod enc P w base spare held fuel t cs = some x → ∃ y : α, d.K w y cs ∧ G y

theorem opens_bool {P : Program} {t : TypeId} (ht : P.underlying t = some .bool) : Opens P t Kd.bool (fun _ => True) := by
  intro H enc w base spare held fuel cs x h
  obtain ⟨b, rfl, _⟩ := DataW.trod_bool ht h
  exact ⟨b, rfl, trivial⟩

theorem opens_int {P : Program} {t : TypeId} {k : IntKind} (ht : P.underlying t = some (.int k)) : Opens P t (Kd.int k) (fun n => (Lit.int k n).wf = true) := by
  intro H enc w base spare held fuel cs x h
  obtain ⟨n, rfl, _, hw⟩ := DataW.trod_int ht h
  exact ⟨n, rfl, hw⟩

theorem opens_string {P : Program} {t : TypeId} (ht : P.underlying t = some .string) : Opens P t Kd.string (fun s => s.size ≤ 9223372036854775807) := by
  intro H enc w base spare held fuel cs x h
  obtain ⟨s, rfl, _, hs⟩ := DataW.trod_string ht h
  exact ⟨s, rfl, hs⟩

theorem listed {α : Type} (Q : Nat → α → Prop) : ∀ n : Nat, (∀ i, i < n → ∃ y, Q i y) → ∃ xs : List α, xs.length = n ∧ ∀ j p, xs[j]? = some p → Q j p
  | 0, _ => ⟨[], rfl, fun j p h => by simp at h⟩
  | n + 1, h => by
    obtain ⟨xs, hl, hx⟩ := listed Q n (fun i hi => h i (by omega))
    obtain ⟨y, hy⟩ := h n (by omega)
    refine ⟨xs ++ [y], by simp [hl], fun j p hp => ?_⟩
    rcases Nat.lt_or_ge j xs.length with hj | hj
    · rw [List.getElem?_append_left hj] at hp
      exact hx j p hp
    · rw [List.getElem?_append_right hj] at hp
      have hj' : j - xs.length = 0 := by
        have := (List.getElem?_eq_some_iff.1 hp).1
        simp at this; omega
      rw [hj'] at hp
      have e : p = y := by simpa using hp.symm
      have e2 : j = n := by omega
      rw [e, e2]; exact hy

theorem opens_slice {α : Type} {P : Program} {t e : TypeId} {d : Kd α} {G : α → Prop} (ht : P.underlying t = some (.slice e)) (hc : P.cellsOf e = d.sz) (he : Opens P e d G) :
    Opens P t (Kd.slice e d) (fun xs => xs.length ≤ 9223372036854775807 ∧ ∀ x ∈ xs, G x) := by
  intro H enc w base spare held fuel cs x h
  rcases DataW.trod_slice ht h with ⟨rfl, _⟩ | ⟨a, len, cap, elems, rest, n, _, rfl, _, hb, hl, hm, hlen, hel, _, _⟩
  · exact ⟨[], ⟨none, 0, rfl, Nat.le_refl _, rfl, by simp, fun h => absurd h (by simp)⟩, by simp, fun x hx => by simp at hx⟩
  · have each : ∀ i, i < len → ∃ y : α, G y ∧ ∃ c : List Value, c.length = d.sz ∧ d.K w y c ∧ ∀ j u, c[j]? = some u → w.cell? (a.add (i * d.sz + j)) = some u := by
      intro i hi
      have h1 := hel i hi
      rw [List.getElem?_eq_getElem (by omega)] at h1
      rw [Option.bind_eq_some_iff] at h1
      obtain ⟨c, h2, h3⟩ := h1
      obtain ⟨_, hcl, hcell⟩ := World.cells?_some h2
      obtain ⟨y, hy, hG⟩ := he H enc w base spare held n c _ h3
      refine ⟨y, hG, c, by rw [hcl, hc], hy, fun j u hj => ?_⟩
      have hj' : j < c.length := (List.getElem?_eq_some_iff.1 hj).1
      have := hcell j (by omega)
      rw [Addr.add_add, hc] at this
      rw [this]; exact hj
    obtain ⟨xs, hx, hxs⟩ := listed _ len each
    have hcap : cap ≤ 9223372036854775807 := hm
    refine ⟨xs, ⟨some a, cap, by rw [hx], by omega, rfl, by omega, fun _ => ⟨a, rfl, fun j p hp => (hxs j p hp).2⟩⟩, by omega, fun y hy => ?_⟩
    obtain ⟨i, hi⟩ := List.getElem?_of_mem hy
    exact (hxs i y hi).1

/-- The fields from off on. -/
def OpensFs {α : Type} (P : Program) (fs : List Field) (off : Nat) (d : Kd α) (G : α → Prop) : Prop :=
  ∀ (H : Type) (enc : TypeId × Value → H) (w : World) (base : Nat) (spare : Nat → Bool) (held : Bool) (n : Nat) (cs : List Value) (xs : List (DataW H × List MemPlace)),
    (∀ (i : Nat) (f : Field), fs[i]? = some f → DataW.trod enc P w base spare held n f.type ((cs.drop f.offset).take (P.cellsOf f.type)) = xs[i]?) → xs.length = fs.length → off + d.sz = cs.length →
    ∃ y : α, d.K w y (cs.drop off) ∧ G y

theorem opens_one {α : Type} {P : Program} {f : Field} {off : Nat} {d : Kd α} {G : α → Prop} (he : Opens P f.type d G) (ho : f.offset = off) (hc : P.cellsOf f.type = d.sz) : OpensFs P [f] off d G := by
  intro H enc w base spare held n cs xs h hx hl
  have h0 := h 0 f rfl
  have hx0 : 0 < xs.length := by rw [hx]; simp
  rw [List.getElem?_eq_getElem hx0, ho, hc] at h0
  rw [List.take_of_length_le (by rw [List.length_drop]; omega)] at h0
  exact he H enc w base spare held n _ _ h0

theorem opens_cons {α β : Type} {P : Program} {f : Field} {fs : List Field} {off : Nat} {a : Kd α} {b : Kd β} {Ga : α → Prop} {Gb : β → Prop} (he : Opens P f.type a Ga) (ho : f.offset = off) (hc : P.cellsOf f.type = a.sz) (hr : OpensFs P fs (off + a.sz) b Gb) :
    OpensFs P (f :: fs) off (Kd.pair a b) (fun y => Ga y.1 ∧ Gb y.2) := by
  intro H enc w base spare held n cs xs h hx hl
  have hl' : off + (a.sz + b.sz) = cs.length := hl
  cases xs with
  | nil => simp at hx
  | cons x xs =>
    have h0 := h 0 f rfl
    rw [ho, hc] at h0
    obtain ⟨y, hy, gy⟩ := he H enc w base spare held n _ x (by rw [h0]; rfl)
    obtain ⟨z, hz, gz⟩ := hr H enc w base spare held n cs xs (fun i g hg => by have := h (i + 1) g (by simpa using hg); simpa using this) (by simpa using hx) (by omega)
    refine ⟨(y, z), ⟨(cs.drop off).take a.sz, cs.drop (off + a.sz), ?_, hy, hz⟩, gy, gz⟩
    rw [← List.drop_drop, List.take_append_drop]

theorem opens_struct {α β : Type} {P : Program} {t : TypeId} {fs : Array Field} {d : Kd α} {G : α → Prop} (ht : P.underlying t = some (.struct fs)) (hf : OpensFs P fs.toList 0 d G) (hc : P.cellsOf t = d.sz) (f : β → α) (g : α → β) (hg : ∀ z, f (g z) = z) :
    Opens P t (Kd.iso d f) (fun x => G (f x)) := by
  intro H enc w base spare held fuel cs x h
  obtain ⟨xs, n, _, _, hl, hx, hfs⟩ := DataW.trod_struct ht h
  obtain ⟨y, hy, gy⟩ := hf H enc w base spare held n cs xs (fun i f hi => hfs i f (by simpa using hi)) (by simpa using hx) (by rw [Nat.zero_add, hl, hc])
  refine ⟨g y, ?_, by show G (f (g y)); rw [hg]; exact gy⟩
  show d.K w (f (g y)) cs
  rw [hg]
  simpa using hy

/-- An argument's value, by its reading. -/
theorem opens_value {α : Type} {H : Type} {enc : TypeId × Value → H} {P : Program} {t : TypeId} {d : Kd α} {G : α → Prop} (he : Opens P t d G) {w : World} {base : Nat} {spare : Nat → Bool} {held : Bool} {v : Value} {x : DataW H} {ps : List MemPlace}
    (h : DataW.Trod enc P w base spare held t v x ps) : ∃ y : α, d.K w y v.cells.toList ∧ G y := by
  obtain ⟨fuel, hf⟩ := h
  exact he H enc w base spare held fuel _ _ hf

theorem trod_lt {H : Type} {enc : TypeId × Value → H} {P : Program} {t : TypeId} {w : World} {base : Nat} {spare : Nat → Bool} {held : Bool} {v : Value} {x : DataW H} {ps : List MemPlace}
    (h : DataW.Trod enc P w base spare held t v x ps) : ∀ y ∈ ps, y.block < w.heap.size := by
  obtain ⟨m, hm⟩ := h
  exact DataW.trod_lt m _ _ _ hm

end Go.Proofs.YtdokcckgnamnfaaDoorO
