/- Two in line whose rows lie apart: which block is whose is told by an owner. Conditions: as each lemma names them. -/
import Derived.Test.YtmneclmdlbihcaaWWords
import Derived.Test.YtmneclmdlbihcaaWApart
namespace Go.Proofs.YtmneclmdlbihcaaW.PrintWords
open Go.RowKit
namespace Kd
/-- As pair; the blocks of the first are those that f gives to it, the blocks of the second the others. -/
def pairA {α β : Type} (a : Kd α) (b : Kd β) : Kd (α × β) where
  sz := a.sz + b.sz
  E := a.E ++ b.E
  K := (pair a b).K
  M := fun w base ok x cs => ∃ c0 c1, cs = c0 ++ c1 ∧ ∃ f : Nat → Bool, a.M w base (fun k => ok k ∧ f k = true) x.1 c0 ∧ b.M w base (fun k => ok k ∧ f k = false) x.2 c1
  K_len := (pair a b).K_len
  K_one := (pair a b).K_one
  K_below := (pair a b).K_below
  K_of_M := by
    rintro w base ok x cs ⟨c0, c1, rfl, f, h0, h1⟩
    exact ⟨c0, c1, rfl, a.K_of_M h0, b.K_of_M h1⟩
  M_mono := by
    rintro w base ok ok' x cs hok ⟨c0, c1, rfl, f, h0, h1⟩
    exact ⟨c0, c1, rfl, f, a.M_mono (fun k hk => ⟨hok k hk.1, hk.2⟩) h0, b.M_mono (fun k hk => ⟨hok k hk.1, hk.2⟩) h1⟩
  M_bound := by
    rintro w base ok x cs ⟨c0, c1, rfl, f, h0, h1⟩
    refine ⟨c0, c1, rfl, f, a.M_mono ?_ (a.M_bound h0), b.M_mono ?_ (b.M_bound h1)⟩
    · rintro k ⟨h2, h3, h4, q, hq, hc⟩
      exact ⟨⟨h2.1, h3, h4, q, List.mem_append_left _ hq, hc⟩, h2.2⟩
    · rintro k ⟨h2, h3, h4, q, hq, hc⟩
      exact ⟨⟨h2.1, h3, h4, q, List.mem_append_right _ hq, hc⟩, h2.2⟩
  M_move := by
    rintro w w1 base ok x cs hm ⟨c0, c1, rfl, f, h0, h1⟩
    exact ⟨c0, c1, rfl, f, a.M_move (fun k hk => hm k hk.1) h0, b.M_move (fun k hk => hm k hk.1) h1⟩
  M_lower := by
    rintro w base base' ok x cs hb ⟨c0, c1, rfl, f, h0, h1⟩
    exact ⟨c0, c1, rfl, f, a.M_lower hb h0, b.M_lower hb h1⟩
/-- Two rows that lie apart, put in line. -/
theorem apart_mk {α β : Type} {a : Kd α} {b : Kd β} {e e' : Nat} {w : World} {base : Nat} {ok : Nat → Prop} {u v : Value} {xs : List α} {ys : List β} (ha : a.E = []) (hb : b.E = []) (h0 : a.R e w base ok u xs) (h1 : b.R e' w base ok v ys) (hap : ∀ k, u.ownBlock = some k → v.ownBlock ≠ some k) :
    (pairA (slice e a) (slice e' b)).M w base ok (xs, ys) [u, v] := by
  classical
  exact ⟨[u], [v], rfl, fun k => decide (u.ownBlock = some k), ⟨u, rfl, R_mono (R_tight ha h0) (fun k hk => ⟨h0.1 k hk.symm, decide_eq_true hk.symm⟩)⟩, ⟨v, rfl, R_mono (R_tight hb h1) (fun k hk => ⟨h1.1 k hk.symm, decide_eq_false (fun h2 => hap k h2 hk.symm)⟩)⟩⟩
theorem two_typed {W : World} {k e e' : Nat} (h : ∃ cells, W.heap[k]? = some (.cells cells e (0, 0))) (h' : ∃ cells, W.heap[k]? = some (.cells cells e' (0, 0))) (hne : e ≠ e') : False := by
  obtain ⟨c, h⟩ := h
  obtain ⟨c', h'⟩ := h'
  rw [h] at h'
  injection h' with h'
  injection h' with _ h' _
  exact hne h'
theorem apart_of {α β : Type} {a : Kd α} {b : Kd β} {e e' : Nat} {w : World} {base : Nat} {ok : Nat → Prop} {xs : List α × List β} {cs : List Value} (h : (pairA (slice e a) (slice e' b)).M w base ok xs cs) :
    ∃ u v, cs = [u, v] ∧ a.R e w base ok u xs.1 ∧ b.R e' w base ok v xs.2 ∧ ∀ k, u.ownBlock = some k → v.ownBlock ≠ some k := by
  obtain ⟨c0, c1, rfl, f, ⟨u, rfl, h0⟩, ⟨v, rfl, h1⟩⟩ := h
  refine ⟨u, v, rfl, R_mono h0 (fun _ hk => hk.1), R_mono h1 (fun _ hk => hk.1), fun k hu hv => ?_⟩
  have e0 := (h0.1 k hu).2
  have e1 := (h1.1 k hv).2
  rw [e0] at e1
  cases e1
end Kd
end Go.Proofs.YtmneclmdlbihcaaW.PrintWords
