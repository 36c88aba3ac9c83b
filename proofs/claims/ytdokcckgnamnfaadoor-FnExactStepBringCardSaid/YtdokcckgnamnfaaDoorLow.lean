/- '[]byte(s)', each upper letter made lower in place, 'string(b)': what lies in memory on the way. Conditions: as each lemma names them. -/
import Derived.Test.YtdokcckgnamnfaaDoorWWords
import Derived.Test.YtdokcckgnamnfaaDoorWLast
import Derived.Laws.IdiomStrings
import Derived.Below
namespace Go.Proofs.YtdokcckgnamnfaaDoorL
open Go.RowKit Go.Proofs.YtdokcckgnamnfaaDoorW.PrintWords Go.Proofs.YtdokcckgnamnfaaDoorW.PrintLast
set_option linter.unusedVariables false
def lowB (c : UInt8) : UInt8 := if 65 ≤ c.toNat ∧ c.toNat ≤ 90 then UInt8.ofNat (c.toNat + 32) else c
/-- A row of bytes that lies at block g, the first k of them lowered. -/
def LowInv (s : ByteArray) (w wr : World) (k : Nat) : Prop := Below w.heap.size w wr ∧ (∀ j (h : j < s.data.size), wr.cell? ⟨w.heap.size, j, none⟩ = some (.int .u8 ((if j < k then lowB s.data[j] else s.data[j]).toNat : Int))) ∧ ∀ j, j < s.data.size → wr.frozen? ⟨w.heap.size, j, none⟩ = false
theorem low_start {P : Program} (w : World) (src dst e : TypeId) (s : ByteArray) (hs : P.underlying src = some .string) (hd : P.underlying dst = some (.slice e)) (he : P.underlying e = some (.int .u8)) :
    ∃ (cap : Nat) (W0 : World), (convert src dst (.string s)).run P w = .ok (.slice (some ⟨w.heap.size, 0, none⟩) s.size cap) W0 ∧ LowInv s w W0 0 := by
  refine ⟨_, _, run_bytes_of_string w src dst e s hs hd he, below_alloc (Below.drew (Below.refl _ _)) _, fun j h => ?_, fun j h => ?_⟩
  · have := World.cell?_alloc_mark w.drew (bytesRow s (grownCap w s.size 0 e)) e ((bytesRow s (grownCap w s.size 0 e)).size, (bytesRow s (grownCap w s.size 0 e)).size + 1) j
    rw [if_neg (by omega), ← bytesRow_at s (grownCap w s.size 0 e) j h]
    exact this
  · have := World.frozen?_alloc_mark w.drew (bytesRow s (grownCap w s.size 0 e)) e (bytesRow s (grownCap w s.size 0 e)).size ((bytesRow s (grownCap w s.size 0 e)).size + 1) j
    have hj : j < (bytesRow s (grownCap w s.size 0 e)).size := by
      unfold bytesRow
      rw [Array.size_append, Array.size_map]
      omega
    have e0 : (decide ((bytesRow s (grownCap w s.size 0 e)).size ≤ j) && decide (j < (bytesRow s (grownCap w s.size 0 e)).size + 1)) = false := by rw [decide_eq_false (by omega)]; rfl
    exact this.trans e0
theorem LowInv.keep {s : ByteArray} {w wr : World} {k : Nat} (h : LowInv s w wr k) (hk : k < s.data.size) (hl : lowB s.data[k] = s.data[k]) : LowInv s w wr (k + 1) := by
  refine ⟨h.1, fun j hj => ?_, h.2.2⟩
  rw [h.2.1 j hj]
  by_cases e : j = k
  · subst e; rw [if_neg (by omega), if_pos (by omega), hl]
  · by_cases c : j < k
    · rw [if_pos c, if_pos (by omega)]
    · rw [if_neg c, if_neg (by omega)]
theorem LowInv.put {s : ByteArray} {w wr : World} {k : Nat} (h : LowInv s w wr k) (hk : k < s.data.size) (v : Value) (hv : v = .int .u8 ((lowB s.data[k]).toNat : Int)) : LowInv s w (wr.setCell ⟨w.heap.size, k, none⟩ v) (k + 1) := by
  refine ⟨h.1.setCell (Nat.le_refl _) _, fun j hj => ?_, fun j hj => by rw [World.frozen?_setCell]; exact h.2.2 j hj⟩
  by_cases e : j = k
  · subst e
    rw [World.cell?_setCell_same _ _ _ (h.2.1 j hj), hv, if_pos (by omega)]
  · rw [World.cell?_setCell_other _ _ _ _ (fun q => e (by injection q with _ q _; exact q.symm)), h.2.1 j hj]
    by_cases c : j < k
    · rw [if_pos c, if_pos (by omega)]
    · rw [if_neg c, if_neg (by omega)]
theorem add_zero_at (b j : Nat) : (⟨b, 0, none⟩ : Addr).add j = ⟨b, j, none⟩ := by
  unfold Addr.add
  split
  · rename_i h; subst h; rfl
  · rw [Nat.zero_add]
theorem LowInv.back {P : Program} {s : ByteArray} {w wr : World} (h : LowInv s w wr s.data.size) (src dst e : TypeId) (cap : Nat) (hs : P.underlying src = some (.slice e)) (he : P.underlying e = some (.int .u8)) (hd : P.underlying dst = some .string) :
    (convert src dst (.slice (some ⟨w.heap.size, 0, none⟩) s.size cap)).run P wr = .ok (.string ⟨(s.data.toList.map lowB).toArray⟩) wr := by
  have hl : s.size = (s.data.toList.map lowB).length := by rw [List.length_map, Array.length_toList]; rfl
  rw [hl]
  refine run_convert_bytes_back wr src dst e _ cap (s.data.toList.map lowB) hs he hd fun j hj => ?_
  have hj' : j < s.data.size := by simpa using hj
  have := h.2.1 j hj'
  rw [if_pos hj'] at this
  rw [add_zero_at, this]
  simp
theorem low_n {c : UInt8} (h : 65 ≤ c.toNat ∧ c.toNat ≤ 90) : ((lowB c).toNat : Int) = (c.toNat : Int) + 32 := by
  unfold lowB; rw [if_pos h]; simp; omega
/-- A text, each upper letter made lower. -/
def lowered (s : ByteArray) : ByteArray := ⟨(s.data.toList.map lowB).toArray⟩
end Go.Proofs.YtdokcckgnamnfaaDoorL
