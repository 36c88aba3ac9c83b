-- Written by a program of this session (myprint) out of Lean's own print of the translation. Lean checks it.
import Derived.Test.YtncpoffbeipooabDoorProg
import Derived.Below
import Derived.Deep.Draws
import Derived.Deep.AppendLies
import Derived.Maps.AppendAt
import Derived.OwnWalk
import Derived.Laws.BytesArg
import Derived.Laws.MakeOwn
import Derived.Laws.OwnMore
import Derived.Deep.OwnRows
import Derived.Tactics
import Derived.Lib.ConvBytes
import Derived.Laws.Slices
import Derived.WalkKit
import Derived.KernelRfl
import Derived.RowKit3
import Derived.Deep.LoopGhost
import Derived.Deep.QuietTactic
import Derived.BigQuiet
import Derived.WideLaws
import Derived.Deep.DeepCutAuto
import Derived.Deep.CutBlock
import Derived.Deep.RegionHeld3
import Derived.Laws.Rows
import Derived.Lib.AppendStr
import Derived.ArgAppend
import Derived.Laws.IdiomCopy
import Derived.OrdersHeld
import Derived.Laws.BitsLemmas
import Derived.RowKit
import Derived.Test.YtncpoffbeipooabDoorShelf
import Derived.Lib.SmallJoins
import Derived.Lib.AppendIntMem
import Derived.Shelf.Strings.Fields
import Derived.Shelf.Strconv.ErrVarAll
import Derived.Lib.Space
import Derived.Test.YtncpoffbeipooabDoorLow
import Derived.Test.YtncpoffbeipooabDoorWWords
import Derived.Test.YtncpoffbeipooabDoorWLast
import Derived.Test.YtncpoffbeipooabDoorWQPut
import Derived.Test.YtncpoffbeipooabDoorWApart
import Derived.Test.YtncpoffbeipooabDoorWArr
import Derived.Test.YtncpoffbeipooabDoorWZeros
import Derived.Test.YtncpoffbeipooabDoorWFoot
import Derived.Test.YtncpoffbeipooabDoorWKept
import Derived.Test.YtncpoffbeipooabDoorWShare
import Derived.Test.YtncpoffbeipooabDoorWN
import Derived.Test.YtncpoffbeipooabDoorWRepsOne
import Derived.Test.YtncpoffbeipooabDoorWNEv
import Derived.Test.YtncpoffbeipooabDoorWMore
namespace Go.Proofs.YtncpoffbeipooabDoor.QFnWordsTold
open Go.RowKit Go.Proofs.YtncpoffbeipooabDoorW.PrintWords Go.Proofs.YtncpoffbeipooabDoorW.PrintLast Go.Proofs.YtncpoffbeipooabDoorW.PrintMore
attribute [local go_sem] max2_int min2_int max_two min_two max_three min_three max_four min_four   -- for this text's walks alone
set_option linter.unusedVariables false
set_option linter.unusedSimpArgs false



def errW : Option Int → Value
  | none => .nilIface
  | some c => .iface 0 (.int .i64 c)
theorem errW_none : errW none = .nilIface := rfl
theorem errW_some (c : Int) : errW (some c) = .iface 0 (.int .i64 c) := rfl

def GInt (w : World) : Prop := (∃ m, w.cell? ⟨2, 0, none⟩ = some (.int .i64 m)) ∧ Lib.TabIs Tryd.prog w "strings.asciiSpace" .u8 Lib.asciiSpaceTab ∧ Lib.TabIs Tryd.prog w "internal/strconv.uint64pow10" .u64 Lib.pow10Tab ∧ (∃ (tp : TypeId) (p : Value), w.var? Tryd.prog "strconv.ErrSyntax" = some #[.iface tp p]) ∧ (∃ (tp : TypeId) (p : Value), w.var? Tryd.prog "strconv.ErrRange" = some #[.iface tp p])
theorem gint_below {w w' : World} (h : Below w.heap.size w w') (hG : GInt w) : GInt w' := by
  obtain ⟨⟨m, hm⟩, t0, t1, ⟨y0, z0, e0⟩, ⟨y1, z1, e1⟩⟩ := hG
  exact ⟨⟨m, pw_cell_below h hm⟩, Go.Joins.tab_stays (show Tryd.prog.globalNamed "strings.asciiSpace" = some 0 by kernel_rfl) t0 h (Nat.le_refl _), Go.Joins.tab_stays (show Tryd.prog.globalNamed "internal/strconv.uint64pow10" = some 7 by kernel_rfl) t1 h (Nat.le_refl _), ⟨y0, z0, Go.Joins.var_stays (show Tryd.prog.globalNamed "strconv.ErrSyntax" = some 3 by kernel_rfl) e0 h (Nat.le_refl _)⟩, ⟨y1, z1, Go.Joins.var_stays (show Tryd.prog.globalNamed "strconv.ErrRange" = some 4 by kernel_rfl) e1 h (Nat.le_refl _)⟩⟩
theorem gint_drewN {w : World} (hG : GInt w) (n : Nat) : GInt (w.drewN n) := gint_below (Drawn0.below ⟨⟨n, rfl⟩⟩) hG
theorem gint_drew {w : World} (hG : GInt w) : GInt w.drew := gint_below (below_drew (Below.refl _ _)) hG

theorem info5 : (Tryd.prog.info? 5).map (fun i => (i.zero, i.size, i.bytes)) = some (some (.int .u8 0), 1, 1) := by kernel_rfl
theorem info9 : (Tryd.prog.info? 9).map (fun i => (i.zero, i.size, i.bytes)) = some (some (.string ⟨#[]⟩), 1, 16) := by kernel_rfl
-- the values' own types
def rd_L2 (xs : List (List Int)) (i : Int) : (List Int) := xs.getD i.toNat ([] : List Int)
theorem at_L2 {w : World} {A : Option Addr} {n : Nat} {xs : List (List Int)} (h : Kd.C (Kd.slice 5 (Kd.int .u8)) w A n xs) (i : Int) (h0 : 0 ≤ i) (h1 : i < n) : ∃ ad A0 c0, A = some ad ∧ w.cell? (ad.add i.toNat) = some (.slice A0 (rd_L2 xs i).length c0) ∧ (rd_L2 xs i).length ≤ c0 ∧ (Kd.int .u8).C w A0 (rd_L2 xs i).length (rd_L2 xs i) := by
  obtain ⟨ad, c, e, _, hK, hc0⟩ := Kd.C_get h ([] : List Int) i h0 h1
  have hc : ∀ j u, c[j]? = some u → w.cell? (ad.add (i.toNat * 1 + j)) = some u := hc0
  obtain ⟨A0, c0, rfl, l0, g0⟩ := hK
  exact ⟨ad, A0, c0, e, by have hq := hc 0 _ rfl; rwa [Nat.mul_one, Nat.add_zero] at hq, l0, g0⟩

end Go.Proofs.YtncpoffbeipooabDoor.QFnWordsTold
