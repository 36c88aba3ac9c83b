-- Written by a program of this session (myprint) out of Lean's own print of the translation. Lean checks it.
import Derived.Test.YtncpoffbeipooaaDoorProg
import Derived.Below
import Derived.Deep.Draws
import Derived.Deep.AppendLies
import Derived.Maps.AppendAt
import Derived.OwnWalk
import Derived.Laws.BytesArg
import Derived.Laws.MakeOwn
import Derived.Laws.OwnMore
import Derived.Deep.OwnRows
import Derived.Tactics
import Derived.Lib.ConvBytes
import Derived.Laws.Slices
import Derived.WalkKit
import Derived.KernelRfl
import Derived.RowKit3
import Derived.Deep.LoopGhost
import Derived.Deep.QuietTactic
import Derived.BigQuiet
import Derived.WideLaws
import Derived.Deep.DeepCutAuto
import Derived.Deep.CutBlock
import Derived.Deep.RegionHeld3
import Derived.Laws.Rows
import Derived.Lib.AppendStr
import Derived.ArgAppend
import Derived.Laws.IdiomCopy
import Derived.OrdersHeld
import Derived.Laws.BitsLemmas
import Derived.RowKit
import Derived.Test.YtncpoffbeipooaaDoorShelf
import Derived.Lib.SmallJoins
import Derived.Lib.AppendIntMem
import Derived.Shelf.Strings.Fields
import Derived.Shelf.Strconv.ErrVarAll
import Derived.Lib.Space
import Derived.Test.YtncpoffbeipooaaDoorWWords
import Derived.Test.YtncpoffbeipooaaDoorWLast
import Derived.Test.YtncpoffbeipooaaDoorWQPut
import Derived.Test.YtncpoffbeipooaaDoorWApart
import Derived.Test.YtncpoffbeipooaaDoorWArr
import Derived.Test.YtncpoffbeipooaaDoorWZeros
import Derived.Test.YtncpoffbeipooaaDoorWFoot
import Derived.Test.YtncpoffbeipooaaDoorWKept
import Derived.Test.YtncpoffbeipooaaDoorWShare
import Derived.Test.YtncpoffbeipooaaDoorWN
import Derived.Test.YtncpoffbeipooaaDoorWRepsOne
import Derived.Test.YtncpoffbeipooaaDoorWNEv
import Derived.Test.YtncpoffbeipooaaDoorWMore
namespace Go.Proofs.YtncpoffbeipooaaDoor.QFnExactNumberOf
open Go.RowKit Go.Proofs.YtncpoffbeipooaaDoorW.PrintWords Go.Proofs.YtncpoffbeipooaaDoorW.PrintLast Go.Proofs.YtncpoffbeipooaaDoorW.PrintMore
attribute [local go_sem] max2_int min2_int max_two min_two max_three min_three max_four min_four   -- for this text's walks alone
set_option linter.unusedVariables false
set_option linter.unusedSimpArgs false



def errW : Option Int → Value
  | none => .nilIface
  | some c => .iface 0 (.int .i64 c)
theorem errW_none : errW none = .nilIface := rfl
theorem errW_some (c : Int) : errW (some c) = .iface 0 (.int .i64 c) := rfl

def GInt (w : World) : Prop := (∃ m, w.cell? ⟨2, 0, none⟩ = some (.int .i64 m)) ∧ Lib.TabIs Tryd.prog w "internal/strconv.uint64pow10" .u64 Lib.pow10Tab ∧ (∃ (tp : TypeId) (p : Value), w.var? Tryd.prog "strconv.ErrSyntax" = some #[.iface tp p]) ∧ (∃ (tp : TypeId) (p : Value), w.var? Tryd.prog "strconv.ErrRange" = some #[.iface tp p])
theorem gint_below {w w' : World} (h : Below w.heap.size w w') (hG : GInt w) : GInt w' := by
  obtain ⟨⟨m, hm⟩, t0, ⟨y0, z0, e0⟩, ⟨y1, z1, e1⟩⟩ := hG
  exact ⟨⟨m, pw_cell_below h hm⟩, Go.Joins.tab_stays (show Tryd.prog.globalNamed "internal/strconv.uint64pow10" = some 7 by kernel_rfl) t0 h (Nat.le_refl _), ⟨y0, z0, Go.Joins.var_stays (show Tryd.prog.globalNamed "strconv.ErrSyntax" = some 3 by kernel_rfl) e0 h (Nat.le_refl _)⟩, ⟨y1, z1, Go.Joins.var_stays (show Tryd.prog.globalNamed "strconv.ErrRange" = some 4 by kernel_rfl) e1 h (Nat.le_refl _)⟩⟩
theorem gint_drewN {w : World} (hG : GInt w) (n : Nat) : GInt (w.drewN n) := gint_below (Drawn0.below ⟨⟨n, rfl⟩⟩) hG
theorem gint_drew {w : World} (hG : GInt w) : GInt w.drew := gint_below (below_drew (Below.refl _ _)) hG

theorem info5 : (Tryd.prog.info? 5).map (fun i => (i.zero, i.size, i.bytes)) = some (some (.int .u8 0), 1, 1) := by kernel_rfl
-- the values' own types

end Go.Proofs.YtncpoffbeipooaaDoor.QFnExactNumberOf
