/-
  DERIVED: THE SHELF's CONTRACTS AT THIS DUMP, IN PLAIN WORDS (tools/lay-plain.mjs out of 'TrydShelf.lean', which tools/lay-shelf.mjs wrote): THE SAME DECLARATIONS UNDER THE SAME NAMES: 'import', 'namespace', 'open', 'def', 'theorem' AND NOTHING ELSE: no command of the shelf's: FOR A HAND-IN. Each laying: the table of numbers ('.._ren') and one theorem, a field a fact of the dump's own or the kernel's comparison; each contract: ONE APPLICATION.
-/
import Derived.Shelf.Strings.Prefix
import Derived.Shelf.Strings.Fields
import Derived.Shelf.LaysM
import Derived.Shelf.Strings.SplitShaped
import Derived.Shelf.Unicode.Latin
import Derived.Shelf.Unicode.Is16White
import Derived.Shelf.Unicode.IsSpaceAny
import Derived.Shelf.Unicode.Is16WhiteD
import Derived.Shelf.Unicode.IsSpaceAnyD
import Derived.Shelf.Strings.FieldsAny
import Derived.Shelf.Strings.FieldsFuncAny
import Derived.Shelf.Unicode.Is16Any
import Derived.Shelf.Unicode.Is32Any
import Derived.Shelf.Unicode.ExclAny
import Derived.Shelf.Strings.FieldsFuncGrows
import Derived.Shelf.Slices.Turned
import Derived.Ground.Names2Prog
import Derived.Shelf.Slices.Clone
import Derived.Test.YtdokcckgnamnfaaDoorProg
namespace Go.Proofs
open Go.Shelf
def Tryd.lays157_ren : Go.Shelf.Ren := ⟨fun | 157 => 71 | 229 => 78 | 199 => 79 | 261 => 83 | 311 => 84 | 312 => 85 | n => n, fun | 9 => 9 | 31 => 22 | 3 => 3 | 5 => 5 | 4 => 4 | 119 => 105 | 0 => 0 | 40 => 107 | 152 => 111 | 21 => 21 | 154 => 113 | 51 => 114 | 141 => 116 | 196 => 120 | 193 => 117 | 198 => 123 | 49 => 121 | 194 => 118 | 201 => 126 | 226 => 128 | 46 => 129 | 227 => 130 | n => n, fun | 0 => 0 | 6 => 1 | n => n⟩
theorem Tryd.lays157 : Go.Proofs.Lays.n157 Tryd.prog Tryd.lays157_ren := {
  mixed := by kernel_rfl
  f157 := Tryd.func71.trans (congrArg some (by kernel_rfl))
  f199 := Tryd.func79.trans (congrArg some (by kernel_rfl))
  f229 := Tryd.func78.trans (congrArg some (by kernel_rfl))
  f261 := Tryd.func83.trans (congrArg some (by kernel_rfl))
  f311 := Tryd.func84.trans (congrArg some (by kernel_rfl))
  f312 := Tryd.func85.trans (congrArg some (by kernel_rfl))
  t0 := Tryd.underlying0
  a0 := Tryd.isAgg0
  z0 := Tryd.sizeOf0
  v0 := Tryd.zeroValue0
  t3 := Tryd.underlying3
  a3 := Tryd.isAgg3
  z3 := Tryd.sizeOf3
  v3 := Tryd.zeroValue3
  t4 := Tryd.underlying4
  a4 := Tryd.isAgg4
  z4 := Tryd.sizeOf4
  v4 := Tryd.zeroValue4
  t5 := Tryd.underlying5
  a5 := Tryd.isAgg5
  z5 := Tryd.sizeOf5
  v5 := Tryd.zeroValue5
  t9 := Tryd.underlying9
  a9 := Tryd.isAgg9
  z9 := Tryd.sizeOf9
  v9 := Tryd.zeroValue9
  t21 := Tryd.underlying21
  a21 := Tryd.isAgg21
  z21 := Tryd.sizeOf21
  v21 := Tryd.zeroValue21
  t31 := Tryd.underlying22
  a31 := Tryd.isAgg22
  z31 := Tryd.sizeOf22
  v31 := Tryd.zeroValue22
  t40 := Tryd.underlying107
  a40 := Tryd.isAgg107
  z40 := Tryd.sizeOf107
  v40 := Tryd.zeroValue107
  t46 := Tryd.underlying129
  a46 := Tryd.isAgg129
  z46 := Tryd.sizeOf129
  v46 := Tryd.zeroValue129
  t49 := Tryd.underlying121
  a49 := Tryd.isAgg121
  z49 := Tryd.sizeOf121
  v49 := Tryd.zeroValue121
  t51 := Tryd.underlying114
  a51 := Tryd.isAgg114
  z51 := Tryd.sizeOf114
  v51 := Tryd.zeroValue114
  t119 := Tryd.underlying105
  a119 := Tryd.isAgg105
  z119 := Tryd.sizeOf105
  t141 := Tryd.underlying116
  a141 := Tryd.isAgg116
  z141 := Tryd.sizeOf116
  v141 := Tryd.zeroValue116
  t152 := Tryd.underlying111
  a152 := Tryd.isAgg111
  z152 := Tryd.sizeOf111
  v152 := Tryd.zeroValue111
  t154 := Tryd.underlying113
  a154 := Tryd.isAgg113
  z154 := Tryd.sizeOf113
  v154 := Tryd.zeroValue113
  t193 := Tryd.underlying117
  a193 := Tryd.isAgg117
  z193 := Tryd.sizeOf117
  v193 := Tryd.zeroValue117
  t194 := Tryd.underlying118
  a194 := Tryd.isAgg118
  z194 := Tryd.sizeOf118
  v194 := Tryd.zeroValue118
  t196 := Tryd.underlying120
  a196 := Tryd.isAgg120
  z196 := Tryd.sizeOf120
  v196 := Tryd.zeroValue120
  t198 := Tryd.underlying123
  a198 := Tryd.isAgg123
  z198 := Tryd.sizeOf123
  v198 := Tryd.zeroValue123
  t201 := Tryd.underlying126
  a201 := Tryd.isAgg126
  z201 := Tryd.sizeOf126
  v201 := Tryd.zeroValue126
  t226 := Tryd.underlying128
  a226 := Tryd.isAgg128
  z226 := Tryd.sizeOf128
  v226 := Tryd.zeroValue128
  t227 := Tryd.underlying130
  a227 := Tryd.isAgg130
  z227 := Tryd.sizeOf130
  v227 := Tryd.zeroValue130
  g0 := by kernel_rfl
  g6 := by kernel_rfl }
end Go.Proofs
