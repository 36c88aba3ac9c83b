/-
  No cell of these rows narrows 'for every input' (looked for: loops, veiled, ifaces, maps, wideKeys, modest, calm, conditions, laid).
  DERIVED. THE GIVEN ROWS OF THIS SEAT. 6 by the template 'for every input the law returns true; each argument reads behind the call as it read before'; 0 by the template 'total and deterministic' (their statements: YtdclbjfpkhljeaaTotals.lean).
  GIVEN WITH THE SEED: the statements are not yours to turn. If you find one false, say at which input.
  Laid BY PROGRAM, IN A SANDBOX (cutbox-rows.mjs): the forced cells as the released guide's own fill.sh prints them over the translation 710811506f1cefcb… (all of the seat's roots in one cut). By AI agents, Wed Nov 11 2026. No macro, syntax, notation, axiom, sorry.
-/
import Derived.Test.YtdclbjfpkhljeaaChecked
import GoSem.Claim
import GoSem.ClaimJoined
import GoSem.ClaimMapViews
import Derived.JoinedTies
import Derived.KernelRfl
namespace Go.Proofs.Ytdclbjfpkhljeaa
/- THE CELL 'sum', in the pinned program and in every row, IS THE sha256 OF THE DUMP (.gsa) THAT YtdclbjfpkhljeaaProg.lean LOADS. Nothing in Lean hashes anything: it is a label: what it is worth is what the hold of that sum in a sandbox is worth. -/
noncomputable def Try.pinned : Pinned := { name := "ytdclbjfpkhljeaa", sum := "710811506f1cefcb02e12d275efc16387cb404d1bb674bb6091d83751b304a3f", checked := Try.checked }
namespace Rows
def none {H : Type} : Left H := { results := [], args := [] }

/-- 'laws.FnExactPassOf': WHATEVER THE INPUT: true; the input reads as it did. -/
def fnExactPassOfSpec : ChangeSpec := { name := "fnExactPassOf", fn := fun _ => fun
  | [d] => { results := [.lit (.bool true)], args := [d] }
  | _ => none }
def fnExactPassOfRow : OpenClaim := { program := "ytdclbjfpkhljeaa", sum := "710811506f1cefcb02e12d275efc16387cb404d1bb674bb6091d83751b304a3f", func := "loop.example/g00287/laws.FnExactPassOf", spec := "fnExactPassOf", apart := false }
def FnExactPassOfSaid : Prop := fnExactPassOfRow.holds Try.pinned (OpenSpec.ofChange fnExactPassOfSpec)

/-- ITS FALSE NEIGHBOUR: 'it returns false'. Refute it at one input. -/
def fnExactPassOfWrong : ChangeSpec := { name := "fnExactPassOf", fn := fun _ => fun
  | [d] => { results := [.lit (.bool false)], args := [d] }
  | _ => none }
def FnExactPassOfWrongFalsely : Prop := fnExactPassOfRow.holds Try.pinned (OpenSpec.ofChange fnExactPassOfWrong)

/-- 'laws.FnExactTraced': WHATEVER THE INPUT: true; the input reads as it did. -/
def fnExactTracedSpec : ChangeSpec := { name := "fnExactTraced", fn := fun _ => fun
  | [d1, d2, d3] => { results := [.lit (.bool true)], args := [d1, d2, d3] }
  | _ => none }
def fnExactTracedRow : OpenClaim := { program := "ytdclbjfpkhljeaa", sum := "710811506f1cefcb02e12d275efc16387cb404d1bb674bb6091d83751b304a3f", func := "loop.example/g00287/laws.FnExactTraced", spec := "fnExactTraced", apart := false }
def FnExactTracedSaid : Prop := fnExactTracedRow.holds Try.pinned (OpenSpec.ofChange fnExactTracedSpec)

/-- ITS FALSE NEIGHBOUR: 'it returns false'. Refute it at one input. -/
def fnExactTracedWrong : ChangeSpec := { name := "fnExactTraced", fn := fun _ => fun
  | [d1, d2, d3] => { results := [.lit (.bool false)], args := [d1, d2, d3] }
  | _ => none }
def FnExactTracedWrongFalsely : Prop := fnExactTracedRow.holds Try.pinned (OpenSpec.ofChange fnExactTracedWrong)

/-- 'laws.FnExactLowWord': WHATEVER THE INPUT: true; the input reads as it did. -/
def fnExactLowWordSpec : ChangeSpec := { name := "fnExactLowWord", fn := fun _ => fun
  | [d] => { results := [.lit (.bool true)], args := [d] }
  | _ => none }
def fnExactLowWordRow : OpenClaim := { program := "ytdclbjfpkhljeaa", sum := "710811506f1cefcb02e12d275efc16387cb404d1bb674bb6091d83751b304a3f", func := "loop.example/g00287/laws.FnExactLowWord", spec := "fnExactLowWord", apart := false }
def FnExactLowWordSaid : Prop := fnExactLowWordRow.holds Try.pinned (OpenSpec.ofChange fnExactLowWordSpec)

/-- ITS FALSE NEIGHBOUR: 'it returns false'. Refute it at one input. -/
def fnExactLowWordWrong : ChangeSpec := { name := "fnExactLowWord", fn := fun _ => fun
  | [d] => { results := [.lit (.bool false)], args := [d] }
  | _ => none }
def FnExactLowWordWrongFalsely : Prop := fnExactLowWordRow.holds Try.pinned (OpenSpec.ofChange fnExactLowWordWrong)

/-- 'laws.FnExactReadFlagWord': WHATEVER THE INPUT: true; the input reads as it did. -/
def fnExactReadFlagWordSpec : ChangeSpec := { name := "fnExactReadFlagWord", fn := fun _ => fun
  | [d] => { results := [.lit (.bool true)], args := [d] }
  | _ => none }
def fnExactReadFlagWordRow : OpenClaim := { program := "ytdclbjfpkhljeaa", sum := "710811506f1cefcb02e12d275efc16387cb404d1bb674bb6091d83751b304a3f", func := "loop.example/g00287/laws.FnExactReadFlagWord", spec := "fnExactReadFlagWord", apart := false }
def FnExactReadFlagWordSaid : Prop := fnExactReadFlagWordRow.holds Try.pinned (OpenSpec.ofChange fnExactReadFlagWordSpec)

/-- ITS FALSE NEIGHBOUR: 'it returns false'. Refute it at one input. -/
def fnExactReadFlagWordWrong : ChangeSpec := { name := "fnExactReadFlagWord", fn := fun _ => fun
  | [d] => { results := [.lit (.bool false)], args := [d] }
  | _ => none }
def FnExactReadFlagWordWrongFalsely : Prop := fnExactReadFlagWordRow.holds Try.pinned (OpenSpec.ofChange fnExactReadFlagWordWrong)

/-- 'laws.FnExactUndotLine': WHATEVER THE INPUT: true; the input reads as it did. -/
def fnExactUndotLineSpec : ChangeSpec := { name := "fnExactUndotLine", fn := fun _ => fun
  | [d] => { results := [.lit (.bool true)], args := [d] }
  | _ => none }
def fnExactUndotLineRow : OpenClaim := { program := "ytdclbjfpkhljeaa", sum := "710811506f1cefcb02e12d275efc16387cb404d1bb674bb6091d83751b304a3f", func := "loop.example/g00287/laws.FnExactUndotLine", spec := "fnExactUndotLine", apart := false }
def FnExactUndotLineSaid : Prop := fnExactUndotLineRow.holds Try.pinned (OpenSpec.ofChange fnExactUndotLineSpec)

/-- ITS FALSE NEIGHBOUR: 'it returns false'. Refute it at one input. -/
def fnExactUndotLineWrong : ChangeSpec := { name := "fnExactUndotLine", fn := fun _ => fun
  | [d] => { results := [.lit (.bool false)], args := [d] }
  | _ => none }
def FnExactUndotLineWrongFalsely : Prop := fnExactUndotLineRow.holds Try.pinned (OpenSpec.ofChange fnExactUndotLineWrong)

/-- 'laws.FnExactTextOf': WHATEVER THE INPUT: true; the input reads as it did. -/
def fnExactTextOfSpec : ChangeSpec := { name := "fnExactTextOf", fn := fun _ => fun
  | [d] => { results := [.lit (.bool true)], args := [d] }
  | _ => none }
def fnExactTextOfRow : OpenClaim := { program := "ytdclbjfpkhljeaa", sum := "710811506f1cefcb02e12d275efc16387cb404d1bb674bb6091d83751b304a3f", func := "loop.example/g00287/laws.FnExactTextOf", spec := "fnExactTextOf", apart := false }
def FnExactTextOfSaid : Prop := fnExactTextOfRow.holds Try.pinned (OpenSpec.ofChange fnExactTextOfSpec)

/-- ITS FALSE NEIGHBOUR: 'it returns false'. Refute it at one input. -/
def fnExactTextOfWrong : ChangeSpec := { name := "fnExactTextOf", fn := fun _ => fun
  | [d] => { results := [.lit (.bool false)], args := [d] }
  | _ => none }
def FnExactTextOfWrongFalsely : Prop := fnExactTextOfRow.holds Try.pinned (OpenSpec.ofChange fnExactTextOfWrong)

/- THE SECOND FORM. 'bulk': how many values and letters a reading holds, each counted each time it is reached (what is shared counts as often as it is met; a slice's spare places count too). A statement '..UptoSaid' is the law's where the arguments, and the package variables that the reading takes, are together of bulk at most 1048576: NARROWER than '..Said'. Prove '..Said' where nothing that the law and all that it calls make is longer than what came in: it says more and counts as full. Else prove '..UptoSaid'. A law counts once. -/
mutual
def uptoBulk {H : Type} : DataW H → Nat
  | .lit (.string bytes) => bytes.length + 1
  | .lit _ => 1
  | .nil => 1
  | .ptr d => uptoBulk d + 1
  | .slice elems spare => uptoBulkAll elems + uptoBulkAll spare + 1
  | .agg parts => uptoBulkAll parts + 1
  | .iface _ d => uptoBulk d + 1
  | .map entries => uptoBulkEntries entries + 1
  | .held _ => 1
def uptoBulkAll {H : Type} : List (DataW H) → Nat
  | [] => 0
  | d :: r => uptoBulk d + uptoBulkAll r
def uptoBulkEntries {H : Type} : List (Lit × DataW H) → Nat
  | [] => 0
  | x :: r => uptoBulkEntry x + uptoBulkEntries r
def uptoBulkEntry {H : Type} : Lit × DataW H → Nat
  | (.string bytes, d) => bytes.length + uptoBulk d + 1
  | (_, d) => uptoBulk d + 1
 end
def uptoSmall : (H : Type) → List (DataW H) → Bool := fun _ ds => decide (uptoBulkAll ds ≤ 1048576)
def OpenSpec.upto (s : _root_.Go.ChangeSpec) : _root_.Go.OpenSpec := { _root_.Go.OpenSpec.ofChange s with cond := some uptoSmall }

/-- 'laws.FnExactPassOf', WHERE WHAT IT READS IS OF BULK AT MOST 1048576: true; the input reads as it did. -/
def fnExactPassOfUptoRow : OpenClaim := { program := "ytdclbjfpkhljeaa", sum := "710811506f1cefcb02e12d275efc16387cb404d1bb674bb6091d83751b304a3f", func := "loop.example/g00287/laws.FnExactPassOf", spec := "fnExactPassOf", apart := false, narrowed := true }
def FnExactPassOfUptoSaid : Prop := fnExactPassOfUptoRow.holds Try.pinned (OpenSpec.upto fnExactPassOfSpec)

/-- 'laws.FnExactTraced', WHERE WHAT IT READS IS OF BULK AT MOST 1048576: true; the input reads as it did. -/
def fnExactTracedUptoRow : OpenClaim := { program := "ytdclbjfpkhljeaa", sum := "710811506f1cefcb02e12d275efc16387cb404d1bb674bb6091d83751b304a3f", func := "loop.example/g00287/laws.FnExactTraced", spec := "fnExactTraced", apart := false, narrowed := true }
def FnExactTracedUptoSaid : Prop := fnExactTracedUptoRow.holds Try.pinned (OpenSpec.upto fnExactTracedSpec)

/-- 'laws.FnExactLowWord', WHERE WHAT IT READS IS OF BULK AT MOST 1048576: true; the input reads as it did. -/
def fnExactLowWordUptoRow : OpenClaim := { program := "ytdclbjfpkhljeaa", sum := "710811506f1cefcb02e12d275efc16387cb404d1bb674bb6091d83751b304a3f", func := "loop.example/g00287/laws.FnExactLowWord", spec := "fnExactLowWord", apart := false, narrowed := true }
def FnExactLowWordUptoSaid : Prop := fnExactLowWordUptoRow.holds Try.pinned (OpenSpec.upto fnExactLowWordSpec)

/-- 'laws.FnExactReadFlagWord', WHERE WHAT IT READS IS OF BULK AT MOST 1048576: true; the input reads as it did. -/
def fnExactReadFlagWordUptoRow : OpenClaim := { program := "ytdclbjfpkhljeaa", sum := "710811506f1cefcb02e12d275efc16387cb404d1bb674bb6091d83751b304a3f", func := "loop.example/g00287/laws.FnExactReadFlagWord", spec := "fnExactReadFlagWord", apart := false, narrowed := true }
def FnExactReadFlagWordUptoSaid : Prop := fnExactReadFlagWordUptoRow.holds Try.pinned (OpenSpec.upto fnExactReadFlagWordSpec)

/-- 'laws.FnExactUndotLine', WHERE WHAT IT READS IS OF BULK AT MOST 1048576: true; the input reads as it did. -/
def fnExactUndotLineUptoRow : OpenClaim := { program := "ytdclbjfpkhljeaa", sum := "710811506f1cefcb02e12d275efc16387cb404d1bb674bb6091d83751b304a3f", func := "loop.example/g00287/laws.FnExactUndotLine", spec := "fnExactUndotLine", apart := false, narrowed := true }
def FnExactUndotLineUptoSaid : Prop := fnExactUndotLineUptoRow.holds Try.pinned (OpenSpec.upto fnExactUndotLineSpec)

/-- 'laws.FnExactTextOf', WHERE WHAT IT READS IS OF BULK AT MOST 1048576: true; the input reads as it did. -/
def fnExactTextOfUptoRow : OpenClaim := { program := "ytdclbjfpkhljeaa", sum := "710811506f1cefcb02e12d275efc16387cb404d1bb674bb6091d83751b304a3f", func := "loop.example/g00287/laws.FnExactTextOf", spec := "fnExactTextOf", apart := false, narrowed := true }
def FnExactTextOfUptoSaid : Prop := fnExactTextOfUptoRow.holds Try.pinned (OpenSpec.upto fnExactTextOfSpec)

end Rows
end Go.Proofs.Ytdclbjfpkhljeaa
