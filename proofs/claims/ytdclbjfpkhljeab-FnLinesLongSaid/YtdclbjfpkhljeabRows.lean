/-
  No cell of these rows narrows 'for every input' (looked for: loops, veiled, ifaces, maps, wideKeys, modest, calm, conditions, laid).
  DERIVED. THE GIVEN ROWS OF THIS SEAT. 6 by the template 'for every input the law returns true; each argument reads behind the call as it read before'; 0 by the template 'total and deterministic' (their statements: YtdclbjfpkhljeabTotals.lean).
  GIVEN WITH THE SEED: the statements are not yours to turn. If you find one false, say at which input.
  Laid BY PROGRAM, IN A SANDBOX (cutbox-rows.mjs): the forced cells as the released guide's own fill.sh prints them over the translation 987aad3a51c21593… (all of the seat's roots in one cut). By AI agents, Wed Nov 11 2026. No macro, syntax, notation, axiom, sorry.
-/
import Derived.Test.YtdclbjfpkhljeabChecked
import GoSem.Claim
import GoSem.ClaimJoined
import GoSem.ClaimMapViews
import Derived.JoinedTies
import Derived.KernelRfl
namespace Go.Proofs.Ytdclbjfpkhljeab
/- THE CELL 'sum', in the pinned program and in every row, IS THE sha256 OF THE DUMP (.gsa) THAT YtdclbjfpkhljeabProg.lean LOADS. Nothing in Lean hashes anything: it is a label: what it is worth is what the hold of that sum in a sandbox is worth. -/
noncomputable def Try.pinned : Pinned := { name := "ytdclbjfpkhljeab", sum := "987aad3a51c21593cae89f0913b4e970c8b88c5f1feabe5ff266c23f1c42b180", checked := Try.checked }
namespace Rows
def none {H : Type} : Left H := { results := [], args := [] }

/-- 'laws.FnExactFlagWords': WHATEVER THE INPUT: true; the input reads as it did. -/
def fnExactFlagWordsSpec : ChangeSpec := { name := "fnExactFlagWords", fn := fun _ => fun
  | [d] => { results := [.lit (.bool true)], args := [d] }
  | _ => none }
def fnExactFlagWordsRow : OpenClaim := { program := "ytdclbjfpkhljeab", sum := "987aad3a51c21593cae89f0913b4e970c8b88c5f1feabe5ff266c23f1c42b180", func := "loop.example/g00287/laws.FnExactFlagWords", spec := "fnExactFlagWords", inPlace := ["internal/abi.NoEscape", "internal/bytealg.MakeNoZero"], apart := false }
def FnExactFlagWordsSaid : Prop := fnExactFlagWordsRow.holds Try.pinned (OpenSpec.ofChange fnExactFlagWordsSpec)

/-- ITS FALSE NEIGHBOUR: 'it returns false'. Refute it at one input. -/
def fnExactFlagWordsWrong : ChangeSpec := { name := "fnExactFlagWords", fn := fun _ => fun
  | [d] => { results := [.lit (.bool false)], args := [d] }
  | _ => none }
def FnExactFlagWordsWrongFalsely : Prop := fnExactFlagWordsRow.holds Try.pinned (OpenSpec.ofChange fnExactFlagWordsWrong)

/-- 'laws.FnExactLookOk': WHATEVER THE INPUT: true; the input reads as it did. -/
def fnExactLookOkSpec : ChangeSpec := { name := "fnExactLookOk", fn := fun _ => fun
  | [d] => { results := [.lit (.bool true)], args := [d] }
  | _ => none }
def fnExactLookOkRow : OpenClaim := { program := "ytdclbjfpkhljeab", sum := "987aad3a51c21593cae89f0913b4e970c8b88c5f1feabe5ff266c23f1c42b180", func := "loop.example/g00287/laws.FnExactLookOk", spec := "fnExactLookOk", apart := false }
def FnExactLookOkSaid : Prop := fnExactLookOkRow.holds Try.pinned (OpenSpec.ofChange fnExactLookOkSpec)

/-- ITS FALSE NEIGHBOUR: 'it returns false'. Refute it at one input. -/
def fnExactLookOkWrong : ChangeSpec := { name := "fnExactLookOk", fn := fun _ => fun
  | [d] => { results := [.lit (.bool false)], args := [d] }
  | _ => none }
def FnExactLookOkWrongFalsely : Prop := fnExactLookOkRow.holds Try.pinned (OpenSpec.ofChange fnExactLookOkWrong)

/-- 'laws.FnExactSizesOf': WHATEVER THE INPUT: true; the input reads as it did. -/
def fnExactSizesOfSpec : ChangeSpec := { name := "fnExactSizesOf", fn := fun _ => fun
  | [d] => { results := [.lit (.bool true)], args := [d] }
  | _ => none }
def fnExactSizesOfRow : OpenClaim := { program := "ytdclbjfpkhljeab", sum := "987aad3a51c21593cae89f0913b4e970c8b88c5f1feabe5ff266c23f1c42b180", func := "loop.example/g00287/laws.FnExactSizesOf", spec := "fnExactSizesOf", apart := false }
def FnExactSizesOfSaid : Prop := fnExactSizesOfRow.holds Try.pinned (OpenSpec.ofChange fnExactSizesOfSpec)

/-- ITS FALSE NEIGHBOUR: 'it returns false'. Refute it at one input. -/
def fnExactSizesOfWrong : ChangeSpec := { name := "fnExactSizesOf", fn := fun _ => fun
  | [d] => { results := [.lit (.bool false)], args := [d] }
  | _ => none }
def FnExactSizesOfWrongFalsely : Prop := fnExactSizesOfRow.holds Try.pinned (OpenSpec.ofChange fnExactSizesOfWrong)

/-- 'laws.FnExactSafeText': WHATEVER THE INPUT: true; the input reads as it did. -/
def fnExactSafeTextSpec : ChangeSpec := { name := "fnExactSafeText", fn := fun _ => fun
  | [d] => { results := [.lit (.bool true)], args := [d] }
  | _ => none }
def fnExactSafeTextRow : OpenClaim := { program := "ytdclbjfpkhljeab", sum := "987aad3a51c21593cae89f0913b4e970c8b88c5f1feabe5ff266c23f1c42b180", func := "loop.example/g00287/laws.FnExactSafeText", spec := "fnExactSafeText", inPlace := ["internal/bytealg.IndexByteString", "internal/bytealg.IndexString"], named := ["internal/bytealg.MaxLen"], apart := false }
def FnExactSafeTextSaid : Prop := fnExactSafeTextRow.holds Try.pinned (OpenSpec.ofChange fnExactSafeTextSpec)

/-- ITS FALSE NEIGHBOUR: 'it returns false'. Refute it at one input. -/
def fnExactSafeTextWrong : ChangeSpec := { name := "fnExactSafeText", fn := fun _ => fun
  | [d] => { results := [.lit (.bool false)], args := [d] }
  | _ => none }
def FnExactSafeTextWrongFalsely : Prop := fnExactSafeTextRow.holds Try.pinned (OpenSpec.ofChange fnExactSafeTextWrong)

/-- 'laws.FnExactTakeLine': WHATEVER THE INPUT: true; the input reads as it did. -/
def fnExactTakeLineSpec : ChangeSpec := { name := "fnExactTakeLine", fn := fun _ => fun
  | [d] => { results := [.lit (.bool true)], args := [d] }
  | _ => none }
def fnExactTakeLineRow : OpenClaim := { program := "ytdclbjfpkhljeab", sum := "987aad3a51c21593cae89f0913b4e970c8b88c5f1feabe5ff266c23f1c42b180", func := "loop.example/g00287/laws.FnExactTakeLine", spec := "fnExactTakeLine", inPlace := ["internal/bytealg.IndexByteString", "internal/bytealg.IndexString"], named := ["internal/bytealg.MaxLen"], apart := false }
def FnExactTakeLineSaid : Prop := fnExactTakeLineRow.holds Try.pinned (OpenSpec.ofChange fnExactTakeLineSpec)

/-- ITS FALSE NEIGHBOUR: 'it returns false'. Refute it at one input. -/
def fnExactTakeLineWrong : ChangeSpec := { name := "fnExactTakeLine", fn := fun _ => fun
  | [d] => { results := [.lit (.bool false)], args := [d] }
  | _ => none }
def FnExactTakeLineWrongFalsely : Prop := fnExactTakeLineRow.holds Try.pinned (OpenSpec.ofChange fnExactTakeLineWrong)

/-- 'laws.FnLinesLong': WHATEVER THE INPUT: true; the input reads as it did. -/
def fnLinesLongSpec : ChangeSpec := { name := "fnLinesLong", fn := fun _ => fun
  | [d] => { results := [.lit (.bool true)], args := [d] }
  | _ => none }
def fnLinesLongRow : OpenClaim := { program := "ytdclbjfpkhljeab", sum := "987aad3a51c21593cae89f0913b4e970c8b88c5f1feabe5ff266c23f1c42b180", func := "loop.example/g00287/laws.FnLinesLong", spec := "fnLinesLong", inPlace := ["internal/bytealg.IndexByteString", "internal/bytealg.IndexString"], named := ["internal/bytealg.MaxLen"], apart := false }
def FnLinesLongSaid : Prop := fnLinesLongRow.holds Try.pinned (OpenSpec.ofChange fnLinesLongSpec)

/-- ITS FALSE NEIGHBOUR: 'it returns false'. Refute it at one input. -/
def fnLinesLongWrong : ChangeSpec := { name := "fnLinesLong", fn := fun _ => fun
  | [d] => { results := [.lit (.bool false)], args := [d] }
  | _ => none }
def FnLinesLongWrongFalsely : Prop := fnLinesLongRow.holds Try.pinned (OpenSpec.ofChange fnLinesLongWrong)

/- THE SECOND FORM. 'bulk': how many values and letters a reading holds, each counted each time it is reached (what is shared counts as often as it is met; a slice's spare places count too). A statement '..UptoSaid' is the law's where the arguments, and the package variables that the reading takes, are together of bulk at most 1048576: NARROWER than '..Said'. Prove '..Said' where nothing that the law and all that it calls make is longer than what came in: it says more and counts as full. Else prove '..UptoSaid'. A law counts once. -/
mutual
def uptoBulk {H : Type} : DataW H → Nat
  | .lit (.string bytes) => bytes.length + 1
  | .lit _ => 1
  | .nil => 1
  | .ptr d => uptoBulk d + 1
  | .slice elems spare => uptoBulkAll elems + uptoBulkAll spare + 1
  | .agg parts => uptoBulkAll parts + 1
  | .iface _ d => uptoBulk d + 1
  | .map entries => uptoBulkEntries entries + 1
  | .held _ => 1
def uptoBulkAll {H : Type} : List (DataW H) → Nat
  | [] => 0
  | d :: r => uptoBulk d + uptoBulkAll r
def uptoBulkEntries {H : Type} : List (Lit × DataW H) → Nat
  | [] => 0
  | x :: r => uptoBulkEntry x + uptoBulkEntries r
def uptoBulkEntry {H : Type} : Lit × DataW H → Nat
  | (.string bytes, d) => bytes.length + uptoBulk d + 1
  | (_, d) => uptoBulk d + 1
 end
def uptoSmall : (H : Type) → List (DataW H) → Bool := fun _ ds => decide (uptoBulkAll ds ≤ 1048576)
def OpenSpec.upto (s : _root_.Go.ChangeSpec) : _root_.Go.OpenSpec := { _root_.Go.OpenSpec.ofChange s with cond := some uptoSmall }

/-- 'laws.FnExactFlagWords', WHERE WHAT IT READS IS OF BULK AT MOST 1048576: true; the input reads as it did. -/
def fnExactFlagWordsUptoRow : OpenClaim := { program := "ytdclbjfpkhljeab", sum := "987aad3a51c21593cae89f0913b4e970c8b88c5f1feabe5ff266c23f1c42b180", func := "loop.example/g00287/laws.FnExactFlagWords", spec := "fnExactFlagWords", inPlace := ["internal/abi.NoEscape", "internal/bytealg.MakeNoZero"], apart := false, narrowed := true }
def FnExactFlagWordsUptoSaid : Prop := fnExactFlagWordsUptoRow.holds Try.pinned (OpenSpec.upto fnExactFlagWordsSpec)

/-- 'laws.FnExactLookOk', WHERE WHAT IT READS IS OF BULK AT MOST 1048576: true; the input reads as it did. -/
def fnExactLookOkUptoRow : OpenClaim := { program := "ytdclbjfpkhljeab", sum := "987aad3a51c21593cae89f0913b4e970c8b88c5f1feabe5ff266c23f1c42b180", func := "loop.example/g00287/laws.FnExactLookOk", spec := "fnExactLookOk", apart := false, narrowed := true }
def FnExactLookOkUptoSaid : Prop := fnExactLookOkUptoRow.holds Try.pinned (OpenSpec.upto fnExactLookOkSpec)

/-- 'laws.FnExactSizesOf', WHERE WHAT IT READS IS OF BULK AT MOST 1048576: true; the input reads as it did. -/
def fnExactSizesOfUptoRow : OpenClaim := { program := "ytdclbjfpkhljeab", sum := "987aad3a51c21593cae89f0913b4e970c8b88c5f1feabe5ff266c23f1c42b180", func := "loop.example/g00287/laws.FnExactSizesOf", spec := "fnExactSizesOf", apart := false, narrowed := true }
def FnExactSizesOfUptoSaid : Prop := fnExactSizesOfUptoRow.holds Try.pinned (OpenSpec.upto fnExactSizesOfSpec)

/-- 'laws.FnExactSafeText', WHERE WHAT IT READS IS OF BULK AT MOST 1048576: true; the input reads as it did. -/
def fnExactSafeTextUptoRow : OpenClaim := { program := "ytdclbjfpkhljeab", sum := "987aad3a51c21593cae89f0913b4e970c8b88c5f1feabe5ff266c23f1c42b180", func := "loop.example/g00287/laws.FnExactSafeText", spec := "fnExactSafeText", inPlace := ["internal/bytealg.IndexByteString", "internal/bytealg.IndexString"], named := ["internal/bytealg.MaxLen"], apart := false, narrowed := true }
def FnExactSafeTextUptoSaid : Prop := fnExactSafeTextUptoRow.holds Try.pinned (OpenSpec.upto fnExactSafeTextSpec)

/-- 'laws.FnExactTakeLine', WHERE WHAT IT READS IS OF BULK AT MOST 1048576: true; the input reads as it did. -/
def fnExactTakeLineUptoRow : OpenClaim := { program := "ytdclbjfpkhljeab", sum := "987aad3a51c21593cae89f0913b4e970c8b88c5f1feabe5ff266c23f1c42b180", func := "loop.example/g00287/laws.FnExactTakeLine", spec := "fnExactTakeLine", inPlace := ["internal/bytealg.IndexByteString", "internal/bytealg.IndexString"], named := ["internal/bytealg.MaxLen"], apart := false, narrowed := true }
def FnExactTakeLineUptoSaid : Prop := fnExactTakeLineUptoRow.holds Try.pinned (OpenSpec.upto fnExactTakeLineSpec)

/-- 'laws.FnLinesLong', WHERE WHAT IT READS IS OF BULK AT MOST 1048576: true; the input reads as it did. -/
def fnLinesLongUptoRow : OpenClaim := { program := "ytdclbjfpkhljeab", sum := "987aad3a51c21593cae89f0913b4e970c8b88c5f1feabe5ff266c23f1c42b180", func := "loop.example/g00287/laws.FnLinesLong", spec := "fnLinesLong", inPlace := ["internal/bytealg.IndexByteString", "internal/bytealg.IndexString"], named := ["internal/bytealg.MaxLen"], apart := false, narrowed := true }
def FnLinesLongUptoSaid : Prop := fnLinesLongUptoRow.holds Try.pinned (OpenSpec.upto fnLinesLongSpec)

end Rows
end Go.Proofs.Ytdclbjfpkhljeab
