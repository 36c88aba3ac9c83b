/-
  No cell of these rows narrows 'for every input' (looked for: loops, veiled, ifaces, maps, wideKeys, modest, calm, conditions, laid).
  DERIVED. THE GIVEN ROWS OF THIS SEAT. 6 by the template 'for every input the law returns true; each argument reads behind the call as it read before'; 0 by the template 'total and deterministic' (their statements: YteblgnkfdkoapabTotals.lean).
  GIVEN WITH THE SEED: the statements are not yours to turn. If you find one false, say at which input.
  Laid BY PROGRAM, IN A SANDBOX (cutbox-rows.mjs): the forced cells as the released guide's own fill.sh prints them over the translation f3f071d5a716b909… (all of the seat's roots in one cut). By AI agents, Wed Nov 11 2026. No macro, syntax, notation, axiom, sorry.
-/
import Derived.Test.YteblgnkfdkoapabChecked
import GoSem.Claim
import GoSem.ClaimJoined
import GoSem.ClaimMapViews
import Derived.JoinedTies
import Derived.KernelRfl
namespace Go.Proofs.Yteblgnkfdkoapab
/- THE CELL 'sum', in the pinned program and in every row, IS THE sha256 OF THE DUMP (.gsa) THAT YteblgnkfdkoapabProg.lean LOADS. Nothing in Lean hashes anything: it is a label: what it is worth is what the hold of that sum in a sandbox is worth. -/
noncomputable def Try.pinned : Pinned := { name := "yteblgnkfdkoapab", sum := "f3f071d5a716b90913779fefdb79a589aab1e4ba77fedc45a9ff60e0238e2e57", checked := Try.checked }
namespace Rows
def none {H : Type} : Left H := { results := [], args := [] }

/-- 'laws.FnExactBoxesOf': WHATEVER THE INPUT: true; the input reads as it did. -/
def fnExactBoxesOfSpec : ChangeSpec := { name := "fnExactBoxesOf", fn := fun _ => fun
  | [d1, d2] => { results := [.lit (.bool true)], args := [d1, d2] }
  | _ => none }
def fnExactBoxesOfRow : OpenClaim := { program := "yteblgnkfdkoapab", sum := "f3f071d5a716b90913779fefdb79a589aab1e4ba77fedc45a9ff60e0238e2e57", func := "loop.example/g00287/laws.FnExactBoxesOf", spec := "fnExactBoxesOf", apart := false }
def FnExactBoxesOfSaid : Prop := fnExactBoxesOfRow.holds Try.pinned (OpenSpec.ofChange fnExactBoxesOfSpec)

/-- ITS FALSE NEIGHBOUR: 'it returns false'. Refute it at one input. -/
def fnExactBoxesOfWrong : ChangeSpec := { name := "fnExactBoxesOf", fn := fun _ => fun
  | [d1, d2] => { results := [.lit (.bool false)], args := [d1, d2] }
  | _ => none }
def FnExactBoxesOfWrongFalsely : Prop := fnExactBoxesOfRow.holds Try.pinned (OpenSpec.ofChange fnExactBoxesOfWrong)

/-- 'laws.FnExactBoxOf': WHATEVER THE INPUT: true; the input reads as it did. -/
def fnExactBoxOfSpec : ChangeSpec := { name := "fnExactBoxOf", fn := fun _ => fun
  | [d1, d2, d3] => { results := [.lit (.bool true)], args := [d1, d2, d3] }
  | _ => none }
def fnExactBoxOfRow : OpenClaim := { program := "yteblgnkfdkoapab", sum := "f3f071d5a716b90913779fefdb79a589aab1e4ba77fedc45a9ff60e0238e2e57", func := "loop.example/g00287/laws.FnExactBoxOf", spec := "fnExactBoxOf", apart := false }
def FnExactBoxOfSaid : Prop := fnExactBoxOfRow.holds Try.pinned (OpenSpec.ofChange fnExactBoxOfSpec)

/-- ITS FALSE NEIGHBOUR: 'it returns false'. Refute it at one input. -/
def fnExactBoxOfWrong : ChangeSpec := { name := "fnExactBoxOf", fn := fun _ => fun
  | [d1, d2, d3] => { results := [.lit (.bool false)], args := [d1, d2, d3] }
  | _ => none }
def FnExactBoxOfWrongFalsely : Prop := fnExactBoxOfRow.holds Try.pinned (OpenSpec.ofChange fnExactBoxOfWrong)

/-- 'laws.FnExactSessionNew': WHATEVER THE INPUT: true; the input reads as it did. -/
def fnExactSessionNewSpec : ChangeSpec := { name := "fnExactSessionNew", fn := fun _ => fun
  | [d] => { results := [.lit (.bool true)], args := [d] }
  | _ => none }
def fnExactSessionNewRow : OpenClaim := { program := "yteblgnkfdkoapab", sum := "f3f071d5a716b90913779fefdb79a589aab1e4ba77fedc45a9ff60e0238e2e57", func := "loop.example/g00287/laws.FnExactSessionNew", spec := "fnExactSessionNew", apart := false }
def FnExactSessionNewSaid : Prop := fnExactSessionNewRow.holds Try.pinned (OpenSpec.ofChange fnExactSessionNewSpec)

/-- ITS FALSE NEIGHBOUR: 'it returns false'. Refute it at one input. -/
def fnExactSessionNewWrong : ChangeSpec := { name := "fnExactSessionNew", fn := fun _ => fun
  | [d] => { results := [.lit (.bool false)], args := [d] }
  | _ => none }
def FnExactSessionNewWrongFalsely : Prop := fnExactSessionNewRow.holds Try.pinned (OpenSpec.ofChange fnExactSessionNewWrong)

/-- 'laws.FnExactFitting': WHATEVER THE INPUT: true; the input reads as it did. -/
def fnExactFittingSpec : ChangeSpec := { name := "fnExactFitting", fn := fun _ => fun
  | [d1, d2, d3] => { results := [.lit (.bool true)], args := [d1, d2, d3] }
  | _ => none }
def fnExactFittingRow : OpenClaim := { program := "yteblgnkfdkoapab", sum := "f3f071d5a716b90913779fefdb79a589aab1e4ba77fedc45a9ff60e0238e2e57", func := "loop.example/g00287/laws.FnExactFitting", spec := "fnExactFitting", unfollowed := true, recurses := true, apart := false }
def FnExactFittingSaid : Prop := fnExactFittingRow.holds Try.pinned (OpenSpec.ofChange fnExactFittingSpec)

/-- ITS FALSE NEIGHBOUR: 'it returns false'. Refute it at one input. -/
def fnExactFittingWrong : ChangeSpec := { name := "fnExactFitting", fn := fun _ => fun
  | [d1, d2, d3] => { results := [.lit (.bool false)], args := [d1, d2, d3] }
  | _ => none }
def FnExactFittingWrongFalsely : Prop := fnExactFittingRow.holds Try.pinned (OpenSpec.ofChange fnExactFittingWrong)

/-- 'laws.FnExactLockedBy': WHATEVER THE INPUT: true; the input reads as it did. -/
def fnExactLockedBySpec : ChangeSpec := { name := "fnExactLockedBy", fn := fun _ => fun
  | [d1, d2] => { results := [.lit (.bool true)], args := [d1, d2] }
  | _ => none }
def fnExactLockedByRow : OpenClaim := { program := "yteblgnkfdkoapab", sum := "f3f071d5a716b90913779fefdb79a589aab1e4ba77fedc45a9ff60e0238e2e57", func := "loop.example/g00287/laws.FnExactLockedBy", spec := "fnExactLockedBy", apart := false }
def FnExactLockedBySaid : Prop := fnExactLockedByRow.holds Try.pinned (OpenSpec.ofChange fnExactLockedBySpec)

/-- ITS FALSE NEIGHBOUR: 'it returns false'. Refute it at one input. -/
def fnExactLockedByWrong : ChangeSpec := { name := "fnExactLockedBy", fn := fun _ => fun
  | [d1, d2] => { results := [.lit (.bool false)], args := [d1, d2] }
  | _ => none }
def FnExactLockedByWrongFalsely : Prop := fnExactLockedByRow.holds Try.pinned (OpenSpec.ofChange fnExactLockedByWrong)

/-- 'laws.FnExactSaying': WHATEVER THE INPUT: true; the input reads as it did. -/
def fnExactSayingSpec : ChangeSpec := { name := "fnExactSaying", fn := fun _ => fun
  | [d1, d2] => { results := [.lit (.bool true)], args := [d1, d2] }
  | _ => none }
def fnExactSayingRow : OpenClaim := { program := "yteblgnkfdkoapab", sum := "f3f071d5a716b90913779fefdb79a589aab1e4ba77fedc45a9ff60e0238e2e57", func := "loop.example/g00287/laws.FnExactSaying", spec := "fnExactSaying", apart := false }
def FnExactSayingSaid : Prop := fnExactSayingRow.holds Try.pinned (OpenSpec.ofChange fnExactSayingSpec)

/-- ITS FALSE NEIGHBOUR: 'it returns false'. Refute it at one input. -/
def fnExactSayingWrong : ChangeSpec := { name := "fnExactSaying", fn := fun _ => fun
  | [d1, d2] => { results := [.lit (.bool false)], args := [d1, d2] }
  | _ => none }
def FnExactSayingWrongFalsely : Prop := fnExactSayingRow.holds Try.pinned (OpenSpec.ofChange fnExactSayingWrong)

/- THE SECOND FORM. 'bulk': how many values and letters a reading holds, each counted each time it is reached (what is shared counts as often as it is met; a slice's spare places count too). A statement '..UptoSaid' is the law's where the arguments, and the package variables that the reading takes, are together of bulk at most 1048576: NARROWER than '..Said'. Prove '..Said' where nothing that the law and all that it calls make is longer than what came in: it says more and counts as full. Else prove '..UptoSaid'. A law counts once. -/
mutual
def uptoBulk {H : Type} : DataW H → Nat
  | .lit (.string bytes) => bytes.length + 1
  | .lit _ => 1
  | .nil => 1
  | .ptr d => uptoBulk d + 1
  | .slice elems spare => uptoBulkAll elems + uptoBulkAll spare + 1
  | .agg parts => uptoBulkAll parts + 1
  | .iface _ d => uptoBulk d + 1
  | .map entries => uptoBulkEntries entries + 1
  | .held _ => 1
def uptoBulkAll {H : Type} : List (DataW H) → Nat
  | [] => 0
  | d :: r => uptoBulk d + uptoBulkAll r
def uptoBulkEntries {H : Type} : List (Lit × DataW H) → Nat
  | [] => 0
  | x :: r => uptoBulkEntry x + uptoBulkEntries r
def uptoBulkEntry {H : Type} : Lit × DataW H → Nat
  | (.string bytes, d) => bytes.length + uptoBulk d + 1
  | (_, d) => uptoBulk d + 1
 end
def uptoSmall : (H : Type) → List (DataW H) → Bool := fun _ ds => decide (uptoBulkAll ds ≤ 1048576)
def OpenSpec.upto (s : _root_.Go.ChangeSpec) : _root_.Go.OpenSpec := { _root_.Go.OpenSpec.ofChange s with cond := some uptoSmall }

/-- 'laws.FnExactBoxesOf', WHERE WHAT IT READS IS OF BULK AT MOST 1048576: true; the input reads as it did. -/
def fnExactBoxesOfUptoRow : OpenClaim := { program := "yteblgnkfdkoapab", sum := "f3f071d5a716b90913779fefdb79a589aab1e4ba77fedc45a9ff60e0238e2e57", func := "loop.example/g00287/laws.FnExactBoxesOf", spec := "fnExactBoxesOf", apart := false, narrowed := true }
def FnExactBoxesOfUptoSaid : Prop := fnExactBoxesOfUptoRow.holds Try.pinned (OpenSpec.upto fnExactBoxesOfSpec)

/-- 'laws.FnExactBoxOf', WHERE WHAT IT READS IS OF BULK AT MOST 1048576: true; the input reads as it did. -/
def fnExactBoxOfUptoRow : OpenClaim := { program := "yteblgnkfdkoapab", sum := "f3f071d5a716b90913779fefdb79a589aab1e4ba77fedc45a9ff60e0238e2e57", func := "loop.example/g00287/laws.FnExactBoxOf", spec := "fnExactBoxOf", apart := false, narrowed := true }
def FnExactBoxOfUptoSaid : Prop := fnExactBoxOfUptoRow.holds Try.pinned (OpenSpec.upto fnExactBoxOfSpec)

/-- 'laws.FnExactSessionNew', WHERE WHAT IT READS IS OF BULK AT MOST 1048576: true; the input reads as it did. -/
def fnExactSessionNewUptoRow : OpenClaim := { program := "yteblgnkfdkoapab", sum := "f3f071d5a716b90913779fefdb79a589aab1e4ba77fedc45a9ff60e0238e2e57", func := "loop.example/g00287/laws.FnExactSessionNew", spec := "fnExactSessionNew", apart := false, narrowed := true }
def FnExactSessionNewUptoSaid : Prop := fnExactSessionNewUptoRow.holds Try.pinned (OpenSpec.upto fnExactSessionNewSpec)

/-- 'laws.FnExactFitting', WHERE WHAT IT READS IS OF BULK AT MOST 1048576: true; the input reads as it did. -/
def fnExactFittingUptoRow : OpenClaim := { program := "yteblgnkfdkoapab", sum := "f3f071d5a716b90913779fefdb79a589aab1e4ba77fedc45a9ff60e0238e2e57", func := "loop.example/g00287/laws.FnExactFitting", spec := "fnExactFitting", unfollowed := true, recurses := true, apart := false, narrowed := true }
def FnExactFittingUptoSaid : Prop := fnExactFittingUptoRow.holds Try.pinned (OpenSpec.upto fnExactFittingSpec)

/-- 'laws.FnExactLockedBy', WHERE WHAT IT READS IS OF BULK AT MOST 1048576: true; the input reads as it did. -/
def fnExactLockedByUptoRow : OpenClaim := { program := "yteblgnkfdkoapab", sum := "f3f071d5a716b90913779fefdb79a589aab1e4ba77fedc45a9ff60e0238e2e57", func := "loop.example/g00287/laws.FnExactLockedBy", spec := "fnExactLockedBy", apart := false, narrowed := true }
def FnExactLockedByUptoSaid : Prop := fnExactLockedByUptoRow.holds Try.pinned (OpenSpec.upto fnExactLockedBySpec)

/-- 'laws.FnExactSaying', WHERE WHAT IT READS IS OF BULK AT MOST 1048576: true; the input reads as it did. -/
def fnExactSayingUptoRow : OpenClaim := { program := "yteblgnkfdkoapab", sum := "f3f071d5a716b90913779fefdb79a589aab1e4ba77fedc45a9ff60e0238e2e57", func := "loop.example/g00287/laws.FnExactSaying", spec := "fnExactSaying", apart := false, narrowed := true }
def FnExactSayingUptoSaid : Prop := fnExactSayingUptoRow.holds Try.pinned (OpenSpec.upto fnExactSayingSpec)

end Rows
end Go.Proofs.Yteblgnkfdkoapab
