/-
  No cell of these rows narrows 'for every input' (looked for: loops, veiled, ifaces, maps, wideKeys, modest, calm, conditions, laid).
  DERIVED. THE GIVEN ROWS OF THIS SEAT. 4 by the template 'for every input the law returns true; each argument reads behind the call as it read before'; 0 by the template 'total and deterministic' (their statements: YtcoookgeialmnaaTotals.lean).
  GIVEN WITH THE SEED: the statements are not yours to turn. If you find one false, say at which input.
  Laid BY PROGRAM, IN A SANDBOX (cutbox-rows.mjs): the forced cells as the released guide's own fill.sh prints them over the translation 07ea697ba7c385d9… (all of the seat's roots in one cut). By AI agents, Wed Nov 11 2026. No macro, syntax, notation, axiom, sorry.
-/
import Derived.Test.YtcoookgeialmnaaChecked
import GoSem.Claim
import GoSem.ClaimJoined
import GoSem.ClaimMapViews
import Derived.JoinedTies
import Derived.KernelRfl
namespace Go.Proofs.Ytcoookgeialmnaa
/- THE CELL 'sum', in the pinned program and in every row, IS THE sha256 OF THE DUMP (.gsa) THAT YtcoookgeialmnaaProg.lean LOADS. Nothing in Lean hashes anything: it is a label: what it is worth is what the hold of that sum in a sandbox is worth. -/
noncomputable def Try.pinned : Pinned := { name := "ytcoookgeialmnaa", sum := "07ea697ba7c385d93fa1c067594ee761dc6b9edb7b664a8eb80af3b53e0d913f", checked := Try.checked }
namespace Rows
def none {H : Type} : Left H := { results := [], args := [] }

/-- 'laws.FnExactSparseGradient': WHATEVER THE INPUT: true; the input reads as it did. -/
def fnExactSparseGradientSpec : ChangeSpec := { name := "fnExactSparseGradient", fn := fun _ => fun
  | [d1, d2, d3, d4] => { results := [.lit (.bool true)], args := [d1, d2, d3, d4] }
  | _ => none }
def fnExactSparseGradientRow : OpenClaim := { program := "ytcoookgeialmnaa", sum := "07ea697ba7c385d93fa1c067594ee761dc6b9edb7b664a8eb80af3b53e0d913f", func := "loop.example/g01327/laws.FnExactSparseGradient", spec := "fnExactSparseGradient", inPlace := ["math.sqrt", "math.Float64bits", "math.Float64frombits"], unfollowed := true, recurses := true, apart := false }
def FnExactSparseGradientSaid : Prop := fnExactSparseGradientRow.holds Try.pinned (OpenSpec.ofChange fnExactSparseGradientSpec)

/-- ITS FALSE NEIGHBOUR: 'it returns false'. Refute it at one input. -/
def fnExactSparseGradientWrong : ChangeSpec := { name := "fnExactSparseGradient", fn := fun _ => fun
  | [d1, d2, d3, d4] => { results := [.lit (.bool false)], args := [d1, d2, d3, d4] }
  | _ => none }
def FnExactSparseGradientWrongFalsely : Prop := fnExactSparseGradientRow.holds Try.pinned (OpenSpec.ofChange fnExactSparseGradientWrong)

/-- 'laws.FnExactSparseWith': WHATEVER THE INPUT: true; the input reads as it did. -/
def fnExactSparseWithSpec : ChangeSpec := { name := "fnExactSparseWith", fn := fun _ => fun
  | [d1, d2, d3, d4, d5] => { results := [.lit (.bool true)], args := [d1, d2, d3, d4, d5] }
  | _ => none }
def fnExactSparseWithRow : OpenClaim := { program := "ytcoookgeialmnaa", sum := "07ea697ba7c385d93fa1c067594ee761dc6b9edb7b664a8eb80af3b53e0d913f", func := "loop.example/g01327/laws.FnExactSparseWith", spec := "fnExactSparseWith", inPlace := ["math.sqrt", "math.Float64bits", "math.Float64frombits"], unfollowed := true, recurses := true, apart := false }
def FnExactSparseWithSaid : Prop := fnExactSparseWithRow.holds Try.pinned (OpenSpec.ofChange fnExactSparseWithSpec)

/-- ITS FALSE NEIGHBOUR: 'it returns false'. Refute it at one input. -/
def fnExactSparseWithWrong : ChangeSpec := { name := "fnExactSparseWith", fn := fun _ => fun
  | [d1, d2, d3, d4, d5] => { results := [.lit (.bool false)], args := [d1, d2, d3, d4, d5] }
  | _ => none }
def FnExactSparseWithWrongFalsely : Prop := fnExactSparseWithRow.holds Try.pinned (OpenSpec.ofChange fnExactSparseWithWrong)

/-- 'laws.FnExactSingularOf': WHATEVER THE INPUT: true; the input reads as it did. -/
def fnExactSingularOfSpec : ChangeSpec := { name := "fnExactSingularOf", fn := fun _ => fun
  | [d1, d2] => { results := [.lit (.bool true)], args := [d1, d2] }
  | _ => none }
def fnExactSingularOfRow : OpenClaim := { program := "ytcoookgeialmnaa", sum := "07ea697ba7c385d93fa1c067594ee761dc6b9edb7b664a8eb80af3b53e0d913f", func := "loop.example/g01327/laws.FnExactSingularOf", spec := "fnExactSingularOf", inPlace := ["math.sqrt", "math.Float64bits", "math.Float64frombits"], unfollowed := true, recurses := true, apart := false }
def FnExactSingularOfSaid : Prop := fnExactSingularOfRow.holds Try.pinned (OpenSpec.ofChange fnExactSingularOfSpec)

/-- ITS FALSE NEIGHBOUR: 'it returns false'. Refute it at one input. -/
def fnExactSingularOfWrong : ChangeSpec := { name := "fnExactSingularOf", fn := fun _ => fun
  | [d1, d2] => { results := [.lit (.bool false)], args := [d1, d2] }
  | _ => none }
def FnExactSingularOfWrongFalsely : Prop := fnExactSingularOfRow.holds Try.pinned (OpenSpec.ofChange fnExactSingularOfWrong)

/-- 'laws.FnExactTurnValues': WHATEVER THE INPUT: true; the input reads as it did. -/
def fnExactTurnValuesSpec : ChangeSpec := { name := "fnExactTurnValues", fn := fun _ => fun
  | [d1, d2] => { results := [.lit (.bool true)], args := [d1, d2] }
  | _ => none }
def fnExactTurnValuesRow : OpenClaim := { program := "ytcoookgeialmnaa", sum := "07ea697ba7c385d93fa1c067594ee761dc6b9edb7b664a8eb80af3b53e0d913f", func := "loop.example/g01327/laws.FnExactTurnValues", spec := "fnExactTurnValues", inPlace := ["math.sqrt", "math.Float64bits", "math.Float64frombits"], unfollowed := true, recurses := true, apart := false }
def FnExactTurnValuesSaid : Prop := fnExactTurnValuesRow.holds Try.pinned (OpenSpec.ofChange fnExactTurnValuesSpec)

/-- ITS FALSE NEIGHBOUR: 'it returns false'. Refute it at one input. -/
def fnExactTurnValuesWrong : ChangeSpec := { name := "fnExactTurnValues", fn := fun _ => fun
  | [d1, d2] => { results := [.lit (.bool false)], args := [d1, d2] }
  | _ => none }
def FnExactTurnValuesWrongFalsely : Prop := fnExactTurnValuesRow.holds Try.pinned (OpenSpec.ofChange fnExactTurnValuesWrong)

/- THE SECOND FORM. 'bulk': how many values and letters a reading holds, each counted each time it is reached (what is shared counts as often as it is met; a slice's spare places count too). A statement '..UptoSaid' is the law's where the arguments, and the package variables that the reading takes, are together of bulk at most 1048576: NARROWER than '..Said'. Prove '..Said' where nothing that the law and all that it calls make is longer than what came in: it says more and counts as full. Else prove '..UptoSaid'. A law counts once. -/
mutual
def uptoBulk {H : Type} : DataW H → Nat
  | .lit (.string bytes) => bytes.length + 1
  | .lit _ => 1
  | .nil => 1
  | .ptr d => uptoBulk d + 1
  | .slice elems spare => uptoBulkAll elems + uptoBulkAll spare + 1
  | .agg parts => uptoBulkAll parts + 1
  | .iface _ d => uptoBulk d + 1
  | .map entries => uptoBulkEntries entries + 1
  | .held _ => 1
def uptoBulkAll {H : Type} : List (DataW H) → Nat
  | [] => 0
  | d :: r => uptoBulk d + uptoBulkAll r
def uptoBulkEntries {H : Type} : List (Lit × DataW H) → Nat
  | [] => 0
  | x :: r => uptoBulkEntry x + uptoBulkEntries r
def uptoBulkEntry {H : Type} : Lit × DataW H → Nat
  | (.string bytes, d) => bytes.length + uptoBulk d + 1
  | (_, d) => uptoBulk d + 1
 end
def uptoSmall : (H : Type) → List (DataW H) → Bool := fun _ ds => decide (uptoBulkAll ds ≤ 1048576)
def OpenSpec.upto (s : _root_.Go.ChangeSpec) : _root_.Go.OpenSpec := { _root_.Go.OpenSpec.ofChange s with cond := some uptoSmall }

/-- 'laws.FnExactSparseGradient', WHERE WHAT IT READS IS OF BULK AT MOST 1048576: true; the input reads as it did. -/
def fnExactSparseGradientUptoRow : OpenClaim := { program := "ytcoookgeialmnaa", sum := "07ea697ba7c385d93fa1c067594ee761dc6b9edb7b664a8eb80af3b53e0d913f", func := "loop.example/g01327/laws.FnExactSparseGradient", spec := "fnExactSparseGradient", inPlace := ["math.sqrt", "math.Float64bits", "math.Float64frombits"], unfollowed := true, recurses := true, apart := false, narrowed := true }
def FnExactSparseGradientUptoSaid : Prop := fnExactSparseGradientUptoRow.holds Try.pinned (OpenSpec.upto fnExactSparseGradientSpec)

/-- 'laws.FnExactSparseWith', WHERE WHAT IT READS IS OF BULK AT MOST 1048576: true; the input reads as it did. -/
def fnExactSparseWithUptoRow : OpenClaim := { program := "ytcoookgeialmnaa", sum := "07ea697ba7c385d93fa1c067594ee761dc6b9edb7b664a8eb80af3b53e0d913f", func := "loop.example/g01327/laws.FnExactSparseWith", spec := "fnExactSparseWith", inPlace := ["math.sqrt", "math.Float64bits", "math.Float64frombits"], unfollowed := true, recurses := true, apart := false, narrowed := true }
def FnExactSparseWithUptoSaid : Prop := fnExactSparseWithUptoRow.holds Try.pinned (OpenSpec.upto fnExactSparseWithSpec)

/-- 'laws.FnExactSingularOf', WHERE WHAT IT READS IS OF BULK AT MOST 1048576: true; the input reads as it did. -/
def fnExactSingularOfUptoRow : OpenClaim := { program := "ytcoookgeialmnaa", sum := "07ea697ba7c385d93fa1c067594ee761dc6b9edb7b664a8eb80af3b53e0d913f", func := "loop.example/g01327/laws.FnExactSingularOf", spec := "fnExactSingularOf", inPlace := ["math.sqrt", "math.Float64bits", "math.Float64frombits"], unfollowed := true, recurses := true, apart := false, narrowed := true }
def FnExactSingularOfUptoSaid : Prop := fnExactSingularOfUptoRow.holds Try.pinned (OpenSpec.upto fnExactSingularOfSpec)

/-- 'laws.FnExactTurnValues', WHERE WHAT IT READS IS OF BULK AT MOST 1048576: true; the input reads as it did. -/
def fnExactTurnValuesUptoRow : OpenClaim := { program := "ytcoookgeialmnaa", sum := "07ea697ba7c385d93fa1c067594ee761dc6b9edb7b664a8eb80af3b53e0d913f", func := "loop.example/g01327/laws.FnExactTurnValues", spec := "fnExactTurnValues", inPlace := ["math.sqrt", "math.Float64bits", "math.Float64frombits"], unfollowed := true, recurses := true, apart := false, narrowed := true }
def FnExactTurnValuesUptoSaid : Prop := fnExactTurnValuesUptoRow.holds Try.pinned (OpenSpec.upto fnExactTurnValuesSpec)

end Rows
end Go.Proofs.Ytcoookgeialmnaa
