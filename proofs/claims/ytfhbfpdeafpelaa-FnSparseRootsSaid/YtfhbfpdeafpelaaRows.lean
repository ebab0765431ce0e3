/-
  No cell of these rows narrows 'for every input' (looked for: loops, veiled, ifaces, maps, wideKeys, modest, calm, conditions, laid).
  DERIVED. THE GIVEN ROWS OF THIS SEAT. 5 by the template 'for every input the law returns true; each argument reads behind the call as it read before'; 0 by the template 'total and deterministic' (their statements: YtfhbfpdeafpelaaTotals.lean).
  GIVEN WITH THE SEED: the statements are not yours to turn. If you find one false, say at which input.
  Laid BY PROGRAM, IN A SANDBOX (cutbox-rows.mjs): the forced cells as the released guide's own fill.sh prints them over the translation 9ac8f8b4dbe08c26… (all of the seat's roots in one cut). By AI agents, Wed Nov 11 2026. No macro, syntax, notation, axiom, sorry.
-/
import Derived.Test.YtfhbfpdeafpelaaChecked
import GoSem.Claim
import GoSem.ClaimJoined
import GoSem.ClaimMapViews
import Derived.JoinedTies
import Derived.KernelRfl
namespace Go.Proofs.Ytfhbfpdeafpelaa
/- THE CELL 'sum', in the pinned program and in every row, IS THE sha256 OF THE DUMP (.gsa) THAT YtfhbfpdeafpelaaProg.lean LOADS. Nothing in Lean hashes anything: it is a label: what it is worth is what the hold of that sum in a sandbox is worth. -/
noncomputable def Try.pinned : Pinned := { name := "ytfhbfpdeafpelaa", sum := "9ac8f8b4dbe08c26a88906d710af7af672dfee51b70f6aeb6f1ba8f19d50e88c", checked := Try.checked }
namespace Rows
def none {H : Type} : Left H := { results := [], args := [] }

/-- 'laws.FnExactSparseRounds': WHATEVER THE INPUT: true; the input reads as it did. -/
def fnExactSparseRoundsSpec : ChangeSpec := { name := "fnExactSparseRounds", fn := fun _ => fun
  | [d1, d2, d3, d4, d5] => { results := [.lit (.bool true)], args := [d1, d2, d3, d4, d5] }
  | _ => none }
def fnExactSparseRoundsRow : OpenClaim := { program := "ytfhbfpdeafpelaa", sum := "9ac8f8b4dbe08c26a88906d710af7af672dfee51b70f6aeb6f1ba8f19d50e88c", func := "loop.example/g01327/laws.FnExactSparseRounds", spec := "fnExactSparseRounds", inPlace := ["math.sqrt", "math.Float64bits", "math.Float64frombits"], unfollowed := true, recurses := true, plainKeys := false, apart := false }
def FnExactSparseRoundsSaid : Prop := fnExactSparseRoundsRow.holds Try.pinned (OpenSpec.ofChange fnExactSparseRoundsSpec)

/-- ITS FALSE NEIGHBOUR: 'it returns false'. Refute it at one input. -/
def fnExactSparseRoundsWrong : ChangeSpec := { name := "fnExactSparseRounds", fn := fun _ => fun
  | [d1, d2, d3, d4, d5] => { results := [.lit (.bool false)], args := [d1, d2, d3, d4, d5] }
  | _ => none }
def FnExactSparseRoundsWrongFalsely : Prop := fnExactSparseRoundsRow.holds Try.pinned (OpenSpec.ofChange fnExactSparseRoundsWrong)

/-- 'laws.FnSparseForms': WHATEVER THE INPUT: true; the input reads as it did. -/
def fnSparseFormsSpec : ChangeSpec := { name := "fnSparseForms", fn := fun _ => fun
  | [d1, d2] => { results := [.lit (.bool true)], args := [d1, d2] }
  | _ => none }
def fnSparseFormsRow : OpenClaim := { program := "ytfhbfpdeafpelaa", sum := "9ac8f8b4dbe08c26a88906d710af7af672dfee51b70f6aeb6f1ba8f19d50e88c", func := "loop.example/g01327/laws.FnSparseForms", spec := "fnSparseForms", inPlace := ["math.Float64bits", "math.Float64frombits", "math.Float32bits"], unfollowed := true, recurses := true, plainKeys := false, apart := false }
def FnSparseFormsSaid : Prop := fnSparseFormsRow.holds Try.pinned (OpenSpec.ofChange fnSparseFormsSpec)

/-- ITS FALSE NEIGHBOUR: 'it returns false'. Refute it at one input. -/
def fnSparseFormsWrong : ChangeSpec := { name := "fnSparseForms", fn := fun _ => fun
  | [d1, d2] => { results := [.lit (.bool false)], args := [d1, d2] }
  | _ => none }
def FnSparseFormsWrongFalsely : Prop := fnSparseFormsRow.holds Try.pinned (OpenSpec.ofChange fnSparseFormsWrong)

/-- 'laws.FnSparseRoots': WHATEVER THE INPUT: true; the input reads as it did. -/
def fnSparseRootsSpec : ChangeSpec := { name := "fnSparseRoots", fn := fun _ => fun
  | [d1, d2] => { results := [.lit (.bool true)], args := [d1, d2] }
  | _ => none }
def fnSparseRootsRow : OpenClaim := { program := "ytfhbfpdeafpelaa", sum := "9ac8f8b4dbe08c26a88906d710af7af672dfee51b70f6aeb6f1ba8f19d50e88c", func := "loop.example/g01327/laws.FnSparseRoots", spec := "fnSparseRoots", inPlace := ["math.Float64bits", "math.Float64frombits", "math.sqrt"], unfollowed := true, recurses := true, plainKeys := false, apart := false }
def FnSparseRootsSaid : Prop := fnSparseRootsRow.holds Try.pinned (OpenSpec.ofChange fnSparseRootsSpec)

/-- ITS FALSE NEIGHBOUR: 'it returns false'. Refute it at one input. -/
def fnSparseRootsWrong : ChangeSpec := { name := "fnSparseRoots", fn := fun _ => fun
  | [d1, d2] => { results := [.lit (.bool false)], args := [d1, d2] }
  | _ => none }
def FnSparseRootsWrongFalsely : Prop := fnSparseRootsRow.holds Try.pinned (OpenSpec.ofChange fnSparseRootsWrong)

/-- 'laws.FnMirrors': WHATEVER THE INPUT: true; the input reads as it did. -/
def fnMirrorsSpec : ChangeSpec := { name := "fnMirrors", fn := fun _ => fun
  | [d1, d2] => { results := [.lit (.bool true)], args := [d1, d2] }
  | _ => none }
def fnMirrorsRow : OpenClaim := { program := "ytfhbfpdeafpelaa", sum := "9ac8f8b4dbe08c26a88906d710af7af672dfee51b70f6aeb6f1ba8f19d50e88c", func := "loop.example/g01327/laws.FnMirrors", spec := "fnMirrors", inPlace := ["math.Float64bits", "math.Float64frombits", "math.sqrt"], unfollowed := true, recurses := true, plainKeys := false, apart := false }
def FnMirrorsSaid : Prop := fnMirrorsRow.holds Try.pinned (OpenSpec.ofChange fnMirrorsSpec)

/-- ITS FALSE NEIGHBOUR: 'it returns false'. Refute it at one input. -/
def fnMirrorsWrong : ChangeSpec := { name := "fnMirrors", fn := fun _ => fun
  | [d1, d2] => { results := [.lit (.bool false)], args := [d1, d2] }
  | _ => none }
def FnMirrorsWrongFalsely : Prop := fnMirrorsRow.holds Try.pinned (OpenSpec.ofChange fnMirrorsWrong)

/-- 'laws.FnSparseSolves': WHATEVER THE INPUT: true; the input reads as it did. -/
def fnSparseSolvesSpec : ChangeSpec := { name := "fnSparseSolves", fn := fun _ => fun
  | [d1, d2] => { results := [.lit (.bool true)], args := [d1, d2] }
  | _ => none }
def fnSparseSolvesRow : OpenClaim := { program := "ytfhbfpdeafpelaa", sum := "9ac8f8b4dbe08c26a88906d710af7af672dfee51b70f6aeb6f1ba8f19d50e88c", func := "loop.example/g01327/laws.FnSparseSolves", spec := "fnSparseSolves", inPlace := ["math.sqrt", "math.Float64bits", "math.Float64frombits"], unfollowed := true, recurses := true, plainKeys := false, apart := false }
def FnSparseSolvesSaid : Prop := fnSparseSolvesRow.holds Try.pinned (OpenSpec.ofChange fnSparseSolvesSpec)

/-- ITS FALSE NEIGHBOUR: 'it returns false'. Refute it at one input. -/
def fnSparseSolvesWrong : ChangeSpec := { name := "fnSparseSolves", fn := fun _ => fun
  | [d1, d2] => { results := [.lit (.bool false)], args := [d1, d2] }
  | _ => none }
def FnSparseSolvesWrongFalsely : Prop := fnSparseSolvesRow.holds Try.pinned (OpenSpec.ofChange fnSparseSolvesWrong)

/- THE SECOND FORM. 'bulk': how many values and letters a reading holds, each counted each time it is reached (what is shared counts as often as it is met; a slice's spare places count too). A statement '..UptoSaid' is the law's where the arguments, and the package variables that the reading takes, are together of bulk at most 1048576: NARROWER than '..Said'. Prove '..Said' where nothing that the law and all that it calls make is longer than what came in: it says more and counts as full. Else prove '..UptoSaid'. A law counts once. -/
mutual
def uptoBulk {H : Type} : DataW H → Nat
  | .lit (.string bytes) => bytes.length + 1
  | .lit _ => 1
  | .nil => 1
  | .ptr d => uptoBulk d + 1
  | .slice elems spare => uptoBulkAll elems + uptoBulkAll spare + 1
  | .agg parts => uptoBulkAll parts + 1
  | .iface _ d => uptoBulk d + 1
  | .map entries => uptoBulkEntries entries + 1
  | .held _ => 1
def uptoBulkAll {H : Type} : List (DataW H) → Nat
  | [] => 0
  | d :: r => uptoBulk d + uptoBulkAll r
def uptoBulkEntries {H : Type} : List (Lit × DataW H) → Nat
  | [] => 0
  | x :: r => uptoBulkEntry x + uptoBulkEntries r
def uptoBulkEntry {H : Type} : Lit × DataW H → Nat
  | (.string bytes, d) => bytes.length + uptoBulk d + 1
  | (_, d) => uptoBulk d + 1
 end
def uptoSmall : (H : Type) → List (DataW H) → Bool := fun _ ds => decide (uptoBulkAll ds ≤ 1048576)
def OpenSpec.upto (s : _root_.Go.ChangeSpec) : _root_.Go.OpenSpec := { _root_.Go.OpenSpec.ofChange s with cond := some uptoSmall }

/-- 'laws.FnExactSparseRounds', WHERE WHAT IT READS IS OF BULK AT MOST 1048576: true; the input reads as it did. -/
def fnExactSparseRoundsUptoRow : OpenClaim := { program := "ytfhbfpdeafpelaa", sum := "9ac8f8b4dbe08c26a88906d710af7af672dfee51b70f6aeb6f1ba8f19d50e88c", func := "loop.example/g01327/laws.FnExactSparseRounds", spec := "fnExactSparseRounds", inPlace := ["math.sqrt", "math.Float64bits", "math.Float64frombits"], unfollowed := true, recurses := true, plainKeys := false, apart := false, narrowed := true }
def FnExactSparseRoundsUptoSaid : Prop := fnExactSparseRoundsUptoRow.holds Try.pinned (OpenSpec.upto fnExactSparseRoundsSpec)

/-- 'laws.FnSparseForms', WHERE WHAT IT READS IS OF BULK AT MOST 1048576: true; the input reads as it did. -/
def fnSparseFormsUptoRow : OpenClaim := { program := "ytfhbfpdeafpelaa", sum := "9ac8f8b4dbe08c26a88906d710af7af672dfee51b70f6aeb6f1ba8f19d50e88c", func := "loop.example/g01327/laws.FnSparseForms", spec := "fnSparseForms", inPlace := ["math.Float64bits", "math.Float64frombits", "math.Float32bits"], unfollowed := true, recurses := true, plainKeys := false, apart := false, narrowed := true }
def FnSparseFormsUptoSaid : Prop := fnSparseFormsUptoRow.holds Try.pinned (OpenSpec.upto fnSparseFormsSpec)

/-- 'laws.FnSparseRoots', WHERE WHAT IT READS IS OF BULK AT MOST 1048576: true; the input reads as it did. -/
def fnSparseRootsUptoRow : OpenClaim := { program := "ytfhbfpdeafpelaa", sum := "9ac8f8b4dbe08c26a88906d710af7af672dfee51b70f6aeb6f1ba8f19d50e88c", func := "loop.example/g01327/laws.FnSparseRoots", spec := "fnSparseRoots", inPlace := ["math.Float64bits", "math.Float64frombits", "math.sqrt"], unfollowed := true, recurses := true, plainKeys := false, apart := false, narrowed := true }
def FnSparseRootsUptoSaid : Prop := fnSparseRootsUptoRow.holds Try.pinned (OpenSpec.upto fnSparseRootsSpec)

/-- 'laws.FnMirrors', WHERE WHAT IT READS IS OF BULK AT MOST 1048576: true; the input reads as it did. -/
def fnMirrorsUptoRow : OpenClaim := { program := "ytfhbfpdeafpelaa", sum := "9ac8f8b4dbe08c26a88906d710af7af672dfee51b70f6aeb6f1ba8f19d50e88c", func := "loop.example/g01327/laws.FnMirrors", spec := "fnMirrors", inPlace := ["math.Float64bits", "math.Float64frombits", "math.sqrt"], unfollowed := true, recurses := true, plainKeys := false, apart := false, narrowed := true }
def FnMirrorsUptoSaid : Prop := fnMirrorsUptoRow.holds Try.pinned (OpenSpec.upto fnMirrorsSpec)

/-- 'laws.FnSparseSolves', WHERE WHAT IT READS IS OF BULK AT MOST 1048576: true; the input reads as it did. -/
def fnSparseSolvesUptoRow : OpenClaim := { program := "ytfhbfpdeafpelaa", sum := "9ac8f8b4dbe08c26a88906d710af7af672dfee51b70f6aeb6f1ba8f19d50e88c", func := "loop.example/g01327/laws.FnSparseSolves", spec := "fnSparseSolves", inPlace := ["math.sqrt", "math.Float64bits", "math.Float64frombits"], unfollowed := true, recurses := true, plainKeys := false, apart := false, narrowed := true }
def FnSparseSolvesUptoSaid : Prop := fnSparseSolvesUptoRow.holds Try.pinned (OpenSpec.upto fnSparseSolvesSpec)

end Rows
end Go.Proofs.Ytfhbfpdeafpelaa
