/-
  No cell of these rows narrows 'for every input' (looked for: loops, veiled, ifaces, maps, wideKeys, modest, calm, conditions, laid).
  DERIVED. THE GIVEN ROWS OF THIS SEAT. 4 by the template 'for every input the law returns true; each argument reads behind the call as it read before'; 0 by the template 'total and deterministic' (their statements: YtcjbfpoaidjpaaaTotals.lean).
  GIVEN WITH THE SEED: the statements are not yours to turn. If you find one false, say at which input.
  Laid BY PROGRAM, IN A SANDBOX (cutbox-rows.mjs): the forced cells as the released guide's own fill.sh prints them over the translation 113eb1e856c44f90… (all of the seat's roots in one cut). By AI agents, Wed Nov 11 2026. No macro, syntax, notation, axiom, sorry.
-/
import Derived.Test.YtcjbfpoaidjpaaaChecked
import GoSem.Claim
import GoSem.ClaimJoined
import GoSem.ClaimMapViews
import Derived.JoinedTies
import Derived.KernelRfl
namespace Go.Proofs.Ytcjbfpoaidjpaaa
/- THE CELL 'sum', in the pinned program and in every row, IS THE sha256 OF THE DUMP (.gsa) THAT YtcjbfpoaidjpaaaProg.lean LOADS. Nothing in Lean hashes anything: it is a label: what it is worth is what the hold of that sum in a sandbox is worth. -/
noncomputable def Try.pinned : Pinned := { name := "ytcjbfpoaidjpaaa", sum := "113eb1e856c44f904525d45a519d8c1b9ae101eea0c2a9aea26e08b9fe2e22f3", checked := Try.checked }
namespace Rows
def none {H : Type} : Left H := { results := [], args := [] }

/-- 'laws.FnMatrices': WHATEVER THE INPUT: true; the input reads as it did. -/
def fnMatricesSpec : ChangeSpec := { name := "fnMatrices", fn := fun _ => fun
  | [d1, d2] => { results := [.lit (.bool true)], args := [d1, d2] }
  | _ => none }
def fnMatricesRow : OpenClaim := { program := "ytcjbfpoaidjpaaa", sum := "113eb1e856c44f904525d45a519d8c1b9ae101eea0c2a9aea26e08b9fe2e22f3", func := "loop.example/g01327/laws.FnMatrices", spec := "fnMatrices", inPlace := ["math.Float64bits", "math.Float64frombits"], unfollowed := true, recurses := true, apart := false }
def FnMatricesSaid : Prop := fnMatricesRow.holds Try.pinned (OpenSpec.ofChange fnMatricesSpec)

/-- ITS FALSE NEIGHBOUR: 'it returns false'. Refute it at one input. -/
def fnMatricesWrong : ChangeSpec := { name := "fnMatrices", fn := fun _ => fun
  | [d1, d2] => { results := [.lit (.bool false)], args := [d1, d2] }
  | _ => none }
def FnMatricesWrongFalsely : Prop := fnMatricesRow.holds Try.pinned (OpenSpec.ofChange fnMatricesWrong)

/-- 'laws.FnEchelons': WHATEVER THE INPUT: true; the input reads as it did. -/
def fnEchelonsSpec : ChangeSpec := { name := "fnEchelons", fn := fun _ => fun
  | [d1, d2] => { results := [.lit (.bool true)], args := [d1, d2] }
  | _ => none }
def fnEchelonsRow : OpenClaim := { program := "ytcjbfpoaidjpaaa", sum := "113eb1e856c44f904525d45a519d8c1b9ae101eea0c2a9aea26e08b9fe2e22f3", func := "loop.example/g01327/laws.FnEchelons", spec := "fnEchelons", unfollowed := true, recurses := true, apart := false }
def FnEchelonsSaid : Prop := fnEchelonsRow.holds Try.pinned (OpenSpec.ofChange fnEchelonsSpec)

/-- ITS FALSE NEIGHBOUR: 'it returns false'. Refute it at one input. -/
def fnEchelonsWrong : ChangeSpec := { name := "fnEchelons", fn := fun _ => fun
  | [d1, d2] => { results := [.lit (.bool false)], args := [d1, d2] }
  | _ => none }
def FnEchelonsWrongFalsely : Prop := fnEchelonsRow.holds Try.pinned (OpenSpec.ofChange fnEchelonsWrong)

/-- 'laws.FnWholes': WHATEVER THE INPUT: true; the input reads as it did. -/
def fnWholesSpec : ChangeSpec := { name := "fnWholes", fn := fun _ => fun
  | [d1, d2] => { results := [.lit (.bool true)], args := [d1, d2] }
  | _ => none }
def fnWholesRow : OpenClaim := { program := "ytcjbfpoaidjpaaa", sum := "113eb1e856c44f904525d45a519d8c1b9ae101eea0c2a9aea26e08b9fe2e22f3", func := "loop.example/g01327/laws.FnWholes", spec := "fnWholes", inPlace := ["math.Float64bits", "math.Float64frombits", "math.archFloor", "math.archTrunc"], unfollowed := true, recurses := true, apart := false }
def FnWholesSaid : Prop := fnWholesRow.holds Try.pinned (OpenSpec.ofChange fnWholesSpec)

/-- ITS FALSE NEIGHBOUR: 'it returns false'. Refute it at one input. -/
def fnWholesWrong : ChangeSpec := { name := "fnWholes", fn := fun _ => fun
  | [d1, d2] => { results := [.lit (.bool false)], args := [d1, d2] }
  | _ => none }
def FnWholesWrongFalsely : Prop := fnWholesRow.holds Try.pinned (OpenSpec.ofChange fnWholesWrong)

/-- 'laws.FnOrders': WHATEVER THE INPUT: true; the input reads as it did. -/
def fnOrdersSpec : ChangeSpec := { name := "fnOrders", fn := fun _ => fun
  | [d1, d2] => { results := [.lit (.bool true)], args := [d1, d2] }
  | _ => none }
def fnOrdersRow : OpenClaim := { program := "ytcjbfpoaidjpaaa", sum := "113eb1e856c44f904525d45a519d8c1b9ae101eea0c2a9aea26e08b9fe2e22f3", func := "loop.example/g01327/laws.FnOrders", spec := "fnOrders", inPlace := ["math.Float64bits", "math.Float64frombits"], unfollowed := true, recurses := true, apart := false }
def FnOrdersSaid : Prop := fnOrdersRow.holds Try.pinned (OpenSpec.ofChange fnOrdersSpec)

/-- ITS FALSE NEIGHBOUR: 'it returns false'. Refute it at one input. -/
def fnOrdersWrong : ChangeSpec := { name := "fnOrders", fn := fun _ => fun
  | [d1, d2] => { results := [.lit (.bool false)], args := [d1, d2] }
  | _ => none }
def FnOrdersWrongFalsely : Prop := fnOrdersRow.holds Try.pinned (OpenSpec.ofChange fnOrdersWrong)

/- THE SECOND FORM. 'bulk': how many values and letters a reading holds, each counted each time it is reached (what is shared counts as often as it is met; a slice's spare places count too). A statement '..UptoSaid' is the law's where the arguments, and the package variables that the reading takes, are together of bulk at most 1048576: NARROWER than '..Said'. Prove '..Said' where nothing that the law and all that it calls make is longer than what came in: it says more and counts as full. Else prove '..UptoSaid'. A law counts once. -/
mutual
def uptoBulk {H : Type} : DataW H → Nat
  | .lit (.string bytes) => bytes.length + 1
  | .lit _ => 1
  | .nil => 1
  | .ptr d => uptoBulk d + 1
  | .slice elems spare => uptoBulkAll elems + uptoBulkAll spare + 1
  | .agg parts => uptoBulkAll parts + 1
  | .iface _ d => uptoBulk d + 1
  | .map entries => uptoBulkEntries entries + 1
  | .held _ => 1
def uptoBulkAll {H : Type} : List (DataW H) → Nat
  | [] => 0
  | d :: r => uptoBulk d + uptoBulkAll r
def uptoBulkEntries {H : Type} : List (Lit × DataW H) → Nat
  | [] => 0
  | x :: r => uptoBulkEntry x + uptoBulkEntries r
def uptoBulkEntry {H : Type} : Lit × DataW H → Nat
  | (.string bytes, d) => bytes.length + uptoBulk d + 1
  | (_, d) => uptoBulk d + 1
 end
def uptoSmall : (H : Type) → List (DataW H) → Bool := fun _ ds => decide (uptoBulkAll ds ≤ 1048576)
def OpenSpec.upto (s : _root_.Go.ChangeSpec) : _root_.Go.OpenSpec := { _root_.Go.OpenSpec.ofChange s with cond := some uptoSmall }

/-- 'laws.FnMatrices', WHERE WHAT IT READS IS OF BULK AT MOST 1048576: true; the input reads as it did. -/
def fnMatricesUptoRow : OpenClaim := { program := "ytcjbfpoaidjpaaa", sum := "113eb1e856c44f904525d45a519d8c1b9ae101eea0c2a9aea26e08b9fe2e22f3", func := "loop.example/g01327/laws.FnMatrices", spec := "fnMatrices", inPlace := ["math.Float64bits", "math.Float64frombits"], unfollowed := true, recurses := true, apart := false, narrowed := true }
def FnMatricesUptoSaid : Prop := fnMatricesUptoRow.holds Try.pinned (OpenSpec.upto fnMatricesSpec)

/-- 'laws.FnEchelons', WHERE WHAT IT READS IS OF BULK AT MOST 1048576: true; the input reads as it did. -/
def fnEchelonsUptoRow : OpenClaim := { program := "ytcjbfpoaidjpaaa", sum := "113eb1e856c44f904525d45a519d8c1b9ae101eea0c2a9aea26e08b9fe2e22f3", func := "loop.example/g01327/laws.FnEchelons", spec := "fnEchelons", unfollowed := true, recurses := true, apart := false, narrowed := true }
def FnEchelonsUptoSaid : Prop := fnEchelonsUptoRow.holds Try.pinned (OpenSpec.upto fnEchelonsSpec)

/-- 'laws.FnWholes', WHERE WHAT IT READS IS OF BULK AT MOST 1048576: true; the input reads as it did. -/
def fnWholesUptoRow : OpenClaim := { program := "ytcjbfpoaidjpaaa", sum := "113eb1e856c44f904525d45a519d8c1b9ae101eea0c2a9aea26e08b9fe2e22f3", func := "loop.example/g01327/laws.FnWholes", spec := "fnWholes", inPlace := ["math.Float64bits", "math.Float64frombits", "math.archFloor", "math.archTrunc"], unfollowed := true, recurses := true, apart := false, narrowed := true }
def FnWholesUptoSaid : Prop := fnWholesUptoRow.holds Try.pinned (OpenSpec.upto fnWholesSpec)

/-- 'laws.FnOrders', WHERE WHAT IT READS IS OF BULK AT MOST 1048576: true; the input reads as it did. -/
def fnOrdersUptoRow : OpenClaim := { program := "ytcjbfpoaidjpaaa", sum := "113eb1e856c44f904525d45a519d8c1b9ae101eea0c2a9aea26e08b9fe2e22f3", func := "loop.example/g01327/laws.FnOrders", spec := "fnOrders", inPlace := ["math.Float64bits", "math.Float64frombits"], unfollowed := true, recurses := true, apart := false, narrowed := true }
def FnOrdersUptoSaid : Prop := fnOrdersUptoRow.holds Try.pinned (OpenSpec.upto fnOrdersSpec)

end Rows
end Go.Proofs.Ytcjbfpoaidjpaaa
