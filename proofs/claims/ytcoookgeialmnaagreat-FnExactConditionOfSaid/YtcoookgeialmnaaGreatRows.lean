/-
  No cell of these rows narrows 'for every input' (looked for: loops, veiled, ifaces, maps, wideKeys, modest, calm, conditions, laid).
  DERIVED. THE GIVEN ROWS OF THIS SEAT. 2 by the template 'for every input the law returns true; each argument reads behind the call as it read before'; 0 by the template 'total and deterministic' (their statements: YtcoookgeialmnaaGreatTotals.lean).
  GIVEN WITH THE SEED: the statements are not yours to turn. If you find one false, say at which input.
  Laid BY PROGRAM, IN A SANDBOX (cutbox-rows.mjs): the forced cells as the released guide's own fill.sh prints them over the translation fd9eea6702b69467… (all of the seat's roots in one cut). By AI agents, Wed Nov 11 2026. No macro, syntax, notation, axiom, sorry.
-/
import Derived.Test.YtcoookgeialmnaaGreatChecked
import GoSem.Claim
import GoSem.ClaimJoined
import GoSem.ClaimMapViews
import Derived.JoinedTies
import Derived.KernelRfl
namespace Go.Proofs.YtcoookgeialmnaaGreat
/- THE CELL 'sum', in the pinned program and in every row, IS THE sha256 OF THE DUMP (.gsa) THAT YtcoookgeialmnaaGreatProg.lean LOADS. Nothing in Lean hashes anything: it is a label: what it is worth is what the hold of that sum in a sandbox is worth. -/
noncomputable def Tryz.pinned : Pinned := { name := "ytcoookgeialmnaagreat", sum := "fd9eea6702b694677595e07b22d8751798fa52ef6e5c7668b916de6a0d875d7d", checked := Tryz.checked }
namespace Rows
def none {H : Type} : Left H := { results := [], args := [] }

/-- 'laws.FnExactLowMatrix': WHATEVER THE INPUT: true; the input reads as it did. -/
def fnExactLowMatrixSpec : ChangeSpec := { name := "fnExactLowMatrix", fn := fun _ => fun
  | [d1, d2, d3] => { results := [.lit (.bool true)], args := [d1, d2, d3] }
  | _ => none }
def fnExactLowMatrixRow : OpenClaim := { program := "ytcoookgeialmnaagreat", sum := "fd9eea6702b694677595e07b22d8751798fa52ef6e5c7668b916de6a0d875d7d", func := "loop.example/g01327/laws.FnExactLowMatrix", spec := "fnExactLowMatrix", inPlace := ["math.sqrt", "math.Float64bits", "math.Float64frombits"], unfollowed := true, recurses := true, apart := false }
def FnExactLowMatrixSaid : Prop := fnExactLowMatrixRow.holds Tryz.pinned (OpenSpec.ofChange fnExactLowMatrixSpec)

/-- ITS FALSE NEIGHBOUR: 'it returns false'. Refute it at one input. -/
def fnExactLowMatrixWrong : ChangeSpec := { name := "fnExactLowMatrix", fn := fun _ => fun
  | [d1, d2, d3] => { results := [.lit (.bool false)], args := [d1, d2, d3] }
  | _ => none }
def FnExactLowMatrixWrongFalsely : Prop := fnExactLowMatrixRow.holds Tryz.pinned (OpenSpec.ofChange fnExactLowMatrixWrong)

/-- 'laws.FnExactConditionOf': WHATEVER THE INPUT: true; the input reads as it did. -/
def fnExactConditionOfSpec : ChangeSpec := { name := "fnExactConditionOf", fn := fun _ => fun
  | [d] => { results := [.lit (.bool true)], args := [d] }
  | _ => none }
def fnExactConditionOfRow : OpenClaim := { program := "ytcoookgeialmnaagreat", sum := "fd9eea6702b694677595e07b22d8751798fa52ef6e5c7668b916de6a0d875d7d", func := "loop.example/g01327/laws.FnExactConditionOf", spec := "fnExactConditionOf", inPlace := ["math.Float64bits", "math.Float64frombits"], unfollowed := true, recurses := true, apart := false }
def FnExactConditionOfSaid : Prop := fnExactConditionOfRow.holds Tryz.pinned (OpenSpec.ofChange fnExactConditionOfSpec)

/-- ITS FALSE NEIGHBOUR: 'it returns false'. Refute it at one input. -/
def fnExactConditionOfWrong : ChangeSpec := { name := "fnExactConditionOf", fn := fun _ => fun
  | [d] => { results := [.lit (.bool false)], args := [d] }
  | _ => none }
def FnExactConditionOfWrongFalsely : Prop := fnExactConditionOfRow.holds Tryz.pinned (OpenSpec.ofChange fnExactConditionOfWrong)

/- THE SECOND FORM. 'bulk': how many values and letters a reading holds, each counted each time it is reached (what is shared counts as often as it is met; a slice's spare places count too). A statement '..UptoSaid' is the law's where the arguments, and the package variables that the reading takes, are together of bulk at most 1048576: NARROWER than '..Said'. Prove '..Said' where nothing that the law and all that it calls make is longer than what came in: it says more and counts as full. Else prove '..UptoSaid'. A law counts once. -/
mutual
def uptoBulk {H : Type} : DataW H → Nat
  | .lit (.string bytes) => bytes.length + 1
  | .lit _ => 1
  | .nil => 1
  | .ptr d => uptoBulk d + 1
  | .slice elems spare => uptoBulkAll elems + uptoBulkAll spare + 1
  | .agg parts => uptoBulkAll parts + 1
  | .iface _ d => uptoBulk d + 1
  | .map entries => uptoBulkEntries entries + 1
  | .held _ => 1
def uptoBulkAll {H : Type} : List (DataW H) → Nat
  | [] => 0
  | d :: r => uptoBulk d + uptoBulkAll r
def uptoBulkEntries {H : Type} : List (Lit × DataW H) → Nat
  | [] => 0
  | x :: r => uptoBulkEntry x + uptoBulkEntries r
def uptoBulkEntry {H : Type} : Lit × DataW H → Nat
  | (.string bytes, d) => bytes.length + uptoBulk d + 1
  | (_, d) => uptoBulk d + 1
 end
def uptoSmall : (H : Type) → List (DataW H) → Bool := fun _ ds => decide (uptoBulkAll ds ≤ 1048576)
def OpenSpec.upto (s : _root_.Go.ChangeSpec) : _root_.Go.OpenSpec := { _root_.Go.OpenSpec.ofChange s with cond := some uptoSmall }

/-- 'laws.FnExactLowMatrix', WHERE WHAT IT READS IS OF BULK AT MOST 1048576: true; the input reads as it did. -/
def fnExactLowMatrixUptoRow : OpenClaim := { program := "ytcoookgeialmnaagreat", sum := "fd9eea6702b694677595e07b22d8751798fa52ef6e5c7668b916de6a0d875d7d", func := "loop.example/g01327/laws.FnExactLowMatrix", spec := "fnExactLowMatrix", inPlace := ["math.sqrt", "math.Float64bits", "math.Float64frombits"], unfollowed := true, recurses := true, apart := false, narrowed := true }
def FnExactLowMatrixUptoSaid : Prop := fnExactLowMatrixUptoRow.holds Tryz.pinned (OpenSpec.upto fnExactLowMatrixSpec)

/-- 'laws.FnExactConditionOf', WHERE WHAT IT READS IS OF BULK AT MOST 1048576: true; the input reads as it did. -/
def fnExactConditionOfUptoRow : OpenClaim := { program := "ytcoookgeialmnaagreat", sum := "fd9eea6702b694677595e07b22d8751798fa52ef6e5c7668b916de6a0d875d7d", func := "loop.example/g01327/laws.FnExactConditionOf", spec := "fnExactConditionOf", inPlace := ["math.Float64bits", "math.Float64frombits"], unfollowed := true, recurses := true, apart := false, narrowed := true }
def FnExactConditionOfUptoSaid : Prop := fnExactConditionOfUptoRow.holds Tryz.pinned (OpenSpec.upto fnExactConditionOfSpec)

end Rows
end Go.Proofs.YtcoookgeialmnaaGreat
