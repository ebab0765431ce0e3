/-
  No cell of these rows narrows 'for every input' (looked for: loops, veiled, ifaces, maps, wideKeys, modest, calm, conditions, laid).
  DERIVED. THE GIVEN ROWS OF THIS SEAT. 6 by the template 'for every input the law returns true; each argument reads behind the call as it read before'; 0 by the template 'total and deterministic' (their statements: YtjbifkimffmhpaaTotals.lean).
  GIVEN WITH THE SEED: the statements are not yours to turn. If you find one false, say at which input.
  Laid BY PROGRAM, IN A SANDBOX (cutbox-rows.mjs): the forced cells as the released guide's own fill.sh prints them over the translation ce308735b035ca2e… (all of the seat's roots in one cut). By AI agents, Wed Nov 11 2026. No macro, syntax, notation, axiom, sorry.
-/
import Derived.Test.YtjbifkimffmhpaaChecked
import GoSem.Claim
import GoSem.ClaimJoined
import GoSem.ClaimMapViews
import Derived.JoinedTies
import Derived.KernelRfl
namespace Go.Proofs.Ytjbifkimffmhpaa
/- THE CELL 'sum', in the pinned program and in every row, IS THE sha256 OF THE DUMP (.gsa) THAT YtjbifkimffmhpaaProg.lean LOADS. Nothing in Lean hashes anything: it is a label: what it is worth is what the hold of that sum in a sandbox is worth. -/
noncomputable def Try.pinned : Pinned := { name := "ytjbifkimffmhpaa", sum := "ce308735b035ca2e366d6bd31af32ae6a8b4369a722c6270d11b7e3f511c1aed", checked := Try.checked }
namespace Rows
def none {H : Type} : Left H := { results := [], args := [] }

/-- 'laws.FnExactCrossOf': WHATEVER THE INPUT: true; the input reads as it did. -/
def fnExactCrossOfSpec : ChangeSpec := { name := "fnExactCrossOf", fn := fun _ => fun
  | [d1, d2, d3] => { results := [.lit (.bool true)], args := [d1, d2, d3] }
  | _ => none }
def fnExactCrossOfRow : OpenClaim := { program := "ytjbifkimffmhpaa", sum := "ce308735b035ca2e366d6bd31af32ae6a8b4369a722c6270d11b7e3f511c1aed", func := "loop.example/g01327/laws.FnExactCrossOf", spec := "fnExactCrossOf", inPlace := ["math.Float64bits", "math.Float64frombits"], unfollowed := true, recurses := true, apart := false }
def FnExactCrossOfSaid : Prop := fnExactCrossOfRow.holds Try.pinned (OpenSpec.ofChange fnExactCrossOfSpec)

/-- ITS FALSE NEIGHBOUR: 'it returns false'. Refute it at one input. -/
def fnExactCrossOfWrong : ChangeSpec := { name := "fnExactCrossOf", fn := fun _ => fun
  | [d1, d2, d3] => { results := [.lit (.bool false)], args := [d1, d2, d3] }
  | _ => none }
def FnExactCrossOfWrongFalsely : Prop := fnExactCrossOfRow.holds Try.pinned (OpenSpec.ofChange fnExactCrossOfWrong)

/-- 'laws.FnExactRootShifted': WHATEVER THE INPUT: true; the input reads as it did. -/
def fnExactRootShiftedSpec : ChangeSpec := { name := "fnExactRootShifted", fn := fun _ => fun
  | [d1, d2] => { results := [.lit (.bool true)], args := [d1, d2] }
  | _ => none }
def fnExactRootShiftedRow : OpenClaim := { program := "ytjbifkimffmhpaa", sum := "ce308735b035ca2e366d6bd31af32ae6a8b4369a722c6270d11b7e3f511c1aed", func := "loop.example/g01327/laws.FnExactRootShifted", spec := "fnExactRootShifted", inPlace := ["math.sqrt", "math.Float64bits", "math.Float64frombits"], unfollowed := true, recurses := true, apart := false }
def FnExactRootShiftedSaid : Prop := fnExactRootShiftedRow.holds Try.pinned (OpenSpec.ofChange fnExactRootShiftedSpec)

/-- ITS FALSE NEIGHBOUR: 'it returns false'. Refute it at one input. -/
def fnExactRootShiftedWrong : ChangeSpec := { name := "fnExactRootShifted", fn := fun _ => fun
  | [d1, d2] => { results := [.lit (.bool false)], args := [d1, d2] }
  | _ => none }
def FnExactRootShiftedWrongFalsely : Prop := fnExactRootShiftedRow.holds Try.pinned (OpenSpec.ofChange fnExactRootShiftedWrong)

/-- 'laws.FnExactSignsOf': WHATEVER THE INPUT: true; the input reads as it did. -/
def fnExactSignsOfSpec : ChangeSpec := { name := "fnExactSignsOf", fn := fun _ => fun
  | [d] => { results := [.lit (.bool true)], args := [d] }
  | _ => none }
def fnExactSignsOfRow : OpenClaim := { program := "ytjbifkimffmhpaa", sum := "ce308735b035ca2e366d6bd31af32ae6a8b4369a722c6270d11b7e3f511c1aed", func := "loop.example/g01327/laws.FnExactSignsOf", spec := "fnExactSignsOf", inPlace := ["math.Float64bits", "math.Float64frombits"], unfollowed := true, recurses := true, apart := false }
def FnExactSignsOfSaid : Prop := fnExactSignsOfRow.holds Try.pinned (OpenSpec.ofChange fnExactSignsOfSpec)

/-- ITS FALSE NEIGHBOUR: 'it returns false'. Refute it at one input. -/
def fnExactSignsOfWrong : ChangeSpec := { name := "fnExactSignsOf", fn := fun _ => fun
  | [d] => { results := [.lit (.bool false)], args := [d] }
  | _ => none }
def FnExactSignsOfWrongFalsely : Prop := fnExactSignsOfRow.holds Try.pinned (OpenSpec.ofChange fnExactSignsOfWrong)

/-- 'laws.FnExactFactorRows': WHATEVER THE INPUT: true; the input reads as it did. -/
def fnExactFactorRowsSpec : ChangeSpec := { name := "fnExactFactorRows", fn := fun _ => fun
  | [d] => { results := [.lit (.bool true)], args := [d] }
  | _ => none }
def fnExactFactorRowsRow : OpenClaim := { program := "ytjbifkimffmhpaa", sum := "ce308735b035ca2e366d6bd31af32ae6a8b4369a722c6270d11b7e3f511c1aed", func := "loop.example/g01327/laws.FnExactFactorRows", spec := "fnExactFactorRows", inPlace := ["math.Float64bits", "math.Float64frombits"], unfollowed := true, recurses := true, apart := false }
def FnExactFactorRowsSaid : Prop := fnExactFactorRowsRow.holds Try.pinned (OpenSpec.ofChange fnExactFactorRowsSpec)

/-- ITS FALSE NEIGHBOUR: 'it returns false'. Refute it at one input. -/
def fnExactFactorRowsWrong : ChangeSpec := { name := "fnExactFactorRows", fn := fun _ => fun
  | [d] => { results := [.lit (.bool false)], args := [d] }
  | _ => none }
def FnExactFactorRowsWrongFalsely : Prop := fnExactFactorRowsRow.holds Try.pinned (OpenSpec.ofChange fnExactFactorRowsWrong)

/-- 'laws.FnExactFactorBoth': WHATEVER THE INPUT: true; the input reads as it did. -/
def fnExactFactorBothSpec : ChangeSpec := { name := "fnExactFactorBoth", fn := fun _ => fun
  | [d1, d2] => { results := [.lit (.bool true)], args := [d1, d2] }
  | _ => none }
def fnExactFactorBothRow : OpenClaim := { program := "ytjbifkimffmhpaa", sum := "ce308735b035ca2e366d6bd31af32ae6a8b4369a722c6270d11b7e3f511c1aed", func := "loop.example/g01327/laws.FnExactFactorBoth", spec := "fnExactFactorBoth", inPlace := ["math.Float64bits", "math.Float64frombits"], unfollowed := true, recurses := true, apart := false }
def FnExactFactorBothSaid : Prop := fnExactFactorBothRow.holds Try.pinned (OpenSpec.ofChange fnExactFactorBothSpec)

/-- ITS FALSE NEIGHBOUR: 'it returns false'. Refute it at one input. -/
def fnExactFactorBothWrong : ChangeSpec := { name := "fnExactFactorBoth", fn := fun _ => fun
  | [d1, d2] => { results := [.lit (.bool false)], args := [d1, d2] }
  | _ => none }
def FnExactFactorBothWrongFalsely : Prop := fnExactFactorBothRow.holds Try.pinned (OpenSpec.ofChange fnExactFactorBothWrong)

/-- 'laws.FnExactSideTurns': WHATEVER THE INPUT: true; the input reads as it did. -/
def fnExactSideTurnsSpec : ChangeSpec := { name := "fnExactSideTurns", fn := fun _ => fun
  | [d1, d2] => { results := [.lit (.bool true)], args := [d1, d2] }
  | _ => none }
def fnExactSideTurnsRow : OpenClaim := { program := "ytjbifkimffmhpaa", sum := "ce308735b035ca2e366d6bd31af32ae6a8b4369a722c6270d11b7e3f511c1aed", func := "loop.example/g01327/laws.FnExactSideTurns", spec := "fnExactSideTurns", inPlace := ["math.sqrt", "math.Float64bits", "math.Float64frombits"], unfollowed := true, recurses := true, apart := false }
def FnExactSideTurnsSaid : Prop := fnExactSideTurnsRow.holds Try.pinned (OpenSpec.ofChange fnExactSideTurnsSpec)

/-- ITS FALSE NEIGHBOUR: 'it returns false'. Refute it at one input. -/
def fnExactSideTurnsWrong : ChangeSpec := { name := "fnExactSideTurns", fn := fun _ => fun
  | [d1, d2] => { results := [.lit (.bool false)], args := [d1, d2] }
  | _ => none }
def FnExactSideTurnsWrongFalsely : Prop := fnExactSideTurnsRow.holds Try.pinned (OpenSpec.ofChange fnExactSideTurnsWrong)

/- THE SECOND FORM. 'bulk': how many values and letters a reading holds, each counted each time it is reached (what is shared counts as often as it is met; a slice's spare places count too). A statement '..UptoSaid' is the law's where the arguments, and the package variables that the reading takes, are together of bulk at most 1048576: NARROWER than '..Said'. Prove '..Said' where nothing that the law and all that it calls make is longer than what came in: it says more and counts as full. Else prove '..UptoSaid'. A law counts once. -/
mutual
def uptoBulk {H : Type} : DataW H → Nat
  | .lit (.string bytes) => bytes.length + 1
  | .lit _ => 1
  | .nil => 1
  | .ptr d => uptoBulk d + 1
  | .slice elems spare => uptoBulkAll elems + uptoBulkAll spare + 1
  | .agg parts => uptoBulkAll parts + 1
  | .iface _ d => uptoBulk d + 1
  | .map entries => uptoBulkEntries entries + 1
  | .held _ => 1
def uptoBulkAll {H : Type} : List (DataW H) → Nat
  | [] => 0
  | d :: r => uptoBulk d + uptoBulkAll r
def uptoBulkEntries {H : Type} : List (Lit × DataW H) → Nat
  | [] => 0
  | x :: r => uptoBulkEntry x + uptoBulkEntries r
def uptoBulkEntry {H : Type} : Lit × DataW H → Nat
  | (.string bytes, d) => bytes.length + uptoBulk d + 1
  | (_, d) => uptoBulk d + 1
 end
def uptoSmall : (H : Type) → List (DataW H) → Bool := fun _ ds => decide (uptoBulkAll ds ≤ 1048576)
def OpenSpec.upto (s : _root_.Go.ChangeSpec) : _root_.Go.OpenSpec := { _root_.Go.OpenSpec.ofChange s with cond := some uptoSmall }

/-- 'laws.FnExactCrossOf', WHERE WHAT IT READS IS OF BULK AT MOST 1048576: true; the input reads as it did. -/
def fnExactCrossOfUptoRow : OpenClaim := { program := "ytjbifkimffmhpaa", sum := "ce308735b035ca2e366d6bd31af32ae6a8b4369a722c6270d11b7e3f511c1aed", func := "loop.example/g01327/laws.FnExactCrossOf", spec := "fnExactCrossOf", inPlace := ["math.Float64bits", "math.Float64frombits"], unfollowed := true, recurses := true, apart := false, narrowed := true }
def FnExactCrossOfUptoSaid : Prop := fnExactCrossOfUptoRow.holds Try.pinned (OpenSpec.upto fnExactCrossOfSpec)

/-- 'laws.FnExactRootShifted', WHERE WHAT IT READS IS OF BULK AT MOST 1048576: true; the input reads as it did. -/
def fnExactRootShiftedUptoRow : OpenClaim := { program := "ytjbifkimffmhpaa", sum := "ce308735b035ca2e366d6bd31af32ae6a8b4369a722c6270d11b7e3f511c1aed", func := "loop.example/g01327/laws.FnExactRootShifted", spec := "fnExactRootShifted", inPlace := ["math.sqrt", "math.Float64bits", "math.Float64frombits"], unfollowed := true, recurses := true, apart := false, narrowed := true }
def FnExactRootShiftedUptoSaid : Prop := fnExactRootShiftedUptoRow.holds Try.pinned (OpenSpec.upto fnExactRootShiftedSpec)

/-- 'laws.FnExactSignsOf', WHERE WHAT IT READS IS OF BULK AT MOST 1048576: true; the input reads as it did. -/
def fnExactSignsOfUptoRow : OpenClaim := { program := "ytjbifkimffmhpaa", sum := "ce308735b035ca2e366d6bd31af32ae6a8b4369a722c6270d11b7e3f511c1aed", func := "loop.example/g01327/laws.FnExactSignsOf", spec := "fnExactSignsOf", inPlace := ["math.Float64bits", "math.Float64frombits"], unfollowed := true, recurses := true, apart := false, narrowed := true }
def FnExactSignsOfUptoSaid : Prop := fnExactSignsOfUptoRow.holds Try.pinned (OpenSpec.upto fnExactSignsOfSpec)

/-- 'laws.FnExactFactorRows', WHERE WHAT IT READS IS OF BULK AT MOST 1048576: true; the input reads as it did. -/
def fnExactFactorRowsUptoRow : OpenClaim := { program := "ytjbifkimffmhpaa", sum := "ce308735b035ca2e366d6bd31af32ae6a8b4369a722c6270d11b7e3f511c1aed", func := "loop.example/g01327/laws.FnExactFactorRows", spec := "fnExactFactorRows", inPlace := ["math.Float64bits", "math.Float64frombits"], unfollowed := true, recurses := true, apart := false, narrowed := true }
def FnExactFactorRowsUptoSaid : Prop := fnExactFactorRowsUptoRow.holds Try.pinned (OpenSpec.upto fnExactFactorRowsSpec)

/-- 'laws.FnExactFactorBoth', WHERE WHAT IT READS IS OF BULK AT MOST 1048576: true; the input reads as it did. -/
def fnExactFactorBothUptoRow : OpenClaim := { program := "ytjbifkimffmhpaa", sum := "ce308735b035ca2e366d6bd31af32ae6a8b4369a722c6270d11b7e3f511c1aed", func := "loop.example/g01327/laws.FnExactFactorBoth", spec := "fnExactFactorBoth", inPlace := ["math.Float64bits", "math.Float64frombits"], unfollowed := true, recurses := true, apart := false, narrowed := true }
def FnExactFactorBothUptoSaid : Prop := fnExactFactorBothUptoRow.holds Try.pinned (OpenSpec.upto fnExactFactorBothSpec)

/-- 'laws.FnExactSideTurns', WHERE WHAT IT READS IS OF BULK AT MOST 1048576: true; the input reads as it did. -/
def fnExactSideTurnsUptoRow : OpenClaim := { program := "ytjbifkimffmhpaa", sum := "ce308735b035ca2e366d6bd31af32ae6a8b4369a722c6270d11b7e3f511c1aed", func := "loop.example/g01327/laws.FnExactSideTurns", spec := "fnExactSideTurns", inPlace := ["math.sqrt", "math.Float64bits", "math.Float64frombits"], unfollowed := true, recurses := true, apart := false, narrowed := true }
def FnExactSideTurnsUptoSaid : Prop := fnExactSideTurnsUptoRow.holds Try.pinned (OpenSpec.upto fnExactSideTurnsSpec)

end Rows
end Go.Proofs.Ytjbifkimffmhpaa
