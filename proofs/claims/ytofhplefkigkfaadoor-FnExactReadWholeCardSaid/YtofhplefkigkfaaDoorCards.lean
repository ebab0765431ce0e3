/-
  DERIVED. GIVEN WITH THE SEED: THE CARDS: each row of YtofhplefkigkfaaDoorRows.lean that lists a variable, with what it lists TIED to the program's text (the seventh form; the later family's looks); each row that meets fmt, with fmt's text TOLD by the authors' own Lean function (tested against real Go, not proved from fmt's source: count such statements apart). THE CARD IS WHAT COUNTS. Prove the row's statement (the work); the ties are given (YtofhplefkigkfaaDoorTie.lean); close each card by the builder's one call (the guide's Derived/Test/ToyasCard.lean, 'card_holds'). Laid BY PROGRAM, IN A SANDBOX (cutbox-door.mjs). By AI agents, Wed Nov 11 2026. No macro, syntax, notation, axiom, sorry.
-/
import Derived.Test.YtofhplefkigkfaaDoorRows
import GoSem.ClaimSeven
namespace Go.Proofs.YtofhplefkigkfaaDoor
namespace Rows

/-- THE TIED CARD OF 'laws.FnExactReadWhole'. -/
def fnExactReadWholeCard : Claim7 := { stood := { row := fnExactReadWholeRow, standIns := [], harness := (true, "503494d6850d3f88170a9e2d8efdbc4d902dd81fd2e20d86a147c513e9b0547a"), looks := true }, kinds := [], alts := [], laidByText := true, laidKinds := [.data, .data, .data, .data, .sentinel, .sentinel, .pinned], laidTests := true, laidLooks := .later }
def FnExactReadWholeCardSaid : Prop := Claim7.holds Tryd.pinned (.plain (OpenSpec.ofChange fnExactReadWholeSpec)) fnExactReadWholeCard

/-- THE SECOND FORM's CARD OF 'laws.FnExactReadWhole'. -/
def fnExactReadWholeUptoCard : Claim7 := { stood := { row := fnExactReadWholeUptoRow, standIns := [], harness := (true, "503494d6850d3f88170a9e2d8efdbc4d902dd81fd2e20d86a147c513e9b0547a"), looks := true }, kinds := [], alts := [], laidByText := true, laidKinds := [.data, .data, .data, .data, .sentinel, .sentinel, .pinned], laidTests := true, laidLooks := .later }
def FnExactReadWholeUptoCardSaid : Prop := Claim7.holds Tryd.pinned (.plain (OpenSpec.upto fnExactReadWholeSpec)) fnExactReadWholeUptoCard
end Rows
end Go.Proofs.YtofhplefkigkfaaDoor
