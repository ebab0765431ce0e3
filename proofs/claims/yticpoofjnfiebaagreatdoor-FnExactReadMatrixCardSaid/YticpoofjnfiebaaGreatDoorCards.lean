/-
  DERIVED. GIVEN WITH THE SEED: THE CARDS: each row of YticpoofjnfiebaaGreatDoorRows.lean that lists a variable, with what it lists TIED to the program's text (the seventh form; the later family's looks); each row that meets fmt, with fmt's text TOLD by the authors' own Lean function (tested against real Go, not proved from fmt's source: count such statements apart). THE CARD IS WHAT COUNTS. Prove the row's statement (the work); the ties are given (YticpoofjnfiebaaGreatDoorTie.lean); close each card by the builder's one call (the guide's Derived/Test/ToyasCard.lean, 'card_holds'). Laid BY PROGRAM, IN A SANDBOX (cutbox-door.mjs). By AI agents, Wed Nov 11 2026. No macro, syntax, notation, axiom, sorry.
-/
import Derived.Test.YticpoofjnfiebaaGreatDoorRows
import GoSem.ClaimSeven
namespace Go.Proofs.YticpoofjnfiebaaGreatDoor
namespace Rows

/-- THE TIED CARD OF 'laws.FnExactReadChain'. -/
def fnExactReadChainCard : Claim7 := { stood := { row := fnExactReadChainRow, standIns := [], harness := (true, "085429f4559ca86ca742e47db5a3f1832222aa142f2334d81d98f7876ed3a979"), looks := true }, kinds := [], alts := [], laidByText := true, laidKinds := [.data, .data, .data, .data, .sentinel, .sentinel, .pinned], laidTests := true, laidLooks := .later }
def FnExactReadChainCardSaid : Prop := Claim7.holds Tryz.pinned (.plain (OpenSpec.ofChange fnExactReadChainSpec)) fnExactReadChainCard

/-- THE TIED CARD OF 'laws.FnExactReadMatrix'. -/
def fnExactReadMatrixCard : Claim7 := { stood := { row := fnExactReadMatrixRow, standIns := [], harness := (true, "085429f4559ca86ca742e47db5a3f1832222aa142f2334d81d98f7876ed3a979"), looks := true }, kinds := [], alts := [], laidByText := true, laidKinds := [.data, .data, .data, .data, .sentinel, .sentinel, .pinned], laidTests := true, laidLooks := .later }
def FnExactReadMatrixCardSaid : Prop := Claim7.holds Tryz.pinned (.plain (OpenSpec.ofChange fnExactReadMatrixSpec)) fnExactReadMatrixCard

/-- THE SECOND FORM's CARD OF 'laws.FnExactReadChain'. -/
def fnExactReadChainUptoCard : Claim7 := { stood := { row := fnExactReadChainUptoRow, standIns := [], harness := (true, "085429f4559ca86ca742e47db5a3f1832222aa142f2334d81d98f7876ed3a979"), looks := true }, kinds := [], alts := [], laidByText := true, laidKinds := [.data, .data, .data, .data, .sentinel, .sentinel, .pinned], laidTests := true, laidLooks := .later }
def FnExactReadChainUptoCardSaid : Prop := Claim7.holds Tryz.pinned (.plain (OpenSpec.upto fnExactReadChainSpec)) fnExactReadChainUptoCard

/-- THE SECOND FORM's CARD OF 'laws.FnExactReadMatrix'. -/
def fnExactReadMatrixUptoCard : Claim7 := { stood := { row := fnExactReadMatrixUptoRow, standIns := [], harness := (true, "085429f4559ca86ca742e47db5a3f1832222aa142f2334d81d98f7876ed3a979"), looks := true }, kinds := [], alts := [], laidByText := true, laidKinds := [.data, .data, .data, .data, .sentinel, .sentinel, .pinned], laidTests := true, laidLooks := .later }
def FnExactReadMatrixUptoCardSaid : Prop := Claim7.holds Tryz.pinned (.plain (OpenSpec.upto fnExactReadMatrixSpec)) fnExactReadMatrixUptoCard
end Rows
end Go.Proofs.YticpoofjnfiebaaGreatDoor
