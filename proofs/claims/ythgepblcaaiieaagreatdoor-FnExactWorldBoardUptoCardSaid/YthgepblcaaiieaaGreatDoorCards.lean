/-
  DERIVED. GIVEN WITH THE SEED: THE CARDS: each row of YthgepblcaaiieaaGreatDoorRows.lean that lists a variable, with what it lists TIED to the program's text (the seventh form; the later family's looks); each row that meets fmt, with fmt's text TOLD by the authors' own Lean function (tested against real Go, not proved from fmt's source: count such statements apart). THE CARD IS WHAT COUNTS. Prove the row's statement (the work); the ties are given (YthgepblcaaiieaaGreatDoorTie.lean); close each card by the builder's one call (the guide's Derived/Test/ToyasCard.lean, 'card_holds'). Laid BY PROGRAM, IN A SANDBOX (cutbox-door.mjs). By AI agents, Wed Nov 11 2026. No macro, syntax, notation, axiom, sorry.
-/
import Derived.Test.YthgepblcaaiieaaGreatDoorRows
import GoSem.ClaimSeven
namespace Go.Proofs.YthgepblcaaiieaaGreatDoor
namespace Rows

/-- THE TIED CARD OF 'laws.FnExactWorldBoard'. -/
def fnExactWorldBoardCard : Claim7 := { stood := { row := fnExactWorldBoardRow, standIns := [], harness := (true, "6aef3ddd2096264d9b6cfe8162685fa6e9f289e38c03af38664f9aaa9f9e128a"), looks := true }, kinds := [], alts := [], laidByText := true, laidKinds := [.data, .data, .data, .sentinel, .sentinel, .data, .data], laidTests := true, laidLooks := .later }
def FnExactWorldBoardCardSaid : Prop := Claim7.holds Tryz.pinned (.plain (OpenSpec.ofChange fnExactWorldBoardSpec)) fnExactWorldBoardCard

/-- THE SECOND FORM's CARD OF 'laws.FnExactWorldBoard'. -/
def fnExactWorldBoardUptoCard : Claim7 := { stood := { row := fnExactWorldBoardUptoRow, standIns := [], harness := (true, "6aef3ddd2096264d9b6cfe8162685fa6e9f289e38c03af38664f9aaa9f9e128a"), looks := true }, kinds := [], alts := [], laidByText := true, laidKinds := [.data, .data, .data, .sentinel, .sentinel, .data, .data], laidTests := true, laidLooks := .later }
def FnExactWorldBoardUptoCardSaid : Prop := Claim7.holds Tryz.pinned (.plain (OpenSpec.upto fnExactWorldBoardSpec)) fnExactWorldBoardUptoCard
end Rows
end Go.Proofs.YthgepblcaaiieaaGreatDoor
