/-
  DERIVED. GIVEN WITH THE SEED: THE CARDS: each row of YtfeoanopdlpabaaGreatDoorRows.lean that lists a variable, with what it lists TIED to the program's text (the seventh form; the later family's looks); each row that meets fmt, with fmt's text TOLD by the authors' own Lean function (tested against real Go, not proved from fmt's source: count such statements apart). THE CARD IS WHAT COUNTS. Prove the row's statement (the work); the ties are given (YtfeoanopdlpabaaGreatDoorTie.lean); close each card by the builder's one call (the guide's Derived/Test/ToyasCard.lean, 'card_holds'). Laid BY PROGRAM, IN A SANDBOX (cutbox-door.mjs). By AI agents, Wed Nov 11 2026. No macro, syntax, notation, axiom, sorry.
-/
import Derived.Test.YtfeoanopdlpabaaGreatDoorRows
import GoSem.ClaimSeven
namespace Go.Proofs.YtfeoanopdlpabaaGreatDoor
namespace Rows

/-- THE TIED CARD OF 'laws.FnExactServerOk'. -/
def fnExactServerOkCard : Claim7 := { stood := { row := fnExactServerOkRow, standIns := [], harness := (true, "96fecfa442cb48a6cf30c51d2a1391d3730e43f9b4082fe8c3461e42f3f87ef9"), looks := true }, kinds := [], alts := [], laidByText := true, laidKinds := [.data, .data, .data, .sentinel, .sentinel, .data], laidTests := true, laidLooks := .later }
def FnExactServerOkCardSaid : Prop := Claim7.holds Tryz.pinned (.plain (OpenSpec.ofChange fnExactServerOkSpec)) fnExactServerOkCard

/-- THE TIED CARD OF 'laws.FnExactServerRise'. -/
def fnExactServerRiseCard : Claim7 := { stood := { row := fnExactServerRiseRow, standIns := [], harness := (true, "96fecfa442cb48a6cf30c51d2a1391d3730e43f9b4082fe8c3461e42f3f87ef9"), looks := true }, kinds := [], alts := [], laidByText := true, laidKinds := [.data, .data, .data, .sentinel, .sentinel, .data], laidTests := true, laidLooks := .later }
def FnExactServerRiseCardSaid : Prop := Claim7.holds Tryz.pinned (.plain (OpenSpec.ofChange fnExactServerRiseSpec)) fnExactServerRiseCard

/-- THE TIED CARD OF 'laws.FnExactServerFall'. -/
def fnExactServerFallCard : Claim7 := { stood := { row := fnExactServerFallRow, standIns := [], harness := (true, "96fecfa442cb48a6cf30c51d2a1391d3730e43f9b4082fe8c3461e42f3f87ef9"), looks := true }, kinds := [], alts := [], laidByText := true, laidKinds := [.data, .data, .data, .sentinel, .sentinel, .data], laidTests := true, laidLooks := .later }
def FnExactServerFallCardSaid : Prop := Claim7.holds Tryz.pinned (.plain (OpenSpec.ofChange fnExactServerFallSpec)) fnExactServerFallCard

/-- THE TIED CARD OF 'laws.FnExactServerPut'. -/
def fnExactServerPutCard : Claim7 := { stood := { row := fnExactServerPutRow, standIns := [], harness := (true, "96fecfa442cb48a6cf30c51d2a1391d3730e43f9b4082fe8c3461e42f3f87ef9"), looks := true }, kinds := [], alts := [], laidByText := true, laidKinds := [.data, .data, .data, .sentinel, .sentinel, .data], laidTests := true, laidLooks := .later }
def FnExactServerPutCardSaid : Prop := Claim7.holds Tryz.pinned (.plain (OpenSpec.ofChange fnExactServerPutSpec)) fnExactServerPutCard

/-- THE TIED CARD OF 'laws.FnExactServerTake'. -/
def fnExactServerTakeCard : Claim7 := { stood := { row := fnExactServerTakeRow, standIns := [], harness := (true, "96fecfa442cb48a6cf30c51d2a1391d3730e43f9b4082fe8c3461e42f3f87ef9"), looks := true }, kinds := [], alts := [], laidByText := true, laidKinds := [.data, .data, .data, .sentinel, .sentinel, .data], laidTests := true, laidLooks := .later }
def FnExactServerTakeCardSaid : Prop := Claim7.holds Tryz.pinned (.plain (OpenSpec.ofChange fnExactServerTakeSpec)) fnExactServerTakeCard

/-- THE TIED CARD OF 'laws.FnExactClientHear'. -/
def fnExactClientHearCard : Claim7 := { stood := { row := fnExactClientHearRow, standIns := [], harness := (true, "96fecfa442cb48a6cf30c51d2a1391d3730e43f9b4082fe8c3461e42f3f87ef9"), looks := true }, kinds := [], alts := [], laidByText := true, laidKinds := [.data, .data, .data, .data, .sentinel, .sentinel, .pinned], laidTests := true, laidLooks := .later }
def FnExactClientHearCardSaid : Prop := Claim7.holds Tryz.pinned (.plain (OpenSpec.ofChange fnExactClientHearSpec)) fnExactClientHearCard

/-- THE TIED CARD OF 'laws.FnExactWorldOk'. -/
def fnExactWorldOkCard : Claim7 := { stood := { row := fnExactWorldOkRow, standIns := [], harness := (true, "96fecfa442cb48a6cf30c51d2a1391d3730e43f9b4082fe8c3461e42f3f87ef9"), looks := true }, kinds := [], alts := [], laidByText := true, laidKinds := [.data, .data, .data, .sentinel, .sentinel, .data], laidTests := true, laidLooks := .later }
def FnExactWorldOkCardSaid : Prop := Claim7.holds Tryz.pinned (.plain (OpenSpec.ofChange fnExactWorldOkSpec)) fnExactWorldOkCard

/-- THE TIED CARD OF 'laws.FnExactWorldStill'. -/
def fnExactWorldStillCard : Claim7 := { stood := { row := fnExactWorldStillRow, standIns := [], harness := (true, "96fecfa442cb48a6cf30c51d2a1391d3730e43f9b4082fe8c3461e42f3f87ef9"), looks := true }, kinds := [], alts := [], laidByText := true, laidKinds := [.data, .data, .data, .sentinel, .sentinel, .data], laidTests := true, laidLooks := .later }
def FnExactWorldStillCardSaid : Prop := Claim7.holds Tryz.pinned (.plain (OpenSpec.ofChange fnExactWorldStillSpec)) fnExactWorldStillCard

/-- THE TIED CARD OF 'laws.FnExactServerHear'. -/
def fnExactServerHearCard : Claim7 := { stood := { row := fnExactServerHearRow, standIns := [], harness := (true, "96fecfa442cb48a6cf30c51d2a1391d3730e43f9b4082fe8c3461e42f3f87ef9"), looks := true }, kinds := [], alts := [], laidByText := true, laidKinds := [.data, .data, .data, .sentinel, .sentinel, .data], laidTests := true, laidLooks := .later }
def FnExactServerHearCardSaid : Prop := Claim7.holds Tryz.pinned (.plain (OpenSpec.ofChange fnExactServerHearSpec)) fnExactServerHearCard

/-- THE TIED CARD OF 'laws.FnExactWorldSafe'. -/
def fnExactWorldSafeCard : Claim7 := { stood := { row := fnExactWorldSafeRow, standIns := [], harness := (true, "96fecfa442cb48a6cf30c51d2a1391d3730e43f9b4082fe8c3461e42f3f87ef9"), looks := true }, kinds := [], alts := [], laidByText := true, laidKinds := [.data, .data, .data, .sentinel, .sentinel, .data], laidTests := true, laidLooks := .later }
def FnExactWorldSafeCardSaid : Prop := Claim7.holds Tryz.pinned (.plain (OpenSpec.ofChange fnExactWorldSafeSpec)) fnExactWorldSafeCard

/-- THE TIED CARD OF 'laws.FnExactServerTick'. -/
def fnExactServerTickCard : Claim7 := { stood := { row := fnExactServerTickRow, standIns := [], harness := (true, "96fecfa442cb48a6cf30c51d2a1391d3730e43f9b4082fe8c3461e42f3f87ef9"), looks := true }, kinds := [], alts := [], laidByText := true, laidKinds := [.data, .data, .data, .sentinel, .sentinel, .data], laidTests := true, laidLooks := .later }
def FnExactServerTickCardSaid : Prop := Claim7.holds Tryz.pinned (.plain (OpenSpec.ofChange fnExactServerTickSpec)) fnExactServerTickCard

/-- THE SECOND FORM's CARD OF 'laws.FnExactServerOk'. -/
def fnExactServerOkUptoCard : Claim7 := { stood := { row := fnExactServerOkUptoRow, standIns := [], harness := (true, "96fecfa442cb48a6cf30c51d2a1391d3730e43f9b4082fe8c3461e42f3f87ef9"), looks := true }, kinds := [], alts := [], laidByText := true, laidKinds := [.data, .data, .data, .sentinel, .sentinel, .data], laidTests := true, laidLooks := .later }
def FnExactServerOkUptoCardSaid : Prop := Claim7.holds Tryz.pinned (.plain (OpenSpec.upto fnExactServerOkSpec)) fnExactServerOkUptoCard

/-- THE SECOND FORM's CARD OF 'laws.FnExactServerRise'. -/
def fnExactServerRiseUptoCard : Claim7 := { stood := { row := fnExactServerRiseUptoRow, standIns := [], harness := (true, "96fecfa442cb48a6cf30c51d2a1391d3730e43f9b4082fe8c3461e42f3f87ef9"), looks := true }, kinds := [], alts := [], laidByText := true, laidKinds := [.data, .data, .data, .sentinel, .sentinel, .data], laidTests := true, laidLooks := .later }
def FnExactServerRiseUptoCardSaid : Prop := Claim7.holds Tryz.pinned (.plain (OpenSpec.upto fnExactServerRiseSpec)) fnExactServerRiseUptoCard

/-- THE SECOND FORM's CARD OF 'laws.FnExactServerFall'. -/
def fnExactServerFallUptoCard : Claim7 := { stood := { row := fnExactServerFallUptoRow, standIns := [], harness := (true, "96fecfa442cb48a6cf30c51d2a1391d3730e43f9b4082fe8c3461e42f3f87ef9"), looks := true }, kinds := [], alts := [], laidByText := true, laidKinds := [.data, .data, .data, .sentinel, .sentinel, .data], laidTests := true, laidLooks := .later }
def FnExactServerFallUptoCardSaid : Prop := Claim7.holds Tryz.pinned (.plain (OpenSpec.upto fnExactServerFallSpec)) fnExactServerFallUptoCard

/-- THE SECOND FORM's CARD OF 'laws.FnExactServerPut'. -/
def fnExactServerPutUptoCard : Claim7 := { stood := { row := fnExactServerPutUptoRow, standIns := [], harness := (true, "96fecfa442cb48a6cf30c51d2a1391d3730e43f9b4082fe8c3461e42f3f87ef9"), looks := true }, kinds := [], alts := [], laidByText := true, laidKinds := [.data, .data, .data, .sentinel, .sentinel, .data], laidTests := true, laidLooks := .later }
def FnExactServerPutUptoCardSaid : Prop := Claim7.holds Tryz.pinned (.plain (OpenSpec.upto fnExactServerPutSpec)) fnExactServerPutUptoCard

/-- THE SECOND FORM's CARD OF 'laws.FnExactServerTake'. -/
def fnExactServerTakeUptoCard : Claim7 := { stood := { row := fnExactServerTakeUptoRow, standIns := [], harness := (true, "96fecfa442cb48a6cf30c51d2a1391d3730e43f9b4082fe8c3461e42f3f87ef9"), looks := true }, kinds := [], alts := [], laidByText := true, laidKinds := [.data, .data, .data, .sentinel, .sentinel, .data], laidTests := true, laidLooks := .later }
def FnExactServerTakeUptoCardSaid : Prop := Claim7.holds Tryz.pinned (.plain (OpenSpec.upto fnExactServerTakeSpec)) fnExactServerTakeUptoCard

/-- THE SECOND FORM's CARD OF 'laws.FnExactClientHear'. -/
def fnExactClientHearUptoCard : Claim7 := { stood := { row := fnExactClientHearUptoRow, standIns := [], harness := (true, "96fecfa442cb48a6cf30c51d2a1391d3730e43f9b4082fe8c3461e42f3f87ef9"), looks := true }, kinds := [], alts := [], laidByText := true, laidKinds := [.data, .data, .data, .data, .sentinel, .sentinel, .pinned], laidTests := true, laidLooks := .later }
def FnExactClientHearUptoCardSaid : Prop := Claim7.holds Tryz.pinned (.plain (OpenSpec.upto fnExactClientHearSpec)) fnExactClientHearUptoCard

/-- THE SECOND FORM's CARD OF 'laws.FnExactWorldOk'. -/
def fnExactWorldOkUptoCard : Claim7 := { stood := { row := fnExactWorldOkUptoRow, standIns := [], harness := (true, "96fecfa442cb48a6cf30c51d2a1391d3730e43f9b4082fe8c3461e42f3f87ef9"), looks := true }, kinds := [], alts := [], laidByText := true, laidKinds := [.data, .data, .data, .sentinel, .sentinel, .data], laidTests := true, laidLooks := .later }
def FnExactWorldOkUptoCardSaid : Prop := Claim7.holds Tryz.pinned (.plain (OpenSpec.upto fnExactWorldOkSpec)) fnExactWorldOkUptoCard

/-- THE SECOND FORM's CARD OF 'laws.FnExactWorldStill'. -/
def fnExactWorldStillUptoCard : Claim7 := { stood := { row := fnExactWorldStillUptoRow, standIns := [], harness := (true, "96fecfa442cb48a6cf30c51d2a1391d3730e43f9b4082fe8c3461e42f3f87ef9"), looks := true }, kinds := [], alts := [], laidByText := true, laidKinds := [.data, .data, .data, .sentinel, .sentinel, .data], laidTests := true, laidLooks := .later }
def FnExactWorldStillUptoCardSaid : Prop := Claim7.holds Tryz.pinned (.plain (OpenSpec.upto fnExactWorldStillSpec)) fnExactWorldStillUptoCard

/-- THE SECOND FORM's CARD OF 'laws.FnExactServerHear'. -/
def fnExactServerHearUptoCard : Claim7 := { stood := { row := fnExactServerHearUptoRow, standIns := [], harness := (true, "96fecfa442cb48a6cf30c51d2a1391d3730e43f9b4082fe8c3461e42f3f87ef9"), looks := true }, kinds := [], alts := [], laidByText := true, laidKinds := [.data, .data, .data, .sentinel, .sentinel, .data], laidTests := true, laidLooks := .later }
def FnExactServerHearUptoCardSaid : Prop := Claim7.holds Tryz.pinned (.plain (OpenSpec.upto fnExactServerHearSpec)) fnExactServerHearUptoCard

/-- THE SECOND FORM's CARD OF 'laws.FnExactWorldSafe'. -/
def fnExactWorldSafeUptoCard : Claim7 := { stood := { row := fnExactWorldSafeUptoRow, standIns := [], harness := (true, "96fecfa442cb48a6cf30c51d2a1391d3730e43f9b4082fe8c3461e42f3f87ef9"), looks := true }, kinds := [], alts := [], laidByText := true, laidKinds := [.data, .data, .data, .sentinel, .sentinel, .data], laidTests := true, laidLooks := .later }
def FnExactWorldSafeUptoCardSaid : Prop := Claim7.holds Tryz.pinned (.plain (OpenSpec.upto fnExactWorldSafeSpec)) fnExactWorldSafeUptoCard

/-- THE SECOND FORM's CARD OF 'laws.FnExactServerTick'. -/
def fnExactServerTickUptoCard : Claim7 := { stood := { row := fnExactServerTickUptoRow, standIns := [], harness := (true, "96fecfa442cb48a6cf30c51d2a1391d3730e43f9b4082fe8c3461e42f3f87ef9"), looks := true }, kinds := [], alts := [], laidByText := true, laidKinds := [.data, .data, .data, .sentinel, .sentinel, .data], laidTests := true, laidLooks := .later }
def FnExactServerTickUptoCardSaid : Prop := Claim7.holds Tryz.pinned (.plain (OpenSpec.upto fnExactServerTickSpec)) fnExactServerTickUptoCard
end Rows
end Go.Proofs.YtfeoanopdlpabaaGreatDoor
