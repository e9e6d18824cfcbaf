/-
  DERIVED. GIVEN WITH THE SEED: THE CARDS: each row of YtglilddlhibogaaGreatDoorRows.lean that lists a variable, with what it lists TIED to the program's text (the seventh form; the later family's looks); each row that meets fmt, with fmt's text TOLD by the authors' own Lean function (tested against real Go, not proved from fmt's source: count such statements apart). THE CARD IS WHAT COUNTS. Prove the row's statement (the work); the ties are given (YtglilddlhibogaaGreatDoorTie.lean); close each card by the builder's one call (the guide's Derived/Test/ToyasCard.lean, 'card_holds'). Laid BY PROGRAM, IN A SANDBOX (cutbox-door.mjs). By AI agents, Wed Nov 11 2026. No macro, syntax, notation, axiom, sorry.
-/
import Derived.Test.YtglilddlhibogaaGreatDoorRows
import GoSem.ClaimSeven
namespace Go.Proofs.YtglilddlhibogaaGreatDoor
namespace Rows

/-- THE TIED CARD OF 'gatehouselaw.HookPlays'. -/
def hookPlaysCard : Claim7 := { stood := { row := hookPlaysRow, standIns := [], harness := (true, "8e62a842fd4a1310858679e0e7886d09dd5040fec05cbf7c7e0861698f21991e"), looks := true }, kinds := [], alts := [], laidByText := true, laidKinds := [.handle, .data], laidTests := true, laidLooks := .later }
def HookPlaysCardSaid : Prop := Claim7.holds Tryz.pinned (.plain (OpenSpec.ofChange hookPlaysSpec)) hookPlaysCard

/-- THE TIED CARD OF 'gatehouselaw.AsmReads'. -/
def asmReadsCard : Claim7 := { stood := { row := asmReadsRow, standIns := [], harness := (true, "8e62a842fd4a1310858679e0e7886d09dd5040fec05cbf7c7e0861698f21991e"), looks := true }, kinds := [], alts := [], laidByText := true, laidKinds := [.data, .data, .data, .data, .handle, .sentinel, .sentinel, .widerDeep, .widerDeep, .data, .data, .pinned], laidTests := true, laidLooks := .later }
def AsmReadsCardSaid : Prop := Claim7.holds Tryz.pinned (.plain (OpenSpec.ofChange asmReadsSpec)) asmReadsCard

/-- THE SECOND FORM's CARD OF 'gatehouselaw.HookPlays'. -/
def hookPlaysUptoCard : Claim7 := { stood := { row := hookPlaysUptoRow, standIns := [], harness := (true, "8e62a842fd4a1310858679e0e7886d09dd5040fec05cbf7c7e0861698f21991e"), looks := true }, kinds := [], alts := [], laidByText := true, laidKinds := [.handle, .data], laidTests := true, laidLooks := .later }
def HookPlaysUptoCardSaid : Prop := Claim7.holds Tryz.pinned (.plain (OpenSpec.upto hookPlaysSpec)) hookPlaysUptoCard

/-- THE SECOND FORM's CARD OF 'gatehouselaw.AsmReads'. -/
def asmReadsUptoCard : Claim7 := { stood := { row := asmReadsUptoRow, standIns := [], harness := (true, "8e62a842fd4a1310858679e0e7886d09dd5040fec05cbf7c7e0861698f21991e"), looks := true }, kinds := [], alts := [], laidByText := true, laidKinds := [.data, .data, .data, .data, .handle, .sentinel, .sentinel, .widerDeep, .widerDeep, .data, .data, .pinned], laidTests := true, laidLooks := .later }
def AsmReadsUptoCardSaid : Prop := Claim7.holds Tryz.pinned (.plain (OpenSpec.upto asmReadsSpec)) asmReadsUptoCard
end Rows
end Go.Proofs.YtglilddlhibogaaGreatDoor
