/-
  DERIVED. GIVEN WITH THE SEED: THE CARDS: each row of YtpdlmbbgioenoaaGreatDoorRows.lean that lists a variable, with what it lists TIED to the program's text (the seventh form; the later family's looks); each row that meets fmt, with fmt's text TOLD by the authors' own Lean function (tested against real Go, not proved from fmt's source: count such statements apart). THE CARD IS WHAT COUNTS. Prove the row's statement (the work); the ties are given (YtpdlmbbgioenoaaGreatDoorTie.lean); close each card by the builder's one call (the guide's Derived/Test/ToyasCard.lean, 'card_holds'). Laid BY PROGRAM, IN A SANDBOX (cutbox-door.mjs). By AI agents, Wed Nov 11 2026. No macro, syntax, notation, axiom, sorry.
-/
import Derived.Test.YtpdlmbbgioenoaaGreatDoorRows
import GoSem.ClaimSeven
namespace Go.Proofs.YtpdlmbbgioenoaaGreatDoor
namespace Rows

/-- THE TIED CARD OF 'gatehouselaw.HookPlays'. -/
def hookPlaysCard : Claim7 := { stood := { row := hookPlaysRow, standIns := [], harness := (true, "7927eaa1ea14d66e92aec73a3084b530fe1aa9fff9846586713703e7332ca383"), looks := true }, kinds := [], alts := [], laidByText := true, laidKinds := [.handle, .data], laidTests := true, laidLooks := .later }
def HookPlaysCardSaid : Prop := Claim7.holds Tryz.pinned (.plain (OpenSpec.ofChange hookPlaysSpec)) hookPlaysCard

/-- THE TIED CARD OF 'gatehouselaw.AsmReads'. -/
def asmReadsCard : Claim7 := { stood := { row := asmReadsRow, standIns := [], harness := (true, "7927eaa1ea14d66e92aec73a3084b530fe1aa9fff9846586713703e7332ca383"), looks := true }, kinds := [], alts := [], laidByText := true, laidKinds := [.data, .data, .data, .data, .handle, .sentinel, .sentinel, .widerDeep, .widerDeep, .data, .data, .pinned], laidTests := true, laidLooks := .later }
def AsmReadsCardSaid : Prop := Claim7.holds Tryz.pinned (.plain (OpenSpec.ofChange asmReadsSpec)) asmReadsCard

/-- THE TIED CARD OF 'gatehousekeep.AsmBack'. -/
def asmBackCard : Claim7 := { stood := { row := asmBackRow, standIns := [], harness := (true, "7927eaa1ea14d66e92aec73a3084b530fe1aa9fff9846586713703e7332ca383"), looks := true }, kinds := [], alts := [], laidByText := true, laidKinds := [.data, .data, .data, .data, .handle, .sentinel, .sentinel, .widerDeep, .widerDeep, .pinned], laidTests := true, laidLooks := .later }
def AsmBackCardSaid : Prop := Claim7.holds Tryz.pinned (.plain (OpenSpec.ofChange asmBackSpec)) asmBackCard

/-- THE TIED CARD OF 'gatehousekeep.VerifyDead'. -/
def verifyDeadCard : Claim7 := { stood := { row := verifyDeadRow, standIns := [], harness := (true, "7927eaa1ea14d66e92aec73a3084b530fe1aa9fff9846586713703e7332ca383"), looks := true }, kinds := [], alts := [], laidByText := true, laidKinds := [.data, .data, .data, .data, .handle, .sentinel, .sentinel, .widerDeep, .widerDeep, .pinned], laidTests := true, laidLooks := .later }
def VerifyDeadCardSaid : Prop := Claim7.holds Tryz.pinned (.plain (OpenSpec.ofChange verifyDeadSpec)) verifyDeadCard

/-- THE TIED CARD OF 'gatehousekeep.MachineSound'. -/
def machineSoundCard : Claim7 := { stood := { row := machineSoundRow, standIns := [], harness := (true, "7927eaa1ea14d66e92aec73a3084b530fe1aa9fff9846586713703e7332ca383"), looks := true }, kinds := [], alts := [], laidByText := true, laidKinds := [.data, .data, .data, .data, .handle, .sentinel, .sentinel, .widerDeep, .widerDeep, .pinned], laidTests := true, laidLooks := .later }
def MachineSoundCardSaid : Prop := Claim7.holds Tryz.pinned (.plain (OpenSpec.ofChange machineSoundSpec)) machineSoundCard

/-- THE TIED CARD OF 'gatehousekeep.HookFair'. -/
def hookFairCard : Claim7 := { stood := { row := hookFairRow, standIns := [], harness := (true, "7927eaa1ea14d66e92aec73a3084b530fe1aa9fff9846586713703e7332ca383"), looks := true }, kinds := [], alts := [], laidByText := true, laidKinds := [.data, .data, .data, .data, .handle, .sentinel, .sentinel, .widerDeep, .widerDeep, .pinned], laidTests := true, laidLooks := .later }
def HookFairCardSaid : Prop := Claim7.holds Tryz.pinned (.plain (OpenSpec.ofChange hookFairSpec)) hookFairCard

/-- THE TIED CARD OF 'gatehousekeep.HookApart'. -/
def hookApartCard : Claim7 := { stood := { row := hookApartRow, standIns := [], harness := (true, "7927eaa1ea14d66e92aec73a3084b530fe1aa9fff9846586713703e7332ca383"), looks := true }, kinds := [], alts := [], laidByText := true, laidKinds := [.data, .data, .data, .data, .handle, .sentinel, .sentinel, .widerDeep, .widerDeep, .pinned], laidTests := true, laidLooks := .later }
def HookApartCardSaid : Prop := Claim7.holds Tryz.pinned (.plain (OpenSpec.ofChange hookApartSpec)) hookApartCard

/-- THE SECOND FORM's CARD OF 'gatehouselaw.HookPlays'. -/
def hookPlaysUptoCard : Claim7 := { stood := { row := hookPlaysUptoRow, standIns := [], harness := (true, "7927eaa1ea14d66e92aec73a3084b530fe1aa9fff9846586713703e7332ca383"), looks := true }, kinds := [], alts := [], laidByText := true, laidKinds := [.handle, .data], laidTests := true, laidLooks := .later }
def HookPlaysUptoCardSaid : Prop := Claim7.holds Tryz.pinned (.plain (OpenSpec.upto hookPlaysSpec)) hookPlaysUptoCard

/-- THE SECOND FORM's CARD OF 'gatehouselaw.AsmReads'. -/
def asmReadsUptoCard : Claim7 := { stood := { row := asmReadsUptoRow, standIns := [], harness := (true, "7927eaa1ea14d66e92aec73a3084b530fe1aa9fff9846586713703e7332ca383"), looks := true }, kinds := [], alts := [], laidByText := true, laidKinds := [.data, .data, .data, .data, .handle, .sentinel, .sentinel, .widerDeep, .widerDeep, .data, .data, .pinned], laidTests := true, laidLooks := .later }
def AsmReadsUptoCardSaid : Prop := Claim7.holds Tryz.pinned (.plain (OpenSpec.upto asmReadsSpec)) asmReadsUptoCard

/-- THE SECOND FORM's CARD OF 'gatehousekeep.AsmBack'. -/
def asmBackUptoCard : Claim7 := { stood := { row := asmBackUptoRow, standIns := [], harness := (true, "7927eaa1ea14d66e92aec73a3084b530fe1aa9fff9846586713703e7332ca383"), looks := true }, kinds := [], alts := [], laidByText := true, laidKinds := [.data, .data, .data, .data, .handle, .sentinel, .sentinel, .widerDeep, .widerDeep, .pinned], laidTests := true, laidLooks := .later }
def AsmBackUptoCardSaid : Prop := Claim7.holds Tryz.pinned (.plain (OpenSpec.upto asmBackSpec)) asmBackUptoCard

/-- THE SECOND FORM's CARD OF 'gatehousekeep.VerifyDead'. -/
def verifyDeadUptoCard : Claim7 := { stood := { row := verifyDeadUptoRow, standIns := [], harness := (true, "7927eaa1ea14d66e92aec73a3084b530fe1aa9fff9846586713703e7332ca383"), looks := true }, kinds := [], alts := [], laidByText := true, laidKinds := [.data, .data, .data, .data, .handle, .sentinel, .sentinel, .widerDeep, .widerDeep, .pinned], laidTests := true, laidLooks := .later }
def VerifyDeadUptoCardSaid : Prop := Claim7.holds Tryz.pinned (.plain (OpenSpec.upto verifyDeadSpec)) verifyDeadUptoCard

/-- THE SECOND FORM's CARD OF 'gatehousekeep.MachineSound'. -/
def machineSoundUptoCard : Claim7 := { stood := { row := machineSoundUptoRow, standIns := [], harness := (true, "7927eaa1ea14d66e92aec73a3084b530fe1aa9fff9846586713703e7332ca383"), looks := true }, kinds := [], alts := [], laidByText := true, laidKinds := [.data, .data, .data, .data, .handle, .sentinel, .sentinel, .widerDeep, .widerDeep, .pinned], laidTests := true, laidLooks := .later }
def MachineSoundUptoCardSaid : Prop := Claim7.holds Tryz.pinned (.plain (OpenSpec.upto machineSoundSpec)) machineSoundUptoCard

/-- THE SECOND FORM's CARD OF 'gatehousekeep.HookFair'. -/
def hookFairUptoCard : Claim7 := { stood := { row := hookFairUptoRow, standIns := [], harness := (true, "7927eaa1ea14d66e92aec73a3084b530fe1aa9fff9846586713703e7332ca383"), looks := true }, kinds := [], alts := [], laidByText := true, laidKinds := [.data, .data, .data, .data, .handle, .sentinel, .sentinel, .widerDeep, .widerDeep, .pinned], laidTests := true, laidLooks := .later }
def HookFairUptoCardSaid : Prop := Claim7.holds Tryz.pinned (.plain (OpenSpec.upto hookFairSpec)) hookFairUptoCard

/-- THE SECOND FORM's CARD OF 'gatehousekeep.HookApart'. -/
def hookApartUptoCard : Claim7 := { stood := { row := hookApartUptoRow, standIns := [], harness := (true, "7927eaa1ea14d66e92aec73a3084b530fe1aa9fff9846586713703e7332ca383"), looks := true }, kinds := [], alts := [], laidByText := true, laidKinds := [.data, .data, .data, .data, .handle, .sentinel, .sentinel, .widerDeep, .widerDeep, .pinned], laidTests := true, laidLooks := .later }
def HookApartUptoCardSaid : Prop := Claim7.holds Tryz.pinned (.plain (OpenSpec.upto hookApartSpec)) hookApartUptoCard
end Rows
end Go.Proofs.YtpdlmbbgioenoaaGreatDoor
