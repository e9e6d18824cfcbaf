/-
  DERIVED. GIVEN WITH THE SEED: THE CARDS: each row of YtfpoicdfkjbknaaDoorRows.lean that lists a variable, with what it lists TIED to the program's text (the seventh form; the later family's looks); each row that meets fmt, with fmt's text TOLD by the authors' own Lean function (tested against real Go, not proved from fmt's source: count such statements apart). THE CARD IS WHAT COUNTS. Prove the row's statement (the work); the ties are given (YtfpoicdfkjbknaaDoorTie.lean); close each card by the builder's one call (the guide's Derived/Test/ToyasCard.lean, 'card_holds'). Laid BY PROGRAM, IN A SANDBOX (cutbox-door.mjs). By AI agents, Wed Nov 11 2026. No macro, syntax, notation, axiom, sorry.
-/
import Derived.Test.YtfpoicdfkjbknaaDoorRows
import GoSem.ClaimSeven
namespace Go.Proofs.YtfpoicdfkjbknaaDoor
namespace Rows

/-- THE TIED CARD OF 'gatehouselaw.MachineRuns'. -/
def machineRunsCard : Claim7 := { stood := { row := machineRunsRow, standIns := [], harness := (true, "e2aa9ca0601fa1048631a1dd3f810477e5297cc872ab55ea0a0d4a180a92f7e0"), looks := true }, kinds := [], alts := [], laidByText := true, laidKinds := [.handle], laidTests := true, laidLooks := .later }
def MachineRunsCardSaid : Prop := Claim7.holds Tryd.pinned (.plain (OpenSpec.ofChange machineRunsSpec)) machineRunsCard

/-- THE TIED CARD OF 'gatehouselaw.AsmWrites'. -/
def asmWritesCard : Claim7 := { stood := { row := asmWritesRow, standIns := [], harness := (true, "e2aa9ca0601fa1048631a1dd3f810477e5297cc872ab55ea0a0d4a180a92f7e0"), looks := true }, kinds := [], alts := [], laidByText := true, laidKinds := [.data, .data, .data, .handle, .widerDeep, .widerDeep, .data, .data], laidTests := true, laidLooks := .later }
def AsmWritesCardSaid : Prop := Claim7.holds Tryd.pinned (.plain (OpenSpec.ofChange asmWritesSpec)) asmWritesCard

/-- THE TIED CARD OF 'gatehouselaw.VerifyGoes'. -/
def verifyGoesCard : Claim7 := { stood := { row := verifyGoesRow, standIns := [], harness := (true, "e2aa9ca0601fa1048631a1dd3f810477e5297cc872ab55ea0a0d4a180a92f7e0"), looks := true }, kinds := [], alts := [], laidByText := true, laidKinds := [.handle, .data], laidTests := true, laidLooks := .later }
def VerifyGoesCardSaid : Prop := Claim7.holds Tryd.pinned (.plain (OpenSpec.ofChange verifyGoesSpec)) verifyGoesCard

/-- THE SECOND FORM's CARD OF 'gatehouselaw.MachineRuns'. -/
def machineRunsUptoCard : Claim7 := { stood := { row := machineRunsUptoRow, standIns := [], harness := (true, "e2aa9ca0601fa1048631a1dd3f810477e5297cc872ab55ea0a0d4a180a92f7e0"), looks := true }, kinds := [], alts := [], laidByText := true, laidKinds := [.handle], laidTests := true, laidLooks := .later }
def MachineRunsUptoCardSaid : Prop := Claim7.holds Tryd.pinned (.plain (OpenSpec.upto machineRunsSpec)) machineRunsUptoCard

/-- THE SECOND FORM's CARD OF 'gatehouselaw.AsmWrites'. -/
def asmWritesUptoCard : Claim7 := { stood := { row := asmWritesUptoRow, standIns := [], harness := (true, "e2aa9ca0601fa1048631a1dd3f810477e5297cc872ab55ea0a0d4a180a92f7e0"), looks := true }, kinds := [], alts := [], laidByText := true, laidKinds := [.data, .data, .data, .handle, .widerDeep, .widerDeep, .data, .data], laidTests := true, laidLooks := .later }
def AsmWritesUptoCardSaid : Prop := Claim7.holds Tryd.pinned (.plain (OpenSpec.upto asmWritesSpec)) asmWritesUptoCard

/-- THE SECOND FORM's CARD OF 'gatehouselaw.VerifyGoes'. -/
def verifyGoesUptoCard : Claim7 := { stood := { row := verifyGoesUptoRow, standIns := [], harness := (true, "e2aa9ca0601fa1048631a1dd3f810477e5297cc872ab55ea0a0d4a180a92f7e0"), looks := true }, kinds := [], alts := [], laidByText := true, laidKinds := [.handle, .data], laidTests := true, laidLooks := .later }
def VerifyGoesUptoCardSaid : Prop := Claim7.holds Tryd.pinned (.plain (OpenSpec.upto verifyGoesSpec)) verifyGoesUptoCard
end Rows
end Go.Proofs.YtfpoicdfkjbknaaDoor
