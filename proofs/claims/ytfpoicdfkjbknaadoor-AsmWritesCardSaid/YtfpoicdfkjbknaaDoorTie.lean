/-
  DERIVED. GIVEN WITH THE SEED: THE PROGRAM's TIES (one call each: nine closed facts by the kernel) AND EACH ROW's TIE, after the 31st guide's Derived/Test/Toyas{Tie, Card}.lean. No idea stands in it: it is a product of the set-up. Laid BY PROGRAM, IN A SANDBOX (cutbox-door.mjs). By AI agents, Wed Nov 11 2026. No macro, syntax, notation, axiom, sorry.
-/
import Derived.Test.YtfpoicdfkjbknaaDoorRows
import Derived.LaidByTextLater
import Derived.SevenTiedAt
import Derived.LaidSub
import Derived.LaidOnce
namespace Go.Proofs.YtfpoicdfkjbknaaDoor
open Go
set_option maxRecDepth 100000
theorem seatTie1 : Tryd.prog.laidByTextLater [("math/bits.deBruijn32tab", Rows.laid_math_bits_deBruijn32tab), ("math/bits.deBruijn64tab", Rows.laid_math_bits_deBruijn64tab), ("internal/strconv.uint64pow10", Rows.laid_internal_strconv_uint64pow10), ("errors.errorType", Rows.laid_errors_errorType), ("gatehouse/asm.names", Rows.laid_gatehouse_asm_names), ("gatehouse/asm.calls", Rows.laid_gatehouse_asm_calls), ("gatehouse/gatehouseref.words", Rows.laid_gatehouse_gatehouseref_words), ("gatehouse/gatehouseref.calls", Rows.laid_gatehouse_gatehouseref_calls), ("gatehouse/gatehouseref.all", Rows.laid_gatehouse_gatehouseref_all)] [.data, .data, .data, .handle, .widerDeep, .widerDeep, .data, .data, .data] true :=
  Program.laidByTextLater_by_one 56 8 65 (by kernel_rfl) (by kernel_rfl) (by kernel_rfl) (by kernel_rfl) (by kernel_rfl) (by kernel_rfl) (fun _ _ => by kernel_rfl)
theorem noOwnUnsafe : Tryd.pinned.checked.prog.headLifts.contains "ownunsafe" = false := by kernel_rfl
theorem tie : Tryd.prog.laidByTextLater [("errors.errorType", Rows.laid_errors_errorType)] [.handle] true :=
  Program.laidByTextLater.sub seatTie1 ["errors.errorType"] (by kernel_rfl) (by kernel_rfl)
theorem machineRuns_row_tie : Rows.machineRunsRow.laidByTextAt .later Tryd.pinned [.handle] true :=
  OpenClaim.laidByTextAt_later rfl rfl tie noOwnUnsafe
theorem tie2 : Tryd.prog.laidByTextLater [("math/bits.deBruijn32tab", Rows.laid_math_bits_deBruijn32tab), ("math/bits.deBruijn64tab", Rows.laid_math_bits_deBruijn64tab), ("internal/strconv.uint64pow10", Rows.laid_internal_strconv_uint64pow10), ("errors.errorType", Rows.laid_errors_errorType), ("gatehouse/asm.names", Rows.laid_gatehouse_asm_names), ("gatehouse/asm.calls", Rows.laid_gatehouse_asm_calls), ("gatehouse/gatehouseref.words", Rows.laid_gatehouse_gatehouseref_words), ("gatehouse/gatehouseref.calls", Rows.laid_gatehouse_gatehouseref_calls)] [.data, .data, .data, .handle, .widerDeep, .widerDeep, .data, .data] true :=
  Program.laidByTextLater.sub seatTie1 ["math/bits.deBruijn32tab", "math/bits.deBruijn64tab", "internal/strconv.uint64pow10", "errors.errorType", "gatehouse/asm.names", "gatehouse/asm.calls", "gatehouse/gatehouseref.words", "gatehouse/gatehouseref.calls"] (by kernel_rfl) (by kernel_rfl)
theorem asmWrites_row_tie : Rows.asmWritesRow.laidByTextAt .later Tryd.pinned [.data, .data, .data, .handle, .widerDeep, .widerDeep, .data, .data] true :=
  OpenClaim.laidByTextAt_later rfl rfl tie2 noOwnUnsafe
theorem tie3 : Tryd.prog.laidByTextLater [("errors.errorType", Rows.laid_errors_errorType), ("gatehouse/gatehouseref.all", Rows.laid_gatehouse_gatehouseref_all)] [.handle, .data] true :=
  Program.laidByTextLater.sub seatTie1 ["errors.errorType", "gatehouse/gatehouseref.all"] (by kernel_rfl) (by kernel_rfl)
theorem verifyGoes_row_tie : Rows.verifyGoesRow.laidByTextAt .later Tryd.pinned [.handle, .data] true :=
  OpenClaim.laidByTextAt_later rfl rfl tie3 noOwnUnsafe
theorem machineRunsUpto_row_tie : Rows.machineRunsUptoRow.laidByTextAt .later Tryd.pinned [.handle] true :=
  OpenClaim.laidByTextAt_later rfl rfl tie noOwnUnsafe
theorem asmWritesUpto_row_tie : Rows.asmWritesUptoRow.laidByTextAt .later Tryd.pinned [.data, .data, .data, .handle, .widerDeep, .widerDeep, .data, .data] true :=
  OpenClaim.laidByTextAt_later rfl rfl tie2 noOwnUnsafe
theorem verifyGoesUpto_row_tie : Rows.verifyGoesUptoRow.laidByTextAt .later Tryd.pinned [.handle, .data] true :=
  OpenClaim.laidByTextAt_later rfl rfl tie3 noOwnUnsafe
end Go.Proofs.YtfpoicdfkjbknaaDoor
