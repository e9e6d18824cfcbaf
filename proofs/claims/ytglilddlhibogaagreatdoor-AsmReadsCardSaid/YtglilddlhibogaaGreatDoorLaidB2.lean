/- What the condition on the laid variables gives the walks (asmReadsRow and its like): the handle of the type error, the tables, strconv's two errors; and a world that meets it. No conditions. -/
import Derived.Test.YtglilddlhibogaaGreatDoorRows
import Derived.WalkKit
import Derived.ProofKit
import Derived.OpenShut
import Derived.LaidMore
import Derived.LaidHandle
import Derived.Lib.LaidU8
import Derived.Lib.LaidTab
import Derived.Lib.ItoaNum
import Derived.ChangeArms
import Derived.Carry
import Derived.Deep.Slices
import Derived.Deep.Fields
import Derived.Stop.Joined
import Derived.Lib.SmallJoins
import Derived.SevenTiedAt
import Derived.Lay
import Derived.Lib.LaidIn
import Derived.Stop.LaidErr
import Derived.Test.YtglilddlhibogaaGreatDoorN1
import Derived.Test.YtglilddlhibogaaGreatDoorF3
namespace Go.Proofs.YtglilddlhibogaaGreatDoor.LaidB2
open Go.ChangeShapes Go.WideShapes Go.ChangeAt Go.RowKit Go.Joins Go.Deep
set_option linter.unusedSimpArgs false
set_option linter.unusedVariables false
set_option linter.unusedVariables false

theorem split {W : World} (h : laidMetH Tryz.prog Rows.asmReadsRow.laid W) : laidMet Tryz.prog [("math/bits.deBruijn32tab", Rows.laid_math_bits_deBruijn32tab), ("math/bits.deBruijn64tab", Rows.laid_math_bits_deBruijn64tab), ("internal/strconv.uint64pow10", Rows.laid_internal_strconv_uint64pow10), ("unicode/utf8.acceptRanges", Rows.laid_unicode_utf8_acceptRanges), ("strconv.ErrRange", Rows.laid_strconv_ErrRange), ("strconv.ErrSyntax", Rows.laid_strconv_ErrSyntax), ("gatehouse/asm.names", Rows.laid_gatehouse_asm_names), ("gatehouse/asm.calls", Rows.laid_gatehouse_asm_calls), ("gatehouse/gatehouseref.words", Rows.laid_gatehouse_gatehouseref_words), ("gatehouse/gatehouseref.calls", Rows.laid_gatehouse_gatehouseref_calls), ("unicode/utf8.first", Rows.laid_unicode_utf8_first)] W ∧ handlesMet Tryz.prog [("errors.errorType", Rows.laid_errors_errorType)] W := h
/-! the variable errors.errorType: the handle of the type 'error' -/
theorem et : Tryz.prog.globalNamed "errors.errorType" = some 5 := by kernel_rfl
theorem rt : (Tryz.prog.cutTypes.find? (·.1 == "internal/reflectlite.rtype")).map (·.2) = some 317 := by kernel_rfl
theorem size : Tryz.prog.types.size = 393 := by kernel_rfl
theorem oneRow : ((List.range 393).filter fun t => Tryz.prog.rowNamed t [101, 114, 114, 111, 114]) = [26] := by kernel_rfl

/-- what the condition gives the walk: the variable's one cell -/
theorem handle {W : World} (h : laidMetH Tryz.prog Rows.asmReadsRow.laid W) : W.cell? ⟨5, 0, none⟩ = some (.iface 317 (.agg #[.pointer (some ⟨14, 26, none⟩)])) := by
 have h' := split h
 obtain ⟨name, u, ty, e1, e2, e3, e4, e5⟩ := h'.2 _ (List.mem_singleton.2 rfl)
 have en : name = [101, 114, 114, 111, 114] := (Option.some.inj e1).symm
 subst en
 obtain rfl := Option.some.inj (rt.symm.trans e2)
 have hm : ty ∈ (List.range 393).filter fun t => Tryz.prog.rowNamed t [101, 114, 114, 111, 114] := List.mem_filter.2 ⟨List.mem_range.2 (by rw [← size]; exact e3), e4⟩
 rw [oneRow] at hm
 obtain rfl := List.mem_singleton.1 hm
 have hh : typeHandle Tryz.prog 26 = .pointer (some ⟨14, 26, none⟩) := by kernel_rfl
 rw [hh] at e5
 simpa using World.var?_cell et e5 0

theorem cellsStr : Tryz.prog.cellsOf 9 = 1 := by kernel_rfl
theorem cellsU64 : Tryz.prog.cellsOf 296 = 1 := by kernel_rfl
theorem cellsP10 : Tryz.prog.cellsOf 353 = 20 := by kernel_rfl
theorem gP10 : Tryz.prog.globalNamed "internal/strconv.uint64pow10" = some 11 := by kernel_rfl
theorem tP10 : (Tryz.prog.globals[(11 : Nat)]?).map (·.type) = some 353 := by kernel_rfl
/-- an array of texts that reads as a list of texts -/
theorem strs_of_array {H : Type} {enc : TypeId × Value → H} {P : Program} {w : World} {base : Nat} {sp : Nat → Bool} {held : Bool} {fuel : Nat} {t e : TypeId} {n : Nat} {cs : List Value} {d : DataW H} {p : List MemPlace} {ss : List (List UInt8)}
  (ht : P.underlying t = some (.array n e)) (he : P.underlying e = some .string) (hce : P.cellsOf e = 1) (h : DataW.trod enc P w base sp held fuel t cs = some (d, p)) (hd : d = .agg (ss.map fun s => .lit (.string s))) :
  ∀ k, k < ss.length → cs[k]? = some (.string ⟨(ss.getD k []).toArray⟩) := by
 obtain ⟨xs, m, -, hx, -, hxl, hi⟩ := DataW.trod_array ht h
 injection hx with h1 h2
 subst hd
 injection h1 with h1
 intro k hk
 have hlen : ss.length = xs.length := by have := congrArg List.length h1; simpa using this
 have hk2 : k < xs.length := by omega
 have hf := hi k (by omega)
 rw [List.getElem?_eq_getElem hk2, hce] at hf
 obtain ⟨s, hc, hxk, -⟩ := DataW.trod_string he hf
 have e1 : (xs.map (·.1))[k]? = some xs[k].1 := by simp [hk2]
 rw [← h1, hxk] at e1
 simp only [List.getElem?_map, List.getElem?_eq_getElem hk, Option.map_some, Option.some.injEq, DataW.lit.injEq, Lit.string.injEq] at e1
 have h3 := congrArg (·[0]?) hc
 simp [List.getElem?_take, List.getElem?_drop] at h3
 have h4 : cs[k]? = some (.string s) := by simpa using h3
 rw [h4, List.getD_eq_getElem?_getD, List.getElem?_eq_getElem hk, Option.getD_some, e1]
theorem gNames : Tryz.prog.globalNamed "gatehouse/asm.names" = some 2 := by kernel_rfl
theorem tNames : (Tryz.prog.globals[(2 : Nat)]?).map (·.type) = some 153 := by kernel_rfl
theorem cNames {W : World} (h : laidMet Tryz.prog [("math/bits.deBruijn32tab", Rows.laid_math_bits_deBruijn32tab), ("math/bits.deBruijn64tab", Rows.laid_math_bits_deBruijn64tab), ("internal/strconv.uint64pow10", Rows.laid_internal_strconv_uint64pow10), ("unicode/utf8.acceptRanges", Rows.laid_unicode_utf8_acceptRanges), ("strconv.ErrRange", Rows.laid_strconv_ErrRange), ("strconv.ErrSyntax", Rows.laid_strconv_ErrSyntax), ("gatehouse/asm.names", Rows.laid_gatehouse_asm_names), ("gatehouse/asm.calls", Rows.laid_gatehouse_asm_calls), ("gatehouse/gatehouseref.words", Rows.laid_gatehouse_gatehouseref_words), ("gatehouse/gatehouseref.calls", Rows.laid_gatehouse_gatehouseref_calls), ("unicode/utf8.first", Rows.laid_unicode_utf8_first)] W) : ∀ k, k < 29 → W.cell? ⟨2, k, none⟩ = some (.string (P.bs (P.nm k))) := by
 obtain ⟨g, t, cs, fuel, p, e1, e2, e3, e4⟩ := Lib.laidMet.reads h (n := "gatehouse/asm.names") (d := Rows.laid_gatehouse_asm_names) (by simp)
 obtain rfl := Option.some.inj (gNames.symm.trans e1)
 obtain rfl := Option.some.inj (tNames.symm.trans e2)
 intro k h2
 have hc := strs_of_array Tryz.underlying153 Tryz.underlying9 cellsStr e4 (ss := [] :: P.nms.tail) rfl k (by rw [show ([] :: P.nms.tail).length = 29 by rfl]; exact h2)
 have h0 := World.var?_cell gNames e3 k
 rw [h0, ← Array.getElem?_toList, hc]
 rfl
theorem gCalls : Tryz.prog.globalNamed "gatehouse/asm.calls" = some 3 := by kernel_rfl
theorem tCalls : (Tryz.prog.globals[(3 : Nat)]?).map (·.type) = some 160 := by kernel_rfl
theorem cCalls {W : World} (h : laidMet Tryz.prog [("math/bits.deBruijn32tab", Rows.laid_math_bits_deBruijn32tab), ("math/bits.deBruijn64tab", Rows.laid_math_bits_deBruijn64tab), ("internal/strconv.uint64pow10", Rows.laid_internal_strconv_uint64pow10), ("unicode/utf8.acceptRanges", Rows.laid_unicode_utf8_acceptRanges), ("strconv.ErrRange", Rows.laid_strconv_ErrRange), ("strconv.ErrSyntax", Rows.laid_strconv_ErrSyntax), ("gatehouse/asm.names", Rows.laid_gatehouse_asm_names), ("gatehouse/asm.calls", Rows.laid_gatehouse_asm_calls), ("gatehouse/gatehouseref.words", Rows.laid_gatehouse_gatehouseref_words), ("gatehouse/gatehouseref.calls", Rows.laid_gatehouse_gatehouseref_calls), ("unicode/utf8.first", Rows.laid_unicode_utf8_first)] W) : ∀ k, k < 4 → W.cell? ⟨3, k, none⟩ = some (.string (P.bs (P.cl k))) := by
 obtain ⟨g, t, cs, fuel, p, e1, e2, e3, e4⟩ := Lib.laidMet.reads h (n := "gatehouse/asm.calls") (d := Rows.laid_gatehouse_asm_calls) (by simp)
 obtain rfl := Option.some.inj (gCalls.symm.trans e1)
 obtain rfl := Option.some.inj (tCalls.symm.trans e2)
 intro k h2
 have hc := strs_of_array Tryz.underlying160 Tryz.underlying9 cellsStr e4 (ss := [] :: P.cls.tail) rfl k (by rw [show ([] :: P.cls.tail).length = 4 by rfl]; exact h2)
 have h0 := World.var?_cell gCalls e3 k
 rw [h0, ← Array.getElem?_toList, hc]
 rfl
theorem gRNames : Tryz.prog.globalNamed "gatehouse/gatehouseref.words" = some 0 := by kernel_rfl
theorem tRNames : (Tryz.prog.globals[(0 : Nat)]?).map (·.type) = some 153 := by kernel_rfl
theorem cRNames {W : World} (h : laidMet Tryz.prog [("math/bits.deBruijn32tab", Rows.laid_math_bits_deBruijn32tab), ("math/bits.deBruijn64tab", Rows.laid_math_bits_deBruijn64tab), ("internal/strconv.uint64pow10", Rows.laid_internal_strconv_uint64pow10), ("unicode/utf8.acceptRanges", Rows.laid_unicode_utf8_acceptRanges), ("strconv.ErrRange", Rows.laid_strconv_ErrRange), ("strconv.ErrSyntax", Rows.laid_strconv_ErrSyntax), ("gatehouse/asm.names", Rows.laid_gatehouse_asm_names), ("gatehouse/asm.calls", Rows.laid_gatehouse_asm_calls), ("gatehouse/gatehouseref.words", Rows.laid_gatehouse_gatehouseref_words), ("gatehouse/gatehouseref.calls", Rows.laid_gatehouse_gatehouseref_calls), ("unicode/utf8.first", Rows.laid_unicode_utf8_first)] W) : ∀ k, k < 29 → W.cell? ⟨0, k, none⟩ = some (.string (P.bs (Go.Proofs.YtglilddlhibogaaGreatDoor.W.rnm k))) := by
 obtain ⟨g, t, cs, fuel, p, e1, e2, e3, e4⟩ := Lib.laidMet.reads h (n := "gatehouse/gatehouseref.words") (d := Rows.laid_gatehouse_gatehouseref_words) (by simp)
 obtain rfl := Option.some.inj (gRNames.symm.trans e1)
 obtain rfl := Option.some.inj (tRNames.symm.trans e2)
 intro k h2
 have hc := strs_of_array Tryz.underlying153 Tryz.underlying9 cellsStr e4 (ss := [45] :: P.nms.tail) rfl k (by rw [show ([45] :: P.nms.tail).length = 29 by rfl]; exact h2)
 have h0 := World.var?_cell gRNames e3 k
 rw [h0, ← Array.getElem?_toList, hc]
 rfl
theorem gRCalls : Tryz.prog.globalNamed "gatehouse/gatehouseref.calls" = some 1 := by kernel_rfl
theorem tRCalls : (Tryz.prog.globals[(1 : Nat)]?).map (·.type) = some 160 := by kernel_rfl
theorem cRCalls {W : World} (h : laidMet Tryz.prog [("math/bits.deBruijn32tab", Rows.laid_math_bits_deBruijn32tab), ("math/bits.deBruijn64tab", Rows.laid_math_bits_deBruijn64tab), ("internal/strconv.uint64pow10", Rows.laid_internal_strconv_uint64pow10), ("unicode/utf8.acceptRanges", Rows.laid_unicode_utf8_acceptRanges), ("strconv.ErrRange", Rows.laid_strconv_ErrRange), ("strconv.ErrSyntax", Rows.laid_strconv_ErrSyntax), ("gatehouse/asm.names", Rows.laid_gatehouse_asm_names), ("gatehouse/asm.calls", Rows.laid_gatehouse_asm_calls), ("gatehouse/gatehouseref.words", Rows.laid_gatehouse_gatehouseref_words), ("gatehouse/gatehouseref.calls", Rows.laid_gatehouse_gatehouseref_calls), ("unicode/utf8.first", Rows.laid_unicode_utf8_first)] W) : ∀ k, k < 4 → W.cell? ⟨1, k, none⟩ = some (.string (P.bs (Go.Proofs.YtglilddlhibogaaGreatDoor.W.rcl k))) := by
 obtain ⟨g, t, cs, fuel, p, e1, e2, e3, e4⟩ := Lib.laidMet.reads h (n := "gatehouse/gatehouseref.calls") (d := Rows.laid_gatehouse_gatehouseref_calls) (by simp)
 obtain rfl := Option.some.inj (gRCalls.symm.trans e1)
 obtain rfl := Option.some.inj (tRCalls.symm.trans e2)
 intro k h2
 have hc := strs_of_array Tryz.underlying160 Tryz.underlying9 cellsStr e4 (ss := [45] :: P.cls.tail) rfl k (by rw [show ([45] :: P.cls.tail).length = 4 by rfl]; exact h2)
 have h0 := World.var?_cell gRCalls e3 k
 rw [h0, ← Array.getElem?_toList, hc]
 rfl
theorem pow10 {W : World} (h : laidMetH Tryz.prog Rows.asmReadsRow.laid W) : Lib.TabIs Tryz.prog W "internal/strconv.uint64pow10" .u64 Lib.pow10Tab := by
 have h' := split h
 obtain ⟨g, t, cs, fuel, p, e1, e2, e3, e4⟩ := Lib.laidMet.reads h'.1 (n := "internal/strconv.uint64pow10") (d := Rows.laid_internal_strconv_uint64pow10) (by simp)
 obtain rfl := Option.some.inj (gP10.symm.trans e1)
 obtain rfl := Option.some.inj (tP10.symm.trans e2)
 have e5 : DataW.trod _ Tryz.prog W 0 _ _ fuel 353 cs.toList = some (Lib.tabData .u64 Lib.pow10Tab, p) := e4
 have hc := Lib.cells_of_tab Tryz.underlying353 Tryz.underlying296 cellsU64 cellsP10 e5
 unfold Lib.TabIs
 rw [e3, ← hc]
theorem star : "*" ++ "errors.errorString" = "*errors.errorString" := by decide
theorem esRow (u : TypeId) (hu : Tryz.prog.typeName? 3 u = some "*errors.errorString") : u = 358 :=
 typeName_ptr_named (nm := "errors.errorString") (by rw [star]; kernel_rfl) (by kernel_rfl) (by decide) u (by rw [star]; exact hu)
theorem cErrRange {W : World} (h : laidMetH Tryz.prog Rows.asmReadsRow.laid W) : ∃ t p, W.cell? ⟨10, 0, none⟩ = some (.iface t p) := by
 have h' := split h
 have ht : laidMet Tryz.prog [("strconv.ErrRange", Rows.laid_strconv_ErrRange), ("strconv.ErrSyntax", Rows.laid_strconv_ErrSyntax), ("gatehouse/asm.names", Rows.laid_gatehouse_asm_names), ("gatehouse/asm.calls", Rows.laid_gatehouse_asm_calls), ("gatehouse/gatehouseref.words", Rows.laid_gatehouse_gatehouseref_words), ("gatehouse/gatehouseref.calls", Rows.laid_gatehouse_gatehouseref_calls), ("unicode/utf8.first", Rows.laid_unicode_utf8_first)] W := h'.1.tail.tail.tail.tail
 obtain ⟨a, s, hv, -⟩ := laid_sentinel ht (g := 10) (by kernel_rfl) (by kernel_rfl) Tryz.underlying26 esRow (tp := 358) Tryz.underlying358 Tryz.underlying360 rfl rfl Tryz.underlying9 (by kernel_rfl) (by kernel_rfl)
 exact ⟨_, _, by simpa using World.var?_cell (show Tryz.prog.globalNamed "strconv.ErrRange" = some 10 by kernel_rfl) hv 0⟩
theorem cErrSyntax {W : World} (h : laidMetH Tryz.prog Rows.asmReadsRow.laid W) : ∃ t p, W.cell? ⟨9, 0, none⟩ = some (.iface t p) := by
 have h' := split h
 have ht : laidMet Tryz.prog [("strconv.ErrSyntax", Rows.laid_strconv_ErrSyntax), ("gatehouse/asm.names", Rows.laid_gatehouse_asm_names), ("gatehouse/asm.calls", Rows.laid_gatehouse_asm_calls), ("gatehouse/gatehouseref.words", Rows.laid_gatehouse_gatehouseref_words), ("gatehouse/gatehouseref.calls", Rows.laid_gatehouse_gatehouseref_calls), ("unicode/utf8.first", Rows.laid_unicode_utf8_first)] W := h'.1.tail.tail.tail.tail.tail
 obtain ⟨a, s, hv, -⟩ := laid_sentinel ht (g := 9) (by kernel_rfl) (by kernel_rfl) Tryz.underlying26 esRow (tp := 358) Tryz.underlying358 Tryz.underlying360 rfl rfl Tryz.underlying9 (by kernel_rfl) (by kernel_rfl)
 exact ⟨_, _, by simpa using World.var?_cell (show Tryz.prog.globalNamed "strconv.ErrSyntax" = some 9 by kernel_rfl) hv 0⟩
/-- the tables that reading and writing read -/
theorem rtabs {W : World} (h : laidMetH Tryz.prog Rows.asmReadsRow.laid W) : Go.Proofs.YtglilddlhibogaaGreatDoor.W.RTabs W := ⟨pow10 h, cNames (split h).1, cCalls (split h).1, cErrSyntax h, cErrRange h⟩
theorem ftabs {W : World} (h : laidMetH Tryz.prog Rows.asmReadsRow.laid W) : Go.Proofs.YtglilddlhibogaaGreatDoor.W.FTabs W := ⟨cRNames (split h).1, cRCalls (split h).1⟩
/-! a world that meets the condition: the door's own heap, the pinned table laid -/
def great : List (String × DataW Unit) := [("unicode/utf8.first", Rows.laid_unicode_utf8_first)]
noncomputable def doorW (os : Os) : World := (World.doorLaid Tryz.prog 400 os).layVars Tryz.prog great
theorem doorW_os (os : Os) : (doorW os).os = os := (World.layVars_os _ _ _).trans rfl
theorem door_shaped (os : Os) (args : Array Value) : ((doorW os).forCall (fun _ _ => 0) ⟨#[], args, []⟩).Shaped Tryz.prog := World.shaped_of_ZipB (by kernel_rfl) (by kernel_rfl)
def plain : List (String × DataW Unit) := [("math/bits.deBruijn32tab", Rows.laid_math_bits_deBruijn32tab), ("math/bits.deBruijn64tab", Rows.laid_math_bits_deBruijn64tab), ("internal/strconv.uint64pow10", Rows.laid_internal_strconv_uint64pow10), ("unicode/utf8.acceptRanges", Rows.laid_unicode_utf8_acceptRanges), ("strconv.ErrRange", Rows.laid_strconv_ErrRange), ("strconv.ErrSyntax", Rows.laid_strconv_ErrSyntax), ("gatehouse/asm.names", Rows.laid_gatehouse_asm_names), ("gatehouse/asm.calls", Rows.laid_gatehouse_asm_calls), ("gatehouse/gatehouseref.words", Rows.laid_gatehouse_gatehouseref_words), ("gatehouse/gatehouseref.calls", Rows.laid_gatehouse_gatehouseref_calls), ("unicode/utf8.first", Rows.laid_unicode_utf8_first)]
def small : List (String × DataW Unit) := [("math/bits.deBruijn32tab", Rows.laid_math_bits_deBruijn32tab), ("math/bits.deBruijn64tab", Rows.laid_math_bits_deBruijn64tab), ("internal/strconv.uint64pow10", Rows.laid_internal_strconv_uint64pow10), ("unicode/utf8.acceptRanges", Rows.laid_unicode_utf8_acceptRanges), ("strconv.ErrRange", Rows.laid_strconv_ErrRange), ("strconv.ErrSyntax", Rows.laid_strconv_ErrSyntax), ("gatehouse/asm.names", Rows.laid_gatehouse_asm_names), ("gatehouse/asm.calls", Rows.laid_gatehouse_asm_calls), ("gatehouse/gatehouseref.words", Rows.laid_gatehouse_gatehouseref_words), ("gatehouse/gatehouseref.calls", Rows.laid_gatehouse_gatehouseref_calls)]
theorem great_of : (plain.filter fun x => ["unicode/utf8.first"].contains x.1) = great := by simp [plain, great]
theorem small_of : (plain.filter fun x => !["unicode/utf8.first"].contains x.1) = small := by simp [plain, small]
noncomputable def mem (os : Os) (args : Array Value) : World := ((doorW os).forCall (fun _ _ => 0) ⟨#[], args, []⟩).memory
theorem mem_heap (os : Os) (args : Array Value) : (mem os args).heap = ((World.doorLaid Tryz.prog 400 os).layVars Tryz.prog great).heap := by
 unfold mem doorW; simp [World.memory, World.forCall, Input.heap]
noncomputable def blocks (os : Os) : List Nat := (List.range (World.doorLaid Tryz.prog 400 os).heap.size).filter (· != 7)
theorem mem_fits (os : Os) : (World.doorLaid Tryz.prog 400 os).layFits Tryz.prog great (blocks os) = true := by kernel_rfl
theorem mem_ifaces (os : Os) (args : Array Value) : (World.doorLaid Tryz.prog 400 os).layIfaces Tryz.prog great (mem os args) = true := by kernel_rfl
theorem mem_small (os : Os) (args : Array Value) : LaidIn Tryz.prog (mem os args) small (blocks os) := LaidIn.of_run _ 8 (by kernel_rfl) (by kernel_rfl) (by kernel_rfl) (by kernel_rfl)
theorem mem_laid (os : Os) (args : Array Value) : laidMet Tryz.prog plain (mem os args) :=
 laidMet_layVars (w0 := World.doorLaid Tryz.prog 400 os) ["unicode/utf8.first"] (blocks os) (by rw [great_of]; exact mem_heap os args) (by rw [great_of]; exact mem_fits os) (by rw [great_of]; exact mem_ifaces os args) (by rw [small_of]; exact mem_small os args)
theorem mem_handles (os : Os) (args : Array Value) : (Rows.asmReadsRow.laid.filter fun x => x.2.handleName?.isSome && x.2.funcsIn?.isNone).all (handleAtB Tryz.prog (mem os args)) = true := by kernel_rfl
theorem door_met (os : Os) (args : Array Value) : laidMetH Tryz.prog Rows.asmReadsRow.laid ((doorW os).forCall (fun _ _ => 0) ⟨#[], args, []⟩).memory :=
 laidMetH_of_parts3 (fuel := 8) (mem_laid os args) (mem_handles os args) (by kernel_rfl)
end Go.Proofs.YtglilddlhibogaaGreatDoor.LaidB2
