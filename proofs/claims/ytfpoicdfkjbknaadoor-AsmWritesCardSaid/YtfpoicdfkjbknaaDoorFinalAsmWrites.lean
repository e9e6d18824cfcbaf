/- AsmWrites: for every input the law returns true, and the argument reads as it did; the variable errors.errorType, the tables of names and those that numbers' texts are made of are tied to the program's text (the card). No further conditions. -/
import Derived.Test.YtfpoicdfkjbknaaDoorRows
import Derived.Test.YtfpoicdfkjbknaaDoorCards
import Derived.Test.YtfpoicdfkjbknaaDoorTie
import Derived.WalkKit
import Derived.ProofKit
import Derived.OpenShut
import Derived.LaidMore
import Derived.LaidHandle
import Derived.Lib.LaidU8
import Derived.Lib.LaidTab
import Derived.Lib.ItoaNum
import Derived.ChangeArms
import Derived.Carry
import Derived.Deep.Slices
import Derived.Deep.Fields
import Derived.Stop.Joined
import Derived.Lib.SmallJoins
import Derived.SevenTiedAt
import Derived.Test.YtfpoicdfkjbknaaDoorPost
import Derived.Test.YtfpoicdfkjbknaaDoorLawAsmWrites
namespace Go.Proofs.YtfpoicdfkjbknaaDoor.asmWrites
open Go.ChangeShapes Go.WideShapes Go.ChangeAt Go.RowKit Go.Joins Go.Deep
set_option linter.unusedSimpArgs false
set_option linter.unusedVariables false
set_option linter.unusedVariables false

theorem own : ownKnob Tryd.prog.godebug = none := by kernel_rfl
theorem laidOut : laidOutB Tryd.prog = true := by kernel_rfl
theorem cellsS : Tryd.prog.cellsOf 65 = 6 := by kernel_rfl

theorem in64_lit {n : Int} (h : (Lit.int .i64 n).wf = true) : P.In64 n := by
 simp [Lit.wf, IntKind.min, IntKind.max, IntKind.signed, IntKind.bits] at h
 exact h

/-- a list of six -/
theorem six {α : Type} {l : List α} (h : l.length = 6) : ∃ a b c d e f, l = [a, b, c, d, e, f] := by
 match l, h with
 | [a, b, c, d, e, f], _ => exact ⟨a, b, c, d, e, f, rfl⟩

/-- one step's six cells, out of its reading -/
theorem step_of_reads {H : Type} {enc : TypeId × Value → H} {W : World} {sp : Nat → Bool} {held : Bool} {fuel : Nat} {cs : List Value} {x : DataW H × List MemPlace}
  (h : DataW.trod enc Tryd.prog W 0 sp held fuel 65 cs = some x) :
  ∃ s : P.Step, cs = [.int .i64 s.code, .int .i64 s.dst, .int .i64 s.src, .bool s.reg, .int .i64 s.off, .int .i64 s.num] ∧ P.In64 s.off ∧ P.In64 s.num := by
 obtain ⟨xs, n, -, -, hl, hxl, hf⟩ := DataW.trod_struct Tryd.underlying65 h
 rw [cellsS] at hl
 obtain ⟨c0, c1, c2, c3, c4, c5, rfl⟩ := six hl
 obtain ⟨x0, x1, x2, x3, x4, x5, rfl⟩ := six hxl
 have g0 : DataW.trod enc Tryd.prog W 0 sp held n 3 (List.take (Tryd.prog.cellsOf 3) (List.drop 0 [c0, c1, c2, c3, c4, c5])) = some x0 := hf 0 _ rfl
 have g1 : DataW.trod enc Tryd.prog W 0 sp held n 3 (List.take (Tryd.prog.cellsOf 3) (List.drop 1 [c0, c1, c2, c3, c4, c5])) = some x1 := hf 1 _ rfl
 have g2 : DataW.trod enc Tryd.prog W 0 sp held n 3 (List.take (Tryd.prog.cellsOf 3) (List.drop 2 [c0, c1, c2, c3, c4, c5])) = some x2 := hf 2 _ rfl
 have g3 : DataW.trod enc Tryd.prog W 0 sp held n 4 (List.take (Tryd.prog.cellsOf 4) (List.drop 3 [c0, c1, c2, c3, c4, c5])) = some x3 := hf 3 _ rfl
 have g4 : DataW.trod enc Tryd.prog W 0 sp held n 3 (List.take (Tryd.prog.cellsOf 3) (List.drop 4 [c0, c1, c2, c3, c4, c5])) = some x4 := hf 4 _ rfl
 have g5 : DataW.trod enc Tryd.prog W 0 sp held n 2 (List.take (Tryd.prog.cellsOf 2) (List.drop 5 [c0, c1, c2, c3, c4, c5])) = some x5 := hf 5 _ rfl
 have cI : Tryd.prog.cellsOf 3 = 1 := by kernel_rfl
 have cB : Tryd.prog.cellsOf 4 = 1 := by kernel_rfl
 have cL : Tryd.prog.cellsOf 2 = 1 := by kernel_rfl
 simp only [cI, cB, cL, List.drop_zero, List.drop_succ_cons, List.take_succ_cons, List.take_zero] at g0 g1 g2 g3 g4 g5
 obtain ⟨k0, e0, -⟩ := DataW.trod_int Tryd.underlying3 g0
 obtain ⟨k1, e1, -⟩ := DataW.trod_int Tryd.underlying3 g1
 obtain ⟨k2, e2, -⟩ := DataW.trod_int Tryd.underlying3 g2
 obtain ⟨k3, e3, -⟩ := DataW.trod_bool Tryd.underlying4 g3
 obtain ⟨k4, e4, -, w4⟩ := DataW.trod_int Tryd.underlying3 g4
 obtain ⟨k5, e5, -, w5⟩ := DataW.trod_int Tryd.underlying2 g5
 simp only [List.cons.injEq, and_true] at e0 e1 e2 e3 e4 e5
 subst e0 e1 e2 e3 e4 e5
 exact ⟨⟨k0, k1, k2, k3, k4, k5⟩, rfl, in64_lit w4, in64_lit w5⟩

/-- a program's cells, out of its reading -/
theorem steps_of_reads {H : Type} {enc : TypeId × Value → H} {W : World} {fuel : Nat} {v : Value} {x : DataW H × List MemPlace}
  (h : DataW.trod enc Tryd.prog W 0 (fun _ => true) true fuel 22 [v] = some x) :
  v = .slice none 0 0 ∨ ∃ a len cap S, v = .slice (some a) len cap ∧ len ≤ cap ∧ Go.Proofs.YtfpoicdfkjbknaaDoor.W.Cells W a S len ∧ ∀ j, j < len → P.In64 (S j).off ∧ P.In64 (S j).num := by
 rcases open_slice Tryd.underlying22 h with ⟨hc, -⟩ | ⟨a, len, cap, m, n, D, Pl, hc, hb, hl, hm, hmm, hx, hi⟩
 ·exact .inl (by simpa using hc)
 ·right
  have hs : ∀ i, i < len → ∃ s : P.Step, W.cell? (a.add (i * 6)) = some (.int .i64 s.code) ∧ W.cell? ⟨(a.add (i * 6)).block, (a.add (i * 6)).off + 1, none⟩ = some (.int .i64 s.dst) ∧
    W.cell? ⟨(a.add (i * 6)).block, (a.add (i * 6)).off + 2, none⟩ = some (.int .i64 s.src) ∧ W.cell? ⟨(a.add (i * 6)).block, (a.add (i * 6)).off + 3, none⟩ = some (.bool s.reg) ∧
    W.cell? ⟨(a.add (i * 6)).block, (a.add (i * 6)).off + 4, none⟩ = some (.int .i64 s.off) ∧ W.cell? ⟨(a.add (i * 6)).block, (a.add (i * 6)).off + 5, none⟩ = some (.int .i64 s.num) ∧ P.In64 s.off ∧ P.In64 s.num := by
   intro i hil
   have him : i < m := by rw [hmm]; simp; omega
   obtain ⟨cs, hcs, ht⟩ := hi i him
   rw [cellsS] at hcs
   obtain ⟨-, -, hat⟩ := World.cells?_some hcs
   obtain ⟨s, rfl, i4, i5⟩ := step_of_reads ht
   exact ⟨s, hat 0 (by omega), hat 1 (by omega), hat 2 (by omega), hat 3 (by omega), hat 4 (by omega), hat 5 (by omega), i4, i5⟩
  refine ⟨a, len, cap, fun i => if hl : i < len then Classical.choose (hs i hl) else ⟨0, 0, 0, false, 0, 0⟩, by simpa using hc, hl, fun i hil => ?_, fun i hil => ?_⟩
  ·simp only [hil, dite_true]
   obtain ⟨h0, h1, h2, h3, h4, h5, -, -⟩ := Classical.choose_spec (hs i hil)
   exact ⟨h0, h1, h2, h3, h4, h5⟩
  ·simp only [hil, dite_true]
   exact (Classical.choose_spec (hs i hil)).2.2.2.2.2.2

/-! the variable errors.errorType: the handle of the type 'error' -/
theorem et : Tryd.prog.globalNamed "errors.errorType" = some 5 := by kernel_rfl
theorem rt : (Tryd.prog.cutTypes.find? (·.1 == "internal/reflectlite.rtype")).map (·.2) = some 217 := by kernel_rfl
theorem size : Tryd.prog.types.size = 265 := by kernel_rfl
theorem oneRow : ((List.range 265).filter fun t => Tryd.prog.rowNamed t [101, 114, 114, 111, 114]) = [37] := by kernel_rfl

/-- what the condition gives the walk: the variable's one cell -/
theorem handle_of_laid {W : World} (h : laidMetH Tryd.prog Rows.asmWritesRow.laid W) : W.cell? ⟨5, 0, none⟩ = some (.iface 217 (.agg #[.pointer (some ⟨10, 37, none⟩)])) := by
 have h' : laidMet Tryd.prog [("math/bits.deBruijn32tab", Rows.laid_math_bits_deBruijn32tab), ("math/bits.deBruijn64tab", Rows.laid_math_bits_deBruijn64tab), ("internal/strconv.uint64pow10", Rows.laid_internal_strconv_uint64pow10), ("gatehouse/asm.names", Rows.laid_gatehouse_asm_names), ("gatehouse/asm.calls", Rows.laid_gatehouse_asm_calls), ("gatehouse/gatehouseref.words", Rows.laid_gatehouse_gatehouseref_words), ("gatehouse/gatehouseref.calls", Rows.laid_gatehouse_gatehouseref_calls)] W ∧ handlesMet Tryd.prog [("errors.errorType", Rows.laid_errors_errorType)] W := h
 obtain ⟨name, u, ty, e1, e2, e3, e4, e5⟩ := h'.2 _ (List.mem_singleton.2 rfl)
 have en : name = [101, 114, 114, 111, 114] := (Option.some.inj e1).symm
 subst en
 obtain rfl := Option.some.inj (rt.symm.trans e2)
 have hm : ty ∈ (List.range 265).filter fun t => Tryd.prog.rowNamed t [101, 114, 114, 111, 114] := List.mem_filter.2 ⟨List.mem_range.2 (by rw [← size]; exact e3), e4⟩
 rw [oneRow] at hm
 obtain rfl := List.mem_singleton.1 hm
 have hh : typeHandle Tryd.prog 37 = .pointer (some ⟨10, 37, none⟩) := by kernel_rfl
 rw [hh] at e5
 simpa using World.var?_cell et e5 0

theorem cellsStr : Tryd.prog.cellsOf 9 = 1 := by kernel_rfl
theorem cellsU64 : Tryd.prog.cellsOf 157 = 1 := by kernel_rfl
theorem cellsP10 : Tryd.prog.cellsOf 229 = 20 := by kernel_rfl
theorem gP10 : Tryd.prog.globalNamed "internal/strconv.uint64pow10" = some 6 := by kernel_rfl
theorem tP10 : (Tryd.prog.globals[(6 : Nat)]?).map (·.type) = some 229 := by kernel_rfl
/-- an array of texts that reads as a list of texts -/
theorem strs_of_array {H : Type} {enc : TypeId × Value → H} {P : Program} {w : World} {base : Nat} {sp : Nat → Bool} {held : Bool} {fuel : Nat} {t e : TypeId} {n : Nat} {cs : List Value} {d : DataW H} {p : List MemPlace} {ss : List (List UInt8)}
  (ht : P.underlying t = some (.array n e)) (he : P.underlying e = some .string) (hce : P.cellsOf e = 1) (h : DataW.trod enc P w base sp held fuel t cs = some (d, p)) (hd : d = .agg (ss.map fun s => .lit (.string s))) :
  ∀ k, k < ss.length → cs[k]? = some (.string ⟨(ss.getD k []).toArray⟩) := by
 obtain ⟨xs, m, -, hx, -, hxl, hi⟩ := DataW.trod_array ht h
 injection hx with h1 h2
 subst hd
 injection h1 with h1
 intro k hk
 have hlen : ss.length = xs.length := by have := congrArg List.length h1; simpa using this
 have hk2 : k < xs.length := by omega
 have hf := hi k (by omega)
 rw [List.getElem?_eq_getElem hk2, hce] at hf
 obtain ⟨s, hc, hxk, -⟩ := DataW.trod_string he hf
 have e1 : (xs.map (·.1))[k]? = some xs[k].1 := by simp [hk2]
 rw [← h1, hxk] at e1
 simp only [List.getElem?_map, List.getElem?_eq_getElem hk, Option.map_some, Option.some.injEq, DataW.lit.injEq, Lit.string.injEq] at e1
 have h3 := congrArg (·[0]?) hc
 simp [List.getElem?_take, List.getElem?_drop] at h3
 have h4 : cs[k]? = some (.string s) := by simpa using h3
 rw [h4, List.getD_eq_getElem?_getD, List.getElem?_eq_getElem hk, Option.getD_some, e1]
theorem gNames : Tryd.prog.globalNamed "gatehouse/asm.names" = some 2 := by kernel_rfl
theorem tNames : (Tryd.prog.globals[(2 : Nat)]?).map (·.type) = some 91 := by kernel_rfl
theorem cNames {W : World} (h : laidMet Tryd.prog [("math/bits.deBruijn32tab", Rows.laid_math_bits_deBruijn32tab), ("math/bits.deBruijn64tab", Rows.laid_math_bits_deBruijn64tab), ("internal/strconv.uint64pow10", Rows.laid_internal_strconv_uint64pow10), ("gatehouse/asm.names", Rows.laid_gatehouse_asm_names), ("gatehouse/asm.calls", Rows.laid_gatehouse_asm_calls), ("gatehouse/gatehouseref.words", Rows.laid_gatehouse_gatehouseref_words), ("gatehouse/gatehouseref.calls", Rows.laid_gatehouse_gatehouseref_calls)] W) : ∀ k, 1 ≤ k → k < 29 → W.cell? ⟨2, k, none⟩ = some (.string (P.bs (P.nm k))) := by
 obtain ⟨g, t, cs, fuel, p, e1, e2, e3, e4⟩ := Lib.laidMet.reads h (n := "gatehouse/asm.names") (d := Rows.laid_gatehouse_asm_names) (by simp)
 obtain rfl := Option.some.inj (gNames.symm.trans e1)
 obtain rfl := Option.some.inj (tNames.symm.trans e2)
 intro k h1 h2
 have hc := strs_of_array Tryd.underlying91 Tryd.underlying9 cellsStr e4 (ss := [] :: P.nms.tail) rfl k (by rw [show ([] :: P.nms.tail).length = 29 by rfl]; exact h2)
 have h0 := World.var?_cell gNames e3 k
 rw [h0, ← Array.getElem?_toList, hc]
 obtain ⟨k, rfl⟩ : ∃ j, k = j + 1 := ⟨k - 1, by omega⟩
 rfl
theorem gCalls : Tryd.prog.globalNamed "gatehouse/asm.calls" = some 3 := by kernel_rfl
theorem tCalls : (Tryd.prog.globals[(3 : Nat)]?).map (·.type) = some 92 := by kernel_rfl
theorem cCalls {W : World} (h : laidMet Tryd.prog [("math/bits.deBruijn32tab", Rows.laid_math_bits_deBruijn32tab), ("math/bits.deBruijn64tab", Rows.laid_math_bits_deBruijn64tab), ("internal/strconv.uint64pow10", Rows.laid_internal_strconv_uint64pow10), ("gatehouse/asm.names", Rows.laid_gatehouse_asm_names), ("gatehouse/asm.calls", Rows.laid_gatehouse_asm_calls), ("gatehouse/gatehouseref.words", Rows.laid_gatehouse_gatehouseref_words), ("gatehouse/gatehouseref.calls", Rows.laid_gatehouse_gatehouseref_calls)] W) : ∀ k, 1 ≤ k → k < 4 → W.cell? ⟨3, k, none⟩ = some (.string (P.bs (P.cl k))) := by
 obtain ⟨g, t, cs, fuel, p, e1, e2, e3, e4⟩ := Lib.laidMet.reads h (n := "gatehouse/asm.calls") (d := Rows.laid_gatehouse_asm_calls) (by simp)
 obtain rfl := Option.some.inj (gCalls.symm.trans e1)
 obtain rfl := Option.some.inj (tCalls.symm.trans e2)
 intro k h1 h2
 have hc := strs_of_array Tryd.underlying92 Tryd.underlying9 cellsStr e4 (ss := [] :: P.cls.tail) rfl k (by rw [show ([] :: P.cls.tail).length = 4 by rfl]; exact h2)
 have h0 := World.var?_cell gCalls e3 k
 rw [h0, ← Array.getElem?_toList, hc]
 obtain ⟨k, rfl⟩ : ∃ j, k = j + 1 := ⟨k - 1, by omega⟩
 rfl
theorem gRNames : Tryd.prog.globalNamed "gatehouse/gatehouseref.words" = some 0 := by kernel_rfl
theorem tRNames : (Tryd.prog.globals[(0 : Nat)]?).map (·.type) = some 91 := by kernel_rfl
theorem cRNames {W : World} (h : laidMet Tryd.prog [("math/bits.deBruijn32tab", Rows.laid_math_bits_deBruijn32tab), ("math/bits.deBruijn64tab", Rows.laid_math_bits_deBruijn64tab), ("internal/strconv.uint64pow10", Rows.laid_internal_strconv_uint64pow10), ("gatehouse/asm.names", Rows.laid_gatehouse_asm_names), ("gatehouse/asm.calls", Rows.laid_gatehouse_asm_calls), ("gatehouse/gatehouseref.words", Rows.laid_gatehouse_gatehouseref_words), ("gatehouse/gatehouseref.calls", Rows.laid_gatehouse_gatehouseref_calls)] W) : ∀ k, 1 ≤ k → k < 29 → W.cell? ⟨0, k, none⟩ = some (.string (P.bs (P.nm k))) := by
 obtain ⟨g, t, cs, fuel, p, e1, e2, e3, e4⟩ := Lib.laidMet.reads h (n := "gatehouse/gatehouseref.words") (d := Rows.laid_gatehouse_gatehouseref_words) (by simp)
 obtain rfl := Option.some.inj (gRNames.symm.trans e1)
 obtain rfl := Option.some.inj (tRNames.symm.trans e2)
 intro k h1 h2
 have hc := strs_of_array Tryd.underlying91 Tryd.underlying9 cellsStr e4 (ss := [45] :: P.nms.tail) rfl k (by rw [show ([45] :: P.nms.tail).length = 29 by rfl]; exact h2)
 have h0 := World.var?_cell gRNames e3 k
 rw [h0, ← Array.getElem?_toList, hc]
 obtain ⟨k, rfl⟩ : ∃ j, k = j + 1 := ⟨k - 1, by omega⟩
 rfl
theorem gRCalls : Tryd.prog.globalNamed "gatehouse/gatehouseref.calls" = some 1 := by kernel_rfl
theorem tRCalls : (Tryd.prog.globals[(1 : Nat)]?).map (·.type) = some 92 := by kernel_rfl
theorem cRCalls {W : World} (h : laidMet Tryd.prog [("math/bits.deBruijn32tab", Rows.laid_math_bits_deBruijn32tab), ("math/bits.deBruijn64tab", Rows.laid_math_bits_deBruijn64tab), ("internal/strconv.uint64pow10", Rows.laid_internal_strconv_uint64pow10), ("gatehouse/asm.names", Rows.laid_gatehouse_asm_names), ("gatehouse/asm.calls", Rows.laid_gatehouse_asm_calls), ("gatehouse/gatehouseref.words", Rows.laid_gatehouse_gatehouseref_words), ("gatehouse/gatehouseref.calls", Rows.laid_gatehouse_gatehouseref_calls)] W) : ∀ k, 1 ≤ k → k < 4 → W.cell? ⟨1, k, none⟩ = some (.string (P.bs (P.cl k))) := by
 obtain ⟨g, t, cs, fuel, p, e1, e2, e3, e4⟩ := Lib.laidMet.reads h (n := "gatehouse/gatehouseref.calls") (d := Rows.laid_gatehouse_gatehouseref_calls) (by simp)
 obtain rfl := Option.some.inj (gRCalls.symm.trans e1)
 obtain rfl := Option.some.inj (tRCalls.symm.trans e2)
 intro k h1 h2
 have hc := strs_of_array Tryd.underlying92 Tryd.underlying9 cellsStr e4 (ss := [45] :: P.cls.tail) rfl k (by rw [show ([45] :: P.cls.tail).length = 4 by rfl]; exact h2)
 have h0 := World.var?_cell gRCalls e3 k
 rw [h0, ← Array.getElem?_toList, hc]
 obtain ⟨k, rfl⟩ : ∃ j, k = j + 1 := ⟨k - 1, by omega⟩
 rfl
/-- what the condition gives the walk: the tables -/
theorem tabs_of_laid {W : World} (h : laidMetH Tryd.prog Rows.asmWritesRow.laid W) : Go.Proofs.YtfpoicdfkjbknaaDoor.W.Tabs W := by
 have h' : laidMet Tryd.prog [("math/bits.deBruijn32tab", Rows.laid_math_bits_deBruijn32tab), ("math/bits.deBruijn64tab", Rows.laid_math_bits_deBruijn64tab), ("internal/strconv.uint64pow10", Rows.laid_internal_strconv_uint64pow10), ("gatehouse/asm.names", Rows.laid_gatehouse_asm_names), ("gatehouse/asm.calls", Rows.laid_gatehouse_asm_calls), ("gatehouse/gatehouseref.words", Rows.laid_gatehouse_gatehouseref_words), ("gatehouse/gatehouseref.calls", Rows.laid_gatehouse_gatehouseref_calls)] W ∧ handlesMet Tryd.prog [("errors.errorType", Rows.laid_errors_errorType)] W := h
 refine ⟨?_, cNames h'.1, cCalls h'.1, cRNames h'.1, cRCalls h'.1⟩
 obtain ⟨g, t, cs, fuel, p, e1, e2, e3, e4⟩ := Lib.laidMet.reads h'.1 (n := "internal/strconv.uint64pow10") (d := Rows.laid_internal_strconv_uint64pow10) (by simp)
 obtain rfl := Option.some.inj (gP10.symm.trans e1)
 obtain rfl := Option.some.inj (tP10.symm.trans e2)
 have e5 : DataW.trod _ Tryd.prog W 0 _ _ fuel 229 cs.toList = some (Lib.tabData .u64 Lib.pow10Tab, p) := e4
 have hc := Lib.cells_of_tab Tryd.underlying229 Tryd.underlying157 cellsU64 cellsP10 e5
 unfold Lib.TabIs
 rw [e3, ← hc]

/-- the door's own heap meets the condition -/
theorem door_met (os : Os) (args : Array Value) : laidMetH Tryd.prog Rows.asmWritesRow.laid ((World.doorLaid Tryd.prog 400 os).forCall (fun _ _ => 0) ⟨#[], args, []⟩).memory :=
 laidMetH_of_parts3 (fuel := 8) (laidMet_of_run' 8 (by kernel_rfl) (by kernel_rfl)) (by kernel_rfl) (by kernel_rfl)

/-! the row's step -/
set_option maxRecDepth 100000 in
theorem lifted (os : Os) (started : os.Started) (H : Type) (enc : TypeId × Value → H) :
  ReturnsInHanded {} Tryd.checked os 4 .any (fun w args => (Rows.asmWritesSpec.pre enc Tryd.prog Tryd.f4 [] false w args ∧ laidMetH Tryd.prog Rows.asmWritesRow.laid w) ∧ sizedMet enc Tryd.prog Tryd.f4 (OpenSpec.ofChange Rows.asmWritesSpec) false w args)
   (Rows.asmWritesSpec.post enc Tryd.prog Tryd.f4 false true false false) := by
 refine returnsInHanded_of_change_and (C := Tryd.checked) (X := fun w _ => laidMetH Tryd.prog Rows.asmWritesRow.laid w) (fun _ _ _ hh h => h.of_heap hh) own started (by kernel_rfl) Tryd.func4
  (ChangeSpec.witness_shaped (enc := enc) (C := Tryd.checked) (os := os) (X := fun w _ => laidMetH Tryd.prog Rows.asmWritesRow.laid w) false (World.doorLaid Tryd.prog 400 os) #[.slice none 0 0] 8 rfl (World.shaped_of_RefB (by kernel_rfl) (by kernel_rfl)) (by kernel_rfl) (by kernel_rfl) (by kernel_rfl) (door_met os _)) ?_
 intro W base args ds gs before hval0 hW _ _ hL _
 have hval : ∀ (j : Nat) t v, Tryd.f4.params[j]? = some t → args[j]? = some v → Value.okWide Tryd.prog W .any base t v := hval0
 have hW' := hW
 obtain ⟨p, q, hA0, hV, rfl, hfz, hnd⟩ := hW
 have hA : DataW.TrodAll enc Tryd.prog W 0 (fun _ => true) true Tryd.f4.params.toList args.toList ds p := hA0
 rw [Tryd.params4] at hA hval
 obtain ⟨v0, vs0, d0, ds0, p0, q0, hargs, rfl, rfl, h0, r0⟩ := trodAll_cons hA
 obtain ⟨rfl, rfl, rfl⟩ := trodAll_nil r0
 obtain rfl : args = #[v0] := by cases args; simp_all
 obtain ⟨rfl, rfl⟩ := trodVars_none hV
 obtain ⟨a0, len0, cap0, rfl⟩ := okWide_slice Tryd.underlying22 (hval 0 22 v0 rfl rfl)
 have hg := handle_of_laid hL
 have ha := tabs_of_laid hL
 have hlt : ∀ x ∈ p0 ++ [], x.block < W.heap.size := fun x hx => hW'.lt x (by simpa using hx)
 have fin : ∀ W' : World, Below W.heap.size W W' → Rows.asmWritesSpec.post enc Tryd.prog Tryd.f4 false true false false W #[.slice a0 len0 cap0] (.bool true) W' := fun W' hb =>
  Go.Proofs.YtfpoicdfkjbknaaDoor.W.post_old (pa := p0 ++ []) (pv := []) hb hW' rfl (fun _ _ _ => (trodAll_cons_mk (shut_bool Tryd.underlying4 _) trodAll_mk0))
   (fun sp hsp => trodAll_cons_mk (WideElems.Trod_stays laidOut (by kernel_rfl) (of_decide_eq_true (by kernel_rfl)) h0 (fun x hx => hb.same (hlt x (by simp [hx]))) (fun x hx => hsp x (by simp [hx]))) trodAll_mk0)
   (fun _ _ => rfl) (ok_one (by kernel_rfl) rfl (okWide_bool_mk Tryd.underlying4 _))
 clear hA0 hval0
 obtain ⟨fuel, hf⟩ := h0
 have main : len0 ≤ cap0 ∧ ∃ S, (0 < len0 → ∃ a, a0 = some a ∧ Go.Proofs.YtfpoicdfkjbknaaDoor.W.Cells W a S len0) ∧ ∀ j, j < len0 → P.In64 (S j).off ∧ P.In64 (S j).num := by
  rcases steps_of_reads (show DataW.trod enc Tryd.prog W 0 (fun _ => true) true fuel 22 [.slice a0 len0 cap0] = some (d0, p0) by simpa [Value.cells] using hf) with h1 | ⟨a, len, cap, S, h1, hl, hs, hi⟩
  ·simp only [Value.slice.injEq] at h1
   obtain ⟨rfl, rfl, rfl⟩ := h1
   exact ⟨Nat.le_refl _, fun _ => ⟨0, 0, 0, false, 0, 0⟩, fun h => by omega, fun j h => by omega⟩
  ·simp only [Value.slice.injEq] at h1
   obtain ⟨rfl, rfl, rfl⟩ := h1
   exact ⟨hl, S, fun _ => ⟨a, rfl, hs⟩, hi⟩
 obtain ⟨hcap, S, hs, hin⟩ := main
 by_cases hbig : 300 < len0
 ·refine (Go.Proofs.YtfpoicdfkjbknaaDoor.W.asmWrites_big a0 len0 cap0 hbig W).mono fun e W' ⟨he, hb⟩ => ?_
  subst he
  exact ⟨_, rfl, fin W' hb⟩
 ·refine (Go.Proofs.YtfpoicdfkjbknaaDoor.W.asmWrites_walk a0 len0 cap0 S hcap hbig W hs hin hg ha).mono fun e W' ⟨he, hb⟩ => ?_
  subst he
  exact ⟨_, rfl, fin W' hb⟩

theorem over : Rows.AsmWritesSaid :=
 OpenClaim.holds_of_wide 4 Tryd.f4 rfl rfl rfl rfl rfl rfl rfl ⟨rfl, rfl, rfl, rfl, rfl⟩ rfl rfl rfl rfl rfl (by kernel_rfl) Tryd.func4 (by kernel_rfl)
  (of_decide_eq_true (by kernel_rfl)) (by unfold Func.isWrapper; first | (rw [if_pos (by decide +kernel)]; kernel_rfl) | (rw [if_neg (by decide +kernel)]; exact ⟨rfl, rfl⟩))
  (fun os started H enc _ => lifted os started H enc)

/-- THE STATEMENT: the tied card -/
theorem proved : Rows.AsmWritesCardSaid :=
 Claim7.holds_tied_plain_at .later [] [.data, .data, .data, .handle, .widerDeep, .widerDeep, .data, .data] true _ true
  over (fun _ h => by cases h) (by kernel_rfl) (fun _ h => by cases h) asmWrites_row_tie rfl ⟨rfl, rfl⟩ (by kernel_rfl) rfl
  (fun f fn hf hfn => by
   obtain rfl : f = 4 := Option.some.inj ((show Tryd.prog.funcNamed "gatehouse/gatehouselaw.AsmWrites" = some 4 by kernel_rfl).symm.trans hf) |>.symm
   obtain rfl : fn = Tryd.f4 := (Option.some.inj (Tryd.func4.symm.trans hfn)).symm
   refine ⟨by kernel_rfl, fun j t ht => ?_⟩
   rw [Tryd.params4] at ht
   rcases j with _ | j <;> simp at ht <;> subst ht <;> kernel_rfl)
  (by kernel_rfl)
#print axioms proved
end Go.Proofs.YtfpoicdfkjbknaaDoor.asmWrites
