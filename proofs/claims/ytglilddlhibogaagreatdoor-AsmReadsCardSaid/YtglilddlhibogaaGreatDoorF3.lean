/- The reference's reading of a step: the code. Conditions: the tables that reading reads, and the reference's own, lie in the world. -/
import Derived.Test.YtglilddlhibogaaGreatDoorF2
import Derived.Test.YtglilddlhibogaaGreatDoorPureForm
import Derived.Deep.CutBlock
import Derived.Deep.DeepCutAuto
import Derived.Deep.Light
namespace Go.Proofs.YtglilddlhibogaaGreatDoor.W
open Go.RowKit Go.Proofs.YtglilddlhibogaaGreatDoor.P
set_option linter.unusedSimpArgs false
set_option linter.unusedVariables false

/-- the reference's tables: their first entry is a sign of its own -/
def rnm (k : Nat) : List UInt8 := ([45] :: nms.tail).getD k []
def rcl (k : Nat) : List UInt8 := ([45] :: cls.tail).getD k []
theorem rnm_pos : ∀ k, 0 < k → rnm k = nm k
 | 0, h => absurd h (by omega)
 | _ + 1, _ => rfl
theorem rcl_pos : ∀ k, 0 < k → rcl k = cl k
 | 0, h => absurd h (by omega)
 | _ + 1, _ => rfl
structure FTabs (w : World) : Prop where
 words : ∀ k, k < 29 → w.cell? ⟨0, k, none⟩ = some (.string (bs (rnm k)))
 calls : ∀ k, k < 4 → w.cell? ⟨1, k, none⟩ = some (.string (bs (rcl k)))
theorem FTabs.later {w w' : World} (h : FTabs w) (hb : Below w.heap.size w w') : FTabs w' :=
 ⟨fun k h1 => (hb.cell (block_lt_of_cell (h.words k h1))).trans (h.words k h1), fun k h1 => (hb.cell (block_lt_of_cell (h.calls k h1))).trans (h.calls k h1)⟩
def wordsV : List Value := ([45] :: nms.tail).map fun l => .string (bs l)
def callsV : List Value := ([45] :: cls.tail).map fun l => .string (bs l)
theorem FTabs.wrange {w : World} (h : FTabs w) : w.rangeAt 0 0 wordsV := by
 intro j v hv
 have hj : j < 29 := (List.getElem?_eq_some_iff.1 hv).1
 rw [Nat.zero_add, h.words j hj, ← hv]
 unfold wordsV rnm
 rw [List.getElem?_map, List.getD_eq_getElem?_getD, List.getElem?_eq_getElem (show j < ([45] :: nms.tail).length from hj)]; rfl
theorem FTabs.crange {w : World} (h : FTabs w) : w.rangeAt 1 0 callsV := by
 intro j v hv
 have hj : j < 4 := (List.getElem?_eq_some_iff.1 hv).1
 rw [Nat.zero_add, h.calls j hj, ← hv]
 unfold callsV rcl
 rw [List.getElem?_map, List.getD_eq_getElem?_getD, List.getElem?_eq_getElem (show j < ([45] :: cls.tail).length from hj)]; rfl
theorem size_words : (Tryz.prog.info? 153).map (·.size) = some wordsV.length := by kernel_rfl
theorem size_calls : (Tryz.prog.info? 160).map (·.size) = some callsV.length := by kernel_rfl
theorem widx (w : World) : ∀ (k : Nat), k < 29 → (Instr.index 153 (.agg wordsV.toArray) (.int .i64 (k : Int))).run Tryz.prog w = .ok (.string (bs (rnm k))) w
 | 0, _ => by kernel_rfl
 | 1, _ => by kernel_rfl
 | 2, _ => by kernel_rfl
 | 3, _ => by kernel_rfl
 | 4, _ => by kernel_rfl
 | 5, _ => by kernel_rfl
 | 6, _ => by kernel_rfl
 | 7, _ => by kernel_rfl
 | 8, _ => by kernel_rfl
 | 9, _ => by kernel_rfl
 | 10, _ => by kernel_rfl
 | 11, _ => by kernel_rfl
 | 12, _ => by kernel_rfl
 | 13, _ => by kernel_rfl
 | 14, _ => by kernel_rfl
 | 15, _ => by kernel_rfl
 | 16, _ => by kernel_rfl
 | 17, _ => by kernel_rfl
 | 18, _ => by kernel_rfl
 | 19, _ => by kernel_rfl
 | 20, _ => by kernel_rfl
 | 21, _ => by kernel_rfl
 | 22, _ => by kernel_rfl
 | 23, _ => by kernel_rfl
 | 24, _ => by kernel_rfl
 | 25, _ => by kernel_rfl
 | 26, _ => by kernel_rfl
 | 27, _ => by kernel_rfl
 | 28, _ => by kernel_rfl
 | k + 29, h => absurd h (by omega)
theorem cidx (w : World) : ∀ (k : Nat), k < 4 → (Instr.index 160 (.agg callsV.toArray) (.int .i64 (k : Int))).run Tryz.prog w = .ok (.string (bs (rcl k))) w
 | 0, _ => by kernel_rfl
 | 1, _ => by kernel_rfl
 | 2, _ => by kernel_rfl
 | 3, _ => by kernel_rfl
 | k + 4, h => absurd h (by omega)
theorem wpList_load_at {P : Program} {ops : Array Oper} {rest : List Oper} {op : Oper} {a : Act} {w : World} {Q : Exit → Act → World → Prop} (hw : Region.wanted op (yielded ops a.tmps) = true) (ty : TypeId) (x : Operand) (ho : op.op = .load ty x)
  (b o : Nat) (hx : a.eval x = .pointer (some ⟨b, o, none⟩)) (cs : List Value) (d : TypeDesc) (hc : w.rangeAt b o cs) (hu : P.underlying ty = some d) (hd : d.isRow = true) (hi : (P.info? ty).map (·.size) = some cs.length)
  (h : wpList P ops Q rest (a.put op.dst (.agg cs.toArray)) w) : wpList P ops Q (op :: rest) a w :=
 wpList_step fun _ hK => by
  rw [if_pos hw]
  exact wp_load_mid ty x ho b o hx cs d hc hu hd hi (hK _ _ h)
end Go.Proofs.YtglilddlhibogaaGreatDoor.W
