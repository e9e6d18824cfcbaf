/- Texts of known bytes laid end to end: one operation, in a walk or in a region that only reads. No conditions but that the lengths' sum is an int. -/
import Derived.Test.YtglilddlhibogaaGreatDoorPureAsm
import Derived.Test.YtglilddlhibogaaGreatDoorMidQuiet
import Derived.Laws.Concat
namespace Go.Proofs.YtglilddlhibogaaGreatDoor.W
open Go.RowKit Go.Proofs.YtglilddlhibogaaGreatDoor.P
set_option linter.unusedSimpArgs false
set_option linter.unusedVariables false

theorem exec_cat {P : Program} {w : World} {o : Oper} {a : Act} (t t2 : TypeId) (x y : Operand) (ho : o.op = .binOp .add t x y t2) (l r : List UInt8) (hx : a.eval x = .string (bs l)) (hy : a.eval y = .string (bs r)) (hl : l.length + r.length ≤ 9223372036854775807) :
  (execOp a.eval o).run P w = .ok (.value (.string (bs (l ++ r)))) w := by
 have h2 : ¬ 9223372036854775807 < (bs l).size + (bs r).size := by simp [bs, ByteArray.size]; omega
 unfold execOp
 simp only [ho, hx, hy]
 simp [eqGuard, go_sem, h2, bs_append]
theorem wpList_cat {P : Program} {ops : Array Oper} {rest : List Oper} {op : Oper} {a : Act} {w : World} {Q : Exit → Act → World → Prop} (hw : Region.wanted op (yielded ops a.tmps) = true) (t t2 : TypeId) (x y : Operand) (ho : op.op = .binOp .add t x y t2)
  (l r : List UInt8) (hx : a.eval x = .string (bs l)) (hy : a.eval y = .string (bs r)) (hl : l.length + r.length ≤ 9223372036854775807) (h : wpList P ops Q rest (a.put op.dst (.string (bs (l ++ r)))) w) : wpList P ops Q (op :: rest) a w :=
 wpList_step fun _ hK => by
  rw [if_pos hw]
  unfold Oper.wp
  rw [exec_cat t t2 x y ho l r hx hy hl]
  exact hK _ _ h
theorem wpQuiet_cat {P : Program} {ops : Array Oper} {C : World → Prop} {Q : Act → Prop} {a : Act} {o : Oper} {rest : List Oper} (hgd : o.guard = none) (t t2 : TypeId) (x y : Operand) (ho : o.op = .binOp .add t x y t2)
  (l r : List UInt8) (hx : a.eval x = .string (bs l)) (hy : a.eval y = .string (bs r)) (hl : l.length + r.length ≤ 9223372036854775807) (h : wpQuiet P ops C Q rest (a.put o.dst (.string (bs (l ++ r))))) : wpQuiet P ops C Q (o :: rest) a := by
 have hw : Region.wanted o (yielded ops a.tmps) = true := by unfold Region.wanted; rw [hgd]
 unfold wpQuiet
 rw [if_pos hw]
 refine ⟨.string (bs (l ++ r)), fun w hw => ?_, h⟩
 unfold Oper.quietAt
 rw [exec_cat t t2 x y ho l r hx hy hl]
 exact ⟨rfl, rfl⟩
end Go.Proofs.YtglilddlhibogaaGreatDoor.W
