/- A whole row that is read within a region that draws its order: one step of the quiet walk. No conditions. -/
import Derived.Test.YtglilddlhibogaaGreatDoorQuietTail
import Derived.Deep.MidRow
namespace Go.Proofs.YtglilddlhibogaaGreatDoor.W
open Go.RowKit Go.Sort
set_option linter.unusedSimpArgs false
set_option linter.unusedVariables false

theorem wpQuiet_load {P : Program} {ops : Array Oper} {C : World → Prop} {Q : Act → Prop} {a : Act} {o : Oper} {rest : List Oper} (hgd : o.guard = none) (ty : TypeId) (x : Operand) (ho : o.op = .load ty x) (p : Addr)
  (hx : a.eval x = .pointer (some p)) (v : Value) (hl : ∀ w, C w → (Instr.loadAt ty (.pointer (some p))).run P w = .ok v w) (h : wpQuiet P ops C Q rest (a.put o.dst v)) : wpQuiet P ops C Q (o :: rest) a := by
 have hw : Region.wanted o (yielded ops a.tmps) = true := by unfold Region.wanted; rw [hgd]
 unfold wpQuiet
 rw [if_pos hw]
 refine ⟨v, fun w hw => ?_, h⟩
 unfold Oper.quietAt execOp
 simp only [ho, hx, Sem.run_bind, hl w hw, Result.andThen_ok, Sem.run_pure, Oper.quietUpon]
 first | exact ⟨rfl, rfl⟩ | trivial | simp
theorem wpQuiet_build {P : Program} {ops : Array Oper} {C : World → Prop} {Q : Act → Prop} {a : Act} {o : Oper} {rest : List Oper} (hgd : o.guard = none) (ty : TypeId) (parts : Array (Nat × Operand)) (ho : o.op = .build ty parts)
  (vals : Array (Nat × Value)) (hx : parts.map (fun (i, x) => (i, a.eval x)) = vals) (cells : Array Value) (hb : P.built ty vals.toList = some cells) (h : wpQuiet P ops C Q rest (a.put o.dst (.agg cells))) : wpQuiet P ops C Q (o :: rest) a := by
 have hw : Region.wanted o (yielded ops a.tmps) = true := by unfold Region.wanted; rw [hgd]
 unfold wpQuiet
 rw [if_pos hw]
 refine ⟨.agg cells, fun w hw => ?_, h⟩
 unfold Oper.quietAt execOp
 simp only [ho, hx, Sem.run_bind, run_build w ty vals cells hb, Result.andThen_ok, Sem.run_pure, Oper.quietUpon]
 first | exact ⟨rfl, rfl⟩ | trivial | simp
theorem wpList_build {P : Program} {ops : Array Oper} {Q : Exit → Act → World → Prop} {a : Act} {w : World} {o : Oper} {rest : List Oper} (hgd : o.guard = none) (ty : TypeId) (parts : Array (Nat × Operand)) (ho : o.op = .build ty parts)
  (vals : Array (Nat × Value)) (hx : parts.map (fun (i, x) => (i, a.eval x)) = vals) (cells : Array Value) (hb : P.built ty vals.toList = some cells) (h : wpList P ops Q rest (a.put o.dst (.agg cells)) w) : wpList P ops Q (o :: rest) a w :=
 wpList_plain hgd fun _ hK => by
  unfold Oper.wp execOp
  simp only [ho, hx, Sem.run_bind, run_build w ty vals cells hb, Result.andThen_ok, Sem.run_pure]
  exact hK _ _ h
/-- results: a variable in memory and a slot -/
theorem results_cell_tmp {P : Program} {w : World} {fn : Func} {tmps : Array Value} {a t : Nat} {ty : TypeId} (hr : fn.results = #[.cell a ty, .tmp t]) {p : Addr} (ha : tmps.getD a undef = .pointer (some p)) {u : Value} (ht : tmps.getD t undef = u) {v : Value}
  (hl : (loadVar ty p).run P w = .ok v w) : (results fn tmps).run P w = .ok (.tuple #[v, u]) w := by
 rw [Array.getD_eq_getD_getElem?] at ha ht
 unfold results
 rw [hr]
 simp [asAddr, ha, hl, ht, Sem.run_bind, Sem.run_pure]
/-- results: two variables in memory -/
theorem results_cell_cell {P : Program} {w : World} {fn : Func} {tmps : Array Value} {a t : Nat} {ty ty' : TypeId} (hr : fn.results = #[.cell a ty, .cell t ty']) {p q : Addr} (ha : tmps.getD a undef = .pointer (some p)) (ht : tmps.getD t undef = .pointer (some q)) {v u : Value}
  (hl : (loadVar ty p).run P w = .ok v w) (hl' : (loadVar ty' q).run P w = .ok u w) : (results fn tmps).run P w = .ok (.tuple #[v, u]) w := by
 rw [Array.getD_eq_getD_getElem?] at ha ht
 unfold results
 rw [hr]
 simp [asAddr, ha, hl, ht, hl', Sem.run_bind, Sem.run_pure]
end Go.Proofs.YtglilddlhibogaaGreatDoor.W
