/- MachineRuns: for every input the law returns true, and the arguments read as they did; the variable errors.errorType is tied to the program's text (the card). No further conditions. -/
import Derived.Test.YtfpoicdfkjbknaaDoorRows
import Derived.Test.YtfpoicdfkjbknaaDoorCards
import Derived.Test.YtfpoicdfkjbknaaDoorTie
import Derived.WalkKit
import Derived.ProofKit
import Derived.OpenShut
import Derived.LaidMore
import Derived.LaidHandle
import Derived.Carry
import Derived.Deep.Slices
import Derived.Deep.Fields
import Derived.Stop.Joined
import Derived.Lib.SmallJoins
import Derived.SevenTiedAt
import Derived.Test.YtfpoicdfkjbknaaDoorPost
import Derived.Test.YtfpoicdfkjbknaaDoorLawMachineRuns
namespace Go.Proofs.YtfpoicdfkjbknaaDoor.machineRuns
open Go.ChangeShapes Go.WideShapes Go.ChangeAt Go.RowKit Go.Joins Go.Deep
set_option linter.unusedSimpArgs false
set_option linter.unusedVariables false
set_option linter.unusedVariables false

theorem own : ownKnob Tryd.prog.godebug = none := by kernel_rfl
theorem laidOut : laidOutB Tryd.prog = true := by kernel_rfl
theorem cellsS : Tryd.prog.cellsOf 65 = 6 := by kernel_rfl

theorem in64_lit {n : Int} (h : (Lit.int .i64 n).wf = true) : P.In64 n := by
  simp [Lit.wf, IntKind.min, IntKind.max, IntKind.signed, IntKind.bits] at h
  exact h
theorem okWide_array {P : Program} {w : World} {r : Reach} {b0 : Nat} {t e : TypeId} {n : Nat} {v : Value} (ht : P.underlying t = some (.array n e)) (h : Value.okWide P w r b0 t v) : ∃ cs : Array Value, v = .agg cs ∧ cs.size = P.cellsOf t := by
  simp only [Value.okWide, ht] at h
  obtain ⟨cs, h1, h2, _⟩ := h
  exact ⟨cs, h1, h2⟩
/-- an array of numbers -/
theorem arr_of {cs : Array Value} {n : Nat} (hsz : cs.size = n) (h : ∀ i, i < n → ∃ k, cs[i]? = some (.int .i64 k) ∧ P.In64 k) : ∃ f : Nat → Int, (∀ r, P.In64 (f r)) ∧ cs = ((List.range n).map fun j => Value.int .i64 (f j)).toArray := by
  refine ⟨fun i => if hl : i < n then Classical.choose (h i hl) else 0, fun r => ?_, ?_⟩
  · simp only
    split
    · rename_i hl; exact (Classical.choose_spec (h r hl)).2
    · exact P.in64_zero
  · apply Array.ext'
    apply List.ext_getElem?
    intro i
    by_cases hl : i < n
    · rw [Array.getElem?_toList, (Classical.choose_spec (h i hl)).1]
      simp [hl]
    · rw [List.getElem?_eq_none (by simp; omega), List.getElem?_eq_none (by simp; omega)]
theorem cellsW : Tryd.prog.cellsOf 23 = 8 := by kernel_rfl
theorem cellsT : Tryd.prog.cellsOf 26 = 16 := by kernel_rfl
theorem cellsR : Tryd.prog.cellsOf 24 = 4 := by kernel_rfl
theorem cellsI : Tryd.prog.cellsOf 2 = 1 := by kernel_rfl
set_option maxRecDepth 100000 in
/-- what is told, out of its reading -/
theorem words_of_reads {H : Type} {enc : TypeId × Value → H} {W : World} {sp : Nat → Bool} {held : Bool} {r : Reach} {b0 : Nat} {v : Value} {d : DataW H} {p : List MemPlace}
    (hv : Value.okWide Tryd.prog W r b0 23 v) (h : DataW.Trod enc Tryd.prog W 0 sp held 23 v d p) : ∃ told : Nat → Int, v = Go.Proofs.YtfpoicdfkjbknaaDoor.W.words8 told ∧ ∀ j, P.In64 (told j) := by
  obtain ⟨cs, hcs, hsz⟩ := okWide_array (P := Tryd.prog) (t := 23) Tryd.underlying23 hv
  subst hcs
  rw [cellsW] at hsz
  obtain ⟨fuel, hf⟩ := h
  obtain ⟨xs, m, -, -, -, hxl, hi⟩ := DataW.trod_array Tryd.underlying23 hf
  obtain ⟨f, hf1, hf2⟩ := arr_of (n := 8) hsz fun i hil => by
    have hx := hi i hil
    rw [List.getElem?_eq_getElem (by omega), cellsI] at hx
    obtain ⟨k, e, -, wk⟩ := DataW.trod_int Tryd.underlying2 hx
    refine ⟨k, ?_, in64_lit wk⟩
    have := congrArg (·[0]?) e
    simpa [Value.cells] using this
  exact ⟨f, by rw [hf2]; rfl, hf1⟩
set_option maxRecDepth 100000 in
/-- a table, out of its reading -/
theorem table_of_reads {H : Type} {enc : TypeId × Value → H} {W : World} {sp : Nat → Bool} {held : Bool} {r : Reach} {b0 : Nat} {v : Value} {d : DataW H} {p : List MemPlace}
    (hv : Value.okWide Tryd.prog W r b0 26 v) (h : DataW.Trod enc Tryd.prog W 0 sp held 26 v d p) : ∃ cells : Nat → Int, v = Go.Proofs.YtfpoicdfkjbknaaDoor.W.words16 cells ∧ ∀ j, P.In64 (cells j) := by
  obtain ⟨cs, hcs, hsz⟩ := okWide_array (P := Tryd.prog) (t := 26) Tryd.underlying26 hv
  subst hcs
  rw [cellsT] at hsz
  obtain ⟨fuel, hf⟩ := h
  obtain ⟨xs, m, -, -, -, hxl, hi⟩ := DataW.trod_array Tryd.underlying26 hf
  obtain ⟨f, hf1, hf2⟩ := arr_of (n := 16) hsz fun i hil => by
    have hx := hi (i / 4) (by omega)
    rw [List.getElem?_eq_getElem (by omega), cellsR] at hx
    obtain ⟨ys, m2, -, -, -, hyl, hj⟩ := DataW.trod_array Tryd.underlying24 hx
    have hy := hj (i % 4) (by omega)
    rw [List.getElem?_eq_getElem (by omega), cellsI] at hy
    obtain ⟨k, e, -, wk⟩ := DataW.trod_int Tryd.underlying2 hy
    refine ⟨k, ?_, in64_lit wk⟩
    have := congrArg (·[0]?) e
    simp [Value.cells, List.getElem?_take, List.getElem?_drop] at this
    have h4 : i / 4 * 4 + i % 4 = i := by omega
    first
      | (rw [h4] at this; exact this.2)
      | (rw [h4] at this; exact this)
      | (have t2 := this (by omega); rw [h4] at t2; exact t2)
  exact ⟨f, by rw [hf2]; rfl, hf1⟩

/-- a list of six -/
theorem six {α : Type} {l : List α} (h : l.length = 6) : ∃ a b c d e f, l = [a, b, c, d, e, f] := by
  match l, h with
  | [a, b, c, d, e, f], _ => exact ⟨a, b, c, d, e, f, rfl⟩

/-- one step's six cells, out of its reading -/
theorem step_of_reads {H : Type} {enc : TypeId × Value → H} {W : World} {sp : Nat → Bool} {held : Bool} {fuel : Nat} {cs : List Value} {x : DataW H × List MemPlace}
    (h : DataW.trod enc Tryd.prog W 0 sp held fuel 65 cs = some x) :
    ∃ s : P.Step, cs = [.int .i64 s.code, .int .i64 s.dst, .int .i64 s.src, .bool s.reg, .int .i64 s.off, .int .i64 s.num] ∧ P.In64 s.off ∧ P.In64 s.num := by
  obtain ⟨xs, n, -, -, hl, hxl, hf⟩ := DataW.trod_struct Tryd.underlying65 h
  rw [cellsS] at hl
  obtain ⟨c0, c1, c2, c3, c4, c5, rfl⟩ := six hl
  obtain ⟨x0, x1, x2, x3, x4, x5, rfl⟩ := six hxl
  have g0 : DataW.trod enc Tryd.prog W 0 sp held n 3 (List.take (Tryd.prog.cellsOf 3) (List.drop 0 [c0, c1, c2, c3, c4, c5])) = some x0 := hf 0 _ rfl
  have g1 : DataW.trod enc Tryd.prog W 0 sp held n 3 (List.take (Tryd.prog.cellsOf 3) (List.drop 1 [c0, c1, c2, c3, c4, c5])) = some x1 := hf 1 _ rfl
  have g2 : DataW.trod enc Tryd.prog W 0 sp held n 3 (List.take (Tryd.prog.cellsOf 3) (List.drop 2 [c0, c1, c2, c3, c4, c5])) = some x2 := hf 2 _ rfl
  have g3 : DataW.trod enc Tryd.prog W 0 sp held n 4 (List.take (Tryd.prog.cellsOf 4) (List.drop 3 [c0, c1, c2, c3, c4, c5])) = some x3 := hf 3 _ rfl
  have g4 : DataW.trod enc Tryd.prog W 0 sp held n 3 (List.take (Tryd.prog.cellsOf 3) (List.drop 4 [c0, c1, c2, c3, c4, c5])) = some x4 := hf 4 _ rfl
  have g5 : DataW.trod enc Tryd.prog W 0 sp held n 2 (List.take (Tryd.prog.cellsOf 2) (List.drop 5 [c0, c1, c2, c3, c4, c5])) = some x5 := hf 5 _ rfl
  have cI : Tryd.prog.cellsOf 3 = 1 := by kernel_rfl
  have cB : Tryd.prog.cellsOf 4 = 1 := by kernel_rfl
  have cL : Tryd.prog.cellsOf 2 = 1 := by kernel_rfl
  simp only [cI, cB, cL, List.drop_zero, List.drop_succ_cons, List.take_succ_cons, List.take_zero] at g0 g1 g2 g3 g4 g5
  obtain ⟨k0, e0, -⟩ := DataW.trod_int Tryd.underlying3 g0
  obtain ⟨k1, e1, -⟩ := DataW.trod_int Tryd.underlying3 g1
  obtain ⟨k2, e2, -⟩ := DataW.trod_int Tryd.underlying3 g2
  obtain ⟨k3, e3, -⟩ := DataW.trod_bool Tryd.underlying4 g3
  obtain ⟨k4, e4, -, w4⟩ := DataW.trod_int Tryd.underlying3 g4
  obtain ⟨k5, e5, -, w5⟩ := DataW.trod_int Tryd.underlying2 g5
  simp only [List.cons.injEq, and_true] at e0 e1 e2 e3 e4 e5
  subst e0 e1 e2 e3 e4 e5
  exact ⟨⟨k0, k1, k2, k3, k4, k5⟩, rfl, in64_lit w4, in64_lit w5⟩

/-- a program's cells, out of its reading -/
theorem steps_of_reads {H : Type} {enc : TypeId × Value → H} {W : World} {fuel : Nat} {v : Value} {x : DataW H × List MemPlace}
    (h : DataW.trod enc Tryd.prog W 0 (fun _ => true) true fuel 22 [v] = some x) :
    v = .slice none 0 0 ∨ ∃ a len cap S, v = .slice (some a) len cap ∧ len ≤ cap ∧ Go.Proofs.YtfpoicdfkjbknaaDoor.W.Cells W a S len ∧ ∀ j, j < len → P.In64 (S j).off ∧ P.In64 (S j).num := by
  rcases open_slice Tryd.underlying22 h with ⟨hc, -⟩ | ⟨a, len, cap, m, n, D, Pl, hc, hb, hl, hm, hmm, hx, hi⟩
  · exact .inl (by simpa using hc)
  · right
    have hs : ∀ i, i < len → ∃ s : P.Step, W.cell? (a.add (i * 6)) = some (.int .i64 s.code) ∧ W.cell? ⟨(a.add (i * 6)).block, (a.add (i * 6)).off + 1, none⟩ = some (.int .i64 s.dst) ∧
        W.cell? ⟨(a.add (i * 6)).block, (a.add (i * 6)).off + 2, none⟩ = some (.int .i64 s.src) ∧ W.cell? ⟨(a.add (i * 6)).block, (a.add (i * 6)).off + 3, none⟩ = some (.bool s.reg) ∧
        W.cell? ⟨(a.add (i * 6)).block, (a.add (i * 6)).off + 4, none⟩ = some (.int .i64 s.off) ∧ W.cell? ⟨(a.add (i * 6)).block, (a.add (i * 6)).off + 5, none⟩ = some (.int .i64 s.num) ∧ P.In64 s.off ∧ P.In64 s.num := by
      intro i hil
      have him : i < m := by rw [hmm]; simp; omega
      obtain ⟨cs, hcs, ht⟩ := hi i him
      rw [cellsS] at hcs
      obtain ⟨-, -, hat⟩ := World.cells?_some hcs
      obtain ⟨s, rfl, i4, i5⟩ := step_of_reads ht
      exact ⟨s, hat 0 (by omega), hat 1 (by omega), hat 2 (by omega), hat 3 (by omega), hat 4 (by omega), hat 5 (by omega), i4, i5⟩
    refine ⟨a, len, cap, fun i => if hl : i < len then Classical.choose (hs i hl) else ⟨0, 0, 0, false, 0, 0⟩, by simpa using hc, hl, fun i hil => ?_, fun i hil => ?_⟩
    · simp only [hil, dite_true]
      obtain ⟨h0, h1, h2, h3, h4, h5, -, -⟩ := Classical.choose_spec (hs i hil)
      exact ⟨h0, h1, h2, h3, h4, h5⟩
    · simp only [hil, dite_true]
      exact (Classical.choose_spec (hs i hil)).2.2.2.2.2.2

/-! the variable errors.errorType: the handle of the type 'error' -/
theorem et : Tryd.prog.globalNamed "errors.errorType" = some 5 := by kernel_rfl
theorem rt : (Tryd.prog.cutTypes.find? (·.1 == "internal/reflectlite.rtype")).map (·.2) = some 217 := by kernel_rfl
theorem size : Tryd.prog.types.size = 265 := by kernel_rfl
theorem oneRow : ((List.range 265).filter fun t => Tryd.prog.rowNamed t [101, 114, 114, 111, 114]) = [37] := by kernel_rfl

/-- what the condition gives the walk: the variable's one cell -/
theorem handle_of_laid {W : World} (h : laidMetH Tryd.prog Rows.machineRunsRow.laid W) : W.cell? ⟨5, 0, none⟩ = some (.iface 217 (.agg #[.pointer (some ⟨10, 37, none⟩)])) := by
  have h' : laidMet Tryd.prog [] W ∧ handlesMet Tryd.prog Rows.machineRunsRow.laid W := h
  obtain ⟨name, u, ty, e1, e2, e3, e4, e5⟩ := h'.2 _ (List.mem_singleton.2 rfl)
  have en : name = [101, 114, 114, 111, 114] := (Option.some.inj e1).symm
  subst en
  obtain rfl := Option.some.inj (rt.symm.trans e2)
  have hm : ty ∈ (List.range 265).filter fun t => Tryd.prog.rowNamed t [101, 114, 114, 111, 114] := List.mem_filter.2 ⟨List.mem_range.2 (by rw [← size]; exact e3), e4⟩
  rw [oneRow] at hm
  obtain rfl := List.mem_singleton.1 hm
  have hh : typeHandle Tryd.prog 37 = .pointer (some ⟨10, 37, none⟩) := by kernel_rfl
  rw [hh] at e5
  simpa using World.var?_cell et e5 0

/-- the door's own heap meets the condition -/
theorem door_met (os : Os) (args : Array Value) : laidMetH Tryd.prog Rows.machineRunsRow.laid ((World.doorLaid Tryd.prog 400 os).forCall (fun _ _ => 0) ⟨#[], args, []⟩).memory :=
  laidMetH_of_parts (laidMet_nil _ _) (by kernel_rfl)

/-! the row's step -/
set_option maxRecDepth 100000 in
theorem lifted (os : Os) (started : os.Started) (H : Type) (enc : TypeId × Value → H) :
    ReturnsInHanded {} Tryd.checked os 3 .any (fun w args => (Rows.machineRunsSpec.pre enc Tryd.prog Tryd.f3 [] false w args ∧ laidMetH Tryd.prog Rows.machineRunsRow.laid w) ∧ sizedMet enc Tryd.prog Tryd.f3 (OpenSpec.ofChange Rows.machineRunsSpec) false w args)
      (Rows.machineRunsSpec.post enc Tryd.prog Tryd.f3 false true false false) := by
  refine returnsInHanded_of_change_and (C := Tryd.checked) (X := fun w _ => laidMetH Tryd.prog Rows.machineRunsRow.laid w) (fun _ _ _ hh h => h.of_heap hh) own started (by kernel_rfl) Tryd.func3
    (ChangeSpec.witness_shaped (enc := enc) (C := Tryd.checked) (os := os) (X := fun w _ => laidMetH Tryd.prog Rows.machineRunsRow.laid w) false (World.doorLaid Tryd.prog 400 os) #[.slice none 0 0, .agg #[.int .i64 0, .int .i64 0, .int .i64 0, .int .i64 0, .int .i64 0, .int .i64 0, .int .i64 0, .int .i64 0], .agg #[.int .i64 0, .int .i64 0, .int .i64 0, .int .i64 0, .int .i64 0, .int .i64 0, .int .i64 0, .int .i64 0, .int .i64 0, .int .i64 0, .int .i64 0, .int .i64 0, .int .i64 0, .int .i64 0, .int .i64 0, .int .i64 0], .int .i64 0] 8 rfl (World.shaped_of_RefB (by kernel_rfl) (by kernel_rfl)) (by kernel_rfl) (by kernel_rfl) (by kernel_rfl) (door_met os _)) ?_
  intro W base args ds gs before hval0 hW _ _ hL _
  have hval : ∀ (j : Nat) t v, Tryd.f3.params[j]? = some t → args[j]? = some v → Value.okWide Tryd.prog W .any base t v := hval0
  have hW' := hW
  obtain ⟨p, q, hA0, hV, rfl, hfz, hnd⟩ := hW
  have hA : DataW.TrodAll enc Tryd.prog W 0 (fun _ => true) true Tryd.f3.params.toList args.toList ds p := hA0
  rw [Tryd.params3] at hA hval
  obtain ⟨v0, vs0, d0, ds0, p0, q0, hargs, rfl, rfl, h0, r0⟩ := trodAll_cons hA
  obtain ⟨v1, vs1, d1, ds1, p1, q1, rfl, rfl, rfl, h1, r1⟩ := trodAll_cons r0
  obtain ⟨v2, vs2, d2, ds2, p2, q2, rfl, rfl, rfl, h2, r2⟩ := trodAll_cons r1
  obtain ⟨v3, vs3, d3, ds3, p3, q3, rfl, rfl, rfl, h3, r3⟩ := trodAll_cons r2
  obtain ⟨rfl, rfl, rfl⟩ := trodAll_nil r3
  obtain rfl : args = #[v0, v1, v2, v3] := by cases args; simp_all
  obtain ⟨rfl, rfl⟩ := trodVars_none hV
  obtain ⟨a0, len0, cap0, rfl⟩ := okWide_slice Tryd.underlying22 (hval 0 22 v0 rfl rfl)
  obtain ⟨told, rfl, ht⟩ := words_of_reads (hval 1 23 v1 rfl rfl) h1
  obtain ⟨cells, rfl, hce⟩ := table_of_reads (hval 2 26 v2 rfl rfl) h2
  obtain ⟨time, rfl, -, -, w3⟩ := open_int Tryd.underlying2 (hval 3 2 v3 rfl rfl) h3
  have hg := handle_of_laid hL
  have hlt : ∀ x ∈ p0 ++ (p1 ++ (p2 ++ (p3 ++ []))), x.block < W.heap.size := fun x hx => hW'.lt x (by simpa using hx)
  have fin : ∀ W' : World, Below W.heap.size W W' → Rows.machineRunsSpec.post enc Tryd.prog Tryd.f3 false true false false W #[.slice a0 len0 cap0, Go.Proofs.YtfpoicdfkjbknaaDoor.W.words8 told, Go.Proofs.YtfpoicdfkjbknaaDoor.W.words16 cells, .int .i64 time] (.bool true) W' := fun W' hb =>
    Go.Proofs.YtfpoicdfkjbknaaDoor.W.post_old (pa := p0 ++ (p1 ++ (p2 ++ (p3 ++ [])))) (pv := []) hb hW' rfl (fun _ _ _ => (trodAll_cons_mk (shut_bool Tryd.underlying4 _) trodAll_mk0))
      (fun sp hsp => trodAll_cons_mk (WideElems.Trod_stays laidOut (by kernel_rfl) (of_decide_eq_true (by kernel_rfl)) h0 (fun x hx => hb.same (hlt x (by simp [hx]))) (fun x hx => hsp x (by simp [hx])))
        (trodAll_cons_mk (WideElems.Trod_stays laidOut (by kernel_rfl) (of_decide_eq_true (by kernel_rfl)) h1 (fun x hx => hb.same (hlt x (by simp [hx]))) (fun x hx => hsp x (by simp [hx])))
        (trodAll_cons_mk (WideElems.Trod_stays laidOut (by kernel_rfl) (of_decide_eq_true (by kernel_rfl)) h2 (fun x hx => hb.same (hlt x (by simp [hx]))) (fun x hx => hsp x (by simp [hx])))
        (trodAll_cons_mk (WideElems.Trod_stays laidOut (by kernel_rfl) (of_decide_eq_true (by kernel_rfl)) h3 (fun x hx => hb.same (hlt x (by simp [hx]))) (fun x hx => hsp x (by simp [hx]))) trodAll_mk0))))
      (fun _ _ => rfl) (ok_one (by kernel_rfl) rfl (okWide_bool_mk Tryd.underlying4 _))
  clear hA0 hval0
  obtain ⟨fuel, hf⟩ := h0
  have main : len0 ≤ cap0 ∧ ∃ S, Go.Proofs.YtfpoicdfkjbknaaDoor.W.ProgAt W a0 S len0 ∧ ∀ j, j < len0 → P.In64 (S j).off ∧ P.In64 (S j).num := by
    rcases steps_of_reads (show DataW.trod enc Tryd.prog W 0 (fun _ => true) true fuel 22 [.slice a0 len0 cap0] = some (d0, p0) by simpa [Value.cells] using hf) with h1 | ⟨a, len, cap, S, h1, hl, hs, hi⟩
    · simp only [Value.slice.injEq] at h1
      obtain ⟨rfl, rfl, rfl⟩ := h1
      exact ⟨Nat.le_refl _, fun _ => ⟨0, 0, 0, false, 0, 0⟩, fun h => by omega, fun j h => by omega⟩
    · simp only [Value.slice.injEq] at h1
      obtain ⟨rfl, rfl, rfl⟩ := h1
      exact ⟨hl, S, fun _ => ⟨a, rfl, hs⟩, hi⟩
  obtain ⟨hcap, S, hs, hin⟩ := main
  by_cases hbig : 300 < len0
  · refine (Go.Proofs.YtfpoicdfkjbknaaDoor.W.machineRuns_big a0 len0 cap0 told cells time hbig W).mono fun e W' ⟨he, hb⟩ => ?_
    subst he
    exact ⟨_, rfl, fin W' hb⟩
  · refine (Go.Proofs.YtfpoicdfkjbknaaDoor.W.machineRuns_walk a0 len0 cap0 S hcap told cells time hbig W hs hin ht hce (in64_lit w3) hg).mono fun e W' ⟨he, hb⟩ => ?_
    subst he
    exact ⟨_, rfl, fin W' hb⟩

theorem over : Rows.MachineRunsSaid :=
  OpenClaim.holds_of_wide 3 Tryd.f3 rfl rfl rfl rfl rfl rfl rfl ⟨rfl, rfl, rfl, rfl, rfl⟩ rfl rfl rfl rfl rfl (by kernel_rfl) Tryd.func3 (by kernel_rfl)
    (of_decide_eq_true (by kernel_rfl)) (by unfold Func.isWrapper; first | (rw [if_pos (by decide +kernel)]; kernel_rfl) | (rw [if_neg (by decide +kernel)]; exact ⟨rfl, rfl⟩))
    (fun os started H enc _ => lifted os started H enc)

/-- THE STATEMENT: the tied card -/
theorem proved : Rows.MachineRunsCardSaid :=
  Claim7.holds_tied_plain_at .later [] [.handle] true _ true
    over (fun _ h => by cases h) (by kernel_rfl) (fun _ h => by cases h) machineRuns_row_tie rfl ⟨rfl, rfl⟩ (by kernel_rfl) rfl
    (fun f fn hf hfn => by
      obtain rfl : f = 3 := Option.some.inj ((show Tryd.prog.funcNamed "gatehouse/gatehouselaw.MachineRuns" = some 3 by kernel_rfl).symm.trans hf) |>.symm
      obtain rfl : fn = Tryd.f3 := (Option.some.inj (Tryd.func3.symm.trans hfn)).symm
      refine ⟨by kernel_rfl, fun j t ht => ?_⟩
      rw [Tryd.params3] at ht
      rcases j with _ | _ | _ | _ | j <;> simp at ht <;> subst ht <;> kernel_rfl)
    (by kernel_rfl)
#print axioms proved
end Go.Proofs.YtfpoicdfkjbknaaDoor.machineRuns
