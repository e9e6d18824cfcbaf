/- MachineSound: for every input the law returns true, and each argument reads as it did; the variable errors.errorType, strconv's two errors, the tables of names and those that numbers' texts are made of are tied to the program's text (the card). No further conditions. -/
import Derived.Test.YtpdlmbbgioenoaaGreatDoorOneLet
import Derived.Deep.DeepCutAuto
import Derived.Deep.CutBlock
import Derived.Test.YtpdlmbbgioenoaaGreatDoorWalkBound
import Derived.Test.YtpdlmbbgioenoaaGreatDoorRows
import Derived.Test.YtpdlmbbgioenoaaGreatDoorCards
import Derived.Test.YtpdlmbbgioenoaaGreatDoorTie
import Derived.Test.YtpdlmbbgioenoaaGreatDoorReads
import Derived.Test.YtpdlmbbgioenoaaGreatDoorLaidB3
import Derived.Test.YtpdlmbbgioenoaaGreatDoorClosedMachineSound
import Derived.ChangeMaps5
/-! part: TableEq -/
namespace Go.Proofs.YtpdlmbbgioenoaaGreatDoor.W
open Go.RowKit
set_option linter.unusedSimpArgs false
set_option linter.unusedVariables false

theorem equal_row (d : Nat) (a b c e : Int) (w : World) : (Op.equalIn (d + 2) 53 (.agg #[.int .i64 a, .int .i64 b, .int .i64 c, .int .i64 e]) (.agg #[.int .i64 a, .int .i64 b, .int .i64 c, .int .i64 e])).run Tryz.prog w = .ok true w := by
 have h1 : ∀ w, (sizeOf 2).run Tryz.prog w = .ok 1 w := fun w => by kernel_rfl
 have h2 : ∀ w, (isAgg 2).run Tryz.prog w = .ok false w := fun w => by kernel_rfl
 have h3 : ∀ (x : Int) (w : World), (Op.equalIn (d + 1) 2 (.int .i64 x) (.int .i64 x)).run Tryz.prog w = .ok true w := fun x w => by
  rw [run_equalIn_int (P := Tryz.prog) w d 2 .i64 .i64 x x Tryz.underlying2]; simp
 simp only [Op.equalIn, Sem.run_bind, run_underlying Tryz.underlying53, Result.andThen_ok, h1]
 simp [Std.Legacy.Range.forIn_eq_forIn_range', List.range', part, Sem.run_bind, h1, h2, h3, Result.andThen_ok]
set_option maxRecDepth 10000 in
theorem equal_table_d (d : Nat) (c0 c1 c2 c3 c4 c5 c6 c7 c8 c9 c10 c11 c12 c13 c14 c15 : Int) (w : World) : (Op.equalIn (d + 3) 55 (.agg #[.int .i64 c0, .int .i64 c1, .int .i64 c2, .int .i64 c3, .int .i64 c4, .int .i64 c5, .int .i64 c6, .int .i64 c7, .int .i64 c8, .int .i64 c9, .int .i64 c10, .int .i64 c11, .int .i64 c12, .int .i64 c13, .int .i64 c14, .int .i64 c15]) (.agg #[.int .i64 c0, .int .i64 c1, .int .i64 c2, .int .i64 c3, .int .i64 c4, .int .i64 c5, .int .i64 c6, .int .i64 c7, .int .i64 c8, .int .i64 c9, .int .i64 c10, .int .i64 c11, .int .i64 c12, .int .i64 c13, .int .i64 c14, .int .i64 c15])).run Tryz.prog w = .ok true w := by
 have h1 : ∀ w, (sizeOf 53).run Tryz.prog w = .ok 4 w := fun w => by kernel_rfl
 have h2 : ∀ w, (isAgg 53).run Tryz.prog w = .ok true w := fun w => by kernel_rfl
 have h3 := fun (a b c e : Int) (w : World) => equal_row d a b c e w
 unfold Op.equalIn
 simp only [Sem.run_bind, run_underlying Tryz.underlying55, Result.andThen_ok, h1]
 simp [Std.Legacy.Range.forIn_eq_forIn_range', List.range', part, Sem.run_bind, h1, h2, h3, Result.andThen_ok]
theorem equal_table (c0 c1 c2 c3 c4 c5 c6 c7 c8 c9 c10 c11 c12 c13 c14 c15 : Int) (w : World) : (Op.equalIn 10000 55 (.agg #[.int .i64 c0, .int .i64 c1, .int .i64 c2, .int .i64 c3, .int .i64 c4, .int .i64 c5, .int .i64 c6, .int .i64 c7, .int .i64 c8, .int .i64 c9, .int .i64 c10, .int .i64 c11, .int .i64 c12, .int .i64 c13, .int .i64 c14, .int .i64 c15]) (.agg #[.int .i64 c0, .int .i64 c1, .int .i64 c2, .int .i64 c3, .int .i64 c4, .int .i64 c5, .int .i64 c6, .int .i64 c7, .int .i64 c8, .int .i64 c9, .int .i64 c10, .int .i64 c11, .int .i64 c12, .int .i64 c13, .int .i64 c14, .int .i64 c15])).run Tryz.prog w = .ok true w := equal_table_d 9997 c0 c1 c2 c3 c4 c5 c6 c7 c8 c9 c10 c11 c12 c13 c14 c15 w
end Go.Proofs.YtpdlmbbgioenoaaGreatDoor.W

/-! part: TableAny -/
namespace Go.Proofs.YtpdlmbbgioenoaaGreatDoor.W
open Go.RowKit
set_option linter.unusedSimpArgs false
set_option linter.unusedVariables false

set_option maxHeartbeats 8000000 in
theorem any_row (d : Nat) (a b c e a' b' c' e' : Int) (w : World) : ∃ r, (Op.equalIn (d + 2) 53 (.agg #[.int .i64 a, .int .i64 b, .int .i64 c, .int .i64 e]) (.agg #[.int .i64 a', .int .i64 b', .int .i64 c', .int .i64 e'])).run Tryz.prog w = .ok r w := by
 have h1 : ∀ w, (sizeOf 2).run Tryz.prog w = .ok 1 w := fun w => by kernel_rfl
 have h2 : ∀ w, (isAgg 2).run Tryz.prog w = .ok false w := fun w => by kernel_rfl
 simp only [Op.equalIn, Sem.run_bind, run_underlying Tryz.underlying53, Result.andThen_ok, h1]
 simp [Std.Legacy.Range.forIn_eq_forIn_range', List.range', part, Sem.run_bind, h1, h2, Result.andThen_ok]
 by_cases q : a = a' ∧ b = b' ∧ c = c' ∧ e = e'
 ·exact .inr (by rw [if_pos q.1, if_pos q.2.1, if_pos q.2.2.1, if_pos q.2.2.2])
 ·exact .inl fun q1 q2 q3 q4 => q ⟨q1, q2, q3, q4⟩
set_option maxRecDepth 10000 in
set_option maxHeartbeats 8000000 in
theorem any_table_d (d : Nat) (c0 c1 c2 c3 c4 c5 c6 c7 c8 c9 c10 c11 c12 c13 c14 c15 : Int) (w : World) : ∃ r, (Op.equalIn (d + 3) 55 (.agg #[.int .i64 c0, .int .i64 c1, .int .i64 c2, .int .i64 c3, .int .i64 c4, .int .i64 c5, .int .i64 c6, .int .i64 c7, .int .i64 c8, .int .i64 c9, .int .i64 c10, .int .i64 c11, .int .i64 c12, .int .i64 c13, .int .i64 c14, .int .i64 c15]) (.agg #[.int .i64 0, .int .i64 0, .int .i64 0, .int .i64 0, .int .i64 0, .int .i64 0, .int .i64 0, .int .i64 0, .int .i64 0, .int .i64 0, .int .i64 0, .int .i64 0, .int .i64 0, .int .i64 0, .int .i64 0, .int .i64 0])).run Tryz.prog w = .ok r w := by
 have h1 : ∀ w, (sizeOf 53).run Tryz.prog w = .ok 4 w := fun w => by kernel_rfl
 have h2 : ∀ w, (isAgg 53).run Tryz.prog w = .ok true w := fun w => by kernel_rfl
 obtain ⟨r0, h30⟩ := any_row d c0 c1 c2 c3 0 0 0 0 w
 obtain ⟨r1, h31⟩ := any_row d c4 c5 c6 c7 0 0 0 0 w
 obtain ⟨r2, h32⟩ := any_row d c8 c9 c10 c11 0 0 0 0 w
 obtain ⟨r3, h33⟩ := any_row d c12 c13 c14 c15 0 0 0 0 w
 unfold Op.equalIn
 simp only [Sem.run_bind, run_underlying Tryz.underlying55, Result.andThen_ok, h1]
 cases r0
 ·simp [Std.Legacy.Range.forIn_eq_forIn_range', List.range', part, Sem.run_bind, h1, h2, h30, Result.andThen_ok]
 cases r1
 ·simp [Std.Legacy.Range.forIn_eq_forIn_range', List.range', part, Sem.run_bind, h1, h2, h30, h31, Result.andThen_ok]
 cases r2
 ·simp [Std.Legacy.Range.forIn_eq_forIn_range', List.range', part, Sem.run_bind, h1, h2, h30, h31, h32, Result.andThen_ok]
 cases r3
 all_goals simp [Std.Legacy.Range.forIn_eq_forIn_range', List.range', part, Sem.run_bind, h1, h2, h30, h31, h32, h33, Result.andThen_ok]
theorem any_table (c0 c1 c2 c3 c4 c5 c6 c7 c8 c9 c10 c11 c12 c13 c14 c15 : Int) (w : World) : ∃ r, (Op.equalIn 10000 55 (.agg #[.int .i64 c0, .int .i64 c1, .int .i64 c2, .int .i64 c3, .int .i64 c4, .int .i64 c5, .int .i64 c6, .int .i64 c7, .int .i64 c8, .int .i64 c9, .int .i64 c10, .int .i64 c11, .int .i64 c12, .int .i64 c13, .int .i64 c14, .int .i64 c15]) (.agg #[.int .i64 0, .int .i64 0, .int .i64 0, .int .i64 0, .int .i64 0, .int .i64 0, .int .i64 0, .int .i64 0, .int .i64 0, .int .i64 0, .int .i64 0, .int .i64 0, .int .i64 0, .int .i64 0, .int .i64 0, .int .i64 0])).run Tryz.prog w = .ok r w := any_table_d 9997 c0 c1 c2 c3 c4 c5 c6 c7 c8 c9 c10 c11 c12 c13 c14 c15 w
end Go.Proofs.YtpdlmbbgioenoaaGreatDoor.W

/-! part: RanHelp -/
namespace Go.Proofs.YtpdlmbbgioenoaaGreatDoor.W
open Go.RowKit Go.Proofs.YtpdlmbbgioenoaaGreatDoor.P
set_option linter.unusedSimpArgs false
set_option linter.unusedVariables false

theorem wpList_load_on {P : Program} {ops : Array Oper} {rest : List Oper} {op : Oper} {a : Act} {w : World} {Q : Exit → Act → World → Prop} (hw : Region.wanted op (yielded ops a.tmps) = true) (ty : TypeId) (x : Operand) (ho : op.op = .load ty x)
  (b o : Nat) (hx : a.eval x = .pointer (some ⟨b, o, none⟩)) (cs : List Value) (d : TypeDesc) (hc : w.rangeAt b o cs) (hu : P.underlying ty = some d) (hd : d.isRow = true) (hi : (P.info? ty).map (·.size) = some cs.length)
  (h : wpList P ops Q rest (a.put op.dst (.agg cs.toArray)) w) : wpList P ops Q (op :: rest) a w :=
 wpList_step fun _ hK => by
  rw [if_pos hw]
  exact wp_load_mid ty x ho b o hx cs d hc hu hd hi (hK _ _ h)
theorem size_tab (c0 c1 c2 c3 c4 c5 c6 c7 c8 c9 c10 c11 c12 c13 c14 c15 : Int) : (Tryz.prog.info? 55).map (·.size) = some (List.length ([.int .i64 c0, .int .i64 c1, .int .i64 c2, .int .i64 c3, .int .i64 c4, .int .i64 c5, .int .i64 c6, .int .i64 c7, .int .i64 c8, .int .i64 c9, .int .i64 c10, .int .i64 c11, .int .i64 c12, .int .i64 c13, .int .i64 c14, .int .i64 c15] : List Value)) := size_table
theorem _root_.Go.Proofs.YtpdlmbbgioenoaaGreatDoor.P.Img.range {w : World} {b n : Nat} {I : Nat → Value} (h : P.Img w b n I) (o m : Nat) (hm : o + m ≤ n) (cs : List Value) (e : cs = (List.range m).map fun j => I (o + j)) : w.rangeAt b o cs := by
 intro j v hv
 rw [e] at hv
 have hj : j < m := by have := (List.getElem?_eq_some_iff.1 hv).1; simpa using this
 rw [h.cell (o + j) (by omega), ← hv]
 simp [hj]
theorem size_ranv (n c0 c1 c2 c3 c4 c5 c6 c7 c8 c9 c10 c11 c12 c13 c14 c15 st : Int) (og : Option Addr) (len cap : Nat) : (Tryz.prog.info? 87).map (·.size) = some (Array.size (#[.int .i64 n, .int .i64 c0, .int .i64 c1, .int .i64 c2, .int .i64 c3, .int .i64 c4, .int .i64 c5, .int .i64 c6, .int .i64 c7, .int .i64 c8, .int .i64 c9, .int .i64 c10, .int .i64 c11, .int .i64 c12, .int .i64 c13, .int .i64 c14, .int .i64 c15, .slice og len cap, .int .i64 st] : Array Value)) := size_ran
theorem there_new {w : World} {c : Array Value} {t : TypeId} {n : Nat} (h : c.size = n) : (w.alloc (.cells c t (0, 0))).there w.heap.size 0 n := by
 subst h
 refine there_img (I := fun j => c.getD j undef) (Img.of_cells (heap_alloc_new w _) rfl fun j hj => ?_)
 simp [hj]
theorem there_new2 {w : World} {o : Obj} {c : Array Value} {t : TypeId} {n : Nat} (h : c.size = n) : ((w.alloc o).alloc (.cells c t (0, 0))).there (w.heap.size + 1) 0 n := by
 have := there_new (w := w.alloc o) (t := t) h
 simpa using this
theorem _root_.Go.Proofs.YtpdlmbbgioenoaaGreatDoor.P.Img.put {w : World} {b : Nat} {vs : List Value} (ht : w.there b 0 vs.length) : P.Img (w.setCells b 0 vs) b vs.length (fun j => vs.getD j undef) := by
 intro j hj
 have h := World.rangeAt_setCells_same w b 0 vs ht j (vs.getD j undef) (by simp [hj])
 rw [Nat.zero_add] at h
 refine ⟨h, ?_⟩
 rw [World.frozen?_setCells]
 have := (ht j hj).2
 rwa [Nat.zero_add] at this
theorem _root_.Go.Proofs.YtpdlmbbgioenoaaGreatDoor.P.Img.apart {w : World} {b n g o : Nat} {I : Nat → Value} {vs : List Value} (h : P.Img w b n I) (hne : b ≠ g) : P.Img (w.setCells g o vs) b n I := by
 intro j hj
 refine ⟨?_, ?_⟩
 ·rw [World.cell?_setCells_out g vs o w ⟨b, j, none⟩ (fun e => absurd e hne)]; exact h.cell j hj
 ·rw [World.frozen?_setCells]; exact h.free j hj
end Go.Proofs.YtpdlmbbgioenoaaGreatDoor.W

/-! part: Runs -/
namespace Go.Proofs.YtpdlmbbgioenoaaGreatDoor.W
open Go.RowKit Go.Proofs.YtpdlmbbgioenoaaGreatDoor.P
set_option linter.unusedSimpArgs false
set_option linter.unusedVariables false

theorem out_runs : ∃ M, outcome (nth pRuns) 3 told8 (fun _ => 0) 0 = .inr (M, 9, 3) := by
 obtain ⟨M, h⟩ := run_runs
 refine ⟨M, ?_⟩
 unfold outcome
 rw [if_neg (by decide), if_neg (by decide), h]
theorem own_at {w : World} {B T n : Nat} {v : Value} {xs : List Value} (h : w.ownsRow B T 1 v n xs) : ∃ og cap, v = .slice og n cap := by
 rcases h.2 with ⟨rfl, h0⟩ | ⟨g, cap, cur, rfl, _⟩
 ·exact ⟨none, 0, by rw [h0]⟩
 ·exact ⟨_, _, rfl⟩
set_option maxRecDepth 100000 in
set_option maxHeartbeats 16000000 in
theorem Runs_yes (w : World) (h : RTabs w) (hg : ErrT w) : Calls Tryz.prog 30 #[] w fun e w' => e = .returned (.bool true) ∧ Below w.heap.size w w' := by
 have H := Lib.hid h
 have HG := Lib.hid hg
 clear h hg
 go_enter Tryz.func30, Tryz.ntmps30
 go_wp2_with fail
 refine (NRead_any tRuns (by decide) _ H.out HG.out).mono ?_
 rintro e w1 ⟨v, er, rfl, he, hrow, hb⟩
 rw [rread_runs] at he hrow
 obtain rfl := rerr_nil he
 obtain ⟨oq, cap, rfl, hcap, hcs⟩ := row_got (n := 3) (L := pRuns) rfl hrow
 have HB1 := Lib.hid hb
 have HC1 := Lib.hid (show ProgAt w1 oq (nth pRuns) 3 from hcs)
 clear he hrow hb hcs
 go_wp2_with fail
 refine (Run_full oq 3 cap (nth pRuns) hcap told8 (fun _ => 0) 0 _ HC1.out (HG.out.later HB1.out)).mono ?_
 rintro e w3 ⟨⟨v3, err, rfl, hR⟩, hb⟩
 obtain ⟨M, hM⟩ := out_runs
 rw [hM] at hR
 obtain ⟨out, hv, rfl, B0, hrow⟩ := hR
 obtain ⟨og, ocap, rfl⟩ := own_at hrow
 have HV := Lib.hid hv
 have HB3 := Lib.hid (HB1.out.trans (hb.mono HB1.out.size))
 clear hM hv hrow hb
 go_upto_region 5 with (with_reducible refine wpList_store_mid rfl 87 (.tmp 3) (.tmp 15) rfl w3.heap.size 0 #[.int .i64 9, .int .i64 (M.cells 0), .int .i64 (M.cells 1), .int .i64 (M.cells 2), .int .i64 (M.cells 3), .int .i64 (M.cells 4), .int .i64 (M.cells 5), .int .i64 (M.cells 6), .int .i64 (M.cells 7), .int .i64 (M.cells 8), .int .i64 (M.cells 9), .int .i64 (M.cells 10), .int .i64 (M.cells 11), .int .i64 (M.cells 12), .int .i64 (M.cells 13), .int .i64 (M.cells 14), .int .i64 (M.cells 15), .slice og M.out.length ocap, .int .i64 3] (by simp [go_sem]; done) (by simp [go_sem]; exact HV.out) (there_new (by kernel_rfl)) (size_ranv _ _ _ _ _ _ _ _ _ _ _ _ _ _ _ _ _ _ _ _ _) (one_ran _ _ _ _ _ _ _ _ _ _ _ _ _ _ _ _ _ _ _ _ _) ?_)
 generalize hW : World.setCells _ _ _ _ = w4
 have I4 : Img w4 w3.heap.size 19 (fun j => ([.int .i64 9, .int .i64 (M.cells 0), .int .i64 (M.cells 1), .int .i64 (M.cells 2), .int .i64 (M.cells 3), .int .i64 (M.cells 4), .int .i64 (M.cells 5), .int .i64 (M.cells 6), .int .i64 (M.cells 7), .int .i64 (M.cells 8), .int .i64 (M.cells 9), .int .i64 (M.cells 10), .int .i64 (M.cells 11), .int .i64 (M.cells 12), .int .i64 (M.cells 13), .int .i64 (M.cells 14), .int .i64 (M.cells 15), .slice og M.out.length ocap, .int .i64 3] : List Value).getD j undef) := hW ▸ Img.put (vs := [.int .i64 9, .int .i64 (M.cells 0), .int .i64 (M.cells 1), .int .i64 (M.cells 2), .int .i64 (M.cells 3), .int .i64 (M.cells 4), .int .i64 (M.cells 5), .int .i64 (M.cells 6), .int .i64 (M.cells 7), .int .i64 (M.cells 8), .int .i64 (M.cells 9), .int .i64 (M.cells 10), .int .i64 (M.cells 11), .int .i64 (M.cells 12), .int .i64 (M.cells 13), .int .i64 (M.cells 14), .int .i64 (M.cells 15), .slice og M.out.length ocap, .int .i64 3]) (there_new (by kernel_rfl))
 have a0 : w4.cell? ⟨w3.heap.size, 0, none⟩ = some (.int .i64 9) := I4.cell 0 (by omega)
 have a18 : w4.cell? ⟨w3.heap.size, 18, none⟩ = some (.int .i64 3) := I4.cell 18 (by omega)
 have HB4 := Lib.hid (show Below w.heap.size w w4 from hW ▸ below_setCells HB3.out.size _ _ _ _ (HB3.out.alloc HB3.out.size _))
 clear I4 hW HV
 go_wp2_with fail
 go_ret
 refine ⟨?_, HB4.out⟩
 first | rfl | (simp; done) | exact ret_bool (by simp)
end Go.Proofs.YtpdlmbbgioenoaaGreatDoor.W

/-! part: WalkHas -/
namespace Go.Proofs.YtpdlmbbgioenoaaGreatDoor.W
open Go.RowKit Go.Proofs.YtpdlmbbgioenoaaGreatDoor.P
set_option linter.unusedSimpArgs false
set_option linter.unusedVariables false

set_option maxHeartbeats 1000000 in
theorem Has_any (lo hi n : Int) (w : World) :
  Calls Tryz.prog 32 #[.agg #[.int .i64 lo, .int .i64 hi], .int .i64 n] w fun e w' => e = .returned (.bool (decide (lo ≤ n ∧ n ≤ hi))) ∧ Below w.heap.size w w' := by
 by_cases h1 : lo ≤ n
 all_goals
  go_enter Tryz.func32, Tryz.ntmps32
  go_wp2_with fail
 all_goals (go_ret; refine ⟨ret_bool ?_, (by repeat (first | exact Below.refl _ _ | refine Below.drew ?_ | refine Below.drewN' ?_ _ | refine Below.alloc ?_ (by simp; try omega) _ | refine Below.setCell ?_ (by simp; try omega) _ | refine Below.trans ?_ (Below.mono (by assumption) (by simp; try omega)) | refine Below.trans ?_ (Below.mono (Lib.Hid.out (by assumption)) (by simp; try omega))))⟩; simp [*]; try omega)

end Go.Proofs.YtpdlmbbgioenoaaGreatDoor.W

/-! part: LawMachineSound -/
namespace Go.Proofs.YtpdlmbbgioenoaaGreatDoor.W
open Go.RowKit Go.Proofs.YtpdlmbbgioenoaaGreatDoor.P
set_option linter.unusedSimpArgs false
set_option linter.unusedVariables false

theorem machineSound_big (oa : Option Addr) (n cap : Nat) (told cells : Nat → Int) (time : Int) (h : 300 < n) (w : World) :
  Calls Tryz.prog 7 #[.slice oa n cap, words8 told, words16 cells, .int .i64 time] w fun e w' => e = .returned (.bool true) ∧ Below w.heap.size w w' := by
 have HW0 := Lib.hid (Below.refl w.heap.size w)
 unfold words8 words16
 have h3 : 300 < (n : Int) := by omega
 go_enter Tryz.func7, Tryz.ntmps7
 go_wp2_with fail
 go_ret
 exact ⟨rfl, (by repeat' (first | with_reducible (first | exact HW0.out | apply bR | apply bD | apply bN | apply bA | apply bS) | (simp; done) | (simp; omega) | omega))⟩
theorem tab0 (k : Int) (hk : k = 0) (c0 c1 c2 c3 c4 c5 c6 c7 c8 c9 c10 c11 c12 c13 c14 c15 : Int) (w : World) : (Instr.index 84 (.agg #[.int .i64 c0, .int .i64 c1, .int .i64 c2, .int .i64 c3, .int .i64 c4, .int .i64 c5, .int .i64 c6, .int .i64 c7, .int .i64 c8, .int .i64 c9, .int .i64 c10, .int .i64 c11, .int .i64 c12, .int .i64 c13, .int .i64 c14, .int .i64 c15, .int .i64 0, .int .i64 0, .int .i64 0, .int .i64 0, .int .i64 0, .int .i64 0, .int .i64 0, .int .i64 0, .int .i64 0, .int .i64 0, .int .i64 0, .int .i64 0, .int .i64 0, .int .i64 0, .int .i64 0, .int .i64 0, .int .i64 c0, .int .i64 c1, .int .i64 c2, .int .i64 c3, .int .i64 c4, .int .i64 c5, .int .i64 c6, .int .i64 c7, .int .i64 c8, .int .i64 c9, .int .i64 c10, .int .i64 c11, .int .i64 c12, .int .i64 c13, .int .i64 c14, .int .i64 c15]) (.int .i64 k)).run Tryz.prog w = .ok (.agg #[.int .i64 c0, .int .i64 c1, .int .i64 c2, .int .i64 c3, .int .i64 c4, .int .i64 c5, .int .i64 c6, .int .i64 c7, .int .i64 c8, .int .i64 c9, .int .i64 c10, .int .i64 c11, .int .i64 c12, .int .i64 c13, .int .i64 c14, .int .i64 c15]) w := by subst hk; kernel_rfl
theorem tab1 (k : Int) (hk : k = 1) (c0 c1 c2 c3 c4 c5 c6 c7 c8 c9 c10 c11 c12 c13 c14 c15 : Int) (w : World) : (Instr.index 84 (.agg #[.int .i64 c0, .int .i64 c1, .int .i64 c2, .int .i64 c3, .int .i64 c4, .int .i64 c5, .int .i64 c6, .int .i64 c7, .int .i64 c8, .int .i64 c9, .int .i64 c10, .int .i64 c11, .int .i64 c12, .int .i64 c13, .int .i64 c14, .int .i64 c15, .int .i64 0, .int .i64 0, .int .i64 0, .int .i64 0, .int .i64 0, .int .i64 0, .int .i64 0, .int .i64 0, .int .i64 0, .int .i64 0, .int .i64 0, .int .i64 0, .int .i64 0, .int .i64 0, .int .i64 0, .int .i64 0, .int .i64 c0, .int .i64 c1, .int .i64 c2, .int .i64 c3, .int .i64 c4, .int .i64 c5, .int .i64 c6, .int .i64 c7, .int .i64 c8, .int .i64 c9, .int .i64 c10, .int .i64 c11, .int .i64 c12, .int .i64 c13, .int .i64 c14, .int .i64 c15]) (.int .i64 k)).run Tryz.prog w = .ok (.agg #[.int .i64 0, .int .i64 0, .int .i64 0, .int .i64 0, .int .i64 0, .int .i64 0, .int .i64 0, .int .i64 0, .int .i64 0, .int .i64 0, .int .i64 0, .int .i64 0, .int .i64 0, .int .i64 0, .int .i64 0, .int .i64 0]) w := by subst hk; kernel_rfl
theorem tab2 (k : Int) (hk : k = 2) (c0 c1 c2 c3 c4 c5 c6 c7 c8 c9 c10 c11 c12 c13 c14 c15 : Int) (w : World) : (Instr.index 84 (.agg #[.int .i64 c0, .int .i64 c1, .int .i64 c2, .int .i64 c3, .int .i64 c4, .int .i64 c5, .int .i64 c6, .int .i64 c7, .int .i64 c8, .int .i64 c9, .int .i64 c10, .int .i64 c11, .int .i64 c12, .int .i64 c13, .int .i64 c14, .int .i64 c15, .int .i64 0, .int .i64 0, .int .i64 0, .int .i64 0, .int .i64 0, .int .i64 0, .int .i64 0, .int .i64 0, .int .i64 0, .int .i64 0, .int .i64 0, .int .i64 0, .int .i64 0, .int .i64 0, .int .i64 0, .int .i64 0, .int .i64 c0, .int .i64 c1, .int .i64 c2, .int .i64 c3, .int .i64 c4, .int .i64 c5, .int .i64 c6, .int .i64 c7, .int .i64 c8, .int .i64 c9, .int .i64 c10, .int .i64 c11, .int .i64 c12, .int .i64 c13, .int .i64 c14, .int .i64 c15]) (.int .i64 k)).run Tryz.prog w = .ok (.agg #[.int .i64 c0, .int .i64 c1, .int .i64 c2, .int .i64 c3, .int .i64 c4, .int .i64 c5, .int .i64 c6, .int .i64 c7, .int .i64 c8, .int .i64 c9, .int .i64 c10, .int .i64 c11, .int .i64 c12, .int .i64 c13, .int .i64 c14, .int .i64 c15]) w := by subst hk; kernel_rfl
/-- what comes of a program that is let go -/
theorem out_sound {S : Nat → Step} {n : Nat} {told : Nat → Int} {time : Int} (hin : ∀ j, j < n → In64 (S j).off ∧ In64 (S j).num) (ht : ∀ r, In64 (told r)) (htm : In64 time) (h : (verify S n).1.1 = 0) (f : Nat → Int) (hf : ∀ r, In64 (f r)) :
  ∃ M num st, outcome S n told f time = .inr (M, num, st) ∧ (verify S n).2.Has num ∧ 1 ≤ st ∧ st ≤ n ∧ M.out.length ≤ 50 := by
 obtain ⟨h1, h2, h3⟩ := verify_good h
 have hn : ¬ (n < 1 ∨ 200 < n) := fun hx => by unfold check at h1; rw [if_pos hx] at h1; cases h1
 have h0 : (from_ S n 0 n).1 = 0 := by unfold check at h1; rw [if_neg hn] at h1; exact h1
 obtain ⟨M, num, st, e, hb, h4, h5⟩ := run_sound (by omega) (ProgOk.of h0 hin) (told := told) (cells := f) ht hf htm h2
 exact ⟨M, num, st, by unfold outcome; rw [if_neg hn, if_neg (by simp [h0])]; exact e, h3 ▸ hb, h4, h5, run_out S told time n _ 0 1 (by simp [Mach.init]) e⟩

set_option maxRecDepth 100000 in
set_option maxHeartbeats 100000000 in
theorem machineSound_walk (oa : Option Addr) (n cap : Nat) (S : Nat → Step) (hcap : n ≤ cap) (told cells : Nat → Int) (time : Int) (h : ¬ 300 < n) (w : World) (hs : ProgAt w oa S n) (hin : ∀ j, j < n → In64 (S j).off ∧ In64 (S j).num) (ht : ∀ r, In64 (told r)) (hce : ∀ r, In64 (cells r)) (htm : In64 time) (hrt : RTabs w) (hg : ErrT w) :
  Calls Tryz.prog 7 #[.slice oa n cap, words8 told, words16 cells, .int .i64 time] w fun e w' => e = .returned (.bool true) ∧ Below w.heap.size w w' := by
 unfold words8 words16
 have h3 : ¬ 300 < (n : Int) := by omega
 have C2 := fun (f : Nat → Int) w' (hb : Below w.heap.size w w') => Run_full oa n cap S hcap told f time w' (hs.later hb) (hg.later hb)
 unfold words8 words16 at C2
 have C1 := fun w' (hb : Below w.heap.size w w') => Verify_full oa n cap S hcap w' (hs.later hb) hin (hg.later hb)
 have HO := Lib.hid (fun (h : (verify S n).1.1 = 0) => out_sound hin ht htm h)
 have hbad := @verify_bad S n
 generalize verify S n = X at C1 HO hbad
 obtain ⟨⟨er, p⟩, ⟨lo, hi⟩⟩ := X
 dsimp only at hbad
 have HC1 := Lib.hid C1
 have HC2 := Lib.hid C2
 have HH := Lib.hid hrt
 have HG := Lib.hid hg
 have HCE := Lib.hid hce
 have HBAD := Lib.hid hbad
 clear C1 C2 hs hg hin ht htm hrt hce hbad
 go_enter Tryz.func7, Tryz.ntmps7
 go_upto_region 3 with fail
 generalize hW : World.alloc (World.alloc w _) _ = w1
 have I8 : Img w1 w.heap.size 8 (fun j => ([.int .i64 (told 0), .int .i64 (told 1), .int .i64 (told 2), .int .i64 (told 3), .int .i64 (told 4), .int .i64 (told 5), .int .i64 (told 6), .int .i64 (told 7)] : List Value).getD j undef) := hW ▸ Img.alloc (Img.mk' (heap_alloc_new w _) (by kernel_rfl)) _
 have I16 : Img w1 (w.heap.size + 1) 16 (fun j => ([.int .i64 (cells 0), .int .i64 (cells 1), .int .i64 (cells 2), .int .i64 (cells 3), .int .i64 (cells 4), .int .i64 (cells 5), .int .i64 (cells 6), .int .i64 (cells 7), .int .i64 (cells 8), .int .i64 (cells 9), .int .i64 (cells 10), .int .i64 (cells 11), .int .i64 (cells 12), .int .i64 (cells 13), .int .i64 (cells 14), .int .i64 (cells 15)] : List Value).getD j undef) := hW ▸ Img.mk' (by simpa using heap_alloc_new (World.alloc w _) _) (by kernel_rfl)
 have HB1 := Lib.hid (show Below w.heap.size w w1 from hW ▸ (((Below.refl w.heap.size w).alloc (Nat.le_refl _) _).alloc (by simp) _))
 have HI8 := Lib.hid I8
 have HI16 := Lib.hid I16
 clear I8 I16 hW
 go_wp2_with fail
 refine (Let_yes _ (HH.out.later HB1.out) (HG.out.later HB1.out)).mono ?_
 rintro e w2 ⟨rfl, hb⟩
 have HB2 := Lib.hid (HB1.out.trans (hb.mono HB1.out.size))
 have HI82 := Lib.hid (HI8.out.later hb (HI8.out.lt (by omega)))
 have HI162 := Lib.hid (HI16.out.later hb (HI16.out.lt (by omega)))
 clear hb HI8 HI16
 go_wp2_with fail
 refine (Runs_yes _ (HH.out.later HB2.out) (HG.out.later HB2.out)).mono ?_
 rintro e w3 ⟨rfl, hb⟩
 have HB3 := Lib.hid (HB2.out.trans (hb.mono HB2.out.size))
 have HI83 := Lib.hid (HI82.out.later hb (HI82.out.lt (by omega)))
 have HI163 := Lib.hid (HI162.out.later hb (HI162.out.lt (by omega)))
 clear hb HI82 HI162
 go_wp2_with fail
 refine (HC1.out _ HB3.out).mono ?_
 rintro e w4 ⟨v, rfl, he, hb⟩
 have HB4 := Lib.hid (HB3.out.trans (hb.mono HB3.out.size))
 have HI84 := Lib.hid (HI83.out.later hb (HI83.out.lt (by omega)))
 have HI164 := Lib.hid (HI163.out.later hb (HI163.out.lt (by omega)))
 clear hb HI83 HI163
 simp only
 by_cases h0 : er = 0
 ·subst h0
  obtain rfl := rerr_nil he
  clear he
  go_upto_region 8 with fail
  generalize hW : World.alloc w4 _ = w5
  have IB : Img w5 w4.heap.size 2 (fun j => ([.int .i64 lo, .int .i64 hi] : List Value).getD j undef) := hW ▸ Img.mk' (heap_alloc_new w4 _) (by kernel_rfl)
  have hb45 : Below w4.heap.size w4 w5 := hW ▸ ((Below.refl w4.heap.size w4).alloc (Nat.le_refl _) _)
  have HB5 := Lib.hid (HB4.out.trans (hb45.mono HB4.out.size))
  have HI8 := Lib.hid (HI84.out.later hb45 (HI84.out.lt (by omega)))
  have I16 := HI164.out.later hb45 (HI164.out.lt (by omega))
  have HIB := Lib.hid IB
  have zw : w.heap.size + 1 < w4.heap.size := HI164.out.lt (by omega)
  clear hW hb45 HI84 HI164 IB
  have l0 : w5.cell? ⟨w.heap.size + 1, 0, none⟩ = some (.int .i64 (cells 0)) := I16.cell 0 (by omega)
  have l1 : w5.cell? ⟨w.heap.size + 1, 1, none⟩ = some (.int .i64 (cells 1)) := I16.cell 1 (by omega)
  have l2 : w5.cell? ⟨w.heap.size + 1, 2, none⟩ = some (.int .i64 (cells 2)) := I16.cell 2 (by omega)
  have l3 : w5.cell? ⟨w.heap.size + 1, 3, none⟩ = some (.int .i64 (cells 3)) := I16.cell 3 (by omega)
  have l4 : w5.cell? ⟨w.heap.size + 1, 4, none⟩ = some (.int .i64 (cells 4)) := I16.cell 4 (by omega)
  have l5 : w5.cell? ⟨w.heap.size + 1, 5, none⟩ = some (.int .i64 (cells 5)) := I16.cell 5 (by omega)
  have l6 : w5.cell? ⟨w.heap.size + 1, 6, none⟩ = some (.int .i64 (cells 6)) := I16.cell 6 (by omega)
  have l7 : w5.cell? ⟨w.heap.size + 1, 7, none⟩ = some (.int .i64 (cells 7)) := I16.cell 7 (by omega)
  have l8 : w5.cell? ⟨w.heap.size + 1, 8, none⟩ = some (.int .i64 (cells 8)) := I16.cell 8 (by omega)
  have l9 : w5.cell? ⟨w.heap.size + 1, 9, none⟩ = some (.int .i64 (cells 9)) := I16.cell 9 (by omega)
  have l10 : w5.cell? ⟨w.heap.size + 1, 10, none⟩ = some (.int .i64 (cells 10)) := I16.cell 10 (by omega)
  have l11 : w5.cell? ⟨w.heap.size + 1, 11, none⟩ = some (.int .i64 (cells 11)) := I16.cell 11 (by omega)
  have l12 : w5.cell? ⟨w.heap.size + 1, 12, none⟩ = some (.int .i64 (cells 12)) := I16.cell 12 (by omega)
  have l13 : w5.cell? ⟨w.heap.size + 1, 13, none⟩ = some (.int .i64 (cells 13)) := I16.cell 13 (by omega)
  have l14 : w5.cell? ⟨w.heap.size + 1, 14, none⟩ = some (.int .i64 (cells 14)) := I16.cell 14 (by omega)
  have l15 : w5.cell? ⟨w.heap.size + 1, 15, none⟩ = some (.int .i64 (cells 15)) := I16.cell 15 (by omega)
  clear I16
  go_wp2_with fail
  go_loopw [39] (fun i wr => ∃ k : Nat, k ≤ 3 ∧ i = .int .i64 k ∧ Img wr w.heap.size 8 (fun j => ([.int .i64 (told 0), .int .i64 (told 1), .int .i64 (told 2), .int .i64 (told 3), .int .i64 (told 4), .int .i64 (told 5), .int .i64 (told 6), .int .i64 (told 7)] : List Value).getD j undef) ∧ Img wr w4.heap.size 2 (fun j => ([.int .i64 lo, .int .i64 hi] : List Value).getD j undef) ∧ Below w.heap.size w wr) (fun i _ => 3 - (intOf i).toNat)
  case atStart => exact ⟨0, by omega, rfl, HI8.out, HIB.out, HB5.out⟩
  case round =>
   obtain ⟨k, hk, rfl, I8, IB, HB⟩ := hrel
   have HI8 := Lib.hid I8
   have HIB := Lib.hid IB
   have HBr := Lib.hid HB
   clear I8 IB HB
   by_cases h : k < 3
   ·have hk1 : (k : Int) < 3 := by omega
    go_upto_region 10 with fail
    go_cut [12] (fun p wx => ∃ (g : Nat) (f : Nat → Int), p = .pointer (some ⟨g, 0, none⟩) ∧ w4.heap.size < g ∧ (∀ r, In64 (f r)) ∧ Img wx g 16 (fun j => ([.int .i64 (f 0), .int .i64 (f 1), .int .i64 (f 2), .int .i64 (f 3), .int .i64 (f 4), .int .i64 (f 5), .int .i64 (f 6), .int .i64 (f 7), .int .i64 (f 8), .int .i64 (f 9), .int .i64 (f 10), .int .i64 (f 11), .int .i64 (f 12), .int .i64 (f 13), .int .i64 (f 14), .int .i64 (f 15)] : List Value).getD j undef) ∧ Img wx w.heap.size 8 (fun j => ([.int .i64 (told 0), .int .i64 (told 1), .int .i64 (told 2), .int .i64 (told 3), .int .i64 (told 4), .int .i64 (told 5), .int .i64 (told 6), .int .i64 (told 7)] : List Value).getD j undef) ∧ Img wx w4.heap.size 2 (fun j => ([.int .i64 lo, .int .i64 hi] : List Value).getD j undef) ∧ Below w.heap.size w wx)
    case first =>
     rcases (show (k : Int) = 0 ∨ (k : Int) = 1 ∨ (k : Int) = 2 by omega) with hk | hk | hk
     ·as_aux_lemma =>
       have ix := fun w => tab0 (k : Int) hk (cells 0) (cells 1) (cells 2) (cells 3) (cells 4) (cells 5) (cells 6) (cells 7) (cells 8) (cells 9) (cells 10) (cells 11) (cells 12) (cells 13) (cells 14) (cells 15) w
       clear hk
       go_wp2_with fail
       go_meet
       go_light
       refine ⟨wr.heap.size, cells, rfl, ?_, HCE.out, Img.mk' (heap_alloc_new _ _) (by kernel_rfl), HI8.out.alloc _, HIB.out.alloc _, HBr.out.alloc HBr.out.size _⟩
       exact HIB.out.lt (by omega)
     ·as_aux_lemma =>
       have ix := fun w => tab1 (k : Int) hk (cells 0) (cells 1) (cells 2) (cells 3) (cells 4) (cells 5) (cells 6) (cells 7) (cells 8) (cells 9) (cells 10) (cells 11) (cells 12) (cells 13) (cells 14) (cells 15) w
       clear hk
       go_wp2_with fail
       go_meet
       go_light
       refine ⟨wr.heap.size, fun _ => 0, rfl, ?_, fun _ => in64_zero, Img.mk' (heap_alloc_new _ _) (by kernel_rfl), HI8.out.alloc _, HIB.out.alloc _, HBr.out.alloc HBr.out.size _⟩
       exact HIB.out.lt (by omega)
     ·as_aux_lemma =>
       have ix := fun w => tab2 (k : Int) hk (cells 0) (cells 1) (cells 2) (cells 3) (cells 4) (cells 5) (cells 6) (cells 7) (cells 8) (cells 9) (cells 10) (cells 11) (cells 12) (cells 13) (cells 14) (cells 15) w
       clear hk
       go_wp2_with fail
       go_meet
       go_light
       refine ⟨wr.heap.size, cells, rfl, ?_, HCE.out, Img.mk' (heap_alloc_new _ _) (by kernel_rfl), HI8.out.alloc _, HIB.out.alloc _, HBr.out.alloc HBr.out.size _⟩
       exact HIB.out.lt (by omega)
    case rest =>
     obtain ⟨g, f, rfl, hg4, hf, I16, I8, IB, hb⟩ := hcut
     obtain ⟨w6, hw6⟩ : ∃ x, x = wc := ⟨_, rfl⟩; subst hw6
     obtain ⟨M, num, st, hout, hhas, hst1, hst2, hol⟩ := HO.out (by first | rfl | trivial) f hf
     have HC := Lib.hid (fun w' hb => (hout ▸ HC2.out f w' hb))
     have HB6 := Lib.hid hb
     have HI16 := Lib.hid I16
     have HI8 := Lib.hid I8
     have HIB := Lib.hid IB
     have HHAS := Lib.hid hhas
     have zg : g < w6.heap.size := I16.lt (by omega)
     clear hout hb hhas hf
     have k0 : w6.cell? ⟨w.heap.size, 0, none⟩ = some (.int .i64 (told 0)) := I8.cell 0 (by omega)
     have k1 : w6.cell? ⟨w.heap.size, 1, none⟩ = some (.int .i64 (told 1)) := I8.cell 1 (by omega)
     have k2 : w6.cell? ⟨w.heap.size, 2, none⟩ = some (.int .i64 (told 2)) := I8.cell 2 (by omega)
     have k3 : w6.cell? ⟨w.heap.size, 3, none⟩ = some (.int .i64 (told 3)) := I8.cell 3 (by omega)
     have k4 : w6.cell? ⟨w.heap.size, 4, none⟩ = some (.int .i64 (told 4)) := I8.cell 4 (by omega)
     have k5 : w6.cell? ⟨w.heap.size, 5, none⟩ = some (.int .i64 (told 5)) := I8.cell 5 (by omega)
     have k6 : w6.cell? ⟨w.heap.size, 6, none⟩ = some (.int .i64 (told 6)) := I8.cell 6 (by omega)
     have k7 : w6.cell? ⟨w.heap.size, 7, none⟩ = some (.int .i64 (told 7)) := I8.cell 7 (by omega)
     have l0 : w6.cell? ⟨g, 0, none⟩ = some (.int .i64 (f 0)) := I16.cell 0 (by omega)
     have l1 : w6.cell? ⟨g, 1, none⟩ = some (.int .i64 (f 1)) := I16.cell 1 (by omega)
     have l2 : w6.cell? ⟨g, 2, none⟩ = some (.int .i64 (f 2)) := I16.cell 2 (by omega)
     have l3 : w6.cell? ⟨g, 3, none⟩ = some (.int .i64 (f 3)) := I16.cell 3 (by omega)
     have l4 : w6.cell? ⟨g, 4, none⟩ = some (.int .i64 (f 4)) := I16.cell 4 (by omega)
     have l5 : w6.cell? ⟨g, 5, none⟩ = some (.int .i64 (f 5)) := I16.cell 5 (by omega)
     have l6 : w6.cell? ⟨g, 6, none⟩ = some (.int .i64 (f 6)) := I16.cell 6 (by omega)
     have l7 : w6.cell? ⟨g, 7, none⟩ = some (.int .i64 (f 7)) := I16.cell 7 (by omega)
     have l8 : w6.cell? ⟨g, 8, none⟩ = some (.int .i64 (f 8)) := I16.cell 8 (by omega)
     have l9 : w6.cell? ⟨g, 9, none⟩ = some (.int .i64 (f 9)) := I16.cell 9 (by omega)
     have l10 : w6.cell? ⟨g, 10, none⟩ = some (.int .i64 (f 10)) := I16.cell 10 (by omega)
     have l11 : w6.cell? ⟨g, 11, none⟩ = some (.int .i64 (f 11)) := I16.cell 11 (by omega)
     have l12 : w6.cell? ⟨g, 12, none⟩ = some (.int .i64 (f 12)) := I16.cell 12 (by omega)
     have l13 : w6.cell? ⟨g, 13, none⟩ = some (.int .i64 (f 13)) := I16.cell 13 (by omega)
     have l14 : w6.cell? ⟨g, 14, none⟩ = some (.int .i64 (f 14)) := I16.cell 14 (by omega)
     have l15 : w6.cell? ⟨g, 15, none⟩ = some (.int .i64 (f 15)) := I16.cell 15 (by omega)
     clear I16 I8 IB
     go_upto_region 11 with fail
     go_cut [13, 14] (fun p13 q wx => ∃ g3 : Nat, ∃ (og : Option Addr) (ocap : Nat), p13 = .pointer (some ⟨g3, 0, none⟩) ∧ q = .nilIface ∧ g < g3 ∧ Img wx g3 19 (fun j => ([.int .i64 num, .int .i64 (M.cells 0), .int .i64 (M.cells 1), .int .i64 (M.cells 2), .int .i64 (M.cells 3), .int .i64 (M.cells 4), .int .i64 (M.cells 5), .int .i64 (M.cells 6), .int .i64 (M.cells 7), .int .i64 (M.cells 8), .int .i64 (M.cells 9), .int .i64 (M.cells 10), .int .i64 (M.cells 11), .int .i64 (M.cells 12), .int .i64 (M.cells 13), .int .i64 (M.cells 14), .int .i64 (M.cells 15), .slice og M.out.length ocap, .int .i64 st] : List Value).getD j undef) ∧ Img wx g 16 (fun j => ([.int .i64 (f 0), .int .i64 (f 1), .int .i64 (f 2), .int .i64 (f 3), .int .i64 (f 4), .int .i64 (f 5), .int .i64 (f 6), .int .i64 (f 7), .int .i64 (f 8), .int .i64 (f 9), .int .i64 (f 10), .int .i64 (f 11), .int .i64 (f 12), .int .i64 (f 13), .int .i64 (f 14), .int .i64 (f 15)] : List Value).getD j undef) ∧ Img wx w.heap.size 8 (fun j => ([.int .i64 (told 0), .int .i64 (told 1), .int .i64 (told 2), .int .i64 (told 3), .int .i64 (told 4), .int .i64 (told 5), .int .i64 (told 6), .int .i64 (told 7)] : List Value).getD j undef) ∧ Img wx w4.heap.size 2 (fun j => ([.int .i64 lo, .int .i64 hi] : List Value).getD j undef) ∧ Below w.heap.size w wx)
     case first =>
      as_aux_lemma =>
       go_wp2_with fail
       refine (HC.out _ HB6.out).mono ?_
       rintro e w7 ⟨⟨v, err, rfl, hR⟩, hb⟩
       have HI167 := Lib.hid (HI16.out.later hb zg)
       have HI87 := Lib.hid (HI8.out.later hb (by omega))
       have HIB7 := Lib.hid (HIB.out.later hb (by omega))
       have HB7 := Lib.hid (HB6.out.trans (hb.mono HB6.out.size))
       have z7 : g < w7.heap.size := by have := hb.size; omega
       obtain ⟨out, hv, rfl, B0, hrow⟩ := hR
       obtain ⟨og, ocap, rfl⟩ := own_at hrow
       have HV := Lib.hid hv
       clear hv hrow hb
       go_wp2_with (with_reducible refine wpList_store_mid rfl 87 (.tmp 13) (.tmp 48) rfl w7.heap.size 0 #[.int .i64 num, .int .i64 (M.cells 0), .int .i64 (M.cells 1), .int .i64 (M.cells 2), .int .i64 (M.cells 3), .int .i64 (M.cells 4), .int .i64 (M.cells 5), .int .i64 (M.cells 6), .int .i64 (M.cells 7), .int .i64 (M.cells 8), .int .i64 (M.cells 9), .int .i64 (M.cells 10), .int .i64 (M.cells 11), .int .i64 (M.cells 12), .int .i64 (M.cells 13), .int .i64 (M.cells 14), .int .i64 (M.cells 15), .slice og M.out.length ocap, .int .i64 st] (by simp [go_sem]; done) (by simp [go_sem]; exact HV.out) (there_new (by kernel_rfl)) (size_ranv _ _ _ _ _ _ _ _ _ _ _ _ _ _ _ _ _ _ _ _ _) (one_ran _ _ _ _ _ _ _ _ _ _ _ _ _ _ _ _ _ _ _ _ _) ?_)
       go_meet
       go_light
       refine ⟨w7.heap.size, og, ocap, rfl, rfl, z7, ?_, ?_, ?_, ?_, ?_⟩
       ·exact Img.put (vs := [.int .i64 num, .int .i64 (M.cells 0), .int .i64 (M.cells 1), .int .i64 (M.cells 2), .int .i64 (M.cells 3), .int .i64 (M.cells 4), .int .i64 (M.cells 5), .int .i64 (M.cells 6), .int .i64 (M.cells 7), .int .i64 (M.cells 8), .int .i64 (M.cells 9), .int .i64 (M.cells 10), .int .i64 (M.cells 11), .int .i64 (M.cells 12), .int .i64 (M.cells 13), .int .i64 (M.cells 14), .int .i64 (M.cells 15), .slice og M.out.length ocap, .int .i64 st]) (there_new (by kernel_rfl))
       ·exact (HI167.out.alloc _).apart (by omega)
       ·exact (HI87.out.alloc _).apart (by omega)
       ·exact (HIB7.out.alloc _).apart (by omega)
       ·exact below_setCells (by omega) _ _ _ _ (HB7.out.alloc (by omega) _)
     case rest =>
      obtain ⟨g3, og, ocap, rfl, rfl, hg3, IR, I16, I8, IB, hb⟩ := hcut
      obtain ⟨w8, hw8⟩ : ∃ x, x = wc := ⟨_, rfl⟩; subst hw8
      have zg3 : g3 < w8.heap.size := IR.lt (by omega)
      have HB8 := Lib.hid hb
      have HI16 := Lib.hid I16
      have HI8 := Lib.hid I8
      have HIB := Lib.hid IB
      have HIR := Lib.hid IR
      have r0 : w8.cell? ⟨g3, 0, none⟩ = some (.int .i64 num) := IR.cell 0 (by omega)
      have r18 : w8.cell? ⟨g3, 18, none⟩ = some (.int .i64 st) := IR.cell 18 (by omega)
      have b0 : w8.cell? ⟨w4.heap.size, 0, none⟩ = some (.int .i64 lo) := IB.cell 0 (by omega)
      have b1 : w8.cell? ⟨w4.heap.size, 1, none⟩ = some (.int .i64 hi) := IB.cell 1 (by omega)
      have q17 : ∀ w', Below w8.heap.size w8 w' → w'.cell? ⟨g3, 17, none⟩ = some (.slice og M.out.length ocap) := fun w' hb => (IR.later hb zg3).cell 17 (by omega)
      have hd : decide (lo ≤ num ∧ num ≤ hi) = true := decide_eq_true HHAS.out
      have s1 : ¬ st < 1 := by omega
      have s2 : ¬ (n : Int) < st := by omega
      have s3 : ¬ 50 < (M.out.length : Int) := by omega
      clear IR I16 I8 IB hb k0 k1 k2 k3 k4 k5 k6 k7 l0 l1 l2 l3 l4 l5 l6 l7 l8 l9 l10 l11 l12 l13 l14 l15
      go_upto_region 12 with fail
      go_upto_region 14 with (go_at_call 32; refine (Has_any _ _ _ _).mono ?_; rintro e w9 ⟨rfl, hb⟩; rw [hd]; have c17 := q17 _ hb; have HB89 := Lib.hid hb; clear hb)
      have HI169 := Lib.hid (HI16.out.later HB89.out (by omega))
      have HI89 := Lib.hid (HI8.out.later HB89.out (by omega))
      have HIB9 := Lib.hid (HIB.out.later HB89.out (by omega))
      have HIR9 := Lib.hid (HIR.out.later HB89.out zg3)
      have HB9 := Lib.hid (HB8.out.trans (HB89.out.mono HB8.out.size))
      have HRG9 := Lib.hid (HI169.out.range 0 16 (by omega) [.int .i64 (f 0), .int .i64 (f 1), .int .i64 (f 2), .int .i64 (f 3), .int .i64 (f 4), .int .i64 (f 5), .int .i64 (f 6), .int .i64 (f 7), .int .i64 (f 8), .int .i64 (f 9), .int .i64 (f 10), .int .i64 (f 11), .int .i64 (f 12), .int .i64 (f 13), .int .i64 (f 14), .int .i64 (f 15)] rfl)
      have zg9 : g3 < w9.heap.size := HIR9.out.lt (by omega)
      clear q17 c17 r0 r18 b0 b1 HB89 HI16 HI8 HIB HIR HB8 hd s1 s2 s3
      obtain ⟨r, heq⟩ := any_table (f 0) (f 1) (f 2) (f 3) (f 4) (f 5) (f 6) (f 7) (f 8) (f 9) (f 10) (f 11) (f 12) (f 13) (f 14) (f 15) w9
      cases r
      ·go_wp2_with (with_reducible refine wpList_load_on (by simp [go_sem]; done) 55 (.tmp 12) rfl g 0 (by simp [go_sem]; done) [.int .i64 (f 0), .int .i64 (f 1), .int .i64 (f 2), .int .i64 (f 3), .int .i64 (f 4), .int .i64 (f 5), .int .i64 (f 6), .int .i64 (f 7), .int .i64 (f 8), .int .i64 (f 9), .int .i64 (f 10), .int .i64 (f 11), .int .i64 (f 12), .int .i64 (f 13), .int .i64 (f 14), .int .i64 (f 15)] _ HRG9.out Tryz.underlying55 rfl (size_tab (f 0) (f 1) (f 2) (f 3) (f 4) (f 5) (f 6) (f 7) (f 8) (f 9) (f 10) (f 11) (f 12) (f 13) (f 14) (f 15)) ?_)
       go_roundw
       case rel => exact ⟨k + 1, by omega, by go_num, HI89.out, HIB9.out, HB9.out⟩
       case measure => simp [intOf]; omega
      ·go_upto_region 15 with (with_reducible refine wpList_load_on (by simp [go_sem]; done) 55 (.tmp 12) rfl g 0 (by simp [go_sem]; done) [.int .i64 (f 0), .int .i64 (f 1), .int .i64 (f 2), .int .i64 (f 3), .int .i64 (f 4), .int .i64 (f 5), .int .i64 (f 6), .int .i64 (f 7), .int .i64 (f 8), .int .i64 (f 9), .int .i64 (f 10), .int .i64 (f 11), .int .i64 (f 12), .int .i64 (f 13), .int .i64 (f 14), .int .i64 (f 15)] _ HRG9.out Tryz.underlying55 rfl (size_tab (f 0) (f 1) (f 2) (f 3) (f 4) (f 5) (f 6) (f 7) (f 8) (f 9) (f 10) (f 11) (f 12) (f 13) (f 14) (f 15)) ?_)
       clear heq
       have k0 : w9.cell? ⟨w.heap.size, 0, none⟩ = some (.int .i64 (told 0)) := HI89.out.cell 0 (by omega)
       have k1 : w9.cell? ⟨w.heap.size, 1, none⟩ = some (.int .i64 (told 1)) := HI89.out.cell 1 (by omega)
       have k2 : w9.cell? ⟨w.heap.size, 2, none⟩ = some (.int .i64 (told 2)) := HI89.out.cell 2 (by omega)
       have k3 : w9.cell? ⟨w.heap.size, 3, none⟩ = some (.int .i64 (told 3)) := HI89.out.cell 3 (by omega)
       have k4 : w9.cell? ⟨w.heap.size, 4, none⟩ = some (.int .i64 (told 4)) := HI89.out.cell 4 (by omega)
       have k5 : w9.cell? ⟨w.heap.size, 5, none⟩ = some (.int .i64 (told 5)) := HI89.out.cell 5 (by omega)
       have k6 : w9.cell? ⟨w.heap.size, 6, none⟩ = some (.int .i64 (told 6)) := HI89.out.cell 6 (by omega)
       have k7 : w9.cell? ⟨w.heap.size, 7, none⟩ = some (.int .i64 (told 7)) := HI89.out.cell 7 (by omega)
       have l0 : w9.cell? ⟨g, 0, none⟩ = some (.int .i64 (f 0)) := HI169.out.cell 0 (by omega)
       have l1 : w9.cell? ⟨g, 1, none⟩ = some (.int .i64 (f 1)) := HI169.out.cell 1 (by omega)
       have l2 : w9.cell? ⟨g, 2, none⟩ = some (.int .i64 (f 2)) := HI169.out.cell 2 (by omega)
       have l3 : w9.cell? ⟨g, 3, none⟩ = some (.int .i64 (f 3)) := HI169.out.cell 3 (by omega)
       have l4 : w9.cell? ⟨g, 4, none⟩ = some (.int .i64 (f 4)) := HI169.out.cell 4 (by omega)
       have l5 : w9.cell? ⟨g, 5, none⟩ = some (.int .i64 (f 5)) := HI169.out.cell 5 (by omega)
       have l6 : w9.cell? ⟨g, 6, none⟩ = some (.int .i64 (f 6)) := HI169.out.cell 6 (by omega)
       have l7 : w9.cell? ⟨g, 7, none⟩ = some (.int .i64 (f 7)) := HI169.out.cell 7 (by omega)
       have l8 : w9.cell? ⟨g, 8, none⟩ = some (.int .i64 (f 8)) := HI169.out.cell 8 (by omega)
       have l9 : w9.cell? ⟨g, 9, none⟩ = some (.int .i64 (f 9)) := HI169.out.cell 9 (by omega)
       have l10 : w9.cell? ⟨g, 10, none⟩ = some (.int .i64 (f 10)) := HI169.out.cell 10 (by omega)
       have l11 : w9.cell? ⟨g, 11, none⟩ = some (.int .i64 (f 11)) := HI169.out.cell 11 (by omega)
       have l12 : w9.cell? ⟨g, 12, none⟩ = some (.int .i64 (f 12)) := HI169.out.cell 12 (by omega)
       have l13 : w9.cell? ⟨g, 13, none⟩ = some (.int .i64 (f 13)) := HI169.out.cell 13 (by omega)
       have l14 : w9.cell? ⟨g, 14, none⟩ = some (.int .i64 (f 14)) := HI169.out.cell 14 (by omega)
       have l15 : w9.cell? ⟨g, 15, none⟩ = some (.int .i64 (f 15)) := HI169.out.cell 15 (by omega)
       go_cut [15, 14] (fun p15 q wx => ∃ g5 : Nat, ∃ (og5 : Option Addr) (ocap5 : Nat), p15 = .pointer (some ⟨g5, 0, none⟩) ∧ q = .nilIface ∧ g3 < g5 ∧ Img wx g5 19 (fun j => ([.int .i64 num, .int .i64 (M.cells 0), .int .i64 (M.cells 1), .int .i64 (M.cells 2), .int .i64 (M.cells 3), .int .i64 (M.cells 4), .int .i64 (M.cells 5), .int .i64 (M.cells 6), .int .i64 (M.cells 7), .int .i64 (M.cells 8), .int .i64 (M.cells 9), .int .i64 (M.cells 10), .int .i64 (M.cells 11), .int .i64 (M.cells 12), .int .i64 (M.cells 13), .int .i64 (M.cells 14), .int .i64 (M.cells 15), .slice og5 M.out.length ocap5, .int .i64 st] : List Value).getD j undef) ∧ Img wx g3 19 (fun j => ([.int .i64 num, .int .i64 (M.cells 0), .int .i64 (M.cells 1), .int .i64 (M.cells 2), .int .i64 (M.cells 3), .int .i64 (M.cells 4), .int .i64 (M.cells 5), .int .i64 (M.cells 6), .int .i64 (M.cells 7), .int .i64 (M.cells 8), .int .i64 (M.cells 9), .int .i64 (M.cells 10), .int .i64 (M.cells 11), .int .i64 (M.cells 12), .int .i64 (M.cells 13), .int .i64 (M.cells 14), .int .i64 (M.cells 15), .slice og M.out.length ocap, .int .i64 st] : List Value).getD j undef) ∧ Img wx w.heap.size 8 (fun j => ([.int .i64 (told 0), .int .i64 (told 1), .int .i64 (told 2), .int .i64 (told 3), .int .i64 (told 4), .int .i64 (told 5), .int .i64 (told 6), .int .i64 (told 7)] : List Value).getD j undef) ∧ Img wx w4.heap.size 2 (fun j => ([.int .i64 lo, .int .i64 hi] : List Value).getD j undef) ∧ Below w.heap.size w wx)
       case first =>
        as_aux_lemma =>
         go_wp2_with fail
         refine (HC.out _ HB9.out).mono ?_
         rintro e w7 ⟨⟨v, err, rfl, hR⟩, hb⟩
         have HIR7 := Lib.hid (HIR9.out.later hb zg9)
         have HI87 := Lib.hid (HI89.out.later hb (by omega))
         have HIB7 := Lib.hid (HIB9.out.later hb (by omega))
         have HB7 := Lib.hid (HB9.out.trans (hb.mono HB9.out.size))
         have z7 : g3 < w7.heap.size := by have := hb.size; omega
         obtain ⟨out, hv, rfl, B0, hrow⟩ := hR
         obtain ⟨og5, ocap5, rfl⟩ := own_at hrow
         have HV := Lib.hid hv
         clear hv hrow hb
         go_wp2_with (with_reducible refine wpList_store_mid rfl 87 (.tmp 15) (.tmp 86) rfl w7.heap.size 0 #[.int .i64 num, .int .i64 (M.cells 0), .int .i64 (M.cells 1), .int .i64 (M.cells 2), .int .i64 (M.cells 3), .int .i64 (M.cells 4), .int .i64 (M.cells 5), .int .i64 (M.cells 6), .int .i64 (M.cells 7), .int .i64 (M.cells 8), .int .i64 (M.cells 9), .int .i64 (M.cells 10), .int .i64 (M.cells 11), .int .i64 (M.cells 12), .int .i64 (M.cells 13), .int .i64 (M.cells 14), .int .i64 (M.cells 15), .slice og5 M.out.length ocap5, .int .i64 st] (by simp [go_sem]; done) (by simp [go_sem]; exact HV.out) (there_new (by kernel_rfl)) (size_ranv _ _ _ _ _ _ _ _ _ _ _ _ _ _ _ _ _ _ _ _ _) (one_ran _ _ _ _ _ _ _ _ _ _ _ _ _ _ _ _ _ _ _ _ _) ?_)
         go_meet
         go_light
         refine ⟨w7.heap.size, og5, ocap5, rfl, rfl, z7, ?_, ?_, ?_, ?_, ?_⟩
         ·exact Img.put (vs := [.int .i64 num, .int .i64 (M.cells 0), .int .i64 (M.cells 1), .int .i64 (M.cells 2), .int .i64 (M.cells 3), .int .i64 (M.cells 4), .int .i64 (M.cells 5), .int .i64 (M.cells 6), .int .i64 (M.cells 7), .int .i64 (M.cells 8), .int .i64 (M.cells 9), .int .i64 (M.cells 10), .int .i64 (M.cells 11), .int .i64 (M.cells 12), .int .i64 (M.cells 13), .int .i64 (M.cells 14), .int .i64 (M.cells 15), .slice og5 M.out.length ocap5, .int .i64 st]) (there_new (by kernel_rfl))
         ·exact (HIR7.out.alloc _).apart (by omega)
         ·exact (HI87.out.alloc _).apart (by omega)
         ·exact (HIB7.out.alloc _).apart (by omega)
         ·exact below_setCells (by omega) _ _ _ _ (HB7.out.alloc (by omega) _)
       case rest =>
        obtain ⟨g5, og5, ocap5, rfl, rfl, hg5, I5, I3, I8, IB, hb⟩ := hcut
        obtain ⟨wx, hwx⟩ : ∃ x, x = wc := ⟨_, rfl⟩; subst hwx
        have c0 : wx.cell? ⟨g3, 0, none⟩ = some (.int .i64 num) := I3.cell 0 (by omega)
        have c18 : wx.cell? ⟨g3, 18, none⟩ = some (.int .i64 st) := I3.cell 18 (by omega)
        have d0 : wx.cell? ⟨g5, 0, none⟩ = some (.int .i64 num) := I5.cell 0 (by omega)
        have d18 : wx.cell? ⟨g5, 18, none⟩ = some (.int .i64 st) := I5.cell 18 (by omega)
        have HRG3 := Lib.hid (I3.range 1 16 (by omega) [.int .i64 (M.cells 0), .int .i64 (M.cells 1), .int .i64 (M.cells 2), .int .i64 (M.cells 3), .int .i64 (M.cells 4), .int .i64 (M.cells 5), .int .i64 (M.cells 6), .int .i64 (M.cells 7), .int .i64 (M.cells 8), .int .i64 (M.cells 9), .int .i64 (M.cells 10), .int .i64 (M.cells 11), .int .i64 (M.cells 12), .int .i64 (M.cells 13), .int .i64 (M.cells 14), .int .i64 (M.cells 15)] rfl)
        have HRG5 := Lib.hid (I5.range 1 16 (by omega) [.int .i64 (M.cells 0), .int .i64 (M.cells 1), .int .i64 (M.cells 2), .int .i64 (M.cells 3), .int .i64 (M.cells 4), .int .i64 (M.cells 5), .int .i64 (M.cells 6), .int .i64 (M.cells 7), .int .i64 (M.cells 8), .int .i64 (M.cells 9), .int .i64 (M.cells 10), .int .i64 (M.cells 11), .int .i64 (M.cells 12), .int .i64 (M.cells 13), .int .i64 (M.cells 14), .int .i64 (M.cells 15)] rfl)
        have HI8x := Lib.hid I8
        have HIBx := Lib.hid IB
        have HBx := Lib.hid hb
        clear I3 I5 I8 IB hb k0 k1 k2 k3 k4 k5 k6 k7 l0 l1 l2 l3 l4 l5 l6 l7 l8 l9 l10 l11 l12 l13 l14 l15
        have heq := fun w => equal_table (M.cells 0) (M.cells 1) (M.cells 2) (M.cells 3) (M.cells 4) (M.cells 5) (M.cells 6) (M.cells 7) (M.cells 8) (M.cells 9) (M.cells 10) (M.cells 11) (M.cells 12) (M.cells 13) (M.cells 14) (M.cells 15) w
        go_wp2_with (first | (with_reducible refine wpList_load_on (by simp [go_sem]; done) 55 (.tmp 98) rfl g5 1 (by simp [go_sem]; done) [.int .i64 (M.cells 0), .int .i64 (M.cells 1), .int .i64 (M.cells 2), .int .i64 (M.cells 3), .int .i64 (M.cells 4), .int .i64 (M.cells 5), .int .i64 (M.cells 6), .int .i64 (M.cells 7), .int .i64 (M.cells 8), .int .i64 (M.cells 9), .int .i64 (M.cells 10), .int .i64 (M.cells 11), .int .i64 (M.cells 12), .int .i64 (M.cells 13), .int .i64 (M.cells 14), .int .i64 (M.cells 15)] _ HRG5.out Tryz.underlying55 rfl (size_tab (M.cells 0) (M.cells 1) (M.cells 2) (M.cells 3) (M.cells 4) (M.cells 5) (M.cells 6) (M.cells 7) (M.cells 8) (M.cells 9) (M.cells 10) (M.cells 11) (M.cells 12) (M.cells 13) (M.cells 14) (M.cells 15)) ?_) | (with_reducible refine wpList_load_on (by simp [go_sem]; done) 55 (.tmp 100) rfl g3 1 (by simp [go_sem]; done) [.int .i64 (M.cells 0), .int .i64 (M.cells 1), .int .i64 (M.cells 2), .int .i64 (M.cells 3), .int .i64 (M.cells 4), .int .i64 (M.cells 5), .int .i64 (M.cells 6), .int .i64 (M.cells 7), .int .i64 (M.cells 8), .int .i64 (M.cells 9), .int .i64 (M.cells 10), .int .i64 (M.cells 11), .int .i64 (M.cells 12), .int .i64 (M.cells 13), .int .i64 (M.cells 14), .int .i64 (M.cells 15)] _ HRG3.out Tryz.underlying55 rfl (size_tab (M.cells 0) (M.cells 1) (M.cells 2) (M.cells 3) (M.cells 4) (M.cells 5) (M.cells 6) (M.cells 7) (M.cells 8) (M.cells 9) (M.cells 10) (M.cells 11) (M.cells 12) (M.cells 13) (M.cells 14) (M.cells 15)) ?_))
        go_roundw
        case rel => exact ⟨k + 1, by omega, by go_num, HI8x.out, HIBx.out, HBx.out⟩
        case measure => simp [intOf]; omega
   ·obtain rfl : k = 3 := by omega
    go_wp2_with fail
    go_ret
    exact ⟨rfl, HBr.out⟩
 ·obtain ⟨ty, xv, rfl⟩ := he.iface h0
  have hz := HBAD.out h0
  obtain ⟨rfl, rfl⟩ : lo = 0 ∧ hi = 0 := by simpa [bnil] using hz
  clear he
  go_upto_region 6 with fail
  generalize hW : World.alloc w4 _ = w5
  have IB : Img w5 w4.heap.size 2 (fun j => ([.int .i64 0, .int .i64 0] : List Value).getD j undef) := hW ▸ Img.mk' (heap_alloc_new w4 _) (by kernel_rfl)
  have HB5 := Lib.hid (show Below w.heap.size w w5 from hW ▸ HB4.out.alloc HB4.out.size _)
  have b0 : w5.cell? ⟨w4.heap.size, 0, none⟩ = some (.int .i64 0) := IB.cell 0 (by omega)
  have b1 : w5.cell? ⟨w4.heap.size, 1, none⟩ = some (.int .i64 0) := IB.cell 1 (by omega)
  clear hW IB
  go_wp2_with fail
  go_ret
  refine ⟨?_, HB5.out⟩
  first | rfl | (simp; done) | exact ret_bool (by simp)
end Go.Proofs.YtpdlmbbgioenoaaGreatDoor.W

/-! part: FinalMachineSound -/
namespace Go.Proofs.YtpdlmbbgioenoaaGreatDoor.machineSound
open Go.ChangeShapes Go.WideShapes Go.ChangeAt Go.RowKit Go.Joins Go.Deep Go.Proofs.YtpdlmbbgioenoaaGreatDoor.R
set_option linter.unusedSimpArgs false
set_option linter.unusedVariables false
set_option linter.unusedVariables false

theorem own : ownKnob Tryz.prog.godebug = none := by kernel_rfl
/-! the row's step -/
set_option maxRecDepth 100000 in
theorem lifted (os : Os) (started : os.Started) (H : Type) (enc : TypeId × Value → H) :
  ReturnsInHanded {} Tryz.checked os 7 .any (fun w args => (Rows.machineSoundSpec.pre enc Tryz.prog Tryz.f7 [] false w args ∧ laidMetH Tryz.prog Rows.machineSoundRow.laid w) ∧ sizedMet enc Tryz.prog Tryz.f7 (OpenSpec.ofChange Rows.machineSoundSpec) false w args)
   (Rows.machineSoundSpec.post enc Tryz.prog Tryz.f7 false true false false) := by
 refine returnsInHanded_of_change_and (C := Tryz.checked) (X := fun w _ => laidMetH Tryz.prog Rows.machineSoundRow.laid w) (fun _ _ _ hh h => h.of_heap hh) own started (by kernel_rfl) Tryz.func7
  (ChangeSpec.witness_shaped (enc := enc) (C := Tryz.checked) (os := os) (X := fun w _ => laidMetH Tryz.prog Rows.machineSoundRow.laid w) false (LaidB3.doorW os) #[.slice none 0 0, .agg #[.int .i64 0, .int .i64 0, .int .i64 0, .int .i64 0, .int .i64 0, .int .i64 0, .int .i64 0, .int .i64 0], .agg #[.int .i64 0, .int .i64 0, .int .i64 0, .int .i64 0, .int .i64 0, .int .i64 0, .int .i64 0, .int .i64 0, .int .i64 0, .int .i64 0, .int .i64 0, .int .i64 0, .int .i64 0, .int .i64 0, .int .i64 0, .int .i64 0], .int .i64 0] 8 (LaidB3.doorW_os os) (LaidB3.door_shaped os _) (by kernel_rfl) (by kernel_rfl) (by kernel_rfl) (LaidB3.door_met os _)) ?_
 intro W base args ds gs before hval0 hW _ _ hL _
 have hval : ∀ (j : Nat) t v, Tryz.f7.params[j]? = some t → args[j]? = some v → Value.okWide Tryz.prog W .any base t v := hval0
 have hW' := hW
 obtain ⟨p, q, hA0, hV, rfl, hfz, hnd⟩ := hW
 have hA : DataW.TrodAll enc Tryz.prog W 0 (fun _ => true) true Tryz.f7.params.toList args.toList ds p := hA0
 rw [Tryz.params7] at hA hval
 obtain ⟨v0, vs0, d0, ds0, p0, q0, hargs, rfl, rfl, h0, r0⟩ := trodAll_cons hA
 obtain ⟨v1, vs1, d1, ds1, p1, q1, rfl, rfl, rfl, h1, r1⟩ := trodAll_cons r0
 obtain ⟨v2, vs2, d2, ds2, p2, q2, rfl, rfl, rfl, h2, r2⟩ := trodAll_cons r1
 obtain ⟨v3, vs3, d3, ds3, p3, q3, rfl, rfl, rfl, h3, r3⟩ := trodAll_cons r2
 obtain ⟨rfl, rfl, rfl⟩ := trodAll_nil r3
 obtain rfl : args = #[v0, v1, v2, v3] := by cases args; simp_all
 obtain ⟨rfl, rfl⟩ := trodVars_none hV
 obtain ⟨a0, len0, cap0, rfl⟩ := okWide_slice Tryz.underlying33 (hval 0 33 v0 rfl rfl)
 obtain ⟨told, rfl, ht⟩ := words_of_reads (hval 1 34 v1 rfl rfl) h1
 obtain ⟨cells, rfl, hce⟩ := table_of_reads (hval 2 55 v2 rfl rfl) h2
 obtain ⟨time, rfl, -, -, w3⟩ := open_int Tryz.underlying2 (hval 3 2 v3 rfl rfl) h3
 have hg := LaidB3.handle hL
 have hr := LaidB3.rtabs hL
 have hlt : ∀ x ∈ p0 ++ (p1 ++ (p2 ++ (p3 ++ []))), x.block < W.heap.size := fun x hx => hW'.lt x (by simpa using hx)
 have fin : ∀ W' : World, Below W.heap.size W W' → Rows.machineSoundSpec.post enc Tryz.prog Tryz.f7 false true false false W #[.slice a0 len0 cap0, Go.Proofs.YtpdlmbbgioenoaaGreatDoor.W.words8 told, Go.Proofs.YtpdlmbbgioenoaaGreatDoor.W.words16 cells, .int .i64 time] (.bool true) W' := fun W' hb =>
  Go.Proofs.YtpdlmbbgioenoaaGreatDoor.W.post_old (pa := p0 ++ (p1 ++ (p2 ++ (p3 ++ [])))) (pv := []) hb hW' rfl (fun _ _ _ => (trodAll_cons_mk (shut_bool Tryz.underlying4 _) trodAll_mk0))
   (fun sp hsp => trodAll_cons_mk (WideElems.Trod_stays laidOut (by kernel_rfl) (of_decide_eq_true (by kernel_rfl)) h0 (fun x hx => hb.same (hlt x (by simp [hx]))) (fun x hx => hsp x (by simp [hx])))
    (trodAll_cons_mk (WideElems.Trod_stays laidOut (by kernel_rfl) (of_decide_eq_true (by kernel_rfl)) h1 (fun x hx => hb.same (hlt x (by simp [hx]))) (fun x hx => hsp x (by simp [hx])))
    (trodAll_cons_mk (WideElems.Trod_stays laidOut (by kernel_rfl) (of_decide_eq_true (by kernel_rfl)) h2 (fun x hx => hb.same (hlt x (by simp [hx]))) (fun x hx => hsp x (by simp [hx])))
    (trodAll_cons_mk (WideElems.Trod_stays laidOut (by kernel_rfl) (of_decide_eq_true (by kernel_rfl)) h3 (fun x hx => hb.same (hlt x (by simp [hx]))) (fun x hx => hsp x (by simp [hx]))) trodAll_mk0))))
   (fun _ _ => rfl) (ok_one (by kernel_rfl) rfl (okWide_bool_mk Tryz.underlying4 _))
 clear hA0 hval0
 obtain ⟨fuel, hf⟩ := h0
 have main : len0 ≤ cap0 ∧ ∃ S, (0 < len0 → ∃ a, a0 = some a ∧ Go.Proofs.YtpdlmbbgioenoaaGreatDoor.W.Cells W a S len0) ∧ ∀ j, j < len0 → P.In64 (S j).dst ∧ P.In64 (S j).src ∧ P.In64 (S j).off ∧ P.In64 (S j).num := by
  rcases steps_of_reads (show DataW.trod enc Tryz.prog W 0 (fun _ => true) true fuel 33 [.slice a0 len0 cap0] = some (d0, p0) by simpa [Value.cells] using hf) with h1 | ⟨a, len, cap, S, h1, hl, hs, hi⟩
  ·simp only [Value.slice.injEq] at h1
   obtain ⟨rfl, rfl, rfl⟩ := h1
   exact ⟨Nat.le_refl _, fun _ => ⟨0, 0, 0, false, 0, 0⟩, fun h => by omega, fun j h => by omega⟩
  ·simp only [Value.slice.injEq] at h1
   obtain ⟨rfl, rfl, rfl⟩ := h1
   exact ⟨hl, S, fun _ => ⟨a, rfl, hs⟩, hi⟩
 obtain ⟨hcap, S, hs, hin⟩ := main
 have hin2 : ∀ j, j < len0 → P.In64 (S j).off ∧ P.In64 (S j).num := fun j hj => (hin j hj).2.2
 by_cases hbig : 300 < len0
 ·refine (Go.Proofs.YtpdlmbbgioenoaaGreatDoor.W.machineSound_big a0 len0 cap0 told cells time hbig W).mono fun e W' ⟨he, hb⟩ => ?_
  subst he
  exact ⟨_, rfl, fin W' hb⟩
 ·refine (Go.Proofs.YtpdlmbbgioenoaaGreatDoor.W.machineSound_walk a0 len0 cap0 S hcap told cells time hbig W hs hin2 ht hce (in64_lit w3) hr hg).mono fun e W' ⟨he, hb⟩ => ?_
  subst he
  exact ⟨_, rfl, fin W' hb⟩

theorem over : Rows.MachineSoundSaid :=
 OpenClaim.holds_of_wide 7 Tryz.f7 rfl rfl rfl rfl rfl rfl rfl ⟨rfl, rfl, rfl, rfl, rfl⟩ rfl rfl rfl rfl rfl (by kernel_rfl) Tryz.func7 machineSoundClosed.closed
  (of_decide_eq_true (by kernel_rfl)) (by unfold Func.isWrapper; first | (rw [if_pos (by decide +kernel)]; kernel_rfl) | (rw [if_neg (by decide +kernel)]; exact ⟨rfl, rfl⟩))
  (fun os started H enc _ => lifted os started H enc)

/-- THE STATEMENT: the tied card -/
theorem proved : Rows.MachineSoundCardSaid :=
 Claim7.holds_tied_plain_at .later [] [.data, .data, .data, .data, .handle, .sentinel, .sentinel, .widerDeep, .widerDeep, .pinned] true _ true
  over (fun _ h => by cases h) (by kernel_rfl) (fun _ h => by cases h) machineSound_row_tie rfl ⟨rfl, rfl⟩ (by kernel_rfl) rfl
  (fun f fn hf hfn => by
   obtain rfl : f = 7 := Option.some.inj ((show Tryz.prog.funcNamed "gatehouse/gatehousekeep.MachineSound" = some 7 by kernel_rfl).symm.trans hf) |>.symm
   obtain rfl : fn = Tryz.f7 := (Option.some.inj (Tryz.func7.symm.trans hfn)).symm
   exact ⟨by kernel_rfl, fun j t ht => by
    rw [Tryz.params7] at ht
    have hm : t ∈ [33, 34, 55, 2] := by simpa using Array.mem_of_getElem? ht
    have hall : ([33, 34, 55, 2].all fun u => !Tryz.prog.wantsStandIn u) = true := by kernel_rfl
    exact (show Tryz.prog.wantsStandIn t = false by simpa using List.all_eq_true.1 hall t hm)⟩)
  (by kernel_rfl)
#print axioms proved
end Go.Proofs.YtpdlmbbgioenoaaGreatDoor.machineSound
