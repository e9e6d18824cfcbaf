/- A part of the proof; each theorem states its conditions. -/
import Derived.Test.YtpdlmbbgioenoaaGreatDoorRows
import Derived.ProofKit
import Derived.OpenShut
import Derived.LaidMore
import Derived.LaidHandle
import Derived.Lib.LaidU8
import Derived.Lib.LaidTab
import Derived.ChangeArms
import Derived.Carry
import Derived.Deep.Slices
import Derived.Deep.Fields
import Derived.Stop.Joined
import Derived.Lib.SmallJoins
import Derived.SevenTiedAt
import Derived.Test.YtpdlmbbgioenoaaGreatDoorWalkCheck
import Derived.Test.YtpdlmbbgioenoaaGreatDoorPureBack
set_option linter.unusedSimpArgs false
set_option linter.unusedVariables false
namespace Go.Proofs.YtpdlmbbgioenoaaGreatDoor.R
open Go.ChangeShapes Go.WideShapes Go.ChangeAt Go.RowKit Go.Joins Go.Deep
theorem laidOut : laidOutB Tryz.prog = true := by kernel_rfl
theorem cellsS : Tryz.prog.cellsOf 81 = 6 := by kernel_rfl
theorem in64_lit {n : Int} (h : (Lit.int .i64 n).wf = true) : P.In64 n := by
 simp [Lit.wf, IntKind.min, IntKind.max, IntKind.signed, IntKind.bits] at h
 exact h
theorem six {α : Type} {l : List α} (h : l.length = 6) : ∃ a b c d e f, l = [a, b, c, d, e, f] := by
 match l, h with
 | [a, b, c, d, e, f], _ => exact ⟨a, b, c, d, e, f, rfl⟩
theorem step_of_reads {H : Type} {enc : TypeId × Value → H} {W : World} {sp : Nat → Bool} {held : Bool} {fuel : Nat} {cs : List Value} {x : DataW H × List MemPlace}
  (h : DataW.trod enc Tryz.prog W 0 sp held fuel 81 cs = some x) :
  ∃ s : P.Step, cs = [.int .i64 s.code, .int .i64 s.dst, .int .i64 s.src, .bool s.reg, .int .i64 s.off, .int .i64 s.num] ∧ P.In64 s.dst ∧ P.In64 s.src ∧ P.In64 s.off ∧ P.In64 s.num := by
 obtain ⟨xs, n, -, -, hl, hxl, hf⟩ := DataW.trod_struct Tryz.underlying81 h
 rw [cellsS] at hl
 obtain ⟨c0, c1, c2, c3, c4, c5, rfl⟩ := six hl
 obtain ⟨x0, x1, x2, x3, x4, x5, rfl⟩ := six hxl
 have g0 : DataW.trod enc Tryz.prog W 0 sp held n 3 (List.take (Tryz.prog.cellsOf 3) (List.drop 0 [c0, c1, c2, c3, c4, c5])) = some x0 := hf 0 _ rfl
 have g1 : DataW.trod enc Tryz.prog W 0 sp held n 3 (List.take (Tryz.prog.cellsOf 3) (List.drop 1 [c0, c1, c2, c3, c4, c5])) = some x1 := hf 1 _ rfl
 have g2 : DataW.trod enc Tryz.prog W 0 sp held n 3 (List.take (Tryz.prog.cellsOf 3) (List.drop 2 [c0, c1, c2, c3, c4, c5])) = some x2 := hf 2 _ rfl
 have g3 : DataW.trod enc Tryz.prog W 0 sp held n 4 (List.take (Tryz.prog.cellsOf 4) (List.drop 3 [c0, c1, c2, c3, c4, c5])) = some x3 := hf 3 _ rfl
 have g4 : DataW.trod enc Tryz.prog W 0 sp held n 3 (List.take (Tryz.prog.cellsOf 3) (List.drop 4 [c0, c1, c2, c3, c4, c5])) = some x4 := hf 4 _ rfl
 have g5 : DataW.trod enc Tryz.prog W 0 sp held n 2 (List.take (Tryz.prog.cellsOf 2) (List.drop 5 [c0, c1, c2, c3, c4, c5])) = some x5 := hf 5 _ rfl
 have cI : Tryz.prog.cellsOf 3 = 1 := by kernel_rfl
 have cB : Tryz.prog.cellsOf 4 = 1 := by kernel_rfl
 have cL : Tryz.prog.cellsOf 2 = 1 := by kernel_rfl
 simp only [cI, cB, cL, List.drop_zero, List.drop_succ_cons, List.take_succ_cons, List.take_zero] at g0 g1 g2 g3 g4 g5
 obtain ⟨k0, e0, -⟩ := DataW.trod_int Tryz.underlying3 g0
 obtain ⟨k1, e1, -, w1⟩ := DataW.trod_int Tryz.underlying3 g1
 obtain ⟨k2, e2, -, w2⟩ := DataW.trod_int Tryz.underlying3 g2
 obtain ⟨k3, e3, -⟩ := DataW.trod_bool Tryz.underlying4 g3
 obtain ⟨k4, e4, -, w4⟩ := DataW.trod_int Tryz.underlying3 g4
 obtain ⟨k5, e5, -, w5⟩ := DataW.trod_int Tryz.underlying2 g5
 simp only [List.cons.injEq, and_true] at e0 e1 e2 e3 e4 e5
 subst e0 e1 e2 e3 e4 e5
 exact ⟨⟨k0, k1, k2, k3, k4, k5⟩, rfl, in64_lit w1, in64_lit w2, in64_lit w4, in64_lit w5⟩
theorem steps_of_reads {H : Type} {enc : TypeId × Value → H} {W : World} {fuel : Nat} {v : Value} {x : DataW H × List MemPlace}
  (h : DataW.trod enc Tryz.prog W 0 (fun _ => true) true fuel 33 [v] = some x) :
  v = .slice none 0 0 ∨ ∃ a len cap S, v = .slice (some a) len cap ∧ len ≤ cap ∧ Go.Proofs.YtpdlmbbgioenoaaGreatDoor.W.Cells W a S len ∧ ∀ j, j < len → P.In64 (S j).dst ∧ P.In64 (S j).src ∧ P.In64 (S j).off ∧ P.In64 (S j).num := by
 rcases open_slice Tryz.underlying33 h with ⟨hc, -⟩ | ⟨a, len, cap, m, n, D, Pl, hc, hb, hl, hm, hmm, hx, hi⟩
 ·exact .inl (by simpa using hc)
 ·right
  have hs : ∀ i, i < len → ∃ s : P.Step, W.cell? (a.add (i * 6)) = some (.int .i64 s.code) ∧ W.cell? ⟨(a.add (i * 6)).block, (a.add (i * 6)).off + 1, none⟩ = some (.int .i64 s.dst) ∧
    W.cell? ⟨(a.add (i * 6)).block, (a.add (i * 6)).off + 2, none⟩ = some (.int .i64 s.src) ∧ W.cell? ⟨(a.add (i * 6)).block, (a.add (i * 6)).off + 3, none⟩ = some (.bool s.reg) ∧
    W.cell? ⟨(a.add (i * 6)).block, (a.add (i * 6)).off + 4, none⟩ = some (.int .i64 s.off) ∧ W.cell? ⟨(a.add (i * 6)).block, (a.add (i * 6)).off + 5, none⟩ = some (.int .i64 s.num) ∧ P.In64 s.dst ∧ P.In64 s.src ∧ P.In64 s.off ∧ P.In64 s.num := by
   intro i hil
   have him : i < m := by rw [hmm]; simp; omega
   obtain ⟨cs, hcs, ht⟩ := hi i him
   rw [cellsS] at hcs
   obtain ⟨-, -, hat⟩ := World.cells?_some hcs
   obtain ⟨s, rfl, i4⟩ := step_of_reads ht
   exact ⟨s, hat 0 (by omega), hat 1 (by omega), hat 2 (by omega), hat 3 (by omega), hat 4 (by omega), hat 5 (by omega), i4⟩
  refine ⟨a, len, cap, fun i => if hl : i < len then Classical.choose (hs i hl) else ⟨0, 0, 0, false, 0, 0⟩, by simpa using hc, hl, fun i hil => ?_, fun i hil => ?_⟩
  ·simp only [hil, dite_true]
   obtain ⟨h0, h1, h2, h3, h4, h5, -⟩ := Classical.choose_spec (hs i hil)
   exact ⟨h0, h1, h2, h3, h4, h5⟩
  ·simp only [hil, dite_true]
   exact (Classical.choose_spec (hs i hil)).2.2.2.2.2.2
end Go.Proofs.YtpdlmbbgioenoaaGreatDoor.R
