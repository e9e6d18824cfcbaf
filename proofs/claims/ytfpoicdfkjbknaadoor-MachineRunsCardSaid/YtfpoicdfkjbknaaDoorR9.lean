/- The walk of the reference's Run over a program that is in order: what comes of it. Conditions: the program's cells are known, its numbers are int64's, its check gives nothing. -/
import Derived.Test.YtfpoicdfkjbknaaDoorR8
import Derived.Test.YtfpoicdfkjbknaaDoorWalkCheck
import Derived.Test.YtfpoicdfkjbknaaDoorRanDef
namespace Go.Proofs.YtfpoicdfkjbknaaDoor.W
open Go.RowKit Go.Proofs.YtfpoicdfkjbknaaDoor.P
set_option linter.unusedSimpArgs false
set_option linter.unusedVariables false

def rwords8 (told : Nat → Int) : Value := .agg #[.int .i64 (told 0), .int .i64 (told 1), .int .i64 (told 2), .int .i64 (told 3), .int .i64 (told 4), .int .i64 (told 5), .int .i64 (told 6), .int .i64 (told 7)]
def rwords16 (cells : Nat → Int) : Value := .agg #[.int .i64 (cells 0), .int .i64 (cells 1), .int .i64 (cells 2), .int .i64 (cells 3), .int .i64 (cells 4), .int .i64 (cells 5), .int .i64 (cells 6), .int .i64 (cells 7), .int .i64 (cells 8), .int .i64 (cells 9), .int .i64 (cells 10), .int .i64 (cells 11), .int .i64 (cells 12), .int .i64 (cells 13), .int .i64 (cells 14), .int .i64 (cells 15)]
def rranz : Nat → Value := fun j => if j = 17 then .slice none 0 0 else .int .i64 0
theorem Img.mk2 {w : World} {b n : Nat} {c : Array Value} {t : TypeId} {I : Nat → Value} (hb : w.heap[b]? = some (.cells c t (0, 0))) (e : c.toList = (List.range n).map I) : Img w b n I := by
  have hs : c.size = n := by rw [← Array.length_toList, e]; simp
  refine Img.of_cells hb hs.symm fun j hj => ?_
  rw [← Array.getElem?_toList, e]
  simp [hj]
/-- what came of a program, as values: the reference's answer -/
def RefRanIs (w : World) (v f : Value) : (Int × Int) ⊕ (Mach × Int × Int) → Prop
  | .inl (e, p) => v = .agg #[.int .i64 0, .int .i64 0, .int .i64 0, .int .i64 0, .int .i64 0, .int .i64 0, .int .i64 0, .int .i64 0, .int .i64 0, .int .i64 0, .int .i64 0, .int .i64 0, .int .i64 0, .int .i64 0, .int .i64 0, .int .i64 0, .int .i64 0, .slice none 0 0, .int .i64 0] ∧ f = .agg #[.int .i64 e, .int .i64 p] ∧ e ≠ 0
  | .inr (M, num, st) => ∃ out, v = .agg #[.int .i64 num, .int .i64 (M.cells 0), .int .i64 (M.cells 1), .int .i64 (M.cells 2), .int .i64 (M.cells 3), .int .i64 (M.cells 4), .int .i64 (M.cells 5), .int .i64 (M.cells 6), .int .i64 (M.cells 7), .int .i64 (M.cells 8), .int .i64 (M.cells 9), .int .i64 (M.cells 10), .int .i64 (M.cells 11), .int .i64 (M.cells 12), .int .i64 (M.cells 13), .int .i64 (M.cells 14), .int .i64 (M.cells 15), out, .int .i64 st] ∧ f = .agg #[.int .i64 0, .int .i64 (-1)] ∧ ∃ B, w.ownsRow B 2 1 out M.out.length (M.out.map (Value.int .i64))
theorem range19 {w : World} {b : Nat} {told : Nat → Int} {time num st : Int} {out : Value} {M' : Mach} (h : Img w b 109 (bimg told time num st out M')) : w.rangeAt b 89 [.int .i64 num, .int .i64 (M'.cells 0), .int .i64 (M'.cells 1), .int .i64 (M'.cells 2), .int .i64 (M'.cells 3), .int .i64 (M'.cells 4), .int .i64 (M'.cells 5), .int .i64 (M'.cells 6), .int .i64 (M'.cells 7), .int .i64 (M'.cells 8), .int .i64 (M'.cells 9), .int .i64 (M'.cells 10), .int .i64 (M'.cells 11), .int .i64 (M'.cells 12), .int .i64 (M'.cells 13), .int .i64 (M'.cells 14), .int .i64 (M'.cells 15), out, .int .i64 st] := by
  intro j v hv
  have e : [.int .i64 num, .int .i64 (M'.cells 0), .int .i64 (M'.cells 1), .int .i64 (M'.cells 2), .int .i64 (M'.cells 3), .int .i64 (M'.cells 4), .int .i64 (M'.cells 5), .int .i64 (M'.cells 6), .int .i64 (M'.cells 7), .int .i64 (M'.cells 8), .int .i64 (M'.cells 9), .int .i64 (M'.cells 10), .int .i64 (M'.cells 11), .int .i64 (M'.cells 12), .int .i64 (M'.cells 13), .int .i64 (M'.cells 14), .int .i64 (M'.cells 15), out, .int .i64 st] = (List.range 19).map fun j => bimg told time num st out M' (89 + j) := rfl
  rw [e] at hv
  have hj : j < 19 := by have := (List.getElem?_eq_some_iff.1 hv).1; simpa using this
  rw [h.cell (89 + j) (by omega), ← hv]
  simp [hj]
theorem size_fault : (Tryd.prog.info? 32).map (·.size) = some 2 := by kernel_rfl
theorem size_two (x y : Int) : (Tryd.prog.info? 32).map (·.size) = some (Array.size (#[.int .i64 x, .int .i64 y] : Array Value)) := size_fault
theorem one_two (x y : Int) : (#[.int .i64 x, .int .i64 y] : Array Value).all (·.oneCell') = true := by kernel_rfl
theorem rrun_succ (S : Nat → Step) (told : Nat → Int) (time : Int) (k : Nat) (M : Mach) (pc st : Int) : Mach.run S told time (k + 1) M pc st = (match M.step told time (S pc.toNat) pc with
    | .done M n => .inr (M, n, st)
    | .err e => .inl (e, pc)
    | .go M next => Mach.run S told time k M next (st + 1)) := rfl

set_option maxRecDepth 100000 in
set_option maxHeartbeats 16000000 in
theorem RefRun_ok (a : Addr) (n cap : Nat) (S : Nat → Step) (hn : 1 ≤ n) (hn2 : n ≤ 200) (hcap : n ≤ cap) (told cells : Nat → Int) (time : Int) (w : World) (hs : Cells w a S n) (hin : ∀ j, j < n → In64 (S j).off ∧ In64 (S j).num) (ht : ∀ r, In64 (told r)) (hce : ∀ r, In64 (cells r)) (htm : In64 time)
   (hc : from_ S n 0 n = (0, -1)) :
    Calls Tryd.prog 6 #[.slice (some a) n cap, rwords8 told, rwords16 cells, .int .i64 time] w fun e w' => (∃ v f, e = .returned (.tuple #[v, f]) ∧ RefRanIs w' v f (Mach.run S told time n (Mach.init cells) 0 1)) ∧ Below w.heap.size w w' := by
  have HW0 := Lib.hid (Below.refl w.heap.size w)
  unfold rwords8 rwords16
  have ok := fun j (hj : j < n) => at_ok (from_ok n 0 (by omega) (by rw [hc]) j (by omega) hj)
  have OK := Lib.hid ok
  have HS := Lib.hid hs
  have HC := Lib.hid hc
  have HIN := Lib.hid hin
  have HT := Lib.hid ht
  have HCE := Lib.hid hce
  have HTM := Lib.hid htm
  have sz : 0 < n → a.block < w.heap.size := fun h => block_lt_of_cell (a := ⟨a.block, a.off + 1, none⟩) (by have := (hs 0 h).2.1; simpa [Addr.add] using this)
  clear ok hs hc hin ht hce htm
  go_enter Tryd.func6, Tryd.ntmps6
  go_wp2_with fail
  refine (RefCheck_some a n cap S hn hn2 hcap _ ?_).mono ?_
  · exact HS.out.later (w' := _) (by repeat' (first | with_reducible exact HW0.out | with_reducible refine Below.alloc ?_ ?_ _ | (simp; done) | (simp; omega) | omega))
  rw [HC.out]
  rintro e w1 ⟨rfl, hb⟩
  obtain ⟨hc1, hf1⟩ := bcell hb
  have hz1 := hb.size
  simp at hz1
  have HW1 := Lib.hid (show Below w.heap.size w w1 from Below.trans (by repeat' (first | with_reducible exact HW0.out | with_reducible refine Below.alloc ?_ ?_ _ | (simp; done) | (simp; omega) | omega)) (hb.mono (by first | (simp; done) | (simp; omega) | omega)))
  have R1 : Img w1 (w.heap.size + 2) 19 rranz := Img.later (Img.alloc (Img.mk2 (by simpa using heap_alloc_new ((w.alloc _).alloc _) _) (by rfl)) _) hb (by simp)
  have F1 : Img w1 (w.heap.size + 3) 2 (fun _ => .int .i64 0) := Img.later (Img.mk2 (by simpa using heap_alloc_new (((w.alloc _).alloc _).alloc _) _) (by rfl)) hb (by simp)
  clear hb
  have z10 : w.heap.size < w1.heap.size := by omega
  have z11 : w.heap.size + 1 < w1.heap.size := by omega
  have z12 : w.heap.size + 2 < w1.heap.size := by omega
  have z13 : w.heap.size + 3 < w1.heap.size := by omega
  (have k1_w_heap_size_0 : w1.cell? ⟨w.heap.size, 0, none⟩ = some (.int .i64 (told 0)) := (by rw [hc1 _ _ (by first | (simp; done) | (simp; omega) | omega)]; first | (simp [go_sem]; done) | assumption); have r1_w_heap_size_0 : w1.frozen? ⟨w.heap.size, 0, none⟩ = false := (by rw [hf1 _ _ (by first | (simp; done) | (simp; omega) | omega)]; first | (simp [go_sem]; done) | assumption); have k1_w_heap_size_1 : w1.cell? ⟨w.heap.size, 1, none⟩ = some (.int .i64 (told 1)) := (by rw [hc1 _ _ (by first | (simp; done) | (simp; omega) | omega)]; first | (simp [go_sem]; done) | assumption); have r1_w_heap_size_1 : w1.frozen? ⟨w.heap.size, 1, none⟩ = false := (by rw [hf1 _ _ (by first | (simp; done) | (simp; omega) | omega)]; first | (simp [go_sem]; done) | assumption); have k1_w_heap_size_2 : w1.cell? ⟨w.heap.size, 2, none⟩ = some (.int .i64 (told 2)) := (by rw [hc1 _ _ (by first | (simp; done) | (simp; omega) | omega)]; first | (simp [go_sem]; done) | assumption); have r1_w_heap_size_2 : w1.frozen? ⟨w.heap.size, 2, none⟩ = false := (by rw [hf1 _ _ (by first | (simp; done) | (simp; omega) | omega)]; first | (simp [go_sem]; done) | assumption); have k1_w_heap_size_3 : w1.cell? ⟨w.heap.size, 3, none⟩ = some (.int .i64 (told 3)) := (by rw [hc1 _ _ (by first | (simp; done) | (simp; omega) | omega)]; first | (simp [go_sem]; done) | assumption); have r1_w_heap_size_3 : w1.frozen? ⟨w.heap.size, 3, none⟩ = false := (by rw [hf1 _ _ (by first | (simp; done) | (simp; omega) | omega)]; first | (simp [go_sem]; done) | assumption); have k1_w_heap_size_4 : w1.cell? ⟨w.heap.size, 4, none⟩ = some (.int .i64 (told 4)) := (by rw [hc1 _ _ (by first | (simp; done) | (simp; omega) | omega)]; first | (simp [go_sem]; done) | assumption); have r1_w_heap_size_4 : w1.frozen? ⟨w.heap.size, 4, none⟩ = false := (by rw [hf1 _ _ (by first | (simp; done) | (simp; omega) | omega)]; first | (simp [go_sem]; done) | assumption); have k1_w_heap_size_5 : w1.cell? ⟨w.heap.size, 5, none⟩ = some (.int .i64 (told 5)) := (by rw [hc1 _ _ (by first | (simp; done) | (simp; omega) | omega)]; first | (simp [go_sem]; done) | assumption); have r1_w_heap_size_5 : w1.frozen? ⟨w.heap.size, 5, none⟩ = false := (by rw [hf1 _ _ (by first | (simp; done) | (simp; omega) | omega)]; first | (simp [go_sem]; done) | assumption); have k1_w_heap_size_6 : w1.cell? ⟨w.heap.size, 6, none⟩ = some (.int .i64 (told 6)) := (by rw [hc1 _ _ (by first | (simp; done) | (simp; omega) | omega)]; first | (simp [go_sem]; done) | assumption); have r1_w_heap_size_6 : w1.frozen? ⟨w.heap.size, 6, none⟩ = false := (by rw [hf1 _ _ (by first | (simp; done) | (simp; omega) | omega)]; first | (simp [go_sem]; done) | assumption); have k1_w_heap_size_7 : w1.cell? ⟨w.heap.size, 7, none⟩ = some (.int .i64 (told 7)) := (by rw [hc1 _ _ (by first | (simp; done) | (simp; omega) | omega)]; first | (simp [go_sem]; done) | assumption); have r1_w_heap_size_7 : w1.frozen? ⟨w.heap.size, 7, none⟩ = false := (by rw [hf1 _ _ (by first | (simp; done) | (simp; omega) | omega)]; first | (simp [go_sem]; done) | assumption))
  (have k1_w_heap_size_1_0 : w1.cell? ⟨w.heap.size + 1, 0, none⟩ = some (.int .i64 (cells 0)) := (by rw [hc1 _ _ (by first | (simp; done) | (simp; omega) | omega)]; first | (simp [go_sem]; done) | assumption); have r1_w_heap_size_1_0 : w1.frozen? ⟨w.heap.size + 1, 0, none⟩ = false := (by rw [hf1 _ _ (by first | (simp; done) | (simp; omega) | omega)]; first | (simp [go_sem]; done) | assumption); have k1_w_heap_size_1_1 : w1.cell? ⟨w.heap.size + 1, 1, none⟩ = some (.int .i64 (cells 1)) := (by rw [hc1 _ _ (by first | (simp; done) | (simp; omega) | omega)]; first | (simp [go_sem]; done) | assumption); have r1_w_heap_size_1_1 : w1.frozen? ⟨w.heap.size + 1, 1, none⟩ = false := (by rw [hf1 _ _ (by first | (simp; done) | (simp; omega) | omega)]; first | (simp [go_sem]; done) | assumption); have k1_w_heap_size_1_2 : w1.cell? ⟨w.heap.size + 1, 2, none⟩ = some (.int .i64 (cells 2)) := (by rw [hc1 _ _ (by first | (simp; done) | (simp; omega) | omega)]; first | (simp [go_sem]; done) | assumption); have r1_w_heap_size_1_2 : w1.frozen? ⟨w.heap.size + 1, 2, none⟩ = false := (by rw [hf1 _ _ (by first | (simp; done) | (simp; omega) | omega)]; first | (simp [go_sem]; done) | assumption); have k1_w_heap_size_1_3 : w1.cell? ⟨w.heap.size + 1, 3, none⟩ = some (.int .i64 (cells 3)) := (by rw [hc1 _ _ (by first | (simp; done) | (simp; omega) | omega)]; first | (simp [go_sem]; done) | assumption); have r1_w_heap_size_1_3 : w1.frozen? ⟨w.heap.size + 1, 3, none⟩ = false := (by rw [hf1 _ _ (by first | (simp; done) | (simp; omega) | omega)]; first | (simp [go_sem]; done) | assumption); have k1_w_heap_size_1_4 : w1.cell? ⟨w.heap.size + 1, 4, none⟩ = some (.int .i64 (cells 4)) := (by rw [hc1 _ _ (by first | (simp; done) | (simp; omega) | omega)]; first | (simp [go_sem]; done) | assumption); have r1_w_heap_size_1_4 : w1.frozen? ⟨w.heap.size + 1, 4, none⟩ = false := (by rw [hf1 _ _ (by first | (simp; done) | (simp; omega) | omega)]; first | (simp [go_sem]; done) | assumption); have k1_w_heap_size_1_5 : w1.cell? ⟨w.heap.size + 1, 5, none⟩ = some (.int .i64 (cells 5)) := (by rw [hc1 _ _ (by first | (simp; done) | (simp; omega) | omega)]; first | (simp [go_sem]; done) | assumption); have r1_w_heap_size_1_5 : w1.frozen? ⟨w.heap.size + 1, 5, none⟩ = false := (by rw [hf1 _ _ (by first | (simp; done) | (simp; omega) | omega)]; first | (simp [go_sem]; done) | assumption); have k1_w_heap_size_1_6 : w1.cell? ⟨w.heap.size + 1, 6, none⟩ = some (.int .i64 (cells 6)) := (by rw [hc1 _ _ (by first | (simp; done) | (simp; omega) | omega)]; first | (simp [go_sem]; done) | assumption); have r1_w_heap_size_1_6 : w1.frozen? ⟨w.heap.size + 1, 6, none⟩ = false := (by rw [hf1 _ _ (by first | (simp; done) | (simp; omega) | omega)]; first | (simp [go_sem]; done) | assumption); have k1_w_heap_size_1_7 : w1.cell? ⟨w.heap.size + 1, 7, none⟩ = some (.int .i64 (cells 7)) := (by rw [hc1 _ _ (by first | (simp; done) | (simp; omega) | omega)]; first | (simp [go_sem]; done) | assumption); have r1_w_heap_size_1_7 : w1.frozen? ⟨w.heap.size + 1, 7, none⟩ = false := (by rw [hf1 _ _ (by first | (simp; done) | (simp; omega) | omega)]; first | (simp [go_sem]; done) | assumption); have k1_w_heap_size_1_8 : w1.cell? ⟨w.heap.size + 1, 8, none⟩ = some (.int .i64 (cells 8)) := (by rw [hc1 _ _ (by first | (simp; done) | (simp; omega) | omega)]; first | (simp [go_sem]; done) | assumption); have r1_w_heap_size_1_8 : w1.frozen? ⟨w.heap.size + 1, 8, none⟩ = false := (by rw [hf1 _ _ (by first | (simp; done) | (simp; omega) | omega)]; first | (simp [go_sem]; done) | assumption); have k1_w_heap_size_1_9 : w1.cell? ⟨w.heap.size + 1, 9, none⟩ = some (.int .i64 (cells 9)) := (by rw [hc1 _ _ (by first | (simp; done) | (simp; omega) | omega)]; first | (simp [go_sem]; done) | assumption); have r1_w_heap_size_1_9 : w1.frozen? ⟨w.heap.size + 1, 9, none⟩ = false := (by rw [hf1 _ _ (by first | (simp; done) | (simp; omega) | omega)]; first | (simp [go_sem]; done) | assumption); have k1_w_heap_size_1_10 : w1.cell? ⟨w.heap.size + 1, 10, none⟩ = some (.int .i64 (cells 10)) := (by rw [hc1 _ _ (by first | (simp; done) | (simp; omega) | omega)]; first | (simp [go_sem]; done) | assumption); have r1_w_heap_size_1_10 : w1.frozen? ⟨w.heap.size + 1, 10, none⟩ = false := (by rw [hf1 _ _ (by first | (simp; done) | (simp; omega) | omega)]; first | (simp [go_sem]; done) | assumption); have k1_w_heap_size_1_11 : w1.cell? ⟨w.heap.size + 1, 11, none⟩ = some (.int .i64 (cells 11)) := (by rw [hc1 _ _ (by first | (simp; done) | (simp; omega) | omega)]; first | (simp [go_sem]; done) | assumption); have r1_w_heap_size_1_11 : w1.frozen? ⟨w.heap.size + 1, 11, none⟩ = false := (by rw [hf1 _ _ (by first | (simp; done) | (simp; omega) | omega)]; first | (simp [go_sem]; done) | assumption); have k1_w_heap_size_1_12 : w1.cell? ⟨w.heap.size + 1, 12, none⟩ = some (.int .i64 (cells 12)) := (by rw [hc1 _ _ (by first | (simp; done) | (simp; omega) | omega)]; first | (simp [go_sem]; done) | assumption); have r1_w_heap_size_1_12 : w1.frozen? ⟨w.heap.size + 1, 12, none⟩ = false := (by rw [hf1 _ _ (by first | (simp; done) | (simp; omega) | omega)]; first | (simp [go_sem]; done) | assumption); have k1_w_heap_size_1_13 : w1.cell? ⟨w.heap.size + 1, 13, none⟩ = some (.int .i64 (cells 13)) := (by rw [hc1 _ _ (by first | (simp; done) | (simp; omega) | omega)]; first | (simp [go_sem]; done) | assumption); have r1_w_heap_size_1_13 : w1.frozen? ⟨w.heap.size + 1, 13, none⟩ = false := (by rw [hf1 _ _ (by first | (simp; done) | (simp; omega) | omega)]; first | (simp [go_sem]; done) | assumption); have k1_w_heap_size_1_14 : w1.cell? ⟨w.heap.size + 1, 14, none⟩ = some (.int .i64 (cells 14)) := (by rw [hc1 _ _ (by first | (simp; done) | (simp; omega) | omega)]; first | (simp [go_sem]; done) | assumption); have r1_w_heap_size_1_14 : w1.frozen? ⟨w.heap.size + 1, 14, none⟩ = false := (by rw [hf1 _ _ (by first | (simp; done) | (simp; omega) | omega)]; first | (simp [go_sem]; done) | assumption); have k1_w_heap_size_1_15 : w1.cell? ⟨w.heap.size + 1, 15, none⟩ = some (.int .i64 (cells 15)) := (by rw [hc1 _ _ (by first | (simp; done) | (simp; omega) | omega)]; first | (simp [go_sem]; done) | assumption); have r1_w_heap_size_1_15 : w1.frozen? ⟨w.heap.size + 1, 15, none⟩ = false := (by rw [hf1 _ _ (by first | (simp; done) | (simp; omega) | omega)]; first | (simp [go_sem]; done) | assumption))
  clear hc1 hf1
  have HR1 := Lib.hid R1
  have HF1 := Lib.hid F1
  clear R1 F1
  go_wp2_with fail
  go_region
  all_goals go_wp2_with fail
  generalize hW : World.drew (World.alloc _ _) = w2
  have I2 : Img w2 (w1.heap.size + 1) 109 (bimg told time 0 0 (.slice none 0 0) (Mach.init cells)) := by
    rw [← hW]
    exact Img.drew (Img.mk2 (by simpa using heap_alloc_new (World.alloc w1 _) _) (by kernel_rfl))
  have HB2 := Lib.hid (show Below w.heap.size w w2 from hW ▸ ((HW1.out.alloc (by omega) _).alloc (by simp; omega) _).drew)
  have HR2 := Lib.hid (show Img w2 (w.heap.size + 2) 19 rranz from hW ▸ ((HR1.out.alloc _).alloc _).drew)
  have HF2 := Lib.hid (show Img w2 (w.heap.size + 3) 2 (fun _ => .int .i64 0) from hW ▸ ((HF1.out.alloc _).alloc _).drew)
  have zz : w1.heap.size + 1 < w2.heap.size := by rw [← hW]; simp
  have HM2 : Hid (BoxAt w2 (w1.heap.size + 1) told time 0 0 (Mach.init cells)) := ⟨.slice none 0 0, I2, ⟨rfl, .inl ⟨rfl, rfl⟩⟩⟩
  clear hW I2
  have zb : w.heap.size + 3 < w1.heap.size + 1 := by omega
  clear HR1 HF1 HW1 z10 z11 z12 z13 hz1 k1_w_heap_size_0 r1_w_heap_size_0 k1_w_heap_size_1 r1_w_heap_size_1 k1_w_heap_size_2 r1_w_heap_size_2 k1_w_heap_size_3 r1_w_heap_size_3 k1_w_heap_size_4 r1_w_heap_size_4 k1_w_heap_size_5 r1_w_heap_size_5 k1_w_heap_size_6 r1_w_heap_size_6 k1_w_heap_size_7 r1_w_heap_size_7 k1_w_heap_size_1_0 r1_w_heap_size_1_0 k1_w_heap_size_1_1 r1_w_heap_size_1_1 k1_w_heap_size_1_2 r1_w_heap_size_1_2 k1_w_heap_size_1_3 r1_w_heap_size_1_3 k1_w_heap_size_1_4 r1_w_heap_size_1_4 k1_w_heap_size_1_5 r1_w_heap_size_1_5 k1_w_heap_size_1_6 r1_w_heap_size_1_6 k1_w_heap_size_1_7 r1_w_heap_size_1_7 k1_w_heap_size_1_8 r1_w_heap_size_1_8 k1_w_heap_size_1_9 r1_w_heap_size_1_9 k1_w_heap_size_1_10 r1_w_heap_size_1_10 k1_w_heap_size_1_11 r1_w_heap_size_1_11 k1_w_heap_size_1_12 r1_w_heap_size_1_12 k1_w_heap_size_1_13 r1_w_heap_size_1_13 k1_w_heap_size_1_14 r1_w_heap_size_1_14 k1_w_heap_size_1_15 r1_w_heap_size_1_15
  generalize w1.heap.size + 1 = b at *
  go_loopw [12] (fun p wr => ∃ (pc st f : Nat) (M : Mach), p = .int .i64 pc ∧ pc < n ∧ st ≤ pc ∧ n ≤ pc + f ∧ MOk M ∧ MNum M ∧ Mach.run S told time n (Mach.init cells) 0 1 = Mach.run S told time f M pc (st + 1) ∧ BoxAt wr b told time 0 st M ∧ Img wr (w.heap.size + 2) 19 rranz ∧ Img wr (w.heap.size + 3) 2 (fun _ => .int .i64 0) ∧ Below w.heap.size w wr) (fun p _ => n - (intOf p).toNat)
  case atStart => exact ⟨0, 0, n, Mach.init cells, rfl, by omega, by omega, by omega, MOk.init cells, MNum.init HCE.out, rfl, HM2.out, HR2.out, HF2.out, HB2.out⟩
  case round =>
    obtain ⟨pc, st, f, M, rfl, hpc, hst, hf, hM, hMN, hrun, hBox, hR, hF, hB⟩ := hrel
    obtain ⟨f, rfl⟩ : ∃ g, f = g + 1 := ⟨f - 1, by omega⟩
    have hlS := block_lt_of_cell (HS.out pc hpc).1
    obtain ⟨e0, e1, e2, e3, e4, e5⟩ := HS.out.later hB pc hpc
    have hok := OK.out pc hpc
    have hin := HIN.out pc hpc
    rw [rrun_succ, Int.toNat_natCast] at hrun
    generalize S pc = t at *
    obtain ⟨c, d, s, r, o, nn⟩ := t
    obtain ⟨h1, h2, h3⟩ := hok
    obtain ⟨g1, g2, g3, g4⟩ := wrong_ok h1
    simp only [Step.leads] at g1 g2 g3 g4 h2 h3 e0 e1 e2 e3 e4 e5 hin
    obtain ⟨d, rfl⟩ := Int.eq_ofNat_of_zero_le g2.1
    obtain ⟨s, rfl⟩ := Int.eq_ofNat_of_zero_le g2.2.2.1
    have dN : d < 11 := by omega
    have sN : s < 11 := by omega
    obtain ⟨R, hR9⟩ : ∃ R, M.step told time ⟨c, d, s, r, o, nn⟩ pc = R := ⟨_, rfl⟩
    rw [hR9] at hrun
    have hBox0 := hBox
    obtain ⟨out, hI, hO⟩ := hBox
    have c107 : wr.cell? ⟨b, 107, none⟩ = some (.int .i64 st) := hI.cell 107 (by omega)
    have f107 := hI.free 107 (by omega)
    have hbox2 : BoxAt (wr.setCell ⟨b, 107, none⟩ (.int .i64 (st + 1))) b told time 0 (st + 1) M := ⟨out, hI.bsetSt _, ownsRow_setCell_below hO (by simp) _⟩
    have hbs : Below b wr (wr.setCell ⟨b, 107, none⟩ (.int .i64 (st + 1))) := (Below.refl b wr).setCell (Nat.le_refl _) _
    have zr : w.heap.size + 3 < wr.heap.size := hF.lt (by omega)
    have zbr : b < wr.heap.size := hI.lt (by omega)
    have zs : (wr.setCell ⟨b, 107, none⟩ (.int .i64 (st + 1))).heap.size = wr.heap.size := by simp
    have HX := Lib.hid hbox2
    have HBS := Lib.hid hbs
    have HRUN := Lib.hid hrun
    have HR9 := Lib.hid hR9
    have HB := Lib.hid hB
    have HR := Lib.hid hR
    have HF := Lib.hid hF
    have HMO := Lib.hid hM
    have HMN := Lib.hid hMN
    have HL := Lib.hid h2
    have HNB := Lib.hid g4
    have HE := Lib.hid h3
    have HI6 := Lib.hid hin
    have E0 := Lib.hid e0; have E1 := Lib.hid e1; have E2 := Lib.hid e2; have E3 := Lib.hid e3; have E4 := Lib.hid e4; have E5 := Lib.hid e5
    clear e0 e1 e2 e3 e4 e5 hbox2 hbs hrun hR9 hB hR hF hM hMN h1 h2 h3 g4 hin hI hO hBox0
    have pc1 : (pc : Int) < n := by omega
    have pc0 : (0 : Int) ≤ pc := by omega
    have st1 : (st : Int) + 1 ≤ 1000 := by omega
    have ZS := Lib.hid zs
    clear zs
    go_upto_region 9 with fail
    generalize hW : World.setCell wr _ _ = ws at *
    have e0 := (HBS.out.cell (p := a.add (pc * 6)) (by omega)).trans E0.out
    have e1 := (HBS.out.cell (p := ⟨(a.add (pc * 6)).block, (a.add (pc * 6)).off + 1, none⟩) (by simp; omega)).trans E1.out
    have e2 := (HBS.out.cell (p := ⟨(a.add (pc * 6)).block, (a.add (pc * 6)).off + 2, none⟩) (by simp; omega)).trans E2.out
    have e3 := (HBS.out.cell (p := ⟨(a.add (pc * 6)).block, (a.add (pc * 6)).off + 3, none⟩) (by simp; omega)).trans E3.out
    have e4 := (HBS.out.cell (p := ⟨(a.add (pc * 6)).block, (a.add (pc * 6)).off + 4, none⟩) (by simp; omega)).trans E4.out
    have e5 := (HBS.out.cell (p := ⟨(a.add (pc * 6)).block, (a.add (pc * 6)).off + 5, none⟩) (by simp; omega)).trans E5.out
    have HRs := Lib.hid (HR.out.later HBS.out (by omega))
    have HFs := Lib.hid (HF.out.later HBS.out (by omega))
    have HBs := Lib.hid (HB.out.trans (HBS.out.mono (by omega)))
    have zs : w.heap.size + 3 < ws.heap.size := by have := ZS.out; omega
    clear hW HR HF HB HBS E0 E1 E2 E3 E4 E5 c107 f107
    go_wp2_with fail
    have C := RefStep_any b told time 0 (st + 1) M ws HX.out HMO.out HMN.out HT.out HTM.out c d s r o nn pc (by omega) dN sN g1 HI6.out.1 HI6.out.2 (fun h => by have := HL.out h; omega) HNB.out
    rw [HR9.out] at C
    refine C.mono ?_
    clear C
    rintro e w3 ⟨hP, hb3⟩
    have HB3 := Lib.hid (HBs.out.trans (hb3.mono (by omega)))
    have HR3 := Lib.hid (HRs.out.later hb3 (by omega))
    have HF3 := Lib.hid (HFs.out.later hb3 (by omega))
    clear hb3 e0 e1 e2 e3 e4 e5 HX HRs HFs HBs
    have zw3 : w.heap.size + 3 < w3.heap.size := HF3.out.lt (by omega)
    have zw32 : w.heap.size + 2 < w3.heap.size := by omega
    cases R with
    | go M' nx =>
      obtain ⟨rfl, hBx⟩ := hP
      obtain ⟨hMO', hMN'⟩ := step_keeps HMO.out HMN.out HT.out HTM.out HI6.out.2 HR9.out
      obtain ⟨h28, hnx⟩ := step_next HR9.out
      simp only [Step.leads] at h28 hnx
      have hnx2 : (pc : Int) < nx ∧ nx < n := by
        have l := HL.out
        have x := HE.out
        rcases hnx with h | ⟨h, h'⟩
        · refine ⟨by omega, ?_⟩
          by_cases e : pc + 1 = n
          · exact absurd (x e) h28
          · omega
        · have := l h; omega
      obtain ⟨q, rfl⟩ := Int.eq_ofNat_of_zero_le (show 0 ≤ nx by omega)
      have HBX := Lib.hid hBx
      have HMO' := Lib.hid hMO'
      have HMN' := Lib.hid hMN'
      clear hBx hMO' hMN' hnx h28
      go_wp2_with fail
      go_roundw
      case rel =>
        go_light
        refine ⟨q, st + 1, f, M', rfl, by omega, by omega, by omega, HMO'.out, HMN'.out, ?_, ?_, HR3.out, HF3.out, HB3.out⟩
        · rw [HRUN.out]
          first | rfl | (congr 1; done) | (simp; done)
        · rw [show ((st + 1 : Nat) : Int) = (st : Int) + 1 by omega]
          exact HBX.out
      case measure => simp [intOf]; omega
    | err er =>
      obtain ⟨⟨nx, rfl⟩, he⟩ := hP
      have HE2 := Lib.hid he
      have t0 : (er == 0) = false := by rw [beq_eq_false_iff_ne]; exact he
      have t1 : (er != 0) = true := by rw [bne_iff_ne]; exact he
      have HTH := Lib.hid (show w3.there (w.heap.size + 1 + 1) 0 (Array.size (#[.int .i64 0, .int .i64 0, .int .i64 0, .int .i64 0, .int .i64 0, .int .i64 0, .int .i64 0, .int .i64 0, .int .i64 0, .int .i64 0, .int .i64 0, .int .i64 0, .int .i64 0, .int .i64 0, .int .i64 0, .int .i64 0, .int .i64 0, .slice none 0 0, .int .i64 0] : Array Value)) from there_img HR3.out)
      have HTF := Lib.hid (show w3.there (w.heap.size + 1 + 1 + 1) 0 (Array.size (#[.int .i64 er, .int .i64 pc] : Array Value)) from there_img HF3.out)
      clear he
      go_upto_region 11 with fail
      refine wp_region_lit ?_
      refine wpList_build (by rfl) 29 _ (by rfl) #[] (by simp) #[.int .i64 0, .int .i64 0, .int .i64 0, .int .i64 0, .int .i64 0, .int .i64 0, .int .i64 0, .int .i64 0, .int .i64 0, .int .i64 0, .int .i64 0, .int .i64 0, .int .i64 0, .int .i64 0, .int .i64 0, .int .i64 0, .int .i64 0, .slice none 0 0, .int .i64 0] built_rranz ?_
      go_wp2_with (first | (with_reducible refine wpList_store_mid rfl 29 (.tmp 8) (.tmp 64) rfl (w.heap.size + 1 + 1) 0 #[.int .i64 0, .int .i64 0, .int .i64 0, .int .i64 0, .int .i64 0, .int .i64 0, .int .i64 0, .int .i64 0, .int .i64 0, .int .i64 0, .int .i64 0, .int .i64 0, .int .i64 0, .int .i64 0, .int .i64 0, .int .i64 0, .int .i64 0, .slice none 0 0, .int .i64 0] (by simp [go_sem]; done) (by simp [go_sem]; done) HTH.out size_rranz one_ranz ?_) | (with_reducible refine wpList_store_mid rfl 32 (.tmp 9) (.tmp 67) rfl (w.heap.size + 1 + 1 + 1) 0 #[.int .i64 er, .int .i64 pc] (by simp [go_sem]; done) (by simp [go_sem]; done) (World.there_setCells HTF.out _ _ _) (size_two er pc) (one_two _ _) ?_))
      have hl1 : (loadVar 29 ⟨w.heap.size + 1 + 1, 0, none⟩).run Tryd.prog ((w3.setCells (w.heap.size + 1 + 1) 0 [.int .i64 0, .int .i64 0, .int .i64 0, .int .i64 0, .int .i64 0, .int .i64 0, .int .i64 0, .int .i64 0, .int .i64 0, .int .i64 0, .int .i64 0, .int .i64 0, .int .i64 0, .int .i64 0, .int .i64 0, .int .i64 0, .int .i64 0, .slice none 0 0, .int .i64 0]).setCells (w.heap.size + 1 + 1 + 1) 0 [.int .i64 er, .int .i64 pc]) = .ok (.agg #[.int .i64 0, .int .i64 0, .int .i64 0, .int .i64 0, .int .i64 0, .int .i64 0, .int .i64 0, .int .i64 0, .int .i64 0, .int .i64 0, .int .i64 0, .int .i64 0, .int .i64 0, .int .i64 0, .int .i64 0, .int .i64 0, .int .i64 0, .slice none 0 0, .int .i64 0]) ((w3.setCells (w.heap.size + 1 + 1) 0 [.int .i64 0, .int .i64 0, .int .i64 0, .int .i64 0, .int .i64 0, .int .i64 0, .int .i64 0, .int .i64 0, .int .i64 0, .int .i64 0, .int .i64 0, .int .i64 0, .int .i64 0, .int .i64 0, .int .i64 0, .int .i64 0, .int .i64 0, .slice none 0 0, .int .i64 0]).setCells (w.heap.size + 1 + 1 + 1) 0 [.int .i64 er, .int .i64 pc]) := run_loadVar_mid (P := Tryd.prog) _ (w.heap.size + 1 + 1) 0 29 [.int .i64 0, .int .i64 0, .int .i64 0, .int .i64 0, .int .i64 0, .int .i64 0, .int .i64 0, .int .i64 0, .int .i64 0, .int .i64 0, .int .i64 0, .int .i64 0, .int .i64 0, .int .i64 0, .int .i64 0, .int .i64 0, .int .i64 0, .slice none 0 0, .int .i64 0] _ (World.rangeAt_setCells_apart (World.rangeAt_setCells_same w3 (w.heap.size + 1 + 1) 0 [.int .i64 0, .int .i64 0, .int .i64 0, .int .i64 0, .int .i64 0, .int .i64 0, .int .i64 0, .int .i64 0, .int .i64 0, .int .i64 0, .int .i64 0, .int .i64 0, .int .i64 0, .int .i64 0, .int .i64 0, .int .i64 0, .int .i64 0, .slice none 0 0, .int .i64 0] HTH.out) (w.heap.size + 1 + 1 + 1) 0 [.int .i64 er, .int .i64 pc] (.inl (by omega))) Tryd.underlying29 rfl size_rran
      have hl2 : (loadVar 32 ⟨w.heap.size + 1 + 1 + 1, 0, none⟩).run Tryd.prog ((w3.setCells (w.heap.size + 1 + 1) 0 [.int .i64 0, .int .i64 0, .int .i64 0, .int .i64 0, .int .i64 0, .int .i64 0, .int .i64 0, .int .i64 0, .int .i64 0, .int .i64 0, .int .i64 0, .int .i64 0, .int .i64 0, .int .i64 0, .int .i64 0, .int .i64 0, .int .i64 0, .slice none 0 0, .int .i64 0]).setCells (w.heap.size + 1 + 1 + 1) 0 [.int .i64 er, .int .i64 pc]) = .ok (.agg #[.int .i64 er, .int .i64 pc]) ((w3.setCells (w.heap.size + 1 + 1) 0 [.int .i64 0, .int .i64 0, .int .i64 0, .int .i64 0, .int .i64 0, .int .i64 0, .int .i64 0, .int .i64 0, .int .i64 0, .int .i64 0, .int .i64 0, .int .i64 0, .int .i64 0, .int .i64 0, .int .i64 0, .int .i64 0, .int .i64 0, .slice none 0 0, .int .i64 0]).setCells (w.heap.size + 1 + 1 + 1) 0 [.int .i64 er, .int .i64 pc]) := run_loadVar_mid (P := Tryd.prog) _ (w.heap.size + 1 + 1 + 1) 0 32 [.int .i64 er, .int .i64 pc] _ (World.rangeAt_setCells_same _ (w.heap.size + 1 + 1 + 1) 0 [.int .i64 er, .int .i64 pc] (World.there_setCells HTF.out _ _ _)) Tryd.underlying32 rfl size_fault
      refine bodyPost_ret (results_cell_cell Tryd.results6 (p := ⟨w.heap.size + 1 + 1, 0, none⟩) (q := ⟨w.heap.size + 1 + 1 + 1, 0, none⟩) (by simp [go_sem]) (by simp [go_sem]) hl1 hl2) rfl ⟨⟨_, _, rfl, ?_⟩, ?_⟩
      · rw [HRUN.out]
        exact ⟨rfl, rfl, HE2.out⟩
      · exact below_setCells (by omega) _ _ _ _ (below_setCells (by omega) _ _ _ _ HB3.out)
    | done M' num =>
      obtain ⟨rfl, hBx⟩ := hP
      obtain ⟨out', hI', hO'⟩ := hBx
      have HI := Lib.hid hI'
      have HO := Lib.hid hO'
      have HTH := Lib.hid (show w3.there (w.heap.size + 1 + 1) 0 19 from there_img HR3.out)
      have HTF := Lib.hid (show w3.there (w.heap.size + 1 + 1 + 1) 0 2 from there_img HF3.out)
      have zb3 : b < w3.heap.size := hI'.lt (by omega)
      obtain ⟨og, ocap, rfl⟩ := own_slice' hO'
      clear hI' hO'
      go_upto_region 13 with fail
      refine wp_below_tail 5 (by kernel_rfl) (by kernel_rfl) ?_
      have h29 : ∀ dr os, (Instr.loadAt 29 (.pointer (some ⟨b, 89, none⟩))).run Tryd.prog (Go.Sort.grow (redrawn w3 dr) os) = .ok (.agg #[.int .i64 num, .int .i64 (M'.cells 0), .int .i64 (M'.cells 1), .int .i64 (M'.cells 2), .int .i64 (M'.cells 3), .int .i64 (M'.cells 4), .int .i64 (M'.cells 5), .int .i64 (M'.cells 6), .int .i64 (M'.cells 7), .int .i64 (M'.cells 8), .int .i64 (M'.cells 9), .int .i64 (M'.cells 10), .int .i64 (M'.cells 11), .int .i64 (M'.cells 12), .int .i64 (M'.cells 13), .int .i64 (M'.cells 14), .int .i64 (M'.cells 15), .slice og M'.out.length ocap, .int .i64 (st + 1)]) (Go.Sort.grow (redrawn w3 dr) os) := fun dr os =>
        run_loadAt_mid _ b 89 29 [.int .i64 num, .int .i64 (M'.cells 0), .int .i64 (M'.cells 1), .int .i64 (M'.cells 2), .int .i64 (M'.cells 3), .int .i64 (M'.cells 4), .int .i64 (M'.cells 5), .int .i64 (M'.cells 6), .int .i64 (M'.cells 7), .int .i64 (M'.cells 8), .int .i64 (M'.cells 9), .int .i64 (M'.cells 10), .int .i64 (M'.cells 11), .int .i64 (M'.cells 12), .int .i64 (M'.cells 13), .int .i64 (M'.cells 14), .int .i64 (M'.cells 15), .slice og M'.out.length ocap, .int .i64 (st + 1)] _ (range19 (HI.out.later (below_regrown w3 dr os) zb3)) Tryd.underlying29 rfl size_rran
      have cB : ∀ dr os, Calls Tryd.prog 16 #[.int .i64 0] (Go.Sort.grow (redrawn w3 dr) os) fun e w'' => e = .returned (.agg #[.int .i64 0, .int .i64 (-1)]) ∧ ∃ p : Regrown, w'' = Go.Sort.grow (redrawn w3 p.d) p.os := fun dr os => Calls.regrown_of (Bare_any 0 _)
      have H29 := Lib.hid h29
      have CB := Lib.hid cB
      clear h29 cB
      iterate 3 quiet_step (fail)
      refine wpQuiet_load (by rfl) 29 _ (by rfl) ⟨b, 89, none⟩ (by simp [go_sem]) (.agg #[.int .i64 num, .int .i64 (M'.cells 0), .int .i64 (M'.cells 1), .int .i64 (M'.cells 2), .int .i64 (M'.cells 3), .int .i64 (M'.cells 4), .int .i64 (M'.cells 5), .int .i64 (M'.cells 6), .int .i64 (M'.cells 7), .int .i64 (M'.cells 8), .int .i64 (M'.cells 9), .int .i64 (M'.cells 10), .int .i64 (M'.cells 11), .int .i64 (M'.cells 12), .int .i64 (M'.cells 13), .int .i64 (M'.cells 14), .int .i64 (M'.cells 15), .slice og M'.out.length ocap, .int .i64 (st + 1)]) (fun w hw => by obtain ⟨p, rfl⟩ := hw; exact H29.out _ _) ?_
      quiet_step (exact CB.out _ _)
      refine wpQuiet_nil ?_
      intro wq hwq
      have hbq : Below w3.heap.size w3 wq := by
        obtain ⟨p, hp⟩ := hwq
        rw [hp]; exact below_regrown _ _ _
      clear hwq
      have HBB := Lib.hid (HB3.out.trans (hbq.mono (by omega)))
      have HO2 := Lib.hid (HO.out.kept (But.of (b := b) hbq).grown (by have := HO.out.lt; cases hv : (Value.slice og M'.out.length ocap).ownBlock with | none => exact .inl rfl | some g => (right; intro e; have := (this g hv).1; injection e; omega)))
      have HTQ := Lib.hid (show wq.there (w.heap.size + 1 + 1) 0 19 from there_img (HR3.out.later hbq zw32))
      have HTG := Lib.hid (show wq.there (w.heap.size + 1 + 1 + 1) 0 2 from there_img (HF3.out.later hbq zw3))
      clear hbq
      refine wpList_store_mid (by rfl) 29 _ _ (by rfl) (w.heap.size + 1 + 1) 0 #[.int .i64 num, .int .i64 (M'.cells 0), .int .i64 (M'.cells 1), .int .i64 (M'.cells 2), .int .i64 (M'.cells 3), .int .i64 (M'.cells 4), .int .i64 (M'.cells 5), .int .i64 (M'.cells 6), .int .i64 (M'.cells 7), .int .i64 (M'.cells 8), .int .i64 (M'.cells 9), .int .i64 (M'.cells 10), .int .i64 (M'.cells 11), .int .i64 (M'.cells 12), .int .i64 (M'.cells 13), .int .i64 (M'.cells 14), .int .i64 (M'.cells 15), .slice og M'.out.length ocap, .int .i64 (st + 1)] (by simp [go_sem]) (by simp [go_sem]) HTQ.out size_rran (one_ran _ _ _ _ _ _ _ _ _ _ _ _ _ _ _ _ _ _ _ _ _) ?_
      refine wpList_store_mid (by rfl) 32 _ _ (by rfl) (w.heap.size + 1 + 1 + 1) 0 #[.int .i64 0, .int .i64 (-1)] (by simp [go_sem]) (by simp [go_sem]) (World.there_setCells HTG.out _ _ _) size_fault (one_two _ _) ?_
      go_wp2_with fail
      have hl1 : (loadVar 29 ⟨w.heap.size + 1 + 1, 0, none⟩).run Tryd.prog ((wq.setCells (w.heap.size + 1 + 1) 0 [.int .i64 num, .int .i64 (M'.cells 0), .int .i64 (M'.cells 1), .int .i64 (M'.cells 2), .int .i64 (M'.cells 3), .int .i64 (M'.cells 4), .int .i64 (M'.cells 5), .int .i64 (M'.cells 6), .int .i64 (M'.cells 7), .int .i64 (M'.cells 8), .int .i64 (M'.cells 9), .int .i64 (M'.cells 10), .int .i64 (M'.cells 11), .int .i64 (M'.cells 12), .int .i64 (M'.cells 13), .int .i64 (M'.cells 14), .int .i64 (M'.cells 15), .slice og M'.out.length ocap, .int .i64 (st + 1)]).setCells (w.heap.size + 1 + 1 + 1) 0 [.int .i64 0, .int .i64 (-1)]) = .ok (.agg #[.int .i64 num, .int .i64 (M'.cells 0), .int .i64 (M'.cells 1), .int .i64 (M'.cells 2), .int .i64 (M'.cells 3), .int .i64 (M'.cells 4), .int .i64 (M'.cells 5), .int .i64 (M'.cells 6), .int .i64 (M'.cells 7), .int .i64 (M'.cells 8), .int .i64 (M'.cells 9), .int .i64 (M'.cells 10), .int .i64 (M'.cells 11), .int .i64 (M'.cells 12), .int .i64 (M'.cells 13), .int .i64 (M'.cells 14), .int .i64 (M'.cells 15), .slice og M'.out.length ocap, .int .i64 (st + 1)]) ((wq.setCells (w.heap.size + 1 + 1) 0 [.int .i64 num, .int .i64 (M'.cells 0), .int .i64 (M'.cells 1), .int .i64 (M'.cells 2), .int .i64 (M'.cells 3), .int .i64 (M'.cells 4), .int .i64 (M'.cells 5), .int .i64 (M'.cells 6), .int .i64 (M'.cells 7), .int .i64 (M'.cells 8), .int .i64 (M'.cells 9), .int .i64 (M'.cells 10), .int .i64 (M'.cells 11), .int .i64 (M'.cells 12), .int .i64 (M'.cells 13), .int .i64 (M'.cells 14), .int .i64 (M'.cells 15), .slice og M'.out.length ocap, .int .i64 (st + 1)]).setCells (w.heap.size + 1 + 1 + 1) 0 [.int .i64 0, .int .i64 (-1)]) := run_loadVar_mid (P := Tryd.prog) _ (w.heap.size + 1 + 1) 0 29 [.int .i64 num, .int .i64 (M'.cells 0), .int .i64 (M'.cells 1), .int .i64 (M'.cells 2), .int .i64 (M'.cells 3), .int .i64 (M'.cells 4), .int .i64 (M'.cells 5), .int .i64 (M'.cells 6), .int .i64 (M'.cells 7), .int .i64 (M'.cells 8), .int .i64 (M'.cells 9), .int .i64 (M'.cells 10), .int .i64 (M'.cells 11), .int .i64 (M'.cells 12), .int .i64 (M'.cells 13), .int .i64 (M'.cells 14), .int .i64 (M'.cells 15), .slice og M'.out.length ocap, .int .i64 (st + 1)] _ (World.rangeAt_setCells_apart (World.rangeAt_setCells_same wq (w.heap.size + 1 + 1) 0 [.int .i64 num, .int .i64 (M'.cells 0), .int .i64 (M'.cells 1), .int .i64 (M'.cells 2), .int .i64 (M'.cells 3), .int .i64 (M'.cells 4), .int .i64 (M'.cells 5), .int .i64 (M'.cells 6), .int .i64 (M'.cells 7), .int .i64 (M'.cells 8), .int .i64 (M'.cells 9), .int .i64 (M'.cells 10), .int .i64 (M'.cells 11), .int .i64 (M'.cells 12), .int .i64 (M'.cells 13), .int .i64 (M'.cells 14), .int .i64 (M'.cells 15), .slice og M'.out.length ocap, .int .i64 (st + 1)] HTQ.out) (w.heap.size + 1 + 1 + 1) 0 [.int .i64 0, .int .i64 (-1)] (.inl (by omega))) Tryd.underlying29 rfl size_rran
      have hl2 : (loadVar 32 ⟨w.heap.size + 1 + 1 + 1, 0, none⟩).run Tryd.prog ((wq.setCells (w.heap.size + 1 + 1) 0 [.int .i64 num, .int .i64 (M'.cells 0), .int .i64 (M'.cells 1), .int .i64 (M'.cells 2), .int .i64 (M'.cells 3), .int .i64 (M'.cells 4), .int .i64 (M'.cells 5), .int .i64 (M'.cells 6), .int .i64 (M'.cells 7), .int .i64 (M'.cells 8), .int .i64 (M'.cells 9), .int .i64 (M'.cells 10), .int .i64 (M'.cells 11), .int .i64 (M'.cells 12), .int .i64 (M'.cells 13), .int .i64 (M'.cells 14), .int .i64 (M'.cells 15), .slice og M'.out.length ocap, .int .i64 (st + 1)]).setCells (w.heap.size + 1 + 1 + 1) 0 [.int .i64 0, .int .i64 (-1)]) = .ok (.agg #[.int .i64 0, .int .i64 (-1)]) ((wq.setCells (w.heap.size + 1 + 1) 0 [.int .i64 num, .int .i64 (M'.cells 0), .int .i64 (M'.cells 1), .int .i64 (M'.cells 2), .int .i64 (M'.cells 3), .int .i64 (M'.cells 4), .int .i64 (M'.cells 5), .int .i64 (M'.cells 6), .int .i64 (M'.cells 7), .int .i64 (M'.cells 8), .int .i64 (M'.cells 9), .int .i64 (M'.cells 10), .int .i64 (M'.cells 11), .int .i64 (M'.cells 12), .int .i64 (M'.cells 13), .int .i64 (M'.cells 14), .int .i64 (M'.cells 15), .slice og M'.out.length ocap, .int .i64 (st + 1)]).setCells (w.heap.size + 1 + 1 + 1) 0 [.int .i64 0, .int .i64 (-1)]) := run_loadVar_mid (P := Tryd.prog) _ (w.heap.size + 1 + 1 + 1) 0 32 [.int .i64 0, .int .i64 (-1)] _ (World.rangeAt_setCells_same _ (w.heap.size + 1 + 1 + 1) 0 [.int .i64 0, .int .i64 (-1)] (World.there_setCells HTG.out _ _ _)) Tryd.underlying32 rfl size_fault
      refine bodyPost_ret (results_cell_cell Tryd.results6 (p := ⟨w.heap.size + 1 + 1, 0, none⟩) (q := ⟨w.heap.size + 1 + 1 + 1, 0, none⟩) (by simp [go_sem]) (by simp [go_sem]) hl1 hl2) rfl ⟨⟨_, _, rfl, ?_⟩, ?_⟩
      · rw [HRUN.out]
        exact ⟨_, rfl, rfl, b + 1, owns_setCells (owns_setCells HO2.out (by omega)) (by omega)⟩
      · exact below_setCells (by omega) _ _ _ _ (below_setCells (by omega) _ _ _ _ HBB.out)
end Go.Proofs.YtfpoicdfkjbknaaDoor.W
