/- The walk of machine.Run over a program that is in order: what comes of it. Conditions: the program's cells are known, its check gives nothing; the variable errors.errorType holds the type error's handle. -/
import Derived.Test.YtfpoicdfkjbknaaDoorT6
import Derived.Test.YtfpoicdfkjbknaaDoorT4
import Derived.Test.YtfpoicdfkjbknaaDoorIs
import Derived.Deep.CutBlock
import Derived.Deep.LoopGhost
import Derived.Test.YtfpoicdfkjbknaaDoorRanDef
namespace Go.Proofs.YtfpoicdfkjbknaaDoor.W
open Go.RowKit Go.Proofs.YtfpoicdfkjbknaaDoor.P
set_option linter.unusedSimpArgs false
set_option linter.unusedVariables false


theorem MacAt.drew {w : World} {b : Nat} {code : Value} {told : Nat → Int} {time : Int} {M : Mach} (h : MacAt w b code told time M) : MacAt w.drew b code told time M := h
theorem MacAt.setReg {w : World} {b : Nat} {code : Value} {told : Nat → Int} {time : Int} {M : Mach} (h : MacAt w b code told time M) {r i0 i1 i2 : Nat} (hr : r < 11) (k n c : Int) (e0 : i0 = 1 + r * 3) (e1 : i1 = 1 + r * 3 + 1) (e2 : i2 = 1 + r * 3 + 2) :
    MacAt (((w.setCell ⟨b, i0, none⟩ (.int .i64 k)).setCell ⟨b, i1, none⟩ (.int .i64 n)).setCell ⟨b, i2, none⟩ (.int .i64 c)) b code told time { M with regs := upd M.regs r ⟨k, n, c⟩ } := by
  obtain ⟨out, hI, hO⟩ := h
  exact MacAt.but hO ((((But.refl b w).setCell (.inl rfl) _).setCell (.inl rfl) _).setCell (.inl rfl) _) (hI.setReg hr k n c e0 e1 e2) rfl
theorem asks_err {M : Mach} {t : Step} (h : (M.asks t).2 ≠ 0) : (M.asks t).1 = false := by
  unfold Mach.asks at *
  simp only at *
  split at h
  · rename_i h1; rw [if_pos h1]
  · rename_i h1
    rw [if_neg h1]
    split at h
    · simp at h
    · rename_i h2
      rw [if_neg h2]
      split at h
      · rename_i h3; rw [if_pos h3]
      · simp at h

/-- what a round's switch leaves: the next step's number less one, an error, the machine -/
def StepTo (n : Nat) (told : Nat → Int) (time : Int) (b : Nat) (code : Value) (M : Mach) (t : Step) (pc q : Nat) (er : Int) (M' : Mach) (w : World) : Prop :=
  (er = 0 ∧ pc ≤ q ∧ q + 1 < n ∧ MOk M' ∧ MacAt w b code told time M' ∧ M.step told time t pc = .go M' ((q : Int) + 1)) ∨ (er ≠ 0 ∧ q = pc ∧ M.step told time t pc = .err er)
theorem StepTo.pair {n : Nat} {told : Nat → Int} {time : Int} {b : Nat} {code : Value} {M M' : Mach} {t : Step} {pc : Nat} {er : Int} {w : World} (hs : M.step told time t pc = if er ≠ 0 then .err er else .go M' ((pc : Int) + 1))
    (hn : pc + 1 < n) (hm : MOk M') (ha : MacAt w b code told time M') : StepTo n told time b code M t pc pc er M' w := by
  by_cases he : er = 0
  · exact .inl ⟨he, Nat.le_refl _, hn, hm, ha, by rw [hs, if_neg (by simp [he])]⟩
  · exact .inr ⟨he, rfl, by rw [hs, if_pos he]⟩
theorem range16 {w : World} {b : Nat} {code : Value} {told : Nat → Int} {time : Int} {out : Value} {M : Mach} (h : Img w b 108 (mimg code told time out M)) : w.rangeAt b 90 [.int .i64 (M.cells 0), .int .i64 (M.cells 1), .int .i64 (M.cells 2), .int .i64 (M.cells 3), .int .i64 (M.cells 4), .int .i64 (M.cells 5), .int .i64 (M.cells 6), .int .i64 (M.cells 7), .int .i64 (M.cells 8), .int .i64 (M.cells 9), .int .i64 (M.cells 10), .int .i64 (M.cells 11), .int .i64 (M.cells 12), .int .i64 (M.cells 13), .int .i64 (M.cells 14), .int .i64 (M.cells 15)] := by
  intro j v hv
  have e : [.int .i64 (M.cells 0), .int .i64 (M.cells 1), .int .i64 (M.cells 2), .int .i64 (M.cells 3), .int .i64 (M.cells 4), .int .i64 (M.cells 5), .int .i64 (M.cells 6), .int .i64 (M.cells 7), .int .i64 (M.cells 8), .int .i64 (M.cells 9), .int .i64 (M.cells 10), .int .i64 (M.cells 11), .int .i64 (M.cells 12), .int .i64 (M.cells 13), .int .i64 (M.cells 14), .int .i64 (M.cells 15)] = (List.range 16).map fun j => Value.int .i64 (M.cells j) := rfl
  rw [e] at hv
  have hj : j < 16 := by have := (List.getElem?_eq_some_iff.1 hv).1; simpa using this
  rw [h.cell (90 + j) (by omega), mimg_cells (r := j) hj rfl, ← hv]
  simp [hj]
theorem own_slice {w : World} {B T n : Nat} {v : Value} {xs : List Value} (h : w.ownsRow B T 1 v n xs) : ∃ og cap, v = .slice og n cap := by
  rcases h.2 with ⟨h1, h2⟩ | ⟨g, cap, cur, h1, -⟩
  · exact ⟨none, 0, by rw [h1, h2]⟩
  · exact ⟨_, _, h1⟩
theorem run_succ (S : Nat → Step) (told : Nat → Int) (time : Int) (k : Nat) (M : Mach) (pc st : Int) : Mach.run S told time (k + 1) M pc st = (match M.step told time (S pc.toNat) pc with
    | .done M n => .inr (M, n, st)
    | .err e => .inl (e, pc)
    | .go M next => Mach.run S told time k M next (st + 1)) := rfl
theorem step_load (M : Mach) (told : Nat → Int) (time : Int) (d s : Nat) (r : Bool) (o nn : Int) (pc : Int) : M.step told time ⟨25, d, s, r, o, nn⟩ pc =
    if (M.load told (M.regs s) o).2 ≠ 0 then .err (M.load told (M.regs s) o).2 else .go { M with regs := upd M.regs d (M.load told (M.regs s) o).1 } (pc + 1) := by
  unfold Mach.step; simp
theorem step_store (M : Mach) (told : Nat → Int) (time : Int) (d s : Nat) (r : Bool) (o nn : Int) (pc : Int) : M.step told time ⟨26, d, s, r, o, nn⟩ pc =
    if (M.store (M.regs d) o (M.second ⟨26, d, s, r, o, nn⟩)).2 ≠ 0 then .err (M.store (M.regs d) o (M.second ⟨26, d, s, r, o, nn⟩)).2 else .go (M.store (M.regs d) o (M.second ⟨26, d, s, r, o, nn⟩)).1 (pc + 1) := by
  unfold Mach.step; simp
theorem step_call (M : Mach) (told : Nat → Int) (time : Int) (d s : Nat) (r : Bool) (o nn : Int) (pc : Int) : M.step told time ⟨27, d, s, r, o, nn⟩ pc =
    if (M.call time nn).2 ≠ 0 then .err (M.call time nn).2 else .go (M.call time nn).1 (pc + 1) := by
  unfold Mach.step; simp
theorem step_neg (M : Mach) (told : Nat → Int) (time : Int) (d s : Nat) (r : Bool) (o nn : Int) (pc : Int) : M.step told time ⟨13, d, s, r, o, nn⟩ pc =
    if (vcounts 13 (M.regs d) ⟨1, 0, 0⟩).2 ≠ 0 then .err (vcounts 13 (M.regs d) ⟨1, 0, 0⟩).2 else .go { M with regs := upd M.regs d (vcounts 13 (M.regs d) ⟨1, 0, 0⟩).1 } (pc + 1) := by
  unfold Mach.step; simp [Val.num]
theorem step_make (M : Mach) (told : Nat → Int) (time : Int) (c : Int) (hc : c ≤ 12) (d s : Nat) (r : Bool) (o nn : Int) (pc : Int) : M.step told time ⟨c, d, s, r, o, nn⟩ pc =
    if (vcounts c (M.regs d) (M.second ⟨c, d, s, r, o, nn⟩)).2 ≠ 0 then .err (vcounts c (M.regs d) (M.second ⟨c, d, s, r, o, nn⟩)).2 else .go { M with regs := upd M.regs d (vcounts c (M.regs d) (M.second ⟨c, d, s, r, o, nn⟩)).1 } (pc + 1) := by
  unfold Mach.step
  simp only [show ¬ c = 28 by omega, show ¬ c = 14 by omega, show ¬ (15 ≤ c ∧ c ≤ 24) by omega, show ¬ c = 25 by omega, show ¬ c = 26 by omega, show ¬ c = 27 by omega, show ¬ c = 13 by omega, if_false]
  simp
theorem step_ask (M : Mach) (told : Nat → Int) (time : Int) (c : Int) (hc : 15 ≤ c ∧ c ≤ 24) (d s : Nat) (r : Bool) (o nn : Int) (pc : Int) : M.step told time ⟨c, d, s, r, o, nn⟩ pc =
    if (M.asks ⟨c, d, s, r, o, nn⟩).2 ≠ 0 then .err (M.asks ⟨c, d, s, r, o, nn⟩).2 else if (M.asks ⟨c, d, s, r, o, nn⟩).1 then .go M (pc + 1 + o) else .go M (pc + 1) := by
  unfold Mach.step
  simp only [show ¬ c = 28 by omega, show ¬ c = 14 by omega, if_false]
  rw [if_pos hc]
theorem step_jump (M : Mach) (told : Nat → Int) (time : Int) (d s : Nat) (r : Bool) (o nn : Int) (pc : Int) : M.step told time ⟨14, d, s, r, o, nn⟩ pc = .go M (pc + 1 + o) := by
  unfold Mach.step; simp
theorem step_exit (M : Mach) (told : Nat → Int) (time : Int) (d s : Nat) (r : Bool) (o nn : Int) (pc : Int) : M.step told time ⟨28, d, s, r, o, nn⟩ pc =
    if (M.regs 0).kind = 1 then .done M (M.regs 0).n else if (M.regs 0).kind = 0 then .err 8 else .err 1 := by
  unfold Mach.step; simp

set_option maxRecDepth 100000 in
set_option maxHeartbeats 16000000 in
theorem Run_ok (a : Addr) (n cap : Nat) (S : Nat → Step) (hn : 1 ≤ n) (hn2 : n ≤ 200) (hcap : n ≤ cap) (told cells : Nat → Int) (time : Int) (w : World) (hs : Cells w a S n) (hg : w.cell? ⟨5, 0, none⟩ = some (.iface 217 (.agg #[.pointer (some ⟨10, 37, none⟩)])))
   (hc : from_ S n 0 n = (0, -1)) :
    Calls Tryd.prog 7 #[.slice (some a) n cap, words8 told, words16 cells, .int .i64 time] w fun e w' => (∃ v err, e = .returned (.tuple #[v, err]) ∧ RanIs w' v err (Mach.run S told time n (Mach.init cells) 0 1)) ∧ Below w.heap.size w w' := by
  have HW0 := Lib.hid (Below.refl w.heap.size w)
  unfold words8 words16
  have ok := fun j (hj : j < n) => at_ok (from_ok n 0 (by omega) (by rw [hc]) j (by omega) hj)
  have OK := Lib.hid ok
  have HS := Lib.hid hs
  have HC := Lib.hid hc
  have HG := Lib.hid hg
  have gz := block_lt_of_cell hg
  have sz : 0 < n → a.block < w.heap.size := fun h => block_lt_of_cell (a := ⟨a.block, a.off + 1, none⟩) (by have := (hs 0 h).2.1; simpa [Addr.add] using this)
  clear ok hs hc hg
  go_enter Tryd.func7, Tryd.ntmps7
  go_wp2_with fail
  refine (Check_some a n cap S hn hn2 hcap _ ?_ ?_).mono ?_
  · exact HS.out.later (w' := _) (by repeat' (first | with_reducible exact HW0.out | with_reducible refine Below.alloc ?_ ?_ _ | (simp; done) | (simp; omega) | omega))
  · exact (Below.cell (B := w.heap.size) (w := w) (by repeat' (first | with_reducible exact HW0.out | with_reducible exact Below.refl _ _ | with_reducible refine Below.drew ?_ | with_reducible refine Below.drewN' ?_ _ | with_reducible refine Below.alloc ?_ ?_ _ | with_reducible refine Below.setCell ?_ ?_ _ | (simp; done) | (simp; omega) | omega)) gz).trans HG.out
  rw [HC.out]
  rintro e w1 ⟨v, rfl, hv, hb⟩
  obtain ⟨hc1, hf1⟩ := bcell hb
  have hz1 := hb.size
  simp at hz1
  have HW1 := Lib.hid (show Below w.heap.size w w1 from Below.trans (by repeat' (first | with_reducible exact HW0.out | with_reducible refine Below.alloc ?_ ?_ _ | (simp; done) | (simp; omega) | omega)) (hb.mono (by first | (simp; done) | (simp; omega) | omega)))
  have R1 : Img w1 (w.heap.size + 2) 19 ranz := Img.later (Img.mk' (by simpa using heap_alloc_new ((w.alloc _).alloc _) _) (by rfl)) hb (by simp)
  clear hb
  have z10 : w.heap.size < w1.heap.size := by omega
  have z11 : w.heap.size + 1 < w1.heap.size := by omega
  have z12 : w.heap.size + 2 < w1.heap.size := by omega
  (have k1_w_heap_size_0 : w1.cell? ⟨w.heap.size, 0, none⟩ = some (.int .i64 (told 0)) := (by rw [hc1 _ _ (by first | (simp; done) | (simp; omega) | omega)]; first | (simp [go_sem]; done) | assumption); have r1_w_heap_size_0 : w1.frozen? ⟨w.heap.size, 0, none⟩ = false := (by rw [hf1 _ _ (by first | (simp; done) | (simp; omega) | omega)]; first | (simp [go_sem]; done) | assumption); have k1_w_heap_size_1 : w1.cell? ⟨w.heap.size, 1, none⟩ = some (.int .i64 (told 1)) := (by rw [hc1 _ _ (by first | (simp; done) | (simp; omega) | omega)]; first | (simp [go_sem]; done) | assumption); have r1_w_heap_size_1 : w1.frozen? ⟨w.heap.size, 1, none⟩ = false := (by rw [hf1 _ _ (by first | (simp; done) | (simp; omega) | omega)]; first | (simp [go_sem]; done) | assumption); have k1_w_heap_size_2 : w1.cell? ⟨w.heap.size, 2, none⟩ = some (.int .i64 (told 2)) := (by rw [hc1 _ _ (by first | (simp; done) | (simp; omega) | omega)]; first | (simp [go_sem]; done) | assumption); have r1_w_heap_size_2 : w1.frozen? ⟨w.heap.size, 2, none⟩ = false := (by rw [hf1 _ _ (by first | (simp; done) | (simp; omega) | omega)]; first | (simp [go_sem]; done) | assumption); have k1_w_heap_size_3 : w1.cell? ⟨w.heap.size, 3, none⟩ = some (.int .i64 (told 3)) := (by rw [hc1 _ _ (by first | (simp; done) | (simp; omega) | omega)]; first | (simp [go_sem]; done) | assumption); have r1_w_heap_size_3 : w1.frozen? ⟨w.heap.size, 3, none⟩ = false := (by rw [hf1 _ _ (by first | (simp; done) | (simp; omega) | omega)]; first | (simp [go_sem]; done) | assumption); have k1_w_heap_size_4 : w1.cell? ⟨w.heap.size, 4, none⟩ = some (.int .i64 (told 4)) := (by rw [hc1 _ _ (by first | (simp; done) | (simp; omega) | omega)]; first | (simp [go_sem]; done) | assumption); have r1_w_heap_size_4 : w1.frozen? ⟨w.heap.size, 4, none⟩ = false := (by rw [hf1 _ _ (by first | (simp; done) | (simp; omega) | omega)]; first | (simp [go_sem]; done) | assumption); have k1_w_heap_size_5 : w1.cell? ⟨w.heap.size, 5, none⟩ = some (.int .i64 (told 5)) := (by rw [hc1 _ _ (by first | (simp; done) | (simp; omega) | omega)]; first | (simp [go_sem]; done) | assumption); have r1_w_heap_size_5 : w1.frozen? ⟨w.heap.size, 5, none⟩ = false := (by rw [hf1 _ _ (by first | (simp; done) | (simp; omega) | omega)]; first | (simp [go_sem]; done) | assumption); have k1_w_heap_size_6 : w1.cell? ⟨w.heap.size, 6, none⟩ = some (.int .i64 (told 6)) := (by rw [hc1 _ _ (by first | (simp; done) | (simp; omega) | omega)]; first | (simp [go_sem]; done) | assumption); have r1_w_heap_size_6 : w1.frozen? ⟨w.heap.size, 6, none⟩ = false := (by rw [hf1 _ _ (by first | (simp; done) | (simp; omega) | omega)]; first | (simp [go_sem]; done) | assumption); have k1_w_heap_size_7 : w1.cell? ⟨w.heap.size, 7, none⟩ = some (.int .i64 (told 7)) := (by rw [hc1 _ _ (by first | (simp; done) | (simp; omega) | omega)]; first | (simp [go_sem]; done) | assumption); have r1_w_heap_size_7 : w1.frozen? ⟨w.heap.size, 7, none⟩ = false := (by rw [hf1 _ _ (by first | (simp; done) | (simp; omega) | omega)]; first | (simp [go_sem]; done) | assumption))
  (have k1_w_heap_size_1_0 : w1.cell? ⟨w.heap.size + 1, 0, none⟩ = some (.int .i64 (cells 0)) := (by rw [hc1 _ _ (by first | (simp; done) | (simp; omega) | omega)]; first | (simp [go_sem]; done) | assumption); have r1_w_heap_size_1_0 : w1.frozen? ⟨w.heap.size + 1, 0, none⟩ = false := (by rw [hf1 _ _ (by first | (simp; done) | (simp; omega) | omega)]; first | (simp [go_sem]; done) | assumption); have k1_w_heap_size_1_1 : w1.cell? ⟨w.heap.size + 1, 1, none⟩ = some (.int .i64 (cells 1)) := (by rw [hc1 _ _ (by first | (simp; done) | (simp; omega) | omega)]; first | (simp [go_sem]; done) | assumption); have r1_w_heap_size_1_1 : w1.frozen? ⟨w.heap.size + 1, 1, none⟩ = false := (by rw [hf1 _ _ (by first | (simp; done) | (simp; omega) | omega)]; first | (simp [go_sem]; done) | assumption); have k1_w_heap_size_1_2 : w1.cell? ⟨w.heap.size + 1, 2, none⟩ = some (.int .i64 (cells 2)) := (by rw [hc1 _ _ (by first | (simp; done) | (simp; omega) | omega)]; first | (simp [go_sem]; done) | assumption); have r1_w_heap_size_1_2 : w1.frozen? ⟨w.heap.size + 1, 2, none⟩ = false := (by rw [hf1 _ _ (by first | (simp; done) | (simp; omega) | omega)]; first | (simp [go_sem]; done) | assumption); have k1_w_heap_size_1_3 : w1.cell? ⟨w.heap.size + 1, 3, none⟩ = some (.int .i64 (cells 3)) := (by rw [hc1 _ _ (by first | (simp; done) | (simp; omega) | omega)]; first | (simp [go_sem]; done) | assumption); have r1_w_heap_size_1_3 : w1.frozen? ⟨w.heap.size + 1, 3, none⟩ = false := (by rw [hf1 _ _ (by first | (simp; done) | (simp; omega) | omega)]; first | (simp [go_sem]; done) | assumption); have k1_w_heap_size_1_4 : w1.cell? ⟨w.heap.size + 1, 4, none⟩ = some (.int .i64 (cells 4)) := (by rw [hc1 _ _ (by first | (simp; done) | (simp; omega) | omega)]; first | (simp [go_sem]; done) | assumption); have r1_w_heap_size_1_4 : w1.frozen? ⟨w.heap.size + 1, 4, none⟩ = false := (by rw [hf1 _ _ (by first | (simp; done) | (simp; omega) | omega)]; first | (simp [go_sem]; done) | assumption); have k1_w_heap_size_1_5 : w1.cell? ⟨w.heap.size + 1, 5, none⟩ = some (.int .i64 (cells 5)) := (by rw [hc1 _ _ (by first | (simp; done) | (simp; omega) | omega)]; first | (simp [go_sem]; done) | assumption); have r1_w_heap_size_1_5 : w1.frozen? ⟨w.heap.size + 1, 5, none⟩ = false := (by rw [hf1 _ _ (by first | (simp; done) | (simp; omega) | omega)]; first | (simp [go_sem]; done) | assumption); have k1_w_heap_size_1_6 : w1.cell? ⟨w.heap.size + 1, 6, none⟩ = some (.int .i64 (cells 6)) := (by rw [hc1 _ _ (by first | (simp; done) | (simp; omega) | omega)]; first | (simp [go_sem]; done) | assumption); have r1_w_heap_size_1_6 : w1.frozen? ⟨w.heap.size + 1, 6, none⟩ = false := (by rw [hf1 _ _ (by first | (simp; done) | (simp; omega) | omega)]; first | (simp [go_sem]; done) | assumption); have k1_w_heap_size_1_7 : w1.cell? ⟨w.heap.size + 1, 7, none⟩ = some (.int .i64 (cells 7)) := (by rw [hc1 _ _ (by first | (simp; done) | (simp; omega) | omega)]; first | (simp [go_sem]; done) | assumption); have r1_w_heap_size_1_7 : w1.frozen? ⟨w.heap.size + 1, 7, none⟩ = false := (by rw [hf1 _ _ (by first | (simp; done) | (simp; omega) | omega)]; first | (simp [go_sem]; done) | assumption); have k1_w_heap_size_1_8 : w1.cell? ⟨w.heap.size + 1, 8, none⟩ = some (.int .i64 (cells 8)) := (by rw [hc1 _ _ (by first | (simp; done) | (simp; omega) | omega)]; first | (simp [go_sem]; done) | assumption); have r1_w_heap_size_1_8 : w1.frozen? ⟨w.heap.size + 1, 8, none⟩ = false := (by rw [hf1 _ _ (by first | (simp; done) | (simp; omega) | omega)]; first | (simp [go_sem]; done) | assumption); have k1_w_heap_size_1_9 : w1.cell? ⟨w.heap.size + 1, 9, none⟩ = some (.int .i64 (cells 9)) := (by rw [hc1 _ _ (by first | (simp; done) | (simp; omega) | omega)]; first | (simp [go_sem]; done) | assumption); have r1_w_heap_size_1_9 : w1.frozen? ⟨w.heap.size + 1, 9, none⟩ = false := (by rw [hf1 _ _ (by first | (simp; done) | (simp; omega) | omega)]; first | (simp [go_sem]; done) | assumption); have k1_w_heap_size_1_10 : w1.cell? ⟨w.heap.size + 1, 10, none⟩ = some (.int .i64 (cells 10)) := (by rw [hc1 _ _ (by first | (simp; done) | (simp; omega) | omega)]; first | (simp [go_sem]; done) | assumption); have r1_w_heap_size_1_10 : w1.frozen? ⟨w.heap.size + 1, 10, none⟩ = false := (by rw [hf1 _ _ (by first | (simp; done) | (simp; omega) | omega)]; first | (simp [go_sem]; done) | assumption); have k1_w_heap_size_1_11 : w1.cell? ⟨w.heap.size + 1, 11, none⟩ = some (.int .i64 (cells 11)) := (by rw [hc1 _ _ (by first | (simp; done) | (simp; omega) | omega)]; first | (simp [go_sem]; done) | assumption); have r1_w_heap_size_1_11 : w1.frozen? ⟨w.heap.size + 1, 11, none⟩ = false := (by rw [hf1 _ _ (by first | (simp; done) | (simp; omega) | omega)]; first | (simp [go_sem]; done) | assumption); have k1_w_heap_size_1_12 : w1.cell? ⟨w.heap.size + 1, 12, none⟩ = some (.int .i64 (cells 12)) := (by rw [hc1 _ _ (by first | (simp; done) | (simp; omega) | omega)]; first | (simp [go_sem]; done) | assumption); have r1_w_heap_size_1_12 : w1.frozen? ⟨w.heap.size + 1, 12, none⟩ = false := (by rw [hf1 _ _ (by first | (simp; done) | (simp; omega) | omega)]; first | (simp [go_sem]; done) | assumption); have k1_w_heap_size_1_13 : w1.cell? ⟨w.heap.size + 1, 13, none⟩ = some (.int .i64 (cells 13)) := (by rw [hc1 _ _ (by first | (simp; done) | (simp; omega) | omega)]; first | (simp [go_sem]; done) | assumption); have r1_w_heap_size_1_13 : w1.frozen? ⟨w.heap.size + 1, 13, none⟩ = false := (by rw [hf1 _ _ (by first | (simp; done) | (simp; omega) | omega)]; first | (simp [go_sem]; done) | assumption); have k1_w_heap_size_1_14 : w1.cell? ⟨w.heap.size + 1, 14, none⟩ = some (.int .i64 (cells 14)) := (by rw [hc1 _ _ (by first | (simp; done) | (simp; omega) | omega)]; first | (simp [go_sem]; done) | assumption); have r1_w_heap_size_1_14 : w1.frozen? ⟨w.heap.size + 1, 14, none⟩ = false := (by rw [hf1 _ _ (by first | (simp; done) | (simp; omega) | omega)]; first | (simp [go_sem]; done) | assumption); have k1_w_heap_size_1_15 : w1.cell? ⟨w.heap.size + 1, 15, none⟩ = some (.int .i64 (cells 15)) := (by rw [hc1 _ _ (by first | (simp; done) | (simp; omega) | omega)]; first | (simp [go_sem]; done) | assumption); have r1_w_heap_size_1_15 : w1.frozen? ⟨w.heap.size + 1, 15, none⟩ = false := (by rw [hf1 _ _ (by first | (simp; done) | (simp; omega) | omega)]; first | (simp [go_sem]; done) | assumption))
  clear hc1 hf1
  have HR1 := Lib.hid R1
  clear R1
  obtain rfl : v = .nilIface := hv.nil
  clear hv
  go_wp2_with fail
  go_region
  all_goals go_wp2_with fail
  generalize hW : World.drew (World.alloc w1 _) = w2
  have I2 : Img w2 w1.heap.size 108 (mimg (.slice (some a) n cap) told time (.slice none 0 0) (Mach.init cells)) := by
    rw [← hW]
    exact Img.drew (Img.mk' (heap_alloc_new w1 _) (by kernel_rfl))
  have HB2 := Lib.hid (show Below w.heap.size w w2 from hW ▸ (HW1.out.alloc (by omega) _).drew)
  have HR2 := Lib.hid (show Img w2 (w.heap.size + 2) 19 ranz from hW ▸ (HR1.out.alloc _).drew)
  have zz : w1.heap.size < w2.heap.size := by rw [← hW]; simp
  have HM2 : Hid (MacAt w2 w1.heap.size (.slice (some a) n cap) told time (Mach.init cells)) := ⟨.slice none 0 0, I2, ⟨rfl, .inl ⟨rfl, rfl⟩⟩⟩
  clear hW I2
  have zb := z12
  clear HR1 HW1 z10 z11 z12 hz1
  clear k1_w_heap_size_0 r1_w_heap_size_0 k1_w_heap_size_1 r1_w_heap_size_1 k1_w_heap_size_2 r1_w_heap_size_2 k1_w_heap_size_3 r1_w_heap_size_3 k1_w_heap_size_4 r1_w_heap_size_4 k1_w_heap_size_5 r1_w_heap_size_5 k1_w_heap_size_6 r1_w_heap_size_6 k1_w_heap_size_7 r1_w_heap_size_7 k1_w_heap_size_1_0 r1_w_heap_size_1_0 k1_w_heap_size_1_1 r1_w_heap_size_1_1 k1_w_heap_size_1_2 r1_w_heap_size_1_2 k1_w_heap_size_1_3 r1_w_heap_size_1_3 k1_w_heap_size_1_4 r1_w_heap_size_1_4 k1_w_heap_size_1_5 r1_w_heap_size_1_5 k1_w_heap_size_1_6 r1_w_heap_size_1_6 k1_w_heap_size_1_7 r1_w_heap_size_1_7 k1_w_heap_size_1_8 r1_w_heap_size_1_8 k1_w_heap_size_1_9 r1_w_heap_size_1_9 k1_w_heap_size_1_10 r1_w_heap_size_1_10 k1_w_heap_size_1_11 r1_w_heap_size_1_11 k1_w_heap_size_1_12 r1_w_heap_size_1_12 k1_w_heap_size_1_13 r1_w_heap_size_1_13 k1_w_heap_size_1_14 r1_w_heap_size_1_14 k1_w_heap_size_1_15 r1_w_heap_size_1_15
  generalize w1.heap.size = b at *
  go_loopw [12, 13] (fun p s wr => ∃ (pc st f : Nat) (M : Mach), p = .int .i64 pc ∧ s = .int .i64 st ∧ pc < n ∧ st ≤ pc + 1 ∧ n ≤ pc + f ∧ MOk M ∧ Mach.run S told time n (Mach.init cells) 0 1 = Mach.run S told time f M pc st ∧ MacAt wr b (.slice (some a) n cap) told time M ∧ Img wr (w.heap.size + 2) 19 ranz ∧ Below w.heap.size w wr) (fun p _ _ => n - (intOf p).toNat)
  case atStart => exact ⟨0, 1, n, Mach.init cells, rfl, rfl, by omega, by omega, by omega, MOk.init cells, rfl, HM2.out, HR2.out, HB2.out⟩
  case round =>
    obtain ⟨pc, st, f, M, rfl, rfl, hpc, hst, hf, hM, hrun, hMac, hR, hB⟩ := hrel
    obtain ⟨f, rfl⟩ : ∃ g, f = g + 1 := ⟨f - 1, by omega⟩
    obtain ⟨e0, e1, e2, e3, e4, e5⟩ := HS.out.later hB pc hpc
    have hok := OK.out pc hpc
    rw [run_succ, Int.toNat_natCast] at hrun
    generalize S pc = t at *
    obtain ⟨c, d, s, r, o, nn⟩ := t
    obtain ⟨h1, h2, h3⟩ := hok
    obtain ⟨g1, g2, g3, g4⟩ := wrong_ok h1
    simp only [Step.leads] at g1 g2 g3 g4 h2 h3 e0 e1 e2 e3 e4 e5
    have HRUN := Lib.hid hrun
    have HB := Lib.hid hB
    have HR := Lib.hid hR
    have HMac := Lib.hid hMac
    have HMO := Lib.hid hM
    have HL := Lib.hid h2
    have HN := Lib.hid g4
    have HX := Lib.hid h3
    have zr : w.heap.size ≤ wr.heap.size := hB.size
    clear h1 h2 h3 g4 hrun hM hMac hR hB
    have pc1 : (pc : Int) < n := by omega
    have pc0 : (0 : Int) ≤ pc := by omega
    obtain ⟨d, rfl⟩ := Int.eq_ofNat_of_zero_le g2.1
    obtain ⟨s, rfl⟩ := Int.eq_ofNat_of_zero_le g2.2.2.1
    have d1 : (d : Int) < 11 := by omega
    have s1 : (s : Int) < 11 := by omega
    have dN : d < 11 := by omega
    have sN : s < 11 := by omega
    go_upto_block 2 with fail
    generalize hW : World.alloc wr _ = wd
    have HB1 := Lib.hid (show Below w.heap.size w wd from hW ▸ HB.out.alloc (by omega) _)
    have HR1 := Lib.hid (show Img wd (w.heap.size + 2) 19 ranz from hW ▸ HR.out.alloc _)
    have HMac1 := Lib.hid (show MacAt wd b (.slice (some a) n cap) told time M from hW ▸ HMac.out.later ((Below.refl _ _).alloc (Nat.le_refl _) _))
    have zd : wr.heap.size < wd.heap.size := by rw [← hW]; simp
    have f0 : wd.cell? ⟨wr.heap.size, 0, none⟩ = some (.int .i64 c) := by rw [← hW]; simp [go_sem]
    have f1 : wd.cell? ⟨wr.heap.size, 1, none⟩ = some (.int .i64 d) := by rw [← hW]; simp [go_sem]
    have f2 : wd.cell? ⟨wr.heap.size, 2, none⟩ = some (.int .i64 s) := by rw [← hW]; simp [go_sem]
    have f3 : wd.cell? ⟨wr.heap.size, 3, none⟩ = some (.bool r) := by rw [← hW]; simp [go_sem]
    have f4 : wd.cell? ⟨wr.heap.size, 4, none⟩ = some (.int .i64 o) := by rw [← hW]; simp [go_sem]
    have f5 : wd.cell? ⟨wr.heap.size, 5, none⟩ = some (.int .i64 nn) := by rw [← hW]; simp [go_sem]
    clear hW e0 e1 e2 e3 e4 e5 HB HR HMac
    go_cut [12, 15] (fun p e wx => ∃ (q : Nat) (er : Int) (M' : Mach), p = .int .i64 q ∧ e = .int .i64 er ∧ Img wx (w.heap.size + 2) 19 ranz ∧ Below w.heap.size w wx ∧ StepTo n told time b (.slice (some a) n cap) M ⟨c, d, s, r, o, nn⟩ pc q er M' wx)
    case first =>
      as_aux_lemma =>
        have hM := HMac1.out
        obtain ⟨out, hI, hO⟩ := hM
        have HI := Lib.hid hI
        have HO := Lib.hid hO
        have zb1 : b < wd.heap.size := hI.lt (by omega)
        have r0 : ∀ k, k < 11 → wd.cell? ⟨b, 1 + k * 3, none⟩ = some (.int .i64 (M.regs k).kind) := fun k hk => (hI.cell _ (by omega)).trans (congrArg some ((mimg_reg hk (by omega : 0 < 3) (by omega)).trans (vcell_0 _)))
        have r1 : ∀ k, k < 11 → wd.cell? ⟨b, 1 + k * 3 + 1, none⟩ = some (.int .i64 (M.regs k).n) := fun k hk => (hI.cell _ (by omega)).trans (congrArg some ((mimg_reg hk (by omega : 1 < 3) (by omega)).trans (vcell_1 _)))
        have r2 : ∀ k, k < 11 → wd.cell? ⟨b, 1 + k * 3 + 2, none⟩ = some (.int .i64 (M.regs k).cell) := fun k hk => (hI.cell _ (by omega)).trans (congrArg some ((mimg_reg hk (by omega : 2 < 3) (by omega)).trans (vcell_2 _)))
        have ds0 := r0 d dN; have ds1 := r1 d dN; have ds2 := r2 d dN
        have ss0 := r0 s sN; have ss1 := r1 s sN; have ss2 := r2 s sN
        have zz0 : wd.cell? ⟨b, 1, none⟩ = some (.int .i64 (M.regs 0).kind) := r0 0 (by omega)
        have zz1 : wd.cell? ⟨b, 2, none⟩ = some (.int .i64 (M.regs 0).n) := r1 0 (by omega)
        clear hI hO r0 r1 r2
        have hcl : c = 28 ∨ c = 14 ∨ (15 ≤ c ∧ c ≤ 24) ∨ c = 25 ∨ c = 26 ∨ c = 27 ∨ c = 13 ∨ c ≤ 12 := by omega
        rcases hcl with rfl | rfl | hc | rfl | rfl | rfl | rfl | hc
        · as_aux_lemma =>
            have hst := step_exit M told time d s r o nn pc
            have HST := Lib.hid hst
            clear hst
            by_cases e1 : (M.regs 0).kind = 1
            · have t1 : ((M.regs 0).kind == 1) = true := by rw [beq_iff_eq]; exact e1
              obtain ⟨og, ocap, rfl⟩ := own_slice HO.out
              have hs2 := HST.out
              rw [if_pos e1] at hs2
              have hr2 := HRUN.out
              rw [hs2] at hr2
              have HR2 := Lib.hid hr2
              clear hr2 hs2 e1
              have m16 : wd.cell? ⟨b, 107, none⟩ = some (.slice og M.out.length ocap) := HI.out.cell 107 (by omega)
              have zb2 : w.heap.size + 2 < wd.heap.size := HR1.out.lt (by omega)
              have n2 : ¬ w.heap.size + 2 = b := by omega
              have n3 : ¬ b = w.heap.size + 2 := by omega
              go_wp2_with fail
              refine wp_below_tail 16 (by kernel_rfl) (by kernel_rfl) ?_
              have h26 : ∀ dr os, (Instr.loadAt 26 (.pointer (some ⟨b, 90, none⟩))).run Tryd.prog (Go.Sort.grow (redrawn wd dr) os) = .ok (.agg #[.int .i64 (M.cells 0), .int .i64 (M.cells 1), .int .i64 (M.cells 2), .int .i64 (M.cells 3), .int .i64 (M.cells 4), .int .i64 (M.cells 5), .int .i64 (M.cells 6), .int .i64 (M.cells 7), .int .i64 (M.cells 8), .int .i64 (M.cells 9), .int .i64 (M.cells 10), .int .i64 (M.cells 11), .int .i64 (M.cells 12), .int .i64 (M.cells 13), .int .i64 (M.cells 14), .int .i64 (M.cells 15)]) (Go.Sort.grow (redrawn wd dr) os) := fun dr os =>
                run_loadAt_mid _ b 90 26 [.int .i64 (M.cells 0), .int .i64 (M.cells 1), .int .i64 (M.cells 2), .int .i64 (M.cells 3), .int .i64 (M.cells 4), .int .i64 (M.cells 5), .int .i64 (M.cells 6), .int .i64 (M.cells 7), .int .i64 (M.cells 8), .int .i64 (M.cells 9), .int .i64 (M.cells 10), .int .i64 (M.cells 11), .int .i64 (M.cells 12), .int .i64 (M.cells 13), .int .i64 (M.cells 14), .int .i64 (M.cells 15)] _ (range16 (HI.out.later (below_regrown wd dr os) zb1)) Tryd.underlying26 rfl (by kernel_rfl)
              have k1 := cell_regrown zz1
              have j16 := cell_regrown m16
              repeat (quiet_step (fail))
              refine wpQuiet_load (by rfl) 26 _ (by rfl) ⟨b, 90, none⟩ (by rfl) (.agg #[.int .i64 (M.cells 0), .int .i64 (M.cells 1), .int .i64 (M.cells 2), .int .i64 (M.cells 3), .int .i64 (M.cells 4), .int .i64 (M.cells 5), .int .i64 (M.cells 6), .int .i64 (M.cells 7), .int .i64 (M.cells 8), .int .i64 (M.cells 9), .int .i64 (M.cells 10), .int .i64 (M.cells 11), .int .i64 (M.cells 12), .int .i64 (M.cells 13), .int .i64 (M.cells 14), .int .i64 (M.cells 15)]) (fun w hw => by obtain ⟨p, rfl⟩ := hw; exact h26 _ _) ?_
              iterate 5 quiet_step (fail)
              refine wpQuiet_build (by rfl) 35 _ (by rfl) #[(0, .int .i64 (M.regs 0).n), (1, .agg #[.int .i64 (M.cells 0), .int .i64 (M.cells 1), .int .i64 (M.cells 2), .int .i64 (M.cells 3), .int .i64 (M.cells 4), .int .i64 (M.cells 5), .int .i64 (M.cells 6), .int .i64 (M.cells 7), .int .i64 (M.cells 8), .int .i64 (M.cells 9), .int .i64 (M.cells 10), .int .i64 (M.cells 11), .int .i64 (M.cells 12), .int .i64 (M.cells 13), .int .i64 (M.cells 14), .int .i64 (M.cells 15)]), (2, .slice og M.out.length ocap), (3, .int .i64 st)] (by simp [go_sem]) #[.int .i64 (M.regs 0).n, .int .i64 (M.cells 0), .int .i64 (M.cells 1), .int .i64 (M.cells 2), .int .i64 (M.cells 3), .int .i64 (M.cells 4), .int .i64 (M.cells 5), .int .i64 (M.cells 6), .int .i64 (M.cells 7), .int .i64 (M.cells 8), .int .i64 (M.cells 9), .int .i64 (M.cells 10), .int .i64 (M.cells 11), .int .i64 (M.cells 12), .int .i64 (M.cells 13), .int .i64 (M.cells 14), .int .i64 (M.cells 15), .slice og M.out.length ocap, .int .i64 st] (built_ran _ _ _ _ _ _ _ _ _ _ _ _ _ _ _ _ _ _ _ _ _) ?_
              refine wpQuiet_nil ?_
              intro wq hwq
              have hbq : Below wd.heap.size wd wq := by
                obtain ⟨p, hp⟩ := hwq
                rw [hp]; exact below_regrown _ _ _
              clear hwq k1 j16 h26
              have HBB := Lib.hid (HB1.out.trans (hbq.mono (by omega)))
              have hO2 := HO.out.kept (But.of (b := b) hbq).grown (by have := HO.out.lt; cases hv : (Value.slice og M.out.length ocap).ownBlock with | none => exact .inl rfl | some g => (right; intro e; have := (this g hv).1; injection e; omega))
              have HO2 := Lib.hid hO2
              have hR := HR1.out.later hbq zb2
              have hth : wq.there (w.heap.size + 1 + 1) 0 19 := fun j hj => ⟨by rw [Nat.zero_add, hR.cell j hj]; rfl, by rw [Nat.zero_add]; exact hR.free j hj⟩
              have HTH := Lib.hid hth
              clear hbq hO2 hR hth
              refine wpList_store_mid (by rfl) 35 _ _ (by rfl) (w.heap.size + 1 + 1) 0 #[.int .i64 (M.regs 0).n, .int .i64 (M.cells 0), .int .i64 (M.cells 1), .int .i64 (M.cells 2), .int .i64 (M.cells 3), .int .i64 (M.cells 4), .int .i64 (M.cells 5), .int .i64 (M.cells 6), .int .i64 (M.cells 7), .int .i64 (M.cells 8), .int .i64 (M.cells 9), .int .i64 (M.cells 10), .int .i64 (M.cells 11), .int .i64 (M.cells 12), .int .i64 (M.cells 13), .int .i64 (M.cells 14), .int .i64 (M.cells 15), .slice og M.out.length ocap, .int .i64 st] (by simp [go_sem]) (by simp [go_sem]) HTH.out size_ran (one_ran _ _ _ _ _ _ _ _ _ _ _ _ _ _ _ _ _ _ _ _ _) ?_
              go_wp2_with fail
              have hld : (loadVar 35 ⟨w.heap.size + 1 + 1, 0, none⟩).run Tryd.prog (wq.setCells (w.heap.size + 1 + 1) 0 [.int .i64 (M.regs 0).n, .int .i64 (M.cells 0), .int .i64 (M.cells 1), .int .i64 (M.cells 2), .int .i64 (M.cells 3), .int .i64 (M.cells 4), .int .i64 (M.cells 5), .int .i64 (M.cells 6), .int .i64 (M.cells 7), .int .i64 (M.cells 8), .int .i64 (M.cells 9), .int .i64 (M.cells 10), .int .i64 (M.cells 11), .int .i64 (M.cells 12), .int .i64 (M.cells 13), .int .i64 (M.cells 14), .int .i64 (M.cells 15), .slice og M.out.length ocap, .int .i64 st]) = .ok (.agg #[.int .i64 (M.regs 0).n, .int .i64 (M.cells 0), .int .i64 (M.cells 1), .int .i64 (M.cells 2), .int .i64 (M.cells 3), .int .i64 (M.cells 4), .int .i64 (M.cells 5), .int .i64 (M.cells 6), .int .i64 (M.cells 7), .int .i64 (M.cells 8), .int .i64 (M.cells 9), .int .i64 (M.cells 10), .int .i64 (M.cells 11), .int .i64 (M.cells 12), .int .i64 (M.cells 13), .int .i64 (M.cells 14), .int .i64 (M.cells 15), .slice og M.out.length ocap, .int .i64 st]) (wq.setCells (w.heap.size + 1 + 1) 0 [.int .i64 (M.regs 0).n, .int .i64 (M.cells 0), .int .i64 (M.cells 1), .int .i64 (M.cells 2), .int .i64 (M.cells 3), .int .i64 (M.cells 4), .int .i64 (M.cells 5), .int .i64 (M.cells 6), .int .i64 (M.cells 7), .int .i64 (M.cells 8), .int .i64 (M.cells 9), .int .i64 (M.cells 10), .int .i64 (M.cells 11), .int .i64 (M.cells 12), .int .i64 (M.cells 13), .int .i64 (M.cells 14), .int .i64 (M.cells 15), .slice og M.out.length ocap, .int .i64 st]) := run_loadVar_mid (P := Tryd.prog) _ (w.heap.size + 1 + 1) 0 35 [.int .i64 (M.regs 0).n, .int .i64 (M.cells 0), .int .i64 (M.cells 1), .int .i64 (M.cells 2), .int .i64 (M.cells 3), .int .i64 (M.cells 4), .int .i64 (M.cells 5), .int .i64 (M.cells 6), .int .i64 (M.cells 7), .int .i64 (M.cells 8), .int .i64 (M.cells 9), .int .i64 (M.cells 10), .int .i64 (M.cells 11), .int .i64 (M.cells 12), .int .i64 (M.cells 13), .int .i64 (M.cells 14), .int .i64 (M.cells 15), .slice og M.out.length ocap, .int .i64 st] _ (World.rangeAt_setCells_same wq (w.heap.size + 1 + 1) 0 [.int .i64 (M.regs 0).n, .int .i64 (M.cells 0), .int .i64 (M.cells 1), .int .i64 (M.cells 2), .int .i64 (M.cells 3), .int .i64 (M.cells 4), .int .i64 (M.cells 5), .int .i64 (M.cells 6), .int .i64 (M.cells 7), .int .i64 (M.cells 8), .int .i64 (M.cells 9), .int .i64 (M.cells 10), .int .i64 (M.cells 11), .int .i64 (M.cells 12), .int .i64 (M.cells 13), .int .i64 (M.cells 14), .int .i64 (M.cells 15), .slice og M.out.length ocap, .int .i64 st] HTH.out) Tryd.underlying35 rfl size_ran
              refine bodyPost_ret (results_cell_tmp Tryd.results7 (p := ⟨w.heap.size + 1 + 1, 0, none⟩) (by simp [go_sem]) (by simp [go_sem]; rfl) hld) rfl ⟨⟨_, _, rfl, ?_⟩, ?_⟩
              · rw [HR2.out]
                exact ⟨_, rfl, rfl, b + 1, owns_setCells HO2.out (by omega)⟩
              · exact below_setCells (by omega) _ _ _ _ HBB.out
            · have t1 : ((M.regs 0).kind == 1) = false := by rw [beq_eq_false_iff_ne]; exact e1
              by_cases e0 : (M.regs 0).kind = 0
              · have t0 : ((M.regs 0).kind == 0) = true := by rw [beq_iff_eq]; exact e0
                have hs2 := HST.out
                rw [if_neg e1, if_pos e0] at hs2
                have HS2 := Lib.hid hs2
                clear hs2 e0 e1
                go_wp2_with fail
                go_meet
                go_light
                exact ⟨pc, 8, M, rfl, rfl, HR1.out, HB1.out, .inr ⟨by decide, rfl, HS2.out⟩⟩
              · have t0 : ((M.regs 0).kind == 0) = false := by rw [beq_eq_false_iff_ne]; exact e0
                have hs2 := HST.out
                rw [if_neg e1, if_neg e0] at hs2
                have HS2 := Lib.hid hs2
                clear hs2 e0 e1
                go_wp2_with fail
                go_meet
                go_light
                exact ⟨pc, 1, M, rfl, rfl, HR1.out, HB1.out, .inr ⟨by decide, rfl, HS2.out⟩⟩
        · as_aux_lemma =>
            obtain ⟨o1, o2⟩ := HL.out (.inl rfl)
            obtain ⟨o, rfl⟩ := Int.eq_ofNat_of_zero_le o1
            have HST := Lib.hid (step_jump M told time d s r o nn pc)
            go_wp2_with fail
            go_meet
            go_light
            refine ⟨pc + o, 0, M, by go_num, rfl, HR1.out, HB1.out, .inl ⟨rfl, by omega, by omega, HMO.out, ⟨out, HI.out, HO.out⟩, ?_⟩⟩
            rw [HST.out]
            congr 1
            omega
        · as_aux_lemma =>
            have pn : pc + 1 < n := by
              by_cases e : pc + 1 = n
              · have := HX.out e; omega
              · omega
            obtain ⟨o1, o2⟩ := HL.out (.inr hc)
            obtain ⟨o, rfl⟩ := Int.eq_ofNat_of_zero_le o1
            have t28 : (c == 28) = false := by rw [beq_eq_false_iff_ne]; omega
            have t14 : (c == 14) = false := by rw [beq_eq_false_iff_ne]; omega
            have t15 : 15 ≤ c := hc.1
            have t24 : c ≤ 24 := hc.2
            have hst := step_ask M told time c hc d s r o nn pc
            have hae := asks_err (M := M) (t := ⟨c, d, s, r, o, nn⟩)
            have cL := MAsks_any b (.slice (some a) n cap) told time out M wd HI.out c s d r o nn dN ⟨by omega, by omega⟩ _ _ rfl rfl
            generalize M.asks ⟨c, d, s, r, o, nn⟩ = L at *
            obtain ⟨ab, ae⟩ := L
            have HST := Lib.hid hst
            have HAE := Lib.hid hae
            have CL := Lib.hid cL
            clear hst hae cL hc
            cases ab
            all_goals
              go_wp2_with (go_at_call 18; refine (Asks_any _ _).mono ?_; rintro e w' ⟨rfl, rfl⟩; rw [asks_of])
              refine CL.out.mono ?_
              rintro e w3 ⟨rfl, hb3⟩
              have HBB := Lib.hid (HB1.out.trans (hb3.mono (by omega)))
              have HRR := Lib.hid (HR1.out.later hb3 (by omega))
              have hM3 : Hid (MacAt w3 b (.slice (some a) n cap) told time M) := MacAt.later ⟨out, HI.out, HO.out⟩ hb3
              have g4 : w3.cell? ⟨wr.heap.size, 4, none⟩ = some (.int .i64 o) := (hb3.cell zd).trans f4
              clear hb3
              go_wp2_with fail
              go_meet
              go_light
            · refine ⟨pc, ae, M, rfl, rfl, ?_, ?_, ?_⟩
              · (repeat' (first | with_reducible exact HRR.out | with_reducible refine Img.drew ?_ | with_reducible refine Img.other ?_ ?_ _ | (simp; done) | (simp; omega) | omega))
              · (repeat' (first | with_reducible exact HBB.out | with_reducible refine Below.drew ?_ | with_reducible refine Below.setCell ?_ ?_ _ | (simp; done) | (simp; omega) | omega))
              · refine StepTo.pair (HST.out.trans ?_) pn HMO.out hM3.out
                simp
            · by_cases he : ae = 0
              · subst he
                refine ⟨pc + o, 0, M, by go_num, rfl, ?_, ?_, .inl ⟨rfl, by omega, by omega, HMO.out, hM3.out, ?_⟩⟩
                · (repeat' (first | with_reducible exact HRR.out | with_reducible refine Img.drew ?_ | with_reducible refine Img.other ?_ ?_ _ | (simp; done) | (simp; omega) | omega))
                · (repeat' (first | with_reducible exact HBB.out | with_reducible refine Below.drew ?_ | with_reducible refine Below.setCell ?_ ?_ _ | (simp; done) | (simp; omega) | omega))
                · rw [HST.out]
                  simp
                  omega
              · exact absurd (HAE.out he) (by simp)
        · as_aux_lemma =>
            have pn : pc + 1 < n := by
              by_cases e : pc + 1 = n
              · have := HX.out e; omega
              · omega
            have k0 := cell_regrown f0; have k1 := cell_regrown f1; have k2 := cell_regrown f2; have k4 := cell_regrown f4
            have k5 := cell_regrown ss0; have k6 := cell_regrown ss1; have k7 := cell_regrown ss2
            have cL : ∀ dr os, Calls Tryd.prog 20 #[.pointer (some ⟨b, 0, none⟩), .agg #[.int .i64 (M.regs s).kind, .int .i64 (M.regs s).n, .int .i64 (M.regs s).cell], .int .i64 o] (Go.Sort.grow (redrawn wd dr) os) fun e w'' =>
              e = .returned (.tuple #[.agg #[.int .i64 (M.load told (M.regs s) o).1.kind, .int .i64 (M.load told (M.regs s) o).1.n, .int .i64 (M.load told (M.regs s) o).1.cell], .int .i64 (M.load told (M.regs s) o).2]) ∧ ∃ p : Regrown, w'' = Go.Sort.grow (redrawn wd p.d) p.os := fun dr os => Calls.regrown_of (Load_any b _ told time out M _ (HI.out.later (below_regrown wd dr os) zb1) (M.regs s) (HMO.out.1 s) o)
            have hst := step_load M told time d s r o nn pc
            have hml := HMO.out.load told (M.regs s) o
            generalize M.load told (M.regs s) o = L at *
            obtain ⟨⟨lk, ln, lc⟩, le⟩ := L
            have HST := Lib.hid hst
            have HML := Lib.hid hml
            have CL := Lib.hid cL
            clear hst hml cL
            go_wp2_with (go_at_call 18; refine (Asks_any _ _).mono ?_; rintro e w' ⟨rfl, rfl⟩; rw [asks_of])
            refine wp_below_one 20 (by kernel_rfl) (by kernel_rfl) ?_
            repeat (quiet_step (first | exact CL.out _ _))
            refine wpQuiet_nil ?_
            intro wq hwq
            have hbq : Below wd.heap.size wd wq := by
              obtain ⟨p, hp⟩ := hwq
              rw [hp]; exact below_regrown _ _ _
            clear hwq
            clear k0 k1 k2 k4 k5 k6 k7 f0 f1 f2 f3 f4 f5
            have HBB := Lib.hid (HB1.out.trans (hbq.mono (by omega)))
            have HRR := Lib.hid (HR1.out.later hbq (by omega))
            have MQ : MacAt wq b (.slice (some a) n cap) told time M := MacAt.later ⟨out, HI.out, HO.out⟩ hbq
            have HMQ := Lib.hid MQ
            obtain ⟨out2, IQ, -⟩ := MQ
            have q0 := IQ.cell (1 + d * 3) (by omega)
            have q1 := IQ.cell (1 + d * 3 + 1) (by omega)
            have q2 := IQ.cell (1 + d * 3 + 2) (by omega)
            have p0 := IQ.free (1 + d * 3) (by omega)
            have p1 := IQ.free (1 + d * 3 + 1) (by omega)
            have p2 := IQ.free (1 + d * 3 + 2) (by omega)
            clear IQ hbq
            go_wp2_with fail
            refine NoPanic.normal ?_
            go_wp2_with fail
            go_meet
            go_light
            refine ⟨pc, le, { M with regs := upd M.regs d ⟨lk, ln, lc⟩ }, rfl, rfl, ?_, ?_, ?_⟩
            · (repeat' (first | with_reducible exact HRR.out | with_reducible refine Img.drew ?_ | with_reducible refine Img.other ?_ ?_ _ | (simp; done) | (simp; omega) | omega))
            · (repeat' (first | with_reducible exact HBB.out | with_reducible refine Below.drew ?_ | with_reducible refine Below.setCell ?_ ?_ _ | (simp; done) | (simp; omega) | omega))
            · refine StepTo.pair HST.out pn (HMO.out.setreg d HML.out) ?_
              first
              | with_reducible exact HMQ.out.setReg dN lk ln lc rfl rfl rfl
              | with_reducible exact (HMQ.out.setReg dN lk ln lc rfl rfl rfl).drew
        · as_aux_lemma =>
            have pn : pc + 1 < n := by
              by_cases e : pc + 1 = n
              · have := HX.out e; omega
              · omega
            have k0 := cell_regrown f0; have k1 := cell_regrown f1; have k2 := cell_regrown f2; have k3 := cell_regrown f3; have k4 := cell_regrown f4; have k8 := cell_regrown f5
            have k5 := cell_regrown ds0; have k6 := cell_regrown ds1; have k7 := cell_regrown ds2
            have hst := step_store M told time d s r o nn pc
            have hx := HMO.out.second ⟨26, d, s, r, o, nn⟩
            have cL : ∀ dr os, Calls Tryd.prog 22 #[.pointer (some ⟨b, 0, none⟩), .agg #[.int .i64 26, .int .i64 d, .int .i64 s, .bool r, .int .i64 o, .int .i64 nn]] (Go.Sort.grow (redrawn wd dr) os) fun e w'' =>
              e = .returned (.agg #[.int .i64 (M.second ⟨26, d, s, r, o, nn⟩).kind, .int .i64 (M.second ⟨26, d, s, r, o, nn⟩).n, .int .i64 (M.second ⟨26, d, s, r, o, nn⟩).cell]) ∧ ∃ p : Regrown, w'' = Go.Sort.grow (redrawn wd p.d) p.os := fun dr os => Calls.regrown_of (Second_any b _ told time out M _ (HI.out.later (below_regrown wd dr os) zb1) 26 d s r o nn ⟨by omega, by omega⟩)
            generalize M.second ⟨26, d, s, r, o, nn⟩ = x at *
            have hml := HMO.out.store (M.regs d) o hx
            have HVX := Lib.hid hx
            clear hx
            have HST := Lib.hid hst
            have HML := Lib.hid hml
            have CL := Lib.hid cL
            clear hst hml cL
            go_wp2_with (go_at_call 18; refine (Asks_any _ _).mono ?_; rintro e w' ⟨rfl, rfl⟩; rw [asks_of])
            refine wp_below_tail 13 (by kernel_rfl) (by kernel_rfl) ?_
            repeat (quiet_step (first | exact CL.out _ _))
            refine wpQuiet_nil ?_
            intro wq hwq
            have hbq : Below wd.heap.size wd wq := by
              obtain ⟨p, hp⟩ := hwq
              rw [hp]; exact below_regrown _ _ _
            clear hwq
            clear k0 k1 k2 k3 k4 k5 k6 k7 k8 f0 f1 f2 f3 f4 f5
            have MQ : MacAt wq b (.slice (some a) n cap) told time M := MacAt.later ⟨out, HI.out, HO.out⟩ hbq
            have HMQ := Lib.hid MQ
            have HBQ := Lib.hid hbq
            clear MQ hbq
            go_wp2_with fail
            refine (Store_any b _ told time M _ HMQ.out (M.regs d) (HMO.out.1 d) o x HVX.out).mono ?_
            rintro e w3 ⟨rfl, hM3, hb3⟩
            have HBB := Lib.hid (HB1.out.trans ((HBQ.out.mono (by omega)).trans (hb3.mono (by omega))))
            have HRR := Lib.hid ((HR1.out.later HBQ.out (by omega)).later hb3 (by omega))
            clear hb3
            generalize M.store (M.regs d) o x = L at *
            obtain ⟨M2, le⟩ := L
            have HM2 := HML
            go_wp2_with fail
            go_meet
            go_light
            refine ⟨pc, le, M2, rfl, rfl, ?_, ?_, ?_⟩
            · (repeat' (first | with_reducible exact HRR.out | with_reducible refine Img.drew ?_ | with_reducible refine Img.other ?_ ?_ _ | (simp; done) | (simp; omega) | omega))
            · (repeat' (first | with_reducible exact HBB.out | with_reducible refine Below.drew ?_ | with_reducible refine Below.setCell ?_ ?_ _ | (simp; done) | (simp; omega) | omega))
            · exact StepTo.pair HST.out pn HM2.out (by first | exact hM3 | exact hM3.drew)
        · as_aux_lemma =>
            have pn : pc + 1 < n := by
              by_cases e : pc + 1 = n
              · have := HX.out e; omega
              · omega
            have hnn : nn = 1 ∨ nn = 2 ∨ nn = 3 := by
              have := HN.out
              unfold bad at this
              omega
            have hst := step_call M told time d s r o nn pc
            have hml := HMO.out.call time nn
            have HST := Lib.hid hst
            have HM2 := Lib.hid hml
            have HNN := Lib.hid hnn
            clear hst hml hnn
            go_wp2_with (go_at_call 18; refine (Asks_any _ _).mono ?_; rintro e w' ⟨rfl, rfl⟩; rw [asks_of])
            refine (Call_any b _ told time M _ ⟨out, HI.out, HO.out⟩ nn HNN.out).mono ?_
            rintro e w3 ⟨rfl, hM3, hb3⟩
            have HBB := Lib.hid (HB1.out.trans (hb3.mono (by omega)))
            have HRR := Lib.hid (HR1.out.later hb3 (by omega))
            clear hb3
            generalize M.call time nn = L at *
            obtain ⟨M2, le⟩ := L
            go_wp2_with fail
            go_meet
            go_light
            refine ⟨pc, le, M2, rfl, rfl, ?_, ?_, ?_⟩
            · (repeat' (first | with_reducible exact HRR.out | with_reducible refine Img.drew ?_ | with_reducible refine Img.other ?_ ?_ _ | (simp; done) | (simp; omega) | omega))
            · (repeat' (first | with_reducible exact HBB.out | with_reducible refine Below.drew ?_ | with_reducible refine Below.setCell ?_ ?_ _ | (simp; done) | (simp; omega) | omega))
            · exact StepTo.pair HST.out pn HM2.out (by first | exact hM3 | exact hM3.drew)
        · as_aux_lemma =>
            have pn : pc + 1 < n := by
              by_cases e : pc + 1 = n
              · have := HX.out e; omega
              · omega
            have k0 := cell_regrown f0; have k1 := cell_regrown f1
            have k5 := cell_regrown ds0; have k6 := cell_regrown ds1; have k7 := cell_regrown ds2
            have cL : ∀ dr os, Calls Tryd.prog 24 #[.int .i64 13, .agg #[.int .i64 (M.regs d).kind, .int .i64 (M.regs d).n, .int .i64 (M.regs d).cell], .agg #[.int .i64 1, .int .i64 0, .int .i64 0]] (Go.Sort.grow (redrawn wd dr) os) fun e w'' =>
              e = .returned (.tuple #[.agg #[.int .i64 (vcounts 13 (M.regs d) ⟨1, 0, 0⟩).1.kind, .int .i64 (vcounts 13 (M.regs d) ⟨1, 0, 0⟩).1.n, .int .i64 (vcounts 13 (M.regs d) ⟨1, 0, 0⟩).1.cell], .int .i64 (vcounts 13 (M.regs d) ⟨1, 0, 0⟩).2]) ∧ ∃ p : Regrown, w'' = Go.Sort.grow (redrawn wd p.d) p.os := fun dr os => Calls.regrown_of (Counts_any 13 _ _ _ 1 0 0 _)
            have hst := step_neg M told time d s r o nn pc
            have hml := (HMO.out.1 d).counts (VOk.num 0) 13
            simp only [Val.num] at hml
            generalize vcounts 13 (M.regs d) ⟨1, 0, 0⟩ = L at *
            obtain ⟨⟨lk, ln, lc⟩, le⟩ := L
            have HST := Lib.hid hst
            have HML := Lib.hid hml
            have CL := Lib.hid cL
            clear hst hml cL
            go_wp2_with (go_at_call 18; refine (Asks_any _ _).mono ?_; rintro e w' ⟨rfl, rfl⟩; rw [asks_of])
            refine wp_below_one 20 (by kernel_rfl) (by kernel_rfl) ?_
            repeat (quiet_step (first | exact CL.out _ _))
            refine wpQuiet_nil ?_
            intro wq hwq
            have hbq : Below wd.heap.size wd wq := by
              obtain ⟨p, hp⟩ := hwq
              rw [hp]; exact below_regrown _ _ _
            clear hwq
            clear k0 k1 k5 k6 k7 f0 f1 f2 f3 f4 f5
            have HBB := Lib.hid (HB1.out.trans (hbq.mono (by omega)))
            have HRR := Lib.hid (HR1.out.later hbq (by omega))
            have MQ : MacAt wq b (.slice (some a) n cap) told time M := MacAt.later ⟨out, HI.out, HO.out⟩ hbq
            have HMQ := Lib.hid MQ
            obtain ⟨out2, IQ, -⟩ := MQ
            have q0 := IQ.cell (1 + d * 3) (by omega)
            have q1 := IQ.cell (1 + d * 3 + 1) (by omega)
            have q2 := IQ.cell (1 + d * 3 + 2) (by omega)
            have p0 := IQ.free (1 + d * 3) (by omega)
            have p1 := IQ.free (1 + d * 3 + 1) (by omega)
            have p2 := IQ.free (1 + d * 3 + 2) (by omega)
            clear IQ hbq
            go_wp2_with fail
            refine NoPanic.normal ?_
            go_wp2_with fail
            go_meet
            go_light
            refine ⟨pc, le, { M with regs := upd M.regs d ⟨lk, ln, lc⟩ }, rfl, rfl, ?_, ?_, ?_⟩
            · (repeat' (first | with_reducible exact HRR.out | with_reducible refine Img.drew ?_ | with_reducible refine Img.other ?_ ?_ _ | (simp; done) | (simp; omega) | omega))
            · (repeat' (first | with_reducible exact HBB.out | with_reducible refine Below.drew ?_ | with_reducible refine Below.setCell ?_ ?_ _ | (simp; done) | (simp; omega) | omega))
            · refine StepTo.pair HST.out pn (HMO.out.setreg d HML.out) ?_
              first
              | with_reducible exact HMQ.out.setReg dN lk ln lc rfl rfl rfl
              | with_reducible exact (HMQ.out.setReg dN lk ln lc rfl rfl rfl).drew
        · as_aux_lemma =>
            have pn : pc + 1 < n := by
              by_cases e : pc + 1 = n
              · have := HX.out e; omega
              · omega
            have k0 := cell_regrown f0; have k1 := cell_regrown f1; have k2 := cell_regrown f2; have k3 := cell_regrown f3; have k4 := cell_regrown f4; have k8 := cell_regrown f5
            have k5 := cell_regrown ds0; have k6 := cell_regrown ds1; have k7 := cell_regrown ds2
            have t28 : (c == 28) = false := by rw [beq_eq_false_iff_ne]; omega
            have t14 : (c == 14) = false := by rw [beq_eq_false_iff_ne]; omega
            have t25 : (c == 25) = false := by rw [beq_eq_false_iff_ne]; omega
            have t26 : (c == 26) = false := by rw [beq_eq_false_iff_ne]; omega
            have t27 : (c == 27) = false := by rw [beq_eq_false_iff_ne]; omega
            have t13 : (c == 13) = false := by rw [beq_eq_false_iff_ne]; omega
            have t15 : decide (15 ≤ c) = false := by simp; omega
            have hst := step_make M told time c hc d s r o nn pc
            have hx := HMO.out.second ⟨c, d, s, r, o, nn⟩
            have cS : ∀ dr os, Calls Tryd.prog 22 #[.pointer (some ⟨b, 0, none⟩), .agg #[.int .i64 c, .int .i64 d, .int .i64 s, .bool r, .int .i64 o, .int .i64 nn]] (Go.Sort.grow (redrawn wd dr) os) fun e w'' =>
              e = .returned (.agg #[.int .i64 (M.second ⟨c, d, s, r, o, nn⟩).kind, .int .i64 (M.second ⟨c, d, s, r, o, nn⟩).n, .int .i64 (M.second ⟨c, d, s, r, o, nn⟩).cell]) ∧ ∃ p : Regrown, w'' = Go.Sort.grow (redrawn wd p.d) p.os := fun dr os => Calls.regrown_of (Second_any b _ told time out M _ (HI.out.later (below_regrown wd dr os) zb1) c d s r o nn ⟨by omega, by omega⟩)
            generalize M.second ⟨c, d, s, r, o, nn⟩ = x at *
            have cL : ∀ dr os, Calls Tryd.prog 24 #[.int .i64 c, .agg #[.int .i64 (M.regs d).kind, .int .i64 (M.regs d).n, .int .i64 (M.regs d).cell], .agg #[.int .i64 x.kind, .int .i64 x.n, .int .i64 x.cell]] (Go.Sort.grow (redrawn wd dr) os) fun e w'' =>
              e = .returned (.tuple #[.agg #[.int .i64 (vcounts c (M.regs d) x).1.kind, .int .i64 (vcounts c (M.regs d) x).1.n, .int .i64 (vcounts c (M.regs d) x).1.cell], .int .i64 (vcounts c (M.regs d) x).2]) ∧ ∃ p : Regrown, w'' = Go.Sort.grow (redrawn wd p.d) p.os := fun dr os => Calls.regrown_of (Counts_any c _ _ _ _ _ _ _)
            have hml := (HMO.out.1 d).counts hx c
            generalize vcounts c (M.regs d) x = L at *
            obtain ⟨⟨lk, ln, lc⟩, le⟩ := L
            have CS := Lib.hid cS
            clear cS hx hc
            have HST := Lib.hid hst
            have HML := Lib.hid hml
            have CL := Lib.hid cL
            clear hst hml cL
            go_wp2_with (go_at_call 18; refine (Asks_any _ _).mono ?_; rintro e w' ⟨rfl, rfl⟩; rw [asks_of])
            refine wp_below_one 22 (by kernel_rfl) (by kernel_rfl) ?_
            repeat (quiet_step (first | exact CL.out _ _ | exact CS.out _ _))
            refine wpQuiet_nil ?_
            intro wq hwq
            have hbq : Below wd.heap.size wd wq := by
              obtain ⟨p, hp⟩ := hwq
              rw [hp]; exact below_regrown _ _ _
            clear hwq
            clear k0 k1 k2 k3 k4 k5 k6 k7 k8 f0 f1 f2 f3 f4 f5
            have HBB := Lib.hid (HB1.out.trans (hbq.mono (by omega)))
            have HRR := Lib.hid (HR1.out.later hbq (by omega))
            have MQ : MacAt wq b (.slice (some a) n cap) told time M := MacAt.later ⟨out, HI.out, HO.out⟩ hbq
            have HMQ := Lib.hid MQ
            obtain ⟨out2, IQ, -⟩ := MQ
            have q0 := IQ.cell (1 + d * 3) (by omega)
            have q1 := IQ.cell (1 + d * 3 + 1) (by omega)
            have q2 := IQ.cell (1 + d * 3 + 2) (by omega)
            have p0 := IQ.free (1 + d * 3) (by omega)
            have p1 := IQ.free (1 + d * 3 + 1) (by omega)
            have p2 := IQ.free (1 + d * 3 + 2) (by omega)
            clear IQ hbq
            go_wp2_with fail
            refine NoPanic.normal ?_
            go_wp2_with fail
            go_meet
            go_light
            refine ⟨pc, le, { M with regs := upd M.regs d ⟨lk, ln, lc⟩ }, rfl, rfl, ?_, ?_, ?_⟩
            · (repeat' (first | with_reducible exact HRR.out | with_reducible refine Img.drew ?_ | with_reducible refine Img.other ?_ ?_ _ | (simp; done) | (simp; omega) | omega))
            · (repeat' (first | with_reducible exact HBB.out | with_reducible refine Below.drew ?_ | with_reducible refine Below.setCell ?_ ?_ _ | (simp; done) | (simp; omega) | omega))
            · refine StepTo.pair HST.out pn (HMO.out.setreg d HML.out) ?_
              first
              | with_reducible exact HMQ.out.setReg dN lk ln lc rfl rfl rfl
              | with_reducible exact (HMQ.out.setReg dN lk ln lc rfl rfl rfl).drew
    case rest =>
      as_aux_lemma =>
        obtain ⟨q, er, M', rfl, rfl, hR, hB, hS⟩ := hcut
        have HRr := Lib.hid hR
        have HBr := Lib.hid hB
        have zc : w.heap.size ≤ wc.heap.size := hB.size
        clear hR hB
        rcases hS with ⟨rfl, hq1, hq2, hmo, hma, hst⟩ | ⟨he, hq, hst⟩
        · have hr2 := HRUN.out
          rw [hst] at hr2
          have HR2 := Lib.hid hr2
          have HMA := Lib.hid hma
          have HMO2 := Lib.hid hmo
          clear hr2 hst hma hmo
          go_wp2_with fail
          go_roundw
          case rel =>
            go_light
            exact ⟨q + 1, st + 1, f, M', by go_num, by go_num, by omega, by omega, by omega, HMO2.out, HR2.out, HMA.out, HRr.out, HBr.out⟩
          case measure => simp [intOf]; omega
        · subst hq
          have hr2 := HRUN.out
          rw [hst] at hr2
          have HR2 := Lib.hid hr2
          have HE := Lib.hid he
          have t0 : (er == 0) = false := by rw [beq_eq_false_iff_ne]; exact he
          have t1 : (er != 0) = true := by rw [bne_iff_ne]; exact he
          clear hr2 hst he
          have zr2 : w.heap.size + 2 < wc.heap.size := HRr.out.lt (by omega)
          have hth : wc.there (w.heap.size + 1 + 1) 0 (Array.size (#[.int .i64 0, .int .i64 0, .int .i64 0, .int .i64 0, .int .i64 0, .int .i64 0, .int .i64 0, .int .i64 0, .int .i64 0, .int .i64 0, .int .i64 0, .int .i64 0, .int .i64 0, .int .i64 0, .int .i64 0, .int .i64 0, .int .i64 0, .slice none 0 0, .int .i64 0] : Array Value)) := fun j hj => ⟨by rw [Nat.zero_add, HRr.out.cell j hj]; rfl, by rw [Nat.zero_add]; exact HRr.out.free j hj⟩
          have HTH := Lib.hid hth
          clear hth
          go_upto_region 33 with fail
          refine wp_region_lit ?_
          refine wpList_build (by rfl) 35 _ (by rfl) #[] (by simp) #[.int .i64 0, .int .i64 0, .int .i64 0, .int .i64 0, .int .i64 0, .int .i64 0, .int .i64 0, .int .i64 0, .int .i64 0, .int .i64 0, .int .i64 0, .int .i64 0, .int .i64 0, .int .i64 0, .int .i64 0, .int .i64 0, .int .i64 0, .slice none 0 0, .int .i64 0] built_ranz ?_
          go_wp2_with (with_reducible refine wpList_store_mid rfl 35 (.tmp 8) (.tmp 214) rfl (w.heap.size + 1 + 1) 0 #[.int .i64 0, .int .i64 0, .int .i64 0, .int .i64 0, .int .i64 0, .int .i64 0, .int .i64 0, .int .i64 0, .int .i64 0, .int .i64 0, .int .i64 0, .int .i64 0, .int .i64 0, .int .i64 0, .int .i64 0, .int .i64 0, .int .i64 0, .slice none 0 0, .int .i64 0] (by simp [go_sem]; done) (by simp [go_sem]; done) (World.there_alloc HTH.out _) size_ranz one_ranz ?_)
          have hld : (loadVar 35 ⟨w.heap.size + 1 + 1, 0, none⟩).run Tryd.prog ((wc.alloc (.cells #[.int .i64 er, .int .i64 q] 85)).setCells (w.heap.size + 1 + 1) 0 [.int .i64 0, .int .i64 0, .int .i64 0, .int .i64 0, .int .i64 0, .int .i64 0, .int .i64 0, .int .i64 0, .int .i64 0, .int .i64 0, .int .i64 0, .int .i64 0, .int .i64 0, .int .i64 0, .int .i64 0, .int .i64 0, .int .i64 0, .slice none 0 0, .int .i64 0]) = .ok (.agg #[.int .i64 0, .int .i64 0, .int .i64 0, .int .i64 0, .int .i64 0, .int .i64 0, .int .i64 0, .int .i64 0, .int .i64 0, .int .i64 0, .int .i64 0, .int .i64 0, .int .i64 0, .int .i64 0, .int .i64 0, .int .i64 0, .int .i64 0, .slice none 0 0, .int .i64 0]) ((wc.alloc (.cells #[.int .i64 er, .int .i64 q] 85)).setCells (w.heap.size + 1 + 1) 0 [.int .i64 0, .int .i64 0, .int .i64 0, .int .i64 0, .int .i64 0, .int .i64 0, .int .i64 0, .int .i64 0, .int .i64 0, .int .i64 0, .int .i64 0, .int .i64 0, .int .i64 0, .int .i64 0, .int .i64 0, .int .i64 0, .int .i64 0, .slice none 0 0, .int .i64 0]) := run_loadVar_mid (P := Tryd.prog) _ (w.heap.size + 1 + 1) 0 35 [.int .i64 0, .int .i64 0, .int .i64 0, .int .i64 0, .int .i64 0, .int .i64 0, .int .i64 0, .int .i64 0, .int .i64 0, .int .i64 0, .int .i64 0, .int .i64 0, .int .i64 0, .int .i64 0, .int .i64 0, .int .i64 0, .int .i64 0, .slice none 0 0, .int .i64 0] _ (World.rangeAt_setCells_same _ (w.heap.size + 1 + 1) 0 [.int .i64 0, .int .i64 0, .int .i64 0, .int .i64 0, .int .i64 0, .int .i64 0, .int .i64 0, .int .i64 0, .int .i64 0, .int .i64 0, .int .i64 0, .int .i64 0, .int .i64 0, .int .i64 0, .int .i64 0, .int .i64 0, .int .i64 0, .slice none 0 0, .int .i64 0] (World.there_alloc HTH.out _)) Tryd.underlying35 rfl size_ran
          refine bodyPost_ret (results_cell_tmp Tryd.results7 (p := ⟨w.heap.size + 1 + 1, 0, none⟩) (by simp [go_sem]) (by simp [go_sem]; rfl) hld) rfl ⟨⟨_, _, rfl, ?_⟩, ?_⟩
          · rw [HR2.out]
            have B := but_setCells (b := w.heap.size + 1 + 1) [.int .i64 0, .int .i64 0, .int .i64 0, .int .i64 0, .int .i64 0, .int .i64 0, .int .i64 0, .int .i64 0, .int .i64 0, .int .i64 0, .int .i64 0, .int .i64 0, .int .i64 0, .int .i64 0, .int .i64 0, .int .i64 0, .int .i64 0, .slice none 0 0, .int .i64 0] 0 (wc.alloc (.cells #[.int .i64 er, .int .i64 q] 85)) _ (But.refl _ _)
            exact ⟨rfl, .inr (.inr ⟨HE.out, wc.heap.size, rfl, B.cell (p := ⟨wc.heap.size, 0, none⟩) (by simp [go_sem]) (by show wc.heap.size ≠ w.heap.size + 1 + 1; omega), B.cell (p := ⟨wc.heap.size, 1, none⟩) (by simp [go_sem]) (by show wc.heap.size ≠ w.heap.size + 1 + 1; omega)⟩), HE.out⟩
          · exact below_setCells (by omega) _ _ _ _ (HBr.out.alloc (by omega) _)
end Go.Proofs.YtfpoicdfkjbknaaDoor.W
