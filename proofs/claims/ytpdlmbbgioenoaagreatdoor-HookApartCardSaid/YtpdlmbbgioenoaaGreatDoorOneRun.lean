/- A part of the proof; each theorem states its conditions. -/
import Derived.BigRegion
import Derived.Outline
import Derived.Test.YtpdlmbbgioenoaaGreatDoorPureRun
import Derived.Deep.AppendLies
import Derived.Deep.Light
import Derived.Deep.RegionLaw
import Derived.Deep.DrawnRows
import Derived.Deep.DeepCutAuto
import Derived.Test.YtpdlmbbgioenoaaGreatDoorMidQuiet
import Derived.Test.YtpdlmbbgioenoaaGreatDoorIs
import Derived.Deep.CutBlock
import Derived.Deep.LoopGhost
set_option linter.unusedSimpArgs false
set_option linter.unusedVariables false
set_option maxRecDepth 100000
namespace Go.Proofs.YtpdlmbbgioenoaaGreatDoor.P
open Go.RowKit
def vcell (v : Val) (k : Nat) : Value := .int .i64 (if k = 0 then v.kind else if k = 1 then v.n else v.cell)
theorem vcell_0 (v : Val) : vcell v 0 = .int .i64 v.kind := rfl
theorem vcell_1 (v : Val) : vcell v 1 = .int .i64 v.n := rfl
theorem vcell_2 (v : Val) : vcell v 2 = .int .i64 v.cell := rfl
def mimg (code : Value) (told : Nat → Int) (time : Int) (out : Value) (M : Mach) : Nat → Value := fun j =>
 if j = 0 then code else if j < 34 then vcell (M.regs ((j - 1) / 3)) ((j - 1) % 3) else if j < 82 then vcell (M.slots ((j - 34) / 3)) ((j - 34) % 3)
 else if j < 90 then .int .i64 (told (j - 82)) else if j < 106 then .int .i64 (M.cells (j - 90)) else if j = 106 then .int .i64 time else out
variable {code : Value} {told : Nat → Int} {time : Int} {out : Value} {M : Mach}
theorem mimg_reg {r k j : Nat} (hr : r < 11) (hk : k < 3) (hj : j = 1 + r * 3 + k) : mimg code told time out M j = vcell (M.regs r) k := by
 subst hj; unfold mimg
 rw [if_neg (by omega), if_pos (by omega), show (1 + r * 3 + k - 1) / 3 = r by omega, show (1 + r * 3 + k - 1) % 3 = k by omega]
theorem mimg_slot {r k j : Nat} (hr : r < 16) (hk : k < 3) (hj : j = 34 + r * 3 + k) : mimg code told time out M j = vcell (M.slots r) k := by
 subst hj; unfold mimg
 rw [if_neg (by omega), if_neg (by omega), if_pos (by omega), show (34 + r * 3 + k - 34) / 3 = r by omega, show (34 + r * 3 + k - 34) % 3 = k by omega]
theorem mimg_told {r j : Nat} (hr : r < 8) (hj : j = 82 + r) : mimg code told time out M j = .int .i64 (told r) := by
 subst hj; unfold mimg
 rw [if_neg (by omega), if_neg (by omega), if_neg (by omega), if_pos (by omega), show 82 + r - 82 = r by omega]
theorem mimg_cells {r j : Nat} (hr : r < 16) (hj : j = 90 + r) : mimg code told time out M j = .int .i64 (M.cells r) := by
 subst hj; unfold mimg
 rw [if_neg (by omega), if_neg (by omega), if_neg (by omega), if_neg (by omega), if_pos (by omega), show 90 + r - 90 = r by omega]
theorem mimg_setreg {r : Nat} (hr : r < 11) (v : Val) : ∀ j, j < 108 → upd (upd (upd (mimg code told time out M) (1 + r * 3) (vcell v 0)) (1 + r * 3 + 1) (vcell v 1)) (1 + r * 3 + 2) (vcell v 2) j =
  mimg code told time out { M with regs := upd M.regs r v } j := by
 intro j hj
 by_cases h2 : j = 1 + r * 3 + 2
 ·rw [mimg_reg hr (by omega : 2 < 3) h2, h2, upd_same]; simp [upd_same]
 by_cases h1 : j = 1 + r * 3 + 1
 ·rw [mimg_reg hr (by omega : 1 < 3) h1, upd_other h2, h1, upd_same]; simp [upd_same]
 by_cases h0 : j = 1 + r * 3
 ·rw [mimg_reg hr (by omega : 0 < 3) h0, upd_other h2, upd_other h1, h0, upd_same]; simp [upd_same]
 rw [upd_other h2, upd_other h1, upd_other h0]
 unfold mimg
 simp only
 split
 ·rfl
 split
 ·rw [upd_other (by omega)]
 ·rfl
theorem mimg_setslot {r : Nat} (hr : r < 16) (v : Val) : ∀ j, j < 108 → upd (upd (upd (mimg code told time out M) (34 + r * 3) (vcell v 0)) (34 + r * 3 + 1) (vcell v 1)) (34 + r * 3 + 2) (vcell v 2) j =
  mimg code told time out { M with slots := upd M.slots r v } j := by
 intro j hj
 by_cases h2 : j = 34 + r * 3 + 2
 ·rw [mimg_slot hr (by omega : 2 < 3) h2, h2, upd_same]; simp [upd_same]
 by_cases h1 : j = 34 + r * 3 + 1
 ·rw [mimg_slot hr (by omega : 1 < 3) h1, upd_other h2, h1, upd_same]; simp [upd_same]
 by_cases h0 : j = 34 + r * 3
 ·rw [mimg_slot hr (by omega : 0 < 3) h0, upd_other h2, upd_other h1, h0, upd_same]; simp [upd_same]
 rw [upd_other h2, upd_other h1, upd_other h0]
 unfold mimg
 simp only
 split
 ·rfl
 split
 ·rfl
 split
 ·rw [upd_other (by omega)]
 ·rfl
theorem mimg_setcell {r : Nat} (hr : r < 16) (n : Int) : ∀ j, j < 108 → upd (mimg code told time out M) (90 + r) (.int .i64 n) j = mimg code told time out { M with cells := upd M.cells r n } j := by
 intro j hj
 by_cases h0 : j = 90 + r
 ·rw [mimg_cells hr h0, h0, upd_same]; simp [upd_same]
 rw [upd_other h0]
 unfold mimg
 simp only
 split
 ·rfl
 split
 ·rfl
 split
 ·rfl
 split
 ·rfl
 split
 ·rw [upd_other (by omega)]
 ·rfl
theorem mimg_setout (v : Value) (l : List Int) : ∀ j, j < 108 → upd (mimg code told time out M) 107 v j = mimg code told time v { M with out := l } j := by
 intro j hj
 by_cases h0 : j = 107
 ·subst h0; rw [upd_same]; rfl
 rw [upd_other h0]
 unfold mimg
 simp only
 repeat' split
 all_goals first | rfl | omega
theorem Img.setReg {w : World} {b : Nat} (h : Img w b 108 (mimg code told time out M)) {r i0 i1 i2 : Nat} (hr : r < 11) (k n c : Int) (e0 : i0 = 1 + r * 3) (e1 : i1 = 1 + r * 3 + 1) (e2 : i2 = 1 + r * 3 + 2) :
  Img (((w.setCell ⟨b, i0, none⟩ (.int .i64 k)).setCell ⟨b, i1, none⟩ (.int .i64 n)).setCell ⟨b, i2, none⟩ (.int .i64 c)) b 108 (mimg code told time out { M with regs := upd M.regs r ⟨k, n, c⟩ }) := by
 subst e0 e1 e2
 exact (((h.set (j := 1 + r * 3) (by omega) (vcell ⟨k, n, c⟩ 0)).set (j := 1 + r * 3 + 1) (by omega) (vcell ⟨k, n, c⟩ 1)).set (j := 1 + r * 3 + 2) (by omega) (vcell ⟨k, n, c⟩ 2)).congr (mimg_setreg hr ⟨k, n, c⟩)
theorem Img.setRegN {w : World} {b : Nat} (h : Img w b 108 (mimg code told time out M)) {r i : Nat} (hr : r < 11) (n : Int) (e : i = 1 + r * 3 + 1) :
  Img (w.setCell ⟨b, i, none⟩ (.int .i64 n)) b 108 (mimg code told time out { M with regs := upd M.regs r ⟨(M.regs r).kind, n, (M.regs r).cell⟩ }) := by
 subst e
 refine (h.set (j := 1 + r * 3 + 1) (by omega) _).congr fun j hj => ?_
 rw [← mimg_setreg hr ⟨(M.regs r).kind, n, (M.regs r).cell⟩ j hj]
 by_cases h1 : j = 1 + r * 3 + 1
 ·rw [h1, upd_same, upd_other (by omega), upd_same]; rfl
 rw [upd_other h1]
 by_cases h2 : j = 1 + r * 3 + 2
 ·rw [h2, upd_same, mimg_reg hr (by omega : 2 < 3) rfl]; rfl
 by_cases h0 : j = 1 + r * 3
 ·rw [h0, upd_other (by omega), upd_other (by omega), upd_same, mimg_reg hr (by omega : 0 < 3) (by omega)]; rfl
 rw [upd_other h2, upd_other h1, upd_other h0]
theorem Img.setOut {w : World} {b : Nat} (h : Img w b 108 (mimg code told time out M)) (v : Value) (l : List Int) :
  Img (w.setCell ⟨b, 107, none⟩ v) b 108 (mimg code told time v { M with out := l }) := (h.set (j := 107) (by omega) v).congr (mimg_setout v l)
theorem upd_upd {α : Type} (f : Nat → α) (i : Nat) (u v : α) : upd (upd f i u) i v = upd f i v := by
 funext j; by_cases h : j = i
 ·subst h; rw [upd_same, upd_same]
 ·rw [upd_other h, upd_other h, upd_other h]
end Go.Proofs.YtpdlmbbgioenoaaGreatDoor.P
namespace Go.Proofs.YtpdlmbbgioenoaaGreatDoor.W
open Go.RowKit Go.Proofs.YtpdlmbbgioenoaaGreatDoor.P
set_option maxHeartbeats 400000 in
theorem Second_reg (b : Nat) (code : Value) (told : Nat → Int) (time : Int) (out : Value) (M : Mach) (w : World) (hI : Img w b 108 (mimg code told time out M)) (c d : Int) (k : Nat) (hk : k < 11) (o n : Int) :
  Calls Tryz.prog 68 #[.pointer (some ⟨b, 0, none⟩), .agg #[.int .i64 c, .int .i64 d, .int .i64 k, .bool true, .int .i64 o, .int .i64 n]] w fun e w' =>
   e = .returned (.agg #[.int .i64 (M.regs k).kind, .int .i64 (M.regs k).n, .int .i64 (M.regs k).cell]) ∧ Below w.heap.size w w' := by
 have HW0 := Lib.hid (Below.refl w.heap.size w)
 have hlt := hI.lt (by omega)
 have i0 : (0 : Int) ≤ (k : Int) := by omega
 have i1 : (k : Int) < 11 := by omega
 have c0 := (hI.cell (1 + k * 3) (by omega)).trans (congrArg some (mimg_reg hk (by omega : 0 < 3) (by omega)))
 have c1 := (hI.cell (1 + k * 3 + 1) (by omega)).trans (congrArg some (mimg_reg hk (by omega : 1 < 3) (by omega)))
 have c2 := (hI.cell (1 + k * 3 + 2) (by omega)).trans (congrArg some (mimg_reg hk (by omega : 2 < 3) (by omega)))
 rw [vcell_0] at c0; rw [vcell_1] at c1; rw [vcell_2] at c2
 have HI := Lib.hid hI
 clear hI
 go_enter Tryz.func68, Tryz.ntmps68
 go_wp2_with fail
 go_region
 all_goals
  go_wp2_with fail
  refine bodyPost_ret ?_ rfl ⟨rfl, (by repeat' (first | with_reducible (first | exact HW0.out | apply bR | apply bD | apply bN | apply bA | apply bS) | (simp; done) | (simp; omega) | omega))⟩
  simp [results, Tryz.results68, go_sem]
set_option maxHeartbeats 400000 in
theorem Second_num (p : Value) (w : World) (c d k o n : Int) :
  Calls Tryz.prog 68 #[p, .agg #[.int .i64 c, .int .i64 d, .int .i64 k, .bool false, .int .i64 o, .int .i64 n]] w fun e w' =>
   e = .returned (.agg #[.int .i64 1, .int .i64 n, .int .i64 0]) ∧ Below w.heap.size w w' := by
 have HW0 := Lib.hid (Below.refl w.heap.size w)
 go_enter Tryz.func68, Tryz.ntmps68
 go_wp2_with fail
 refine bodyPost_ret ?_ rfl ⟨rfl, (by repeat' (first | with_reducible (first | exact HW0.out | apply bR | apply bD | apply bN | apply bA | apply bS) | (simp; done) | (simp; omega) | omega))⟩
 simp [results, Tryz.results68, go_sem]
end Go.Proofs.YtpdlmbbgioenoaaGreatDoor.W
namespace Go.Proofs.YtpdlmbbgioenoaaGreatDoor.W
open Go.RowKit Go.Proofs.YtpdlmbbgioenoaaGreatDoor.P
set_option maxHeartbeats 4000000 in
theorem Far_any (v : Val) (o : Int) (hk : v.kind = 0 ∨ v.kind = 1 ∨ v.kind = 2 ∨ v.kind = 3 ∨ v.kind = 4) (w : World) :
  Calls Tryz.prog 120 #[.agg #[.int .i64 v.kind, .int .i64 v.n, .int .i64 v.cell], .int .i64 o] w fun e w' => e = .returned (.tuple #[.int .i64 (P.far v o).1, .int .i64 (P.far v o).2]) ∧ Below w.heap.size w w' := by
 have HW0 := Lib.hid (Below.refl w.heap.size w)
 obtain ⟨kind, n, cell⟩ := v
 simp only at hk
 unfold P.far low high
 simp only
 rcases hk with rfl | rfl | rfl | rfl | rfl
 all_goals
  simp only [show ¬ (1 : Int) = 0 by decide, show ¬ (2 : Int) = 0 by decide, show ¬ (3 : Int) = 0 by decide, show ¬ (4 : Int) = 0 by decide, show ¬ (2 : Int) = 1 by decide, show ¬ (3 : Int) = 1 by decide, show ¬ (4 : Int) = 1 by decide, show ¬ (2 : Int) = 3 by decide, show ¬ (4 : Int) = 3 by decide, show ¬ (2 : Int) = 4 by decide, show ¬ (3 : Int) = 4 by decide, if_true, if_false]
 all_goals
  (try generalize hw : wrap64 (n + o) = k)
  go_enter Tryz.func120, Tryz.ntmps120
  go_wp2_with fail
 all_goals
  go_ret2
  refine ⟨?_, (by repeat' (first | with_reducible (first | exact HW0.out | apply bR | apply bD | apply bN | apply bA | apply bS) | (simp; done) | (simp; omega) | omega))⟩
  first | rfl | (rw [if_pos (by omega)]) | (rw [if_neg (by omega)])
set_option maxHeartbeats 4000000 in
theorem Counts_any (c ka na ca kb nb cb : Int) (w : World) :
  Calls Tryz.prog 70 #[.int .i64 c, .agg #[.int .i64 ka, .int .i64 na, .int .i64 ca], .agg #[.int .i64 kb, .int .i64 nb, .int .i64 cb]] w fun e w' =>
   e = .returned (.tuple #[.agg #[.int .i64 (vcounts c ⟨ka, na, ca⟩ ⟨kb, nb, cb⟩).1.kind, .int .i64 (vcounts c ⟨ka, na, ca⟩ ⟨kb, nb, cb⟩).1.n, .int .i64 (vcounts c ⟨ka, na, ca⟩ ⟨kb, nb, cb⟩).1.cell], .int .i64 (vcounts c ⟨ka, na, ca⟩ ⟨kb, nb, cb⟩).2]) ∧ Below w.heap.size w w' := by
 have HW0 := Lib.hid (Below.refl w.heap.size w)
 unfold vcounts Val.none Val.num
 simp only
 by_cases b0 : kb = 0 <;> by_cases a0 : ka = 0 <;> by_cases c1 : c = 1 <;> by_cases a1 : ka = 1 <;> by_cases b1 : kb = 1 <;> by_cases c2 : c = 2 <;> by_cases c3 : c = 3
 all_goals (first | (exfalso; omega) | skip)
 all_goals
  simp only [b0, a0, c1, a1, b1, c2, c3, true_or, or_true, false_or, or_false, true_and, and_true, false_and, and_false, not_true, not_false_iff, if_true, if_false, ne_eq]
 all_goals (try subst b0); (try subst a0); (try subst c1); (try subst a1); (try subst b1); (try subst c2); (try subst c3)
 all_goals
  go_enter Tryz.func70, Tryz.ntmps70
  go_wp2_with (go_at_call 121; refine (Does_any _ _ _ _).mono ?_; rintro e w' ⟨rfl, rfl⟩)
 all_goals
  first
  | (exfalso; simp_all; done)
  | (refine bodyPost_ret ?_ rfl ⟨rfl, (by repeat' (first | with_reducible (first | exact HW0.out | apply bR | apply bD | apply bN | apply bA | apply bS) | (simp; done) | (simp; omega) | omega))⟩; simp [results, Tryz.results70, go_sem]; done)
end Go.Proofs.YtpdlmbbgioenoaaGreatDoor.W
namespace Go.Proofs.YtpdlmbbgioenoaaGreatDoor.W
open Go.RowKit Go.Proofs.YtpdlmbbgioenoaaGreatDoor.P
theorem far_ok {v : Val} {o : Int} (h : (P.far v o).2 = 0) (hk : v.kind ≠ 0 ∧ v.kind ≠ 1) : low v.kind ≤ (P.far v o).1 ∧ (P.far v o).1 ≤ high v.kind := by
 unfold P.far at *
 rw [if_neg hk.1, if_neg hk.2] at *
 split at h
 ·simp at h
 ·rename_i h'; rw [if_neg h']; simp only; omega
theorem far_kind {v : Val} {o : Int} (h : (P.far v o).2 = 0) : v.kind ≠ 0 ∧ v.kind ≠ 1 := by
 unfold P.far at h
 constructor <;> (intro e; simp [e] at h)
set_option maxHeartbeats 1000000 in
theorem Load_err (b : Nat) (told : Nat → Int) (M : Mach) (w : World) (v : Val) (hv : VOk v) (o k er : Int) (hke : P.far v o = (k, er)) (he : er ≠ 0) :
  Calls Tryz.prog 66 #[.pointer (some ⟨b, 0, none⟩), .agg #[.int .i64 v.kind, .int .i64 v.n, .int .i64 v.cell], .int .i64 o] w fun e w' =>
   e = .returned (.tuple #[.agg #[.int .i64 0, .int .i64 0, .int .i64 0], .int .i64 er]) ∧ Below w.heap.size w w' := by
 have HW0 := Lib.hid (Below.refl w.heap.size w)
 have HK := Lib.hid hke
 clear hke
 have he2 : (er == 0) = false := by rw [beq_eq_false_iff_ne]; exact he
 go_enter Tryz.func66, Tryz.ntmps66
 go_wp2_with fail
 refine (Far_any v o hv.1 _).mono ?_
 rw [HK.out]
 (rintro e w1 ⟨rfl, hb⟩; obtain ⟨hc1, hf1⟩ := bcell hb; have hz1 := hb.size; (try simp at hz1); have HW1 := Lib.hid (show Below w.heap.size w w1 from Below.trans (by repeat' (first | with_reducible (first | exact HW0.out | apply bR | apply bD | apply bN | apply bA | apply bS) | (simp; done) | (simp; omega) | omega)) (hb.mono (by first | omega | simp <;> omega))); clear hb; (try have z10 : w.heap.size < w1.heap.size := by omega); (try have z11 : w.heap.size + 1 < w1.heap.size := by omega); (try have z12 : w.heap.size + 1 + 1 < w1.heap.size := by omega))
 (have k1_w_heap_size_1_0 : w1.cell? ⟨w.heap.size + 1, 0, none⟩ = some (.int .i64 0) := (by rw [hc1 _ _ (by first | omega | simp <;> omega)]; first | (simp [go_sem]; done) | assumption | (simp [go_sem, *]; done)); have r1_w_heap_size_1_0 : w1.frozen? ⟨w.heap.size + 1, 0, none⟩ = false := (by rw [hf1 _ _ (by first | omega | simp <;> omega)]; first | (simp [go_sem]; done) | assumption | (simp [go_sem, *]; done)); have k1_w_heap_size_1_1 : w1.cell? ⟨w.heap.size + 1, 1, none⟩ = some (.int .i64 0) := (by rw [hc1 _ _ (by first | omega | simp <;> omega)]; first | (simp [go_sem]; done) | assumption | (simp [go_sem, *]; done)); have r1_w_heap_size_1_1 : w1.frozen? ⟨w.heap.size + 1, 1, none⟩ = false := (by rw [hf1 _ _ (by first | omega | simp <;> omega)]; first | (simp [go_sem]; done) | assumption | (simp [go_sem, *]; done)); have k1_w_heap_size_1_2 : w1.cell? ⟨w.heap.size + 1, 2, none⟩ = some (.int .i64 0) := (by rw [hc1 _ _ (by first | omega | simp <;> omega)]; first | (simp [go_sem]; done) | assumption | (simp [go_sem, *]; done)); have r1_w_heap_size_1_2 : w1.frozen? ⟨w.heap.size + 1, 2, none⟩ = false := (by rw [hf1 _ _ (by first | omega | simp <;> omega)]; first | (simp [go_sem]; done) | assumption | (simp [go_sem, *]; done)))
 clear hc1 hf1
 go_wp2_with fail
 refine bodyPost_ret ?_ rfl ⟨rfl, (by repeat' (first | with_reducible (first | exact HW1.out | apply bR | apply bD | apply bN | apply bA | apply bS) | (simp; done) | (simp; omega) | omega))⟩
 simp [results, Tryz.results66, go_sem, *]
set_option maxHeartbeats 1000000 in
theorem Load_ctx (b : Nat) (code : Value) (told : Nat → Int) (time : Int) (out : Value) (M : Mach) (w : World) (hI : Img w b 108 (mimg code told time out M)) (n cell o : Int) (q : Nat) (hq : q < 8) (hke : P.far ⟨2, n, cell⟩ o = ((q : Int), 0)) :
  Calls Tryz.prog 66 #[.pointer (some ⟨b, 0, none⟩), .agg #[.int .i64 2, .int .i64 n, .int .i64 cell], .int .i64 o] w fun e w' =>
   e = .returned (.tuple #[.agg #[.int .i64 1, .int .i64 (told q), .int .i64 0], .int .i64 0]) ∧ Below w.heap.size w w' := by
 have HW0 := Lib.hid (Below.refl w.heap.size w)
 have hlt := hI.lt (by omega)
 have q7 : (q : Int) < 8 := by omega
 have HI := Lib.hid hI
 have HK := Lib.hid hke
 clear hI hke
 go_enter Tryz.func66, Tryz.ntmps66
 go_wp2_with fail
 refine (Far_any ⟨2, n, cell⟩ o (by simp) _).mono ?_
 rw [HK.out]
 (rintro e w1 ⟨rfl, hb⟩; obtain ⟨hc1, hf1⟩ := bcell hb; have hz1 := hb.size; (try simp at hz1); have HW1 := Lib.hid (show Below w.heap.size w w1 from Below.trans (by repeat' (first | with_reducible (first | exact HW0.out | apply bR | apply bD | apply bN | apply bA | apply bS) | (simp; done) | (simp; omega) | omega)) (hb.mono (by first | omega | simp <;> omega))); clear hb; (try have z10 : w.heap.size < w1.heap.size := by omega); (try have z11 : w.heap.size + 1 < w1.heap.size := by omega); (try have z12 : w.heap.size + 1 + 1 < w1.heap.size := by omega))
 (have k1_w_heap_size_0 : w1.cell? ⟨w.heap.size, 0, none⟩ = some (.int .i64 2) := (by rw [hc1 _ _ (by first | omega | simp <;> omega)]; first | (simp [go_sem]; done) | assumption | (simp [go_sem, *]; done)); have r1_w_heap_size_0 : w1.frozen? ⟨w.heap.size, 0, none⟩ = false := (by rw [hf1 _ _ (by first | omega | simp <;> omega)]; first | (simp [go_sem]; done) | assumption | (simp [go_sem, *]; done)); have k1_w_heap_size_1 : w1.cell? ⟨w.heap.size, 1, none⟩ = some (.int .i64 n) := (by rw [hc1 _ _ (by first | omega | simp <;> omega)]; first | (simp [go_sem]; done) | assumption | (simp [go_sem, *]; done)); have r1_w_heap_size_1 : w1.frozen? ⟨w.heap.size, 1, none⟩ = false := (by rw [hf1 _ _ (by first | omega | simp <;> omega)]; first | (simp [go_sem]; done) | assumption | (simp [go_sem, *]; done)); have k1_w_heap_size_2 : w1.cell? ⟨w.heap.size, 2, none⟩ = some (.int .i64 cell) := (by rw [hc1 _ _ (by first | omega | simp <;> omega)]; first | (simp [go_sem]; done) | assumption | (simp [go_sem, *]; done)); have r1_w_heap_size_2 : w1.frozen? ⟨w.heap.size, 2, none⟩ = false := (by rw [hf1 _ _ (by first | omega | simp <;> omega)]; first | (simp [go_sem]; done) | assumption | (simp [go_sem, *]; done)))
 (have k1_w_heap_size_1_0 : w1.cell? ⟨w.heap.size + 1, 0, none⟩ = some (.int .i64 0) := (by rw [hc1 _ _ (by first | omega | simp <;> omega)]; first | (simp [go_sem]; done) | assumption | (simp [go_sem, *]; done)); have r1_w_heap_size_1_0 : w1.frozen? ⟨w.heap.size + 1, 0, none⟩ = false := (by rw [hf1 _ _ (by first | omega | simp <;> omega)]; first | (simp [go_sem]; done) | assumption | (simp [go_sem, *]; done)); have k1_w_heap_size_1_1 : w1.cell? ⟨w.heap.size + 1, 1, none⟩ = some (.int .i64 0) := (by rw [hc1 _ _ (by first | omega | simp <;> omega)]; first | (simp [go_sem]; done) | assumption | (simp [go_sem, *]; done)); have r1_w_heap_size_1_1 : w1.frozen? ⟨w.heap.size + 1, 1, none⟩ = false := (by rw [hf1 _ _ (by first | omega | simp <;> omega)]; first | (simp [go_sem]; done) | assumption | (simp [go_sem, *]; done)); have k1_w_heap_size_1_2 : w1.cell? ⟨w.heap.size + 1, 2, none⟩ = some (.int .i64 0) := (by rw [hc1 _ _ (by first | omega | simp <;> omega)]; first | (simp [go_sem]; done) | assumption | (simp [go_sem, *]; done)); have r1_w_heap_size_1_2 : w1.frozen? ⟨w.heap.size + 1, 2, none⟩ = false := (by rw [hf1 _ _ (by first | omega | simp <;> omega)]; first | (simp [go_sem]; done) | assumption | (simp [go_sem, *]; done)))
 have c1 : w1.cell? ⟨b, 82 + q, none⟩ = some (.int .i64 (told q)) := ((HI.out.later HW1.out hlt).cell _ (by omega)).trans (congrArg some (mimg_told hq (by omega)))
 clear hc1 hf1
 go_wp2_with fail
 refine bodyPost_ret ?_ rfl ⟨rfl, (by repeat' (first | with_reducible (first | exact HW1.out | apply bR | apply bD | apply bN | apply bA | apply bS) | (simp; done) | (simp; omega) | omega))⟩
 simp [results, Tryz.results66, go_sem, *]
set_option maxHeartbeats 1000000 in
theorem Load_cell (b : Nat) (code : Value) (told : Nat → Int) (time : Int) (out : Value) (M : Mach) (w : World) (hI : Img w b 108 (mimg code told time out M)) (n o : Int) (cell q : Nat) (hc : cell < 4) (hq : q < 4) (hke : P.far ⟨4, n, cell⟩ o = ((q : Int), 0)) :
  Calls Tryz.prog 66 #[.pointer (some ⟨b, 0, none⟩), .agg #[.int .i64 4, .int .i64 n, .int .i64 cell], .int .i64 o] w fun e w' =>
   e = .returned (.tuple #[.agg #[.int .i64 1, .int .i64 (M.cells (cell * 4 + q)), .int .i64 0], .int .i64 0]) ∧ Below w.heap.size w w' := by
 have HW0 := Lib.hid (Below.refl w.heap.size w)
 have hlt := hI.lt (by omega)
 have q7 : (q : Int) < 4 := by omega
 have q8 : (cell : Int) < 4 := by omega
 have HI := Lib.hid hI
 have HK := Lib.hid hke
 clear hI hke
 go_enter Tryz.func66, Tryz.ntmps66
 go_wp2_with fail
 refine (Far_any ⟨4, n, cell⟩ o (by simp) _).mono ?_
 rw [HK.out]
 (rintro e w1 ⟨rfl, hb⟩; obtain ⟨hc1, hf1⟩ := bcell hb; have hz1 := hb.size; (try simp at hz1); have HW1 := Lib.hid (show Below w.heap.size w w1 from Below.trans (by repeat' (first | with_reducible (first | exact HW0.out | apply bR | apply bD | apply bN | apply bA | apply bS) | (simp; done) | (simp; omega) | omega)) (hb.mono (by first | omega | simp <;> omega))); clear hb; (try have z10 : w.heap.size < w1.heap.size := by omega); (try have z11 : w.heap.size + 1 < w1.heap.size := by omega); (try have z12 : w.heap.size + 1 + 1 < w1.heap.size := by omega))
 (have k1_w_heap_size_0 : w1.cell? ⟨w.heap.size, 0, none⟩ = some (.int .i64 4) := (by rw [hc1 _ _ (by first | omega | simp <;> omega)]; first | (simp [go_sem]; done) | assumption | (simp [go_sem, *]; done)); have r1_w_heap_size_0 : w1.frozen? ⟨w.heap.size, 0, none⟩ = false := (by rw [hf1 _ _ (by first | omega | simp <;> omega)]; first | (simp [go_sem]; done) | assumption | (simp [go_sem, *]; done)); have k1_w_heap_size_1 : w1.cell? ⟨w.heap.size, 1, none⟩ = some (.int .i64 n) := (by rw [hc1 _ _ (by first | omega | simp <;> omega)]; first | (simp [go_sem]; done) | assumption | (simp [go_sem, *]; done)); have r1_w_heap_size_1 : w1.frozen? ⟨w.heap.size, 1, none⟩ = false := (by rw [hf1 _ _ (by first | omega | simp <;> omega)]; first | (simp [go_sem]; done) | assumption | (simp [go_sem, *]; done)); have k1_w_heap_size_2 : w1.cell? ⟨w.heap.size, 2, none⟩ = some (.int .i64 cell) := (by rw [hc1 _ _ (by first | omega | simp <;> omega)]; first | (simp [go_sem]; done) | assumption | (simp [go_sem, *]; done)); have r1_w_heap_size_2 : w1.frozen? ⟨w.heap.size, 2, none⟩ = false := (by rw [hf1 _ _ (by first | omega | simp <;> omega)]; first | (simp [go_sem]; done) | assumption | (simp [go_sem, *]; done)))
 (have k1_w_heap_size_1_0 : w1.cell? ⟨w.heap.size + 1, 0, none⟩ = some (.int .i64 0) := (by rw [hc1 _ _ (by first | omega | simp <;> omega)]; first | (simp [go_sem]; done) | assumption | (simp [go_sem, *]; done)); have r1_w_heap_size_1_0 : w1.frozen? ⟨w.heap.size + 1, 0, none⟩ = false := (by rw [hf1 _ _ (by first | omega | simp <;> omega)]; first | (simp [go_sem]; done) | assumption | (simp [go_sem, *]; done)); have k1_w_heap_size_1_1 : w1.cell? ⟨w.heap.size + 1, 1, none⟩ = some (.int .i64 0) := (by rw [hc1 _ _ (by first | omega | simp <;> omega)]; first | (simp [go_sem]; done) | assumption | (simp [go_sem, *]; done)); have r1_w_heap_size_1_1 : w1.frozen? ⟨w.heap.size + 1, 1, none⟩ = false := (by rw [hf1 _ _ (by first | omega | simp <;> omega)]; first | (simp [go_sem]; done) | assumption | (simp [go_sem, *]; done)); have k1_w_heap_size_1_2 : w1.cell? ⟨w.heap.size + 1, 2, none⟩ = some (.int .i64 0) := (by rw [hc1 _ _ (by first | omega | simp <;> omega)]; first | (simp [go_sem]; done) | assumption | (simp [go_sem, *]; done)); have r1_w_heap_size_1_2 : w1.frozen? ⟨w.heap.size + 1, 2, none⟩ = false := (by rw [hf1 _ _ (by first | omega | simp <;> omega)]; first | (simp [go_sem]; done) | assumption | (simp [go_sem, *]; done)))
 have c1 : w1.cell? ⟨b, 90 + cell * 4 + q, none⟩ = some (.int .i64 (M.cells (cell * 4 + q))) := ((HI.out.later HW1.out hlt).cell _ (by omega)).trans (congrArg some (mimg_cells (by omega : cell * 4 + q < 16) (by omega)))
 clear hc1 hf1
 go_wp2_with fail
 go_region
 all_goals
  go_wp2_with fail
  refine bodyPost_ret ?_ rfl ⟨rfl, (by repeat' (first | with_reducible (first | exact HW1.out | apply bR | apply bD | apply bN | apply bA | apply bS) | (simp; done) | (simp; omega) | omega))⟩
  simp [results, Tryz.results66, go_sem, *]
set_option maxHeartbeats 1000000 in
theorem Load_slot (b : Nat) (code : Value) (told : Nat → Int) (time : Int) (out : Value) (M : Mach) (w : World) (hI : Img w b 108 (mimg code told time out M)) (n o cell : Int) (q : Nat) (hq : q < 16) (hke : P.far ⟨3, n, cell⟩ o = ((q : Int) - 16, 0)) :
  Calls Tryz.prog 66 #[.pointer (some ⟨b, 0, none⟩), .agg #[.int .i64 3, .int .i64 n, .int .i64 cell], .int .i64 o] w fun e w' =>
   e = .returned (.tuple #[.agg #[.int .i64 (if (M.slots q).kind = 0 then 0 else (M.slots q).kind), .int .i64 (if (M.slots q).kind = 0 then 0 else (M.slots q).n), .int .i64 (if (M.slots q).kind = 0 then 0 else (M.slots q).cell)], .int .i64 (if (M.slots q).kind = 0 then 8 else 0)]) ∧ Below w.heap.size w w' := by
 have HW0 := Lib.hid (Below.refl w.heap.size w)
 have hlt := hI.lt (by omega)
 have q7 : (q : Int) < 16 := by omega
 have HI := Lib.hid hI
 have HK := Lib.hid hke
 clear hI hke
 have e16 : (q : Int) - 16 + 16 = q := by omega
 by_cases hz : (M.slots q).kind = 0
 ·simp only [hz, if_true]
  have hz2 : ((M.slots q).kind == 0) = true := by rw [beq_iff_eq]; exact hz
  clear hz
  go_enter Tryz.func66, Tryz.ntmps66
  go_wp2_with fail
  refine (Far_any ⟨3, n, cell⟩ o (by simp) _).mono ?_
  rw [HK.out]
  (rintro e w1 ⟨rfl, hb⟩; obtain ⟨hc1, hf1⟩ := bcell hb; have hz1 := hb.size; (try simp at hz1); have HW1 := Lib.hid (show Below w.heap.size w w1 from Below.trans (by repeat' (first | with_reducible (first | exact HW0.out | apply bR | apply bD | apply bN | apply bA | apply bS) | (simp; done) | (simp; omega) | omega)) (hb.mono (by first | omega | simp <;> omega))); clear hb; (try have z10 : w.heap.size < w1.heap.size := by omega); (try have z11 : w.heap.size + 1 < w1.heap.size := by omega); (try have z12 : w.heap.size + 1 + 1 < w1.heap.size := by omega))
  (have k1_w_heap_size_0 : w1.cell? ⟨w.heap.size, 0, none⟩ = some (.int .i64 3) := (by rw [hc1 _ _ (by first | omega | simp <;> omega)]; first | (simp [go_sem]; done) | assumption | (simp [go_sem, *]; done)); have r1_w_heap_size_0 : w1.frozen? ⟨w.heap.size, 0, none⟩ = false := (by rw [hf1 _ _ (by first | omega | simp <;> omega)]; first | (simp [go_sem]; done) | assumption | (simp [go_sem, *]; done)); have k1_w_heap_size_1 : w1.cell? ⟨w.heap.size, 1, none⟩ = some (.int .i64 n) := (by rw [hc1 _ _ (by first | omega | simp <;> omega)]; first | (simp [go_sem]; done) | assumption | (simp [go_sem, *]; done)); have r1_w_heap_size_1 : w1.frozen? ⟨w.heap.size, 1, none⟩ = false := (by rw [hf1 _ _ (by first | omega | simp <;> omega)]; first | (simp [go_sem]; done) | assumption | (simp [go_sem, *]; done)); have k1_w_heap_size_2 : w1.cell? ⟨w.heap.size, 2, none⟩ = some (.int .i64 cell) := (by rw [hc1 _ _ (by first | omega | simp <;> omega)]; first | (simp [go_sem]; done) | assumption | (simp [go_sem, *]; done)); have r1_w_heap_size_2 : w1.frozen? ⟨w.heap.size, 2, none⟩ = false := (by rw [hf1 _ _ (by first | omega | simp <;> omega)]; first | (simp [go_sem]; done) | assumption | (simp [go_sem, *]; done)))
  (have k1_w_heap_size_1_0 : w1.cell? ⟨w.heap.size + 1, 0, none⟩ = some (.int .i64 0) := (by rw [hc1 _ _ (by first | omega | simp <;> omega)]; first | (simp [go_sem]; done) | assumption | (simp [go_sem, *]; done)); have r1_w_heap_size_1_0 : w1.frozen? ⟨w.heap.size + 1, 0, none⟩ = false := (by rw [hf1 _ _ (by first | omega | simp <;> omega)]; first | (simp [go_sem]; done) | assumption | (simp [go_sem, *]; done)); have k1_w_heap_size_1_1 : w1.cell? ⟨w.heap.size + 1, 1, none⟩ = some (.int .i64 0) := (by rw [hc1 _ _ (by first | omega | simp <;> omega)]; first | (simp [go_sem]; done) | assumption | (simp [go_sem, *]; done)); have r1_w_heap_size_1_1 : w1.frozen? ⟨w.heap.size + 1, 1, none⟩ = false := (by rw [hf1 _ _ (by first | omega | simp <;> omega)]; first | (simp [go_sem]; done) | assumption | (simp [go_sem, *]; done)); have k1_w_heap_size_1_2 : w1.cell? ⟨w.heap.size + 1, 2, none⟩ = some (.int .i64 0) := (by rw [hc1 _ _ (by first | omega | simp <;> omega)]; first | (simp [go_sem]; done) | assumption | (simp [go_sem, *]; done)); have r1_w_heap_size_1_2 : w1.frozen? ⟨w.heap.size + 1, 2, none⟩ = false := (by rw [hf1 _ _ (by first | omega | simp <;> omega)]; first | (simp [go_sem]; done) | assumption | (simp [go_sem, *]; done)))
  have d0 : w1.cell? ⟨b, 34 + q * 3, none⟩ = some (.int .i64 0) := ((HI.out.later HW1.out hlt).cell _ (by omega)).trans (congrArg some ((mimg_slot hq (by omega : 0 < 3) (by omega)).trans ((vcell_0 _).trans (by rw [beq_iff_eq.1 hz2]))))
  have d1 : w1.cell? ⟨b, 34 + q * 3 + 1, none⟩ = some (.int .i64 (M.slots q).n) := ((HI.out.later HW1.out hlt).cell _ (by omega)).trans (congrArg some ((mimg_slot hq (by omega : 1 < 3) (by omega)).trans (vcell_1 _)))
  have d2 : w1.cell? ⟨b, 34 + q * 3 + 2, none⟩ = some (.int .i64 (M.slots q).cell) := ((HI.out.later HW1.out hlt).cell _ (by omega)).trans (congrArg some ((mimg_slot hq (by omega : 2 < 3) (by omega)).trans (vcell_2 _)))
  clear hc1 hf1
  go_wp2_with fail
  refine bodyPost_ret ?_ rfl ⟨rfl, (by repeat' (first | with_reducible (first | exact HW1.out | apply bR | apply bD | apply bN | apply bA | apply bS) | (simp; done) | (simp; omega) | omega))⟩
  simp [results, Tryz.results66, go_sem, *]
 ·simp only [hz, if_false]
  have hz2 : ((M.slots q).kind == 0) = false := by rw [beq_eq_false_iff_ne]; exact hz
  clear hz
  go_enter Tryz.func66, Tryz.ntmps66
  go_wp2_with fail
  refine (Far_any ⟨3, n, cell⟩ o (by simp) _).mono ?_
  rw [HK.out]
  (rintro e w1 ⟨rfl, hb⟩; obtain ⟨hc1, hf1⟩ := bcell hb; have hz1 := hb.size; (try simp at hz1); have HW1 := Lib.hid (show Below w.heap.size w w1 from Below.trans (by repeat' (first | with_reducible (first | exact HW0.out | apply bR | apply bD | apply bN | apply bA | apply bS) | (simp; done) | (simp; omega) | omega)) (hb.mono (by first | omega | simp <;> omega))); clear hb; (try have z10 : w.heap.size < w1.heap.size := by omega); (try have z11 : w.heap.size + 1 < w1.heap.size := by omega); (try have z12 : w.heap.size + 1 + 1 < w1.heap.size := by omega))
  (have k1_w_heap_size_0 : w1.cell? ⟨w.heap.size, 0, none⟩ = some (.int .i64 3) := (by rw [hc1 _ _ (by first | omega | simp <;> omega)]; first | (simp [go_sem]; done) | assumption | (simp [go_sem, *]; done)); have r1_w_heap_size_0 : w1.frozen? ⟨w.heap.size, 0, none⟩ = false := (by rw [hf1 _ _ (by first | omega | simp <;> omega)]; first | (simp [go_sem]; done) | assumption | (simp [go_sem, *]; done)); have k1_w_heap_size_1 : w1.cell? ⟨w.heap.size, 1, none⟩ = some (.int .i64 n) := (by rw [hc1 _ _ (by first | omega | simp <;> omega)]; first | (simp [go_sem]; done) | assumption | (simp [go_sem, *]; done)); have r1_w_heap_size_1 : w1.frozen? ⟨w.heap.size, 1, none⟩ = false := (by rw [hf1 _ _ (by first | omega | simp <;> omega)]; first | (simp [go_sem]; done) | assumption | (simp [go_sem, *]; done)); have k1_w_heap_size_2 : w1.cell? ⟨w.heap.size, 2, none⟩ = some (.int .i64 cell) := (by rw [hc1 _ _ (by first | omega | simp <;> omega)]; first | (simp [go_sem]; done) | assumption | (simp [go_sem, *]; done)); have r1_w_heap_size_2 : w1.frozen? ⟨w.heap.size, 2, none⟩ = false := (by rw [hf1 _ _ (by first | omega | simp <;> omega)]; first | (simp [go_sem]; done) | assumption | (simp [go_sem, *]; done)))
  (have k1_w_heap_size_1_0 : w1.cell? ⟨w.heap.size + 1, 0, none⟩ = some (.int .i64 0) := (by rw [hc1 _ _ (by first | omega | simp <;> omega)]; first | (simp [go_sem]; done) | assumption | (simp [go_sem, *]; done)); have r1_w_heap_size_1_0 : w1.frozen? ⟨w.heap.size + 1, 0, none⟩ = false := (by rw [hf1 _ _ (by first | omega | simp <;> omega)]; first | (simp [go_sem]; done) | assumption | (simp [go_sem, *]; done)); have k1_w_heap_size_1_1 : w1.cell? ⟨w.heap.size + 1, 1, none⟩ = some (.int .i64 0) := (by rw [hc1 _ _ (by first | omega | simp <;> omega)]; first | (simp [go_sem]; done) | assumption | (simp [go_sem, *]; done)); have r1_w_heap_size_1_1 : w1.frozen? ⟨w.heap.size + 1, 1, none⟩ = false := (by rw [hf1 _ _ (by first | omega | simp <;> omega)]; first | (simp [go_sem]; done) | assumption | (simp [go_sem, *]; done)); have k1_w_heap_size_1_2 : w1.cell? ⟨w.heap.size + 1, 2, none⟩ = some (.int .i64 0) := (by rw [hc1 _ _ (by first | omega | simp <;> omega)]; first | (simp [go_sem]; done) | assumption | (simp [go_sem, *]; done)); have r1_w_heap_size_1_2 : w1.frozen? ⟨w.heap.size + 1, 2, none⟩ = false := (by rw [hf1 _ _ (by first | omega | simp <;> omega)]; first | (simp [go_sem]; done) | assumption | (simp [go_sem, *]; done)))
  have d0 : w1.cell? ⟨b, 34 + q * 3, none⟩ = some (.int .i64 (M.slots q).kind) := ((HI.out.later HW1.out hlt).cell _ (by omega)).trans (congrArg some ((mimg_slot hq (by omega : 0 < 3) (by omega)).trans (vcell_0 _)))
  have d1 : w1.cell? ⟨b, 34 + q * 3 + 1, none⟩ = some (.int .i64 (M.slots q).n) := ((HI.out.later HW1.out hlt).cell _ (by omega)).trans (congrArg some ((mimg_slot hq (by omega : 1 < 3) (by omega)).trans (vcell_1 _)))
  have d2 : w1.cell? ⟨b, 34 + q * 3 + 2, none⟩ = some (.int .i64 (M.slots q).cell) := ((HI.out.later HW1.out hlt).cell _ (by omega)).trans (congrArg some ((mimg_slot hq (by omega : 2 < 3) (by omega)).trans (vcell_2 _)))
  clear hc1 hf1
  go_wp2_with fail
  refine bodyPost_ret ?_ rfl ⟨rfl, (by repeat' (first | with_reducible (first | exact HW1.out | apply bR | apply bD | apply bN | apply bA | apply bS) | (simp; done) | (simp; omega) | omega))⟩
  simp [results, Tryz.results66, go_sem, *]
end Go.Proofs.YtpdlmbbgioenoaaGreatDoor.W
namespace Go.Proofs.YtpdlmbbgioenoaaGreatDoor.W
open Go.RowKit Go.Proofs.YtpdlmbbgioenoaaGreatDoor.P
set_option maxHeartbeats 1000000 in
theorem Store_same (b : Nat) (w : World) (v x : Val) (hv : VOk v) (o k er r : Int) (hke : P.far v o = (k, er))
  (h : (er ≠ 0 ∧ r = er) ∨ (er = 0 ∧ v.kind = 2 ∧ r = 6) ∨ (er = 0 ∧ v.kind ≠ 2 ∧ x.kind = 0 ∧ r = 8) ∨ (er = 0 ∧ v.kind ≠ 2 ∧ x.kind ≠ 0 ∧ v.kind ≠ 3 ∧ x.kind ≠ 1 ∧ r = 1)) :
  Calls Tryz.prog 67 #[.pointer (some ⟨b, 0, none⟩), .agg #[.int .i64 v.kind, .int .i64 v.n, .int .i64 v.cell], .int .i64 o, .agg #[.int .i64 x.kind, .int .i64 x.n, .int .i64 x.cell]] w fun e w' =>
   e = .returned (.int .i64 r) ∧ Below w.heap.size w w' := by
 have HW0 := Lib.hid (Below.refl w.heap.size w)
 have HK := Lib.hid hke
 clear hke
 rcases h with ⟨h1, rfl⟩ | ⟨rfl, h2, rfl⟩ | ⟨rfl, h2, h3, rfl⟩ | ⟨rfl, h2, h3, h4, h5, rfl⟩
 ·have he2 : (r == 0) = false := by rw [beq_eq_false_iff_ne]; exact h1
  go_enter Tryz.func67, Tryz.ntmps67
  go_wp2_with fail
  refine (Far_any v o hv.1 _).mono ?_
  rw [HK.out]
  (rintro e w1 ⟨rfl, hb⟩; obtain ⟨hc1, hf1⟩ := bcell hb; have hz1 := hb.size; (try simp at hz1); have HW1 := Lib.hid (show Below w.heap.size w w1 from Below.trans (by repeat' (first | with_reducible (first | exact HW0.out | apply bR | apply bD | apply bN | apply bA | apply bS) | (simp; done) | (simp; omega) | omega)) (hb.mono (by first | omega | simp <;> omega))); clear hb; (try have z10 : w.heap.size < w1.heap.size := by omega); (try have z11 : w.heap.size + 1 < w1.heap.size := by omega); (try have z12 : w.heap.size + 1 + 1 < w1.heap.size := by omega))
  clear hc1 hf1
  go_wp2_with fail
  go_ret
  exact ⟨rfl, (by repeat' (first | with_reducible (first | exact HW1.out | apply bR | apply bD | apply bN | apply bA | apply bS) | (simp; done) | (simp; omega) | omega))⟩
 ·have e2 : (v.kind == 2) = true := by rw [beq_iff_eq]; exact h2
  clear h2
  go_enter Tryz.func67, Tryz.ntmps67
  go_wp2_with fail
  refine (Far_any v o hv.1 _).mono ?_
  rw [HK.out]
  (rintro e w1 ⟨rfl, hb⟩; obtain ⟨hc1, hf1⟩ := bcell hb; have hz1 := hb.size; (try simp at hz1); have HW1 := Lib.hid (show Below w.heap.size w w1 from Below.trans (by repeat' (first | with_reducible (first | exact HW0.out | apply bR | apply bD | apply bN | apply bA | apply bS) | (simp; done) | (simp; omega) | omega)) (hb.mono (by first | omega | simp <;> omega))); clear hb; (try have z10 : w.heap.size < w1.heap.size := by omega); (try have z11 : w.heap.size + 1 < w1.heap.size := by omega); (try have z12 : w.heap.size + 1 + 1 < w1.heap.size := by omega))
  (have k1_w_heap_size_0 : w1.cell? ⟨w.heap.size, 0, none⟩ = some (.int .i64 v.kind) := (by rw [hc1 _ _ (by first | omega | simp <;> omega)]; first | (simp [go_sem]; done) | assumption | (simp [go_sem, *]; done)); have r1_w_heap_size_0 : w1.frozen? ⟨w.heap.size, 0, none⟩ = false := (by rw [hf1 _ _ (by first | omega | simp <;> omega)]; first | (simp [go_sem]; done) | assumption | (simp [go_sem, *]; done)); have k1_w_heap_size_1 : w1.cell? ⟨w.heap.size, 1, none⟩ = some (.int .i64 v.n) := (by rw [hc1 _ _ (by first | omega | simp <;> omega)]; first | (simp [go_sem]; done) | assumption | (simp [go_sem, *]; done)); have r1_w_heap_size_1 : w1.frozen? ⟨w.heap.size, 1, none⟩ = false := (by rw [hf1 _ _ (by first | omega | simp <;> omega)]; first | (simp [go_sem]; done) | assumption | (simp [go_sem, *]; done)); have k1_w_heap_size_2 : w1.cell? ⟨w.heap.size, 2, none⟩ = some (.int .i64 v.cell) := (by rw [hc1 _ _ (by first | omega | simp <;> omega)]; first | (simp [go_sem]; done) | assumption | (simp [go_sem, *]; done)); have r1_w_heap_size_2 : w1.frozen? ⟨w.heap.size, 2, none⟩ = false := (by rw [hf1 _ _ (by first | omega | simp <;> omega)]; first | (simp [go_sem]; done) | assumption | (simp [go_sem, *]; done)))
  clear hc1 hf1
  go_wp2_with fail
  go_ret
  exact ⟨rfl, (by repeat' (first | with_reducible (first | exact HW1.out | apply bR | apply bD | apply bN | apply bA | apply bS) | (simp; done) | (simp; omega) | omega))⟩
 ·have e2 : (v.kind == 2) = false := by rw [beq_eq_false_iff_ne]; exact h2
  have e3 : (x.kind == 0) = true := by rw [beq_iff_eq]; exact h3
  clear h2 h3
  go_enter Tryz.func67, Tryz.ntmps67
  go_wp2_with fail
  refine (Far_any v o hv.1 _).mono ?_
  rw [HK.out]
  (rintro e w1 ⟨rfl, hb⟩; obtain ⟨hc1, hf1⟩ := bcell hb; have hz1 := hb.size; (try simp at hz1); have HW1 := Lib.hid (show Below w.heap.size w w1 from Below.trans (by repeat' (first | with_reducible (first | exact HW0.out | apply bR | apply bD | apply bN | apply bA | apply bS) | (simp; done) | (simp; omega) | omega)) (hb.mono (by first | omega | simp <;> omega))); clear hb; (try have z10 : w.heap.size < w1.heap.size := by omega); (try have z11 : w.heap.size + 1 < w1.heap.size := by omega); (try have z12 : w.heap.size + 1 + 1 < w1.heap.size := by omega))
  (have k1_w_heap_size_0 : w1.cell? ⟨w.heap.size, 0, none⟩ = some (.int .i64 v.kind) := (by rw [hc1 _ _ (by first | omega | simp <;> omega)]; first | (simp [go_sem]; done) | assumption | (simp [go_sem, *]; done)); have r1_w_heap_size_0 : w1.frozen? ⟨w.heap.size, 0, none⟩ = false := (by rw [hf1 _ _ (by first | omega | simp <;> omega)]; first | (simp [go_sem]; done) | assumption | (simp [go_sem, *]; done)); have k1_w_heap_size_1 : w1.cell? ⟨w.heap.size, 1, none⟩ = some (.int .i64 v.n) := (by rw [hc1 _ _ (by first | omega | simp <;> omega)]; first | (simp [go_sem]; done) | assumption | (simp [go_sem, *]; done)); have r1_w_heap_size_1 : w1.frozen? ⟨w.heap.size, 1, none⟩ = false := (by rw [hf1 _ _ (by first | omega | simp <;> omega)]; first | (simp [go_sem]; done) | assumption | (simp [go_sem, *]; done)); have k1_w_heap_size_2 : w1.cell? ⟨w.heap.size, 2, none⟩ = some (.int .i64 v.cell) := (by rw [hc1 _ _ (by first | omega | simp <;> omega)]; first | (simp [go_sem]; done) | assumption | (simp [go_sem, *]; done)); have r1_w_heap_size_2 : w1.frozen? ⟨w.heap.size, 2, none⟩ = false := (by rw [hf1 _ _ (by first | omega | simp <;> omega)]; first | (simp [go_sem]; done) | assumption | (simp [go_sem, *]; done)))
  (have k1_w_heap_size_1_0 : w1.cell? ⟨w.heap.size + 1, 0, none⟩ = some (.int .i64 x.kind) := (by rw [hc1 _ _ (by first | omega | simp <;> omega)]; first | (simp [go_sem]; done) | assumption | (simp [go_sem, *]; done)); have r1_w_heap_size_1_0 : w1.frozen? ⟨w.heap.size + 1, 0, none⟩ = false := (by rw [hf1 _ _ (by first | omega | simp <;> omega)]; first | (simp [go_sem]; done) | assumption | (simp [go_sem, *]; done)); have k1_w_heap_size_1_1 : w1.cell? ⟨w.heap.size + 1, 1, none⟩ = some (.int .i64 x.n) := (by rw [hc1 _ _ (by first | omega | simp <;> omega)]; first | (simp [go_sem]; done) | assumption | (simp [go_sem, *]; done)); have r1_w_heap_size_1_1 : w1.frozen? ⟨w.heap.size + 1, 1, none⟩ = false := (by rw [hf1 _ _ (by first | omega | simp <;> omega)]; first | (simp [go_sem]; done) | assumption | (simp [go_sem, *]; done)); have k1_w_heap_size_1_2 : w1.cell? ⟨w.heap.size + 1, 2, none⟩ = some (.int .i64 x.cell) := (by rw [hc1 _ _ (by first | omega | simp <;> omega)]; first | (simp [go_sem]; done) | assumption | (simp [go_sem, *]; done)); have r1_w_heap_size_1_2 : w1.frozen? ⟨w.heap.size + 1, 2, none⟩ = false := (by rw [hf1 _ _ (by first | omega | simp <;> omega)]; first | (simp [go_sem]; done) | assumption | (simp [go_sem, *]; done)))
  clear hc1 hf1
  go_wp2_with fail
  go_ret
  exact ⟨rfl, (by repeat' (first | with_reducible (first | exact HW1.out | apply bR | apply bD | apply bN | apply bA | apply bS) | (simp; done) | (simp; omega) | omega))⟩
 ·have e2 : (v.kind == 2) = false := by rw [beq_eq_false_iff_ne]; exact h2
  have e3 : (x.kind == 0) = false := by rw [beq_eq_false_iff_ne]; exact h3
  have e4 : (v.kind == 3) = false := by rw [beq_eq_false_iff_ne]; exact h4
  have e5 : (x.kind == 1) = false := by rw [beq_eq_false_iff_ne]; exact h5
  go_enter Tryz.func67, Tryz.ntmps67
  go_wp2_with fail
  refine (Far_any v o hv.1 _).mono ?_
  rw [HK.out]
  (rintro e w1 ⟨rfl, hb⟩; obtain ⟨hc1, hf1⟩ := bcell hb; have hz1 := hb.size; (try simp at hz1); have HW1 := Lib.hid (show Below w.heap.size w w1 from Below.trans (by repeat' (first | with_reducible (first | exact HW0.out | apply bR | apply bD | apply bN | apply bA | apply bS) | (simp; done) | (simp; omega) | omega)) (hb.mono (by first | omega | simp <;> omega))); clear hb; (try have z10 : w.heap.size < w1.heap.size := by omega); (try have z11 : w.heap.size + 1 < w1.heap.size := by omega); (try have z12 : w.heap.size + 1 + 1 < w1.heap.size := by omega))
  (have k1_w_heap_size_0 : w1.cell? ⟨w.heap.size, 0, none⟩ = some (.int .i64 v.kind) := (by rw [hc1 _ _ (by first | omega | simp <;> omega)]; first | (simp [go_sem]; done) | assumption | (simp [go_sem, *]; done)); have r1_w_heap_size_0 : w1.frozen? ⟨w.heap.size, 0, none⟩ = false := (by rw [hf1 _ _ (by first | omega | simp <;> omega)]; first | (simp [go_sem]; done) | assumption | (simp [go_sem, *]; done)); have k1_w_heap_size_1 : w1.cell? ⟨w.heap.size, 1, none⟩ = some (.int .i64 v.n) := (by rw [hc1 _ _ (by first | omega | simp <;> omega)]; first | (simp [go_sem]; done) | assumption | (simp [go_sem, *]; done)); have r1_w_heap_size_1 : w1.frozen? ⟨w.heap.size, 1, none⟩ = false := (by rw [hf1 _ _ (by first | omega | simp <;> omega)]; first | (simp [go_sem]; done) | assumption | (simp [go_sem, *]; done)); have k1_w_heap_size_2 : w1.cell? ⟨w.heap.size, 2, none⟩ = some (.int .i64 v.cell) := (by rw [hc1 _ _ (by first | omega | simp <;> omega)]; first | (simp [go_sem]; done) | assumption | (simp [go_sem, *]; done)); have r1_w_heap_size_2 : w1.frozen? ⟨w.heap.size, 2, none⟩ = false := (by rw [hf1 _ _ (by first | omega | simp <;> omega)]; first | (simp [go_sem]; done) | assumption | (simp [go_sem, *]; done)))
  (have k1_w_heap_size_1_0 : w1.cell? ⟨w.heap.size + 1, 0, none⟩ = some (.int .i64 x.kind) := (by rw [hc1 _ _ (by first | omega | simp <;> omega)]; first | (simp [go_sem]; done) | assumption | (simp [go_sem, *]; done)); have r1_w_heap_size_1_0 : w1.frozen? ⟨w.heap.size + 1, 0, none⟩ = false := (by rw [hf1 _ _ (by first | omega | simp <;> omega)]; first | (simp [go_sem]; done) | assumption | (simp [go_sem, *]; done)); have k1_w_heap_size_1_1 : w1.cell? ⟨w.heap.size + 1, 1, none⟩ = some (.int .i64 x.n) := (by rw [hc1 _ _ (by first | omega | simp <;> omega)]; first | (simp [go_sem]; done) | assumption | (simp [go_sem, *]; done)); have r1_w_heap_size_1_1 : w1.frozen? ⟨w.heap.size + 1, 1, none⟩ = false := (by rw [hf1 _ _ (by first | omega | simp <;> omega)]; first | (simp [go_sem]; done) | assumption | (simp [go_sem, *]; done)); have k1_w_heap_size_1_2 : w1.cell? ⟨w.heap.size + 1, 2, none⟩ = some (.int .i64 x.cell) := (by rw [hc1 _ _ (by first | omega | simp <;> omega)]; first | (simp [go_sem]; done) | assumption | (simp [go_sem, *]; done)); have r1_w_heap_size_1_2 : w1.frozen? ⟨w.heap.size + 1, 2, none⟩ = false := (by rw [hf1 _ _ (by first | omega | simp <;> omega)]; first | (simp [go_sem]; done) | assumption | (simp [go_sem, *]; done)))
  clear hc1 hf1
  go_wp2_with fail
  go_ret
  exact ⟨rfl, (by repeat' (first | with_reducible (first | exact HW1.out | apply bR | apply bD | apply bN | apply bA | apply bS) | (simp; done) | (simp; omega) | omega))⟩
set_option maxHeartbeats 1000000 in
theorem Store_slot (b : Nat) (code : Value) (told : Nat → Int) (time : Int) (out : Value) (M : Mach) (w : World) (hI : Img w b 108 (mimg code told time out M)) (n o cell : Int) (x : Val) (hx : x.kind ≠ 0) (q : Nat) (hq : q < 16) (hke : P.far ⟨3, n, cell⟩ o = ((q : Int) - 16, 0)) :
  Calls Tryz.prog 67 #[.pointer (some ⟨b, 0, none⟩), .agg #[.int .i64 3, .int .i64 n, .int .i64 cell], .int .i64 o, .agg #[.int .i64 x.kind, .int .i64 x.n, .int .i64 x.cell]] w fun e w' =>
   e = .returned (.int .i64 0) ∧ Img w' b 108 (mimg code told time out { M with slots := upd M.slots q x }) ∧ But b w w' := by
 have HW0 := Lib.hid (Below.refl w.heap.size w)
 have hlt := hI.lt (by omega)
 have q7 : (q : Int) < 16 := by omega
 have HI := Lib.hid hI
 have HK := Lib.hid hke
 clear hI hke
 have e16 : (q : Int) - 16 + 16 = q := by omega
 have e3 : (x.kind == 0) = false := by rw [beq_eq_false_iff_ne]; exact hx
 go_enter Tryz.func67, Tryz.ntmps67
 go_wp2_with fail
 refine (Far_any ⟨3, n, cell⟩ o (by simp) _).mono ?_
 rw [HK.out]
 (rintro e w1 ⟨rfl, hb⟩; obtain ⟨hc1, hf1⟩ := bcell hb; have hz1 := hb.size; (try simp at hz1); have HW1 := Lib.hid (show Below w.heap.size w w1 from Below.trans (by repeat' (first | with_reducible (first | exact HW0.out | apply bR | apply bD | apply bN | apply bA | apply bS) | (simp; done) | (simp; omega) | omega)) (hb.mono (by first | omega | simp <;> omega))); clear hb; (try have z10 : w.heap.size < w1.heap.size := by omega); (try have z11 : w.heap.size + 1 < w1.heap.size := by omega); (try have z12 : w.heap.size + 1 + 1 < w1.heap.size := by omega))
 (have k1_w_heap_size_0 : w1.cell? ⟨w.heap.size, 0, none⟩ = some (.int .i64 3) := (by rw [hc1 _ _ (by first | omega | simp <;> omega)]; first | (simp [go_sem]; done) | assumption | (simp [go_sem, *]; done)); have r1_w_heap_size_0 : w1.frozen? ⟨w.heap.size, 0, none⟩ = false := (by rw [hf1 _ _ (by first | omega | simp <;> omega)]; first | (simp [go_sem]; done) | assumption | (simp [go_sem, *]; done)); have k1_w_heap_size_1 : w1.cell? ⟨w.heap.size, 1, none⟩ = some (.int .i64 n) := (by rw [hc1 _ _ (by first | omega | simp <;> omega)]; first | (simp [go_sem]; done) | assumption | (simp [go_sem, *]; done)); have r1_w_heap_size_1 : w1.frozen? ⟨w.heap.size, 1, none⟩ = false := (by rw [hf1 _ _ (by first | omega | simp <;> omega)]; first | (simp [go_sem]; done) | assumption | (simp [go_sem, *]; done)); have k1_w_heap_size_2 : w1.cell? ⟨w.heap.size, 2, none⟩ = some (.int .i64 cell) := (by rw [hc1 _ _ (by first | omega | simp <;> omega)]; first | (simp [go_sem]; done) | assumption | (simp [go_sem, *]; done)); have r1_w_heap_size_2 : w1.frozen? ⟨w.heap.size, 2, none⟩ = false := (by rw [hf1 _ _ (by first | omega | simp <;> omega)]; first | (simp [go_sem]; done) | assumption | (simp [go_sem, *]; done)))
 (have k1_w_heap_size_1_0 : w1.cell? ⟨w.heap.size + 1, 0, none⟩ = some (.int .i64 x.kind) := (by rw [hc1 _ _ (by first | omega | simp <;> omega)]; first | (simp [go_sem]; done) | assumption | (simp [go_sem, *]; done)); have r1_w_heap_size_1_0 : w1.frozen? ⟨w.heap.size + 1, 0, none⟩ = false := (by rw [hf1 _ _ (by first | omega | simp <;> omega)]; first | (simp [go_sem]; done) | assumption | (simp [go_sem, *]; done)); have k1_w_heap_size_1_1 : w1.cell? ⟨w.heap.size + 1, 1, none⟩ = some (.int .i64 x.n) := (by rw [hc1 _ _ (by first | omega | simp <;> omega)]; first | (simp [go_sem]; done) | assumption | (simp [go_sem, *]; done)); have r1_w_heap_size_1_1 : w1.frozen? ⟨w.heap.size + 1, 1, none⟩ = false := (by rw [hf1 _ _ (by first | omega | simp <;> omega)]; first | (simp [go_sem]; done) | assumption | (simp [go_sem, *]; done)); have k1_w_heap_size_1_2 : w1.cell? ⟨w.heap.size + 1, 2, none⟩ = some (.int .i64 x.cell) := (by rw [hc1 _ _ (by first | omega | simp <;> omega)]; first | (simp [go_sem]; done) | assumption | (simp [go_sem, *]; done)); have r1_w_heap_size_1_2 : w1.frozen? ⟨w.heap.size + 1, 2, none⟩ = false := (by rw [hf1 _ _ (by first | omega | simp <;> omega)]; first | (simp [go_sem]; done) | assumption | (simp [go_sem, *]; done)))
 have I1 := HI.out.later HW1.out hlt
 have d0 := I1.cell (34 + q * 3) (by omega)
 have d1 := I1.cell (34 + q * 3 + 1) (by omega)
 have d2 := I1.cell (34 + q * 3 + 2) (by omega)
 have s0 := I1.free (34 + q * 3) (by omega)
 have s1 := I1.free (34 + q * 3 + 1) (by omega)
 have s2 := I1.free (34 + q * 3 + 2) (by omega)
 have HI1 := Lib.hid I1
 clear hc1 hf1 I1
 go_wp2_with fail
 go_region
 all_goals
  go_wp2_with fail
  go_ret
  refine ⟨rfl, ?_, (by repeat' (first | with_reducible (first | exact (But.of HW1.out) | exact But.refl _ _ | refine But.drew ?_ | refine But.drewN ?_ _ | refine But.alloc ?_ _ | refine But.setCell ?_ ?_ _) | (exact .inl rfl) | (simp; done) | (simp; omega) | omega))⟩
  have K := (((HI1.out.set (j := 34 + q * 3) (by omega) (vcell x 0)).set (j := 34 + q * 3 + 1) (by omega) (vcell x 1)).set (j := 34 + q * 3 + 2) (by omega) (vcell x 2)).congr (mimg_setslot hq x)
  exact K
set_option maxHeartbeats 1000000 in
theorem Store_cell (b : Nat) (code : Value) (told : Nat → Int) (time : Int) (out : Value) (M : Mach) (w : World) (hI : Img w b 108 (mimg code told time out M)) (n o : Int) (xn xc : Int) (cell q : Nat) (hc : cell < 4) (hq : q < 4) (hke : P.far ⟨4, n, cell⟩ o = ((q : Int), 0)) :
  Calls Tryz.prog 67 #[.pointer (some ⟨b, 0, none⟩), .agg #[.int .i64 4, .int .i64 n, .int .i64 cell], .int .i64 o, .agg #[.int .i64 1, .int .i64 xn, .int .i64 xc]] w fun e w' =>
   e = .returned (.int .i64 0) ∧ Img w' b 108 (mimg code told time out { M with cells := upd M.cells (cell * 4 + q) xn }) ∧ But b w w' := by
 have HW0 := Lib.hid (Below.refl w.heap.size w)
 have hlt := hI.lt (by omega)
 have q7 : (q : Int) < 4 := by omega
 have q8 : (cell : Int) < 4 := by omega
 have HI := Lib.hid hI
 have HK := Lib.hid hke
 clear hI hke
 go_enter Tryz.func67, Tryz.ntmps67
 go_wp2_with fail
 refine (Far_any ⟨4, n, cell⟩ o (by simp) _).mono ?_
 rw [HK.out]
 (rintro e w1 ⟨rfl, hb⟩; obtain ⟨hc1, hf1⟩ := bcell hb; have hz1 := hb.size; (try simp at hz1); have HW1 := Lib.hid (show Below w.heap.size w w1 from Below.trans (by repeat' (first | with_reducible (first | exact HW0.out | apply bR | apply bD | apply bN | apply bA | apply bS) | (simp; done) | (simp; omega) | omega)) (hb.mono (by first | omega | simp <;> omega))); clear hb; (try have z10 : w.heap.size < w1.heap.size := by omega); (try have z11 : w.heap.size + 1 < w1.heap.size := by omega); (try have z12 : w.heap.size + 1 + 1 < w1.heap.size := by omega))
 (have k1_w_heap_size_0 : w1.cell? ⟨w.heap.size, 0, none⟩ = some (.int .i64 4) := (by rw [hc1 _ _ (by first | omega | simp <;> omega)]; first | (simp [go_sem]; done) | assumption | (simp [go_sem, *]; done)); have r1_w_heap_size_0 : w1.frozen? ⟨w.heap.size, 0, none⟩ = false := (by rw [hf1 _ _ (by first | omega | simp <;> omega)]; first | (simp [go_sem]; done) | assumption | (simp [go_sem, *]; done)); have k1_w_heap_size_1 : w1.cell? ⟨w.heap.size, 1, none⟩ = some (.int .i64 n) := (by rw [hc1 _ _ (by first | omega | simp <;> omega)]; first | (simp [go_sem]; done) | assumption | (simp [go_sem, *]; done)); have r1_w_heap_size_1 : w1.frozen? ⟨w.heap.size, 1, none⟩ = false := (by rw [hf1 _ _ (by first | omega | simp <;> omega)]; first | (simp [go_sem]; done) | assumption | (simp [go_sem, *]; done)); have k1_w_heap_size_2 : w1.cell? ⟨w.heap.size, 2, none⟩ = some (.int .i64 cell) := (by rw [hc1 _ _ (by first | omega | simp <;> omega)]; first | (simp [go_sem]; done) | assumption | (simp [go_sem, *]; done)); have r1_w_heap_size_2 : w1.frozen? ⟨w.heap.size, 2, none⟩ = false := (by rw [hf1 _ _ (by first | omega | simp <;> omega)]; first | (simp [go_sem]; done) | assumption | (simp [go_sem, *]; done)))
 (have k1_w_heap_size_1_0 : w1.cell? ⟨w.heap.size + 1, 0, none⟩ = some (.int .i64 1) := (by rw [hc1 _ _ (by first | omega | simp <;> omega)]; first | (simp [go_sem]; done) | assumption | (simp [go_sem, *]; done)); have r1_w_heap_size_1_0 : w1.frozen? ⟨w.heap.size + 1, 0, none⟩ = false := (by rw [hf1 _ _ (by first | omega | simp <;> omega)]; first | (simp [go_sem]; done) | assumption | (simp [go_sem, *]; done)); have k1_w_heap_size_1_1 : w1.cell? ⟨w.heap.size + 1, 1, none⟩ = some (.int .i64 xn) := (by rw [hc1 _ _ (by first | omega | simp <;> omega)]; first | (simp [go_sem]; done) | assumption | (simp [go_sem, *]; done)); have r1_w_heap_size_1_1 : w1.frozen? ⟨w.heap.size + 1, 1, none⟩ = false := (by rw [hf1 _ _ (by first | omega | simp <;> omega)]; first | (simp [go_sem]; done) | assumption | (simp [go_sem, *]; done)); have k1_w_heap_size_1_2 : w1.cell? ⟨w.heap.size + 1, 2, none⟩ = some (.int .i64 xc) := (by rw [hc1 _ _ (by first | omega | simp <;> omega)]; first | (simp [go_sem]; done) | assumption | (simp [go_sem, *]; done)); have r1_w_heap_size_1_2 : w1.frozen? ⟨w.heap.size + 1, 2, none⟩ = false := (by rw [hf1 _ _ (by first | omega | simp <;> omega)]; first | (simp [go_sem]; done) | assumption | (simp [go_sem, *]; done)))
 have I1 := HI.out.later HW1.out hlt
 have d0 := I1.cell (90 + cell * 4 + q) (by omega)
 have s0 := I1.free (90 + cell * 4 + q) (by omega)
 have HI1 := Lib.hid I1
 clear hc1 hf1 I1
 go_wp2_with fail
 go_region
 all_goals
  go_wp2_with fail
  go_ret
  refine ⟨rfl, ?_, (by repeat' (first | with_reducible (first | exact (But.of HW1.out) | exact But.refl _ _ | refine But.drew ?_ | refine But.drewN ?_ _ | refine But.alloc ?_ _ | refine But.setCell ?_ ?_ _) | (exact .inl rfl) | (simp; done) | (simp; omega) | omega))⟩
  have K := (HI1.out.set (j := 90 + cell * 4 + q) (by omega) (.int .i64 xn)).congr (fun j hj => (congrFun (congrFun (congrArg _ (Nat.add_assoc 90 (cell * 4) q)) _) _).trans (mimg_setcell (by omega : cell * 4 + q < 16) xn j hj))
  exact K
end Go.Proofs.YtpdlmbbgioenoaaGreatDoor.W
namespace Go.Proofs.YtpdlmbbgioenoaaGreatDoor.W
open Go.RowKit Go.Proofs.YtpdlmbbgioenoaaGreatDoor.P
def clr (f : Nat → Val) (k : Nat) : Nat → Val := fun j => if 1 ≤ j ∧ j < k then Val.none else f j
theorem clr_1 (f : Nat → Val) : clr f 1 = f := by funext j; unfold clr; rw [if_neg (by omega)]
theorem clr_succ (f : Nat → Val) {k : Nat} (hk : 1 ≤ k) : upd (clr f k) k Val.none = clr f (k + 1) := by
 funext j
 by_cases h : j = k
 ·subst h; rw [upd_same]; unfold clr; rw [if_pos (by omega)]
 ·rw [upd_other h]; unfold clr
  by_cases h2 : 1 ≤ j ∧ j < k
  ·rw [if_pos h2, if_pos (by omega)]
  ·rw [if_neg h2, if_neg (by omega)]
def MacAt (w : World) (b : Nat) (code : Value) (told : Nat → Int) (time : Int) (M : Mach) : Prop :=
 ∃ out, Img w b 108 (mimg code told time out M) ∧ w.ownsRow (b + 1) 2 1 out M.out.length (M.out.map (Value.int .i64))
set_option maxHeartbeats 1000000 in
theorem Call_err (b : Nat) (code : Value) (told : Nat → Int) (time : Int) (out : Value) (M : Mach) (w : World) (hI : Img w b 108 (mimg code told time out M)) (n : Int) (hn : n ≠ 2) (x : Val) (hx : M.regs 1 = x) (hk : x.kind ≠ 1) :
  Calls Tryz.prog 69 #[.pointer (some ⟨b, 0, none⟩), .int .i64 n] w fun e w' => e = .returned (.int .i64 (if x.kind = 0 then 8 else 1)) ∧ Below w.heap.size w w' := by
 have HW0 := Lib.hid (Below.refl w.heap.size w)
 have c0 := (hI.cell 4 (by omega)).trans (congrArg some ((mimg_reg (by omega : 1 < 11) (by omega : 0 < 3) (by omega)).trans (vcell_0 _)))
 have c1 := (hI.cell 5 (by omega)).trans (congrArg some ((mimg_reg (by omega : 1 < 11) (by omega : 1 < 3) (by omega)).trans (vcell_1 _)))
 have c2 := (hI.cell 6 (by omega)).trans (congrArg some ((mimg_reg (by omega : 1 < 11) (by omega : 2 < 3) (by omega)).trans (vcell_2 _)))
 rw [hx] at c0 c1 c2
 have HI := Lib.hid hI
 have HX := Lib.hid hx
 clear hI hx
 have n2 : (n != 2) = true := by rw [bne_iff_ne]; exact hn
 have k2 : (x.kind == 1) = false := by rw [beq_eq_false_iff_ne]; exact hk
 clear hn hk
 by_cases k1 : x.kind = 0
 ·rw [if_pos k1]
  have q1 : (x.kind == 0) = true := by rw [beq_iff_eq]; exact k1
  clear k1
  go_enter Tryz.func69, Tryz.ntmps69
  go_wp2_with fail
  go_ret
  exact ⟨rfl, (by repeat' (first | with_reducible (first | exact HW0.out | apply bR | apply bD | apply bN | apply bA | apply bS) | (simp; done) | (simp; omega) | omega))⟩
 ·rw [if_neg k1]
  have q1 : (x.kind == 0) = false := by rw [beq_eq_false_iff_ne]; exact k1
  clear k1
  go_enter Tryz.func69, Tryz.ntmps69
  go_wp2_with fail
  go_ret
  exact ⟨rfl, (by repeat' (first | with_reducible (first | exact HW0.out | apply bR | apply bD | apply bN | apply bA | apply bS) | (simp; done) | (simp; omega) | omega))⟩
set_option maxHeartbeats 1000000 in
theorem Call_find (b : Nat) (code : Value) (told : Nat → Int) (time : Int) (out : Value) (M : Mach) (w : World) (hI : Img w b 108 (mimg code told time out M)) (xn xc : Int) (hx : M.regs 1 = ⟨1, xn, xc⟩) :
  Calls Tryz.prog 69 #[.pointer (some ⟨b, 0, none⟩), .int .i64 1] w fun e w' => e = .returned (.int .i64 0) ∧ Img w' b 108 (mimg code told time out (M.call time 1).1) ∧ But b w w' := by
 have HW0 := Lib.hid (Below.refl w.heap.size w)
 have hlt := hI.lt (by omega)
 have c0 := (hI.cell 4 (by omega)).trans (congrArg some ((mimg_reg (by omega : 1 < 11) (by omega : 0 < 3) (by omega)).trans (vcell_0 _)))
 have c1 := (hI.cell 5 (by omega)).trans (congrArg some ((mimg_reg (by omega : 1 < 11) (by omega : 1 < 3) (by omega)).trans (vcell_1 _)))
 have c2 := (hI.cell 6 (by omega)).trans (congrArg some ((mimg_reg (by omega : 1 < 11) (by omega : 2 < 3) (by omega)).trans (vcell_2 _)))
 rw [hx] at c0 c1 c2
 have hfin : ∀ r : Val, (if 0 ≤ xn ∧ xn < 4 then (⟨4, 0, xn⟩ : Val) else .num 0) = r → { M with regs := upd (clr M.regs 6) 0 r } = (M.call time 1).1 := by
  intro r hr
  unfold Mach.call
  rw [hx, if_neg (by simp), if_neg (by simp)]
  simp only [if_true, hr]
  congr 1
  funext j
  by_cases h : j = 0
  ·subst h; rw [upd_same]; rfl
  ·rw [upd_other h, if_neg h]; unfold clr; simp only [Nat.lt_succ_iff]
 have HF := Lib.hid hfin
 have HI := Lib.hid hI
 have HX := Lib.hid hx
 clear hI hx hfin
 go_enter Tryz.func69, Tryz.ntmps69
 go_wp2_with fail
 go_loopw [6] (fun i wr => ∃ k : Nat, 1 ≤ k ∧ k ≤ 6 ∧ i = .int .i64 k ∧ Img wr b 108 (mimg code told time out { M with regs := clr M.regs k }) ∧ But b w wr ∧ wr.cell? ⟨w.heap.size, 1, none⟩ = some (.int .i64 xn) ∧ w.heap.size < wr.heap.size) (fun i _ => 6 - (intOf i).toNat)
 case atStart => exact ⟨1, by omega, by omega, rfl, by rw [clr_1]; exact HI.out.alloc _, (by repeat' (first | with_reducible (first | exact (But.of HW0.out) | exact But.refl _ _ | refine But.drew ?_ | refine But.drewN ?_ _ | refine But.alloc ?_ _ | refine But.setCell ?_ ?_ _) | (exact .inl rfl) | (simp; done) | (simp; omega) | omega)), by simp [go_sem], by simp⟩
 case round =>
  obtain ⟨k, hk1, hk6, rfl, hI, hB, hx, hz⟩ := hrel
  have hne : ¬ w.heap.size = b := by omega
  have hne2 : ¬ b = w.heap.size := by omega
  by_cases h : k ≤ 5
  ·have i1 : (k : Int) ≤ 5 := by omega
   have i2 : (k : Int) < 11 := by omega
   have d0 := hI.cell (1 + k * 3) (by omega)
   have d1 := hI.cell (1 + k * 3 + 1) (by omega)
   have d2 := hI.cell (1 + k * 3 + 2) (by omega)
   have s0 := hI.free (1 + k * 3) (by omega)
   have s1 := hI.free (1 + k * 3 + 1) (by omega)
   have s2 := hI.free (1 + k * 3 + 2) (by omega)
   have HI1 := Lib.hid hI
   have HB1 := Lib.hid hB
   clear hI hB
   go_wp2_with fail
   go_roundw
   case rel =>
    go_light
    refine ⟨k + 1, by omega, by omega, by go_num, ?_, ?_, ?_, ?_⟩
    ·have K := (((HI1.out.set (j := 1 + k * 3) (by omega) (vcell Val.none 0)).set (j := 1 + k * 3 + 1) (by omega) (vcell Val.none 1)).set (j := 1 + k * 3 + 2) (by omega) (vcell Val.none 2)).congr (mimg_setreg (by omega : k < 11) Val.none)
     rw [← clr_succ _ hk1]
     exact K
    ·exact ((HB1.out.setCell (.inl rfl) _).setCell (.inl rfl) _).setCell (.inl rfl) _
    ·simp [go_sem, hne, hne2, hx]
    ·simpa using hz
   case measure => simp [intOf]; omega
  ·obtain rfl : k = 6 := by omega
   have d0 := hI.cell 1 (by omega)
   have d1 := hI.cell 2 (by omega)
   have d2 := hI.cell 3 (by omega)
   have s0 := hI.free 1 (by omega)
   have s1 := hI.free 2 (by omega)
   have s2 := hI.free 3 (by omega)
   have HI1 := Lib.hid hI
   have HB1 := Lib.hid hB
   clear hI hB
   go_wp2_with fail
   ·go_region
    all_goals
     go_wp2_with fail
     go_ret
     refine ⟨rfl, ?_, ?_⟩
     ·rw [← HF.out ⟨4, 0, xn⟩ (if_pos (by omega))]
      have K := (HI1.out.setReg (r := 0) (by omega) 1 0 0 rfl rfl rfl).setReg (r := 0) (by omega) 4 0 xn rfl rfl rfl
      dsimp only at K
      rw [upd_upd] at K
      with_reducible exact K.drew
     ·with_reducible exact ((((((HB1.out.setCell (.inl rfl) _).setCell (.inl rfl) _).setCell (.inl rfl) _).setCell (.inl rfl) _).setCell (.inl rfl) _).setCell (.inl rfl) _).drew
   all_goals
    go_ret
    refine ⟨rfl, ?_, ?_⟩
    ·rw [← HF.out (.num 0) (if_neg (by omega))]
     exact HI1.out.setReg (r := 0) (by omega) 1 0 0 rfl rfl rfl
    ·exact ((HB1.out.setCell (.inl rfl) _).setCell (.inl rfl) _).setCell (.inl rfl) _
set_option maxHeartbeats 1000000 in
theorem Call_time (b : Nat) (code : Value) (told : Nat → Int) (time : Int) (out : Value) (M : Mach) (w : World) (hI : Img w b 108 (mimg code told time out M)) (xk xn xc : Int) (hx : M.regs 1 = ⟨xk, xn, xc⟩) :
  Calls Tryz.prog 69 #[.pointer (some ⟨b, 0, none⟩), .int .i64 2] w fun e w' => e = .returned (.int .i64 0) ∧ Img w' b 108 (mimg code told time out (M.call time 2).1) ∧ But b w w' := by
 have HW0 := Lib.hid (Below.refl w.heap.size w)
 have hlt := hI.lt (by omega)
 have c0 := (hI.cell 4 (by omega)).trans (congrArg some ((mimg_reg (by omega : 1 < 11) (by omega : 0 < 3) (by omega)).trans (vcell_0 _)))
 have c1 := (hI.cell 5 (by omega)).trans (congrArg some ((mimg_reg (by omega : 1 < 11) (by omega : 1 < 3) (by omega)).trans (vcell_1 _)))
 have c2 := (hI.cell 6 (by omega)).trans (congrArg some ((mimg_reg (by omega : 1 < 11) (by omega : 2 < 3) (by omega)).trans (vcell_2 _)))
 rw [hx] at c0 c1 c2
 have hfin : { M with regs := upd (clr M.regs 6) 0 (.num time) } = (M.call time 2).1 := by
  unfold Mach.call
  rw [if_neg (by simp), if_neg (by simp)]
  simp only [show ¬ (2 : Int) = 1 by decide, if_true, if_false, not_true, and_false, false_and]
  congr 1
  funext j
  by_cases h : j = 0
  ·subst h; rw [upd_same]; rfl
  ·rw [upd_other h, if_neg h]; unfold clr; simp only [Nat.lt_succ_iff]
 have HF := Lib.hid hfin
 have HI := Lib.hid hI
 have HX := Lib.hid hx
 clear hI hx hfin
 go_enter Tryz.func69, Tryz.ntmps69
 go_wp2_with fail
 go_loopw [6] (fun i wr => ∃ k : Nat, 1 ≤ k ∧ k ≤ 6 ∧ i = .int .i64 k ∧ Img wr b 108 (mimg code told time out { M with regs := clr M.regs k }) ∧ But b w wr ∧ wr.cell? ⟨w.heap.size, 1, none⟩ = some (.int .i64 xn) ∧ w.heap.size < wr.heap.size) (fun i _ => 6 - (intOf i).toNat)
 case atStart => exact ⟨1, by omega, by omega, rfl, by rw [clr_1]; exact HI.out.alloc _, (by repeat' (first | with_reducible (first | exact (But.of HW0.out) | exact But.refl _ _ | refine But.drew ?_ | refine But.drewN ?_ _ | refine But.alloc ?_ _ | refine But.setCell ?_ ?_ _) | (exact .inl rfl) | (simp; done) | (simp; omega) | omega)), by simp [go_sem], by simp⟩
 case round =>
  obtain ⟨k, hk1, hk6, rfl, hI, hB, hx, hz⟩ := hrel
  have hne : ¬ w.heap.size = b := by omega
  have hne2 : ¬ b = w.heap.size := by omega
  by_cases h : k ≤ 5
  ·have i1 : (k : Int) ≤ 5 := by omega
   have i2 : (k : Int) < 11 := by omega
   have d0 := hI.cell (1 + k * 3) (by omega)
   have d1 := hI.cell (1 + k * 3 + 1) (by omega)
   have d2 := hI.cell (1 + k * 3 + 2) (by omega)
   have s0 := hI.free (1 + k * 3) (by omega)
   have s1 := hI.free (1 + k * 3 + 1) (by omega)
   have s2 := hI.free (1 + k * 3 + 2) (by omega)
   have HI1 := Lib.hid hI
   have HB1 := Lib.hid hB
   clear hI hB
   go_wp2_with fail
   go_roundw
   case rel =>
    go_light
    refine ⟨k + 1, by omega, by omega, by go_num, ?_, ?_, ?_, ?_⟩
    ·have K := (((HI1.out.set (j := 1 + k * 3) (by omega) (vcell Val.none 0)).set (j := 1 + k * 3 + 1) (by omega) (vcell Val.none 1)).set (j := 1 + k * 3 + 2) (by omega) (vcell Val.none 2)).congr (mimg_setreg (by omega : k < 11) Val.none)
     rw [← clr_succ _ hk1]
     exact K
    ·exact ((HB1.out.setCell (.inl rfl) _).setCell (.inl rfl) _).setCell (.inl rfl) _
    ·simp [go_sem, hne, hne2, hx]
    ·simpa using hz
   case measure => simp [intOf]; omega
  ·obtain rfl : k = 6 := by omega
   have d0 := hI.cell 1 (by omega)
   have d1 := hI.cell 2 (by omega)
   have d2 := hI.cell 3 (by omega)
   have s0 := hI.free 1 (by omega)
   have s1 := hI.free 2 (by omega)
   have s2 := hI.free 3 (by omega)
   have HI1 := Lib.hid hI
   have HB1 := Lib.hid hB
   have d6 : wr.cell? ⟨b, 106, none⟩ = some (.int .i64 time) := HI1.out.cell 106 (by omega)
   clear hI hB
   go_wp2_with fail
   go_region
   all_goals
    go_wp2_with fail
    go_ret
    refine ⟨rfl, ?_, ?_⟩
    ·rw [← HF.out]
     have K := (HI1.out.setReg (r := 0) (by omega) 1 0 0 rfl rfl rfl).setRegN (r := 0) (by omega) time rfl
     dsimp only at K
     rw [upd_upd, upd_same] at K
     dsimp only at K
     unfold Val.num
     with_reducible exact K.drew
    ·with_reducible exact ((((HB1.out.setCell (.inl rfl) _).setCell (.inl rfl) _).setCell (.inl rfl) _).setCell (.inl rfl) _).drew
end Go.Proofs.YtpdlmbbgioenoaaGreatDoor.W
namespace Go.Proofs.YtpdlmbbgioenoaaGreatDoor.W
open Go.RowKit Go.Proofs.YtpdlmbbgioenoaaGreatDoor.P
theorem infoI64 : (Tryz.prog.info? 2).map (fun i => (i.zero, i.size, i.bytes)) = some (some (.int .i64 0), 1, 8) := by kernel_rfl
set_option maxHeartbeats 1000000 in
theorem Call_emit (b : Nat) (code : Value) (told : Nat → Int) (time : Int) (out : Value) (M : Mach) (w : World) (hI : Img w b 108 (mimg code told time out M)) (hO : w.ownsRow (b + 1) 2 1 out M.out.length (M.out.map (Value.int .i64))) (xn xc : Int) (hx : M.regs 1 = ⟨1, xn, xc⟩) :
  Calls Tryz.prog 69 #[.pointer (some ⟨b, 0, none⟩), .int .i64 3] w fun e w' => e = .returned (.int .i64 0) ∧ (∃ out', Img w' b 108 (mimg code told time out' (M.call time 3).1) ∧ w'.ownsRow (b + 1) 2 1 out' (M.call time 3).1.out.length ((M.call time 3).1.out.map (Value.int .i64))) ∧ Below b w w' := by
 have HW0 := Lib.hid (Below.refl w.heap.size w)
 have HO := Lib.hid hO
 clear hO
 obtain ⟨og, ocap, hog⟩ : ∃ og ocap, out = .slice og M.out.length ocap := by
  rcases HO.out.2 with ⟨h1, h2⟩ | ⟨g, cap, cur, h1, -⟩
  ·exact ⟨none, 0, by rw [h1, h2]⟩
  ·exact ⟨_, _, h1⟩
 subst hog
 have hlt := hI.lt (by omega)
 have c0 := (hI.cell 4 (by omega)).trans (congrArg some ((mimg_reg (by omega : 1 < 11) (by omega : 0 < 3) (by omega)).trans (vcell_0 _)))
 have c1 := (hI.cell 5 (by omega)).trans (congrArg some ((mimg_reg (by omega : 1 < 11) (by omega : 1 < 3) (by omega)).trans (vcell_1 _)))
 have c2 := (hI.cell 6 (by omega)).trans (congrArg some ((mimg_reg (by omega : 1 < 11) (by omega : 2 < 3) (by omega)).trans (vcell_2 _)))
 rw [hx] at c0 c1 c2
 have hfin : { M with regs := upd (clr M.regs 6) 0 (.num 0), out := if M.out.length < 50 then M.out ++ [xn] else M.out } = (M.call time 3).1 := by
  have e : (M.call time 3).1 = ⟨fun j => if j = 0 then .num 0 else if 1 ≤ j ∧ j ≤ 5 then .none else M.regs j, M.slots, M.cells, if M.out.length < 50 then M.out ++ [xn] else M.out⟩ := by
   unfold Mach.call
   rw [hx]
   simp [Val.num]
  rw [e]
  congr 1
  funext j
  by_cases h : j = 0
  ·subst h; rw [upd_same]; rfl
  ·rw [upd_other h, if_neg h]; unfold clr; simp only [Nat.lt_succ_iff]
 rw [← hfin]
 simp only
 clear hfin
 have HI := Lib.hid hI
 have HX := Lib.hid hx
 clear hI hx
 go_enter Tryz.func69, Tryz.ntmps69
 go_wp2_with fail
 go_loopw [6] (fun i wr => ∃ k : Nat, 1 ≤ k ∧ k ≤ 6 ∧ i = .int .i64 k ∧ Img wr b 108 (mimg code told time (.slice og M.out.length ocap) { M with regs := clr M.regs k }) ∧ But b w wr ∧ wr.cell? ⟨w.heap.size, 1, none⟩ = some (.int .i64 xn) ∧ w.heap.size < wr.heap.size) (fun i _ => 6 - (intOf i).toNat)
 case atStart => exact ⟨1, by omega, by omega, rfl, by rw [clr_1]; exact HI.out.alloc _, (by repeat' (first | with_reducible (first | exact (But.of HW0.out) | exact But.refl _ _ | refine But.drew ?_ | refine But.drewN ?_ _ | refine But.alloc ?_ _ | refine But.setCell ?_ ?_ _) | (exact .inl rfl) | (simp; done) | (simp; omega) | omega)), by simp [go_sem], by simp⟩
 case round =>
  obtain ⟨k, hk1, hk6, rfl, hI, hB, hx, hz⟩ := hrel
  have hne : ¬ w.heap.size = b := by omega
  have hne2 : ¬ b = w.heap.size := by omega
  by_cases h : k ≤ 5
  ·have i1 : (k : Int) ≤ 5 := by omega
   have i2 : (k : Int) < 11 := by omega
   have d0 := hI.cell (1 + k * 3) (by omega)
   have d1 := hI.cell (1 + k * 3 + 1) (by omega)
   have d2 := hI.cell (1 + k * 3 + 2) (by omega)
   have s0 := hI.free (1 + k * 3) (by omega)
   have s1 := hI.free (1 + k * 3 + 1) (by omega)
   have s2 := hI.free (1 + k * 3 + 2) (by omega)
   have HI1 := Lib.hid hI
   have HB1 := Lib.hid hB
   clear hI hB
   go_wp2_with fail
   go_roundw
   case rel =>
    go_light
    refine ⟨k + 1, by omega, by omega, by go_num, ?_, ?_, ?_, ?_⟩
    ·have K := (((HI1.out.set (j := 1 + k * 3) (by omega) (vcell Val.none 0)).set (j := 1 + k * 3 + 1) (by omega) (vcell Val.none 1)).set (j := 1 + k * 3 + 2) (by omega) (vcell Val.none 2)).congr (mimg_setreg (by omega : k < 11) Val.none)
     rw [← clr_succ _ hk1]
     exact K
    ·exact ((HB1.out.setCell (.inl rfl) _).setCell (.inl rfl) _).setCell (.inl rfl) _
    ·simp [go_sem, hne, hne2, hx]
    ·simpa using hz
   case measure => simp [intOf]; omega
  ·obtain rfl : k = 6 := by omega
   have d0 := hI.cell 1 (by omega)
   have d1 := hI.cell 2 (by omega)
   have d2 := hI.cell 3 (by omega)
   have s0 := hI.free 1 (by omega)
   have s1 := hI.free 2 (by omega)
   have s2 := hI.free 3 (by omega)
   have HI1 := Lib.hid hI
   have HB1 := Lib.hid hB
   clear hI hB
   have d7 : wr.cell? ⟨b, 107, none⟩ = some (.slice og M.out.length ocap) := HI1.out.cell 107 (by omega)
   have K0 := HI1.out.setReg (r := 0) (by omega) 1 0 0 rfl rfl rfl
   have B0 := ((HB1.out.setCell (p := ⟨b, 1, none⟩) (.inl rfl) (.int .i64 1)).setCell (p := ⟨b, 2, none⟩) (.inl rfl) (.int .i64 0)).setCell (p := ⟨b, 3, none⟩) (.inl rfl) (.int .i64 0)
   have O0 := HO.out.kept B0.grown (by have := HO.out.lt; cases hv : (Value.slice og M.out.length ocap).ownBlock with | none => exact .inl rfl | some g => (right; intro e; have := (this g hv).1; injection e; omega))
   have HK0 := Lib.hid K0; have HB0 := Lib.hid B0; have HO0 := Lib.hid O0
   clear K0 B0 O0
   by_cases hl : M.out.length < 50
   ·have l1 : (M.out.length : Int) < 50 := by omega
    go_wp2_with fail
    generalize hW : World.setCell (World.setCell (World.setCell wr _ _) _ _) _ _ = wd
    have K1 : Img wd b 108 (mimg code told time (.slice og M.out.length ocap) { M with regs := upd (clr M.regs 6) 0 ⟨1, 0, 0⟩ }) := by rw [← hW]; exact HK0.out
    have B1 : But b w wd := by rw [← hW]; exact HB0.out
    have O1 : wd.ownsRow (b + 1) 2 1 (.slice og M.out.length ocap) M.out.length (M.out.map (Value.int .i64)) := by rw [← hW]; exact HO0.out
    have x1 : wd.cell? ⟨w.heap.size, 1, none⟩ = some (.int .i64 xn) := by rw [← hW]; simp [go_sem, hne, hne2, hx]
    have z1 : w.heap.size < wd.heap.size := by rw [← hW]; simpa using hz
    have o1 : wd.cell? ⟨b, 107, none⟩ = some (.slice og M.out.length ocap) := K1.cell 107 (by omega)
    have f1 : wd.frozen? ⟨b, 107, none⟩ = false := K1.free 107 (by omega)
    have zb : b < wd.heap.size := by omega
    have own : ∀ g, (Value.slice og M.out.length ocap).ownBlock = some g → b + 1 ≤ g ∧ g < wd.heap.size := O1.lt
    clear hW d7 d0 d1 d2 s0 s1 s2 hx hz
    have NB := Lib.hid (show some b ≠ (Value.slice og M.out.length ocap).ownBlock from fun e => by have := (own b e.symm).1; omega)
    have NW := Lib.hid (show some w.heap.size ≠ (Value.slice og M.out.length ocap).ownBlock from fun e => by have := (HO.out.lt _ e.symm).2; omega)
    have hK1 := Lib.hid K1; have hB1 := Lib.hid B1; have hO1 := Lib.hid O1; have hOwn := Lib.hid own
    clear K1 B1 O1 own
    obtain ⟨i0, hi0, hz0, hz1, hz2⟩ := info_parts infoI64
    go_region_law (first | ((refine step_append_lies _ (by rfl) _ _ _ (by rfl) (b + 1) 2 i0 _ 1 8 Tryz.underlying85 hi0 hz0 hz1 hz2 rfl (by omega) (.slice og M.out.length ocap) M.out.length (M.out.map (Value.int .i64)) (by rfl) ((hO1.out.alloc _).drew) ⟨wd.heap.size, 0, none⟩ 1 1 [.int .i64 xn] (by rfl) (by rfl) (World.news_of_block (cs := #[.int .i64 xn]) (t := 2) (fr := (0, 0)) (heap_alloc_new wd _)) (by simp [Value.oneCell']) (by omega) (by unfold maxLen; omega) (by omega) (by simp; omega) (wd.heap.size + 1) (by simp) ?_; intro gg cap w1 hown1 hgrow hat hlt1; have q0 : w1.cell? ⟨b, 107, none⟩ = some (.slice og M.out.length ocap) := (by rw [hgrow.cell_far _ (by simp; omega) NB.out]; simp [go_sem, o1, zb]); have _q2 : w1.cell? ⟨w.heap.size, 1, none⟩ = some (.int .i64 xn) := (by rw [hgrow.cell_far _ (by simp; omega) NW.out]; simp [go_sem, x1, z1]); have K2 := (Img.drew (Img.alloc hK1.out _)).of_block (hgrow.block b (by simp; omega) NB.out); have HK2 := Lib.hid K2; clear K2; have HB2 := Lib.hid (Below.grown (((hB1.out.below (by omega)).alloc (by omega) _).drew) hgrow (by simp; omega) (fun g hg => by have := (hOwn.out g hg).1; omega)); have HO2 := Lib.hid hown1; clear hown1; have q1 : w1.frozen? ⟨b, 107, none⟩ = false := (by rw [hgrow.frozen_far _ (by simp; omega) NB.out]; simp [go_sem, f1, zb]))))
    all_goals
     go_wp2_with fail
     go_ret
     refine ⟨rfl, ⟨.slice (some ⟨gg, 0, none⟩) (M.out.length + 1) cap, ?_, ?_⟩, ?_⟩
     ·try simp only [if_pos hl]
      unfold Val.num
      with_reducible exact HK2.out.setOut _ (M.out ++ [xn])
     ·try simp only [if_pos hl]
      try rw [show (M.out ++ [xn]).length = M.out.length + 1 by simp]
      try rw [List.map_append]
      with_reducible exact ownsRow_setCell_below HO2.out (by simp) _
     ·with_reducible exact HB2.out.setCell (Nat.le_refl _) _
   ·have l1 : ¬ (M.out.length : Int) < 50 := by omega
    go_wp2_with fail
    go_ret
    refine ⟨rfl, ⟨.slice og M.out.length ocap, ?_, ?_⟩, ?_⟩
    ·try simp only [if_neg hl]
     unfold Val.num
     with_reducible exact HK0.out
    ·try simp only [if_neg hl]
     with_reducible exact HO0.out
    ·with_reducible exact HB0.out.below (by omega)
theorem MacAt.ge {w : World} {b : Nat} {code : Value} {told : Nat → Int} {time : Int} {M : Mach} (h : MacAt w b code told time M) : b < w.heap.size := by
 obtain ⟨out, hI, -⟩ := h
 exact hI.lt (by omega)
theorem MacAt.but {w w' : World} {b : Nat} {code : Value} {told : Nat → Int} {time : Int} {M M' : Mach} {out : Value} (hO : w.ownsRow (b + 1) 2 1 out M.out.length (M.out.map (Value.int .i64))) (hB : But b w w') (hI : Img w' b 108 (mimg code told time out M')) (ho : M'.out = M.out) : MacAt w' b code told time M' := by
 refine ⟨out, hI, ?_⟩
 rw [ho]
 exact hO.kept hB.grown (by have := hO.lt; cases hv : out.ownBlock with | none => exact .inl rfl | some g => (right; intro e; have := (this g hv).1; injection e; omega))
theorem MacAt.later {w w' : World} {b : Nat} {code : Value} {told : Nat → Int} {time : Int} {M : Mach} (h : MacAt w b code told time M) (hb : Below w.heap.size w w') : MacAt w' b code told time M := by
 obtain ⟨out, hI, hO⟩ := h
 exact MacAt.but hO (But.of hb) (hI.later hb (hI.lt (by omega))) rfl
theorem Load_any (b : Nat) (code : Value) (told : Nat → Int) (time : Int) (out : Value) (M : Mach) (w : World) (hI : Img w b 108 (mimg code told time out M)) (v : Val) (hv : VOk v) (o : Int) :
  Calls Tryz.prog 66 #[.pointer (some ⟨b, 0, none⟩), .agg #[.int .i64 v.kind, .int .i64 v.n, .int .i64 v.cell], .int .i64 o] w fun e w' =>
   e = .returned (.tuple #[.agg #[.int .i64 (M.load told v o).1.kind, .int .i64 (M.load told v o).1.n, .int .i64 (M.load told v o).1.cell], .int .i64 (M.load told v o).2]) ∧ Below w.heap.size w w' := by
 obtain ⟨⟨k, er⟩, hke⟩ : ∃ x, P.far v o = x := ⟨_, rfl⟩
 by_cases he : er = 0
 ·subst he
  have h0 : (P.far v o).2 = 0 := by rw [hke]
  obtain ⟨k0, k1⟩ := far_kind h0
  have hr := far_ok h0 ⟨k0, k1⟩
  obtain ⟨kind, n, cell⟩ := v
  obtain ⟨hk, hc⟩ := hv
  simp only at hk hc k0 k1 hr
  have hk2 : kind = 2 ∨ kind = 3 ∨ kind = 4 := by omega
  rw [hke] at hr
  rcases hk2 with rfl | rfl | rfl
  ·simp only [low, high] at hr
   obtain ⟨q, rfl⟩ := Int.eq_ofNat_of_zero_le (show 0 ≤ k by simp at hr; omega)
   have e : M.load told ⟨2, n, cell⟩ o = (.num (told q), 0) := by unfold Mach.load; rw [hke]; simp
   rw [e]
   exact Load_ctx b code told time out M w hI n cell o q (by simp at hr; omega) hke
  ·simp only [low, high] at hr
   obtain ⟨q, hq⟩ := Int.eq_ofNat_of_zero_le (show 0 ≤ k + 16 by simp at hr; omega)
   obtain rfl : k = (q : Int) - 16 := by omega
   have e : M.load told ⟨3, n, cell⟩ o = (if (M.slots q).kind = 0 then (.none, 8) else (M.slots q, 0)) := by unfold Mach.load; rw [hke]; simp
   rw [e]
   have := Load_slot b code told time out M w hI n o cell q (by simp at hr; omega) hke
   by_cases hz : (M.slots q).kind = 0
   ·simpa [hz, Val.none] using this
   ·simpa [hz] using this
  ·simp only [low, high] at hr
   obtain ⟨q, rfl⟩ := Int.eq_ofNat_of_zero_le (show 0 ≤ k by simp at hr; omega)
   have hcc := hc rfl
   obtain ⟨cc, rfl⟩ := Int.eq_ofNat_of_zero_le hcc.1
   have e : M.load told ⟨4, n, cc⟩ o = (.num (M.cells (cc * 4 + q)), 0) := by
    unfold Mach.load; rw [hke]; simp
    rw [show ((cc : Int) * 4 + (q : Int)).toNat = cc * 4 + q by omega]
   rw [e]
   exact Load_cell b code told time out M w hI n o cc q (by omega) (by simp at hr; omega) hke
 ·have e : M.load told v o = (.none, er) := by unfold Mach.load; rw [hke]; simp [he]
  rw [e]
  exact Load_err b told M w v hv o k er hke he
theorem Store_any (b : Nat) (code : Value) (told : Nat → Int) (time : Int) (M : Mach) (w : World) (hM : MacAt w b code told time M) (v : Val) (hv : VOk v) (o : Int) (x : Val) (hx : VOk x) :
  Calls Tryz.prog 67 #[.pointer (some ⟨b, 0, none⟩), .agg #[.int .i64 v.kind, .int .i64 v.n, .int .i64 v.cell], .int .i64 o, .agg #[.int .i64 x.kind, .int .i64 x.n, .int .i64 x.cell]] w fun e w' =>
   e = .returned (.int .i64 (M.store v o x).2) ∧ MacAt w' b code told time (M.store v o x).1 ∧ Below b w w' := by
 have hlt := hM.ge
 have hM0 := hM
 obtain ⟨out, hI, hO⟩ := hM
 obtain ⟨⟨k, er⟩, hke⟩ : ∃ x, P.far v o = x := ⟨_, rfl⟩
 by_cases hs : (er ≠ 0 ∧ (M.store v o x) = (M, er)) ∨ (er = 0 ∧ v.kind = 2 ∧ (M.store v o x) = (M, 6)) ∨ (er = 0 ∧ v.kind ≠ 2 ∧ x.kind = 0 ∧ (M.store v o x) = (M, 8)) ∨ (er = 0 ∧ v.kind ≠ 2 ∧ x.kind ≠ 0 ∧ v.kind ≠ 3 ∧ x.kind ≠ 1 ∧ (M.store v o x) = (M, 1))
 ·obtain ⟨r, hr, hc⟩ : ∃ r, M.store v o x = (M, r) ∧ ((er ≠ 0 ∧ r = er) ∨ (er = 0 ∧ v.kind = 2 ∧ r = 6) ∨ (er = 0 ∧ v.kind ≠ 2 ∧ x.kind = 0 ∧ r = 8) ∨ (er = 0 ∧ v.kind ≠ 2 ∧ x.kind ≠ 0 ∧ v.kind ≠ 3 ∧ x.kind ≠ 1 ∧ r = 1)) := by
   rcases hs with ⟨h1, h⟩ | ⟨h1, h2, h⟩ | ⟨h1, h2, h3, h⟩ | ⟨h1, h2, h3, h4, h5, h⟩
   ·exact ⟨_, h, .inl ⟨h1, rfl⟩⟩
   ·exact ⟨_, h, .inr (.inl ⟨h1, h2, rfl⟩)⟩
   ·exact ⟨_, h, .inr (.inr (.inl ⟨h1, h2, h3, rfl⟩))⟩
   ·exact ⟨_, h, .inr (.inr (.inr ⟨h1, h2, h3, h4, h5, rfl⟩))⟩
  rw [hr]
  exact (Store_same b w v x hv o k er r hke hc).mono fun e w' ⟨he, hb⟩ => ⟨he, hM0.later hb, hb.mono (Nat.le_of_lt hlt)⟩
 ·have st : M.store v o x = if er ≠ 0 then (M, er) else if v.kind = 2 then (M, 6) else if x.kind = 0 then (M, 8) else if v.kind = 3 then ({ M with slots := upd M.slots (k + 16).toNat x }, 0) else if x.kind ≠ 1 then (M, 1) else ({ M with cells := upd M.cells (v.cell * 4 + k).toNat x.n }, 0) := by
   unfold Mach.store; rw [hke]
  rw [st] at hs ⊢
  by_cases he : er = 0
  rotate_left
  ·exact absurd (.inl ⟨he, by rw [if_pos he]⟩) hs
  subst he
  rw [if_neg (by simp)] at hs ⊢
  by_cases h2 : v.kind = 2
  ·exact absurd (.inr (.inl ⟨rfl, h2, by rw [if_pos h2]⟩)) hs
  rw [if_neg h2] at hs ⊢
  by_cases h3 : x.kind = 0
  ·exact absurd (.inr (.inr (.inl ⟨rfl, h2, h3, by rw [if_pos h3]⟩))) hs
  rw [if_neg h3] at hs ⊢
  have h0 : (P.far v o).2 = 0 := by rw [hke]
  obtain ⟨k0, k1⟩ := far_kind h0
  have hr := far_ok h0 ⟨k0, k1⟩
  rw [hke] at hr
  by_cases h4 : v.kind = 3
  ·rw [if_pos h4]
   obtain ⟨kind, n, cell⟩ := v
   simp only at h4
   subst h4
   simp only [low, high] at hr
   obtain ⟨q, hq⟩ := Int.eq_ofNat_of_zero_le (show 0 ≤ k + 16 by simp at hr; omega)
   obtain rfl : k = (q : Int) - 16 := by omega
   rw [show ((q : Int) - 16 + 16).toNat = q by omega]
   exact (Store_slot b code told time out M w hI n o cell x h3 q (by simp at hr; omega) hke).mono fun e w' ⟨he, hi, hb⟩ => ⟨he, MacAt.but hO hb hi rfl, hb.below (Nat.le_of_lt hlt)⟩
  rw [if_neg h4] at hs ⊢
  by_cases h5 : x.kind = 1
  rotate_left
  ·exact absurd (.inr (.inr (.inr ⟨rfl, h2, h3, h4, h5, by rw [if_pos h5]⟩))) hs
  rw [if_neg (by simp [h5])]
  obtain ⟨kind, n, cell⟩ := v
  obtain ⟨xk, xn, xc⟩ := x
  obtain ⟨hk, hc⟩ := hv
  simp only at hk hc k0 k1 hr h2 h4 h5
  obtain rfl : kind = 4 := by omega
  subst h5
  simp only [low, high] at hr
  obtain ⟨q, rfl⟩ := Int.eq_ofNat_of_zero_le (show 0 ≤ k by simp at hr; omega)
  have hcc := hc rfl
  obtain ⟨cc, rfl⟩ := Int.eq_ofNat_of_zero_le hcc.1
  simp only
  rw [show ((cc : Int) * 4 + (q : Int)).toNat = cc * 4 + q by omega]
  exact (Store_cell b code told time out M w hI n o xn xc cc q (by omega) (by simp at hr; omega) hke).mono fun e w' ⟨he, hi, hb⟩ => ⟨he, MacAt.but hO hb hi rfl, hb.below (Nat.le_of_lt hlt)⟩
theorem Call_any (b : Nat) (code : Value) (told : Nat → Int) (time : Int) (M : Mach) (w : World) (hM : MacAt w b code told time M) (n : Int) (hn : n = 1 ∨ n = 2 ∨ n = 3) :
  Calls Tryz.prog 69 #[.pointer (some ⟨b, 0, none⟩), .int .i64 n] w fun e w' => e = .returned (.int .i64 (M.call time n).2) ∧ MacAt w' b code told time (M.call time n).1 ∧ Below b w w' := by
 have hlt := hM.ge
 have hM0 := hM
 obtain ⟨out, hI, hO⟩ := hM
 by_cases h : n ≠ 2 ∧ (M.regs 1).kind ≠ 1
 ·have e : M.call time n = (M, if (M.regs 1).kind = 0 then 8 else 1) := by
   unfold Mach.call
   by_cases k0 : (M.regs 1).kind = 0
   ·rw [if_pos ⟨h.1, k0⟩, if_pos k0]
   ·rw [if_neg (fun x => k0 x.2), if_pos h, if_neg k0]
  rw [e]
  exact (Call_err b code told time out M w hI n h.1 (M.regs 1) rfl h.2).mono fun e w' ⟨he, hb⟩ => ⟨he, hM0.later hb, hb.mono (Nat.le_of_lt hlt)⟩
 ·have e0 : (M.call time n).2 = 0 := by
   unfold Mach.call
   rw [if_neg (by omega), if_neg h]
  rw [e0]
  have eo : n ≠ 3 → (M.call time n).1.out = M.out := by
   intro h3
   unfold Mach.call
   rw [if_neg (by omega), if_neg h]
   simp only
   rw [if_neg (by omega)]
  have h1 : n ≠ 2 → M.regs 1 = ⟨1, (M.regs 1).n, (M.regs 1).cell⟩ := fun h2 => by
   have : (M.regs 1).kind = 1 := by omega
   rw [← this]
  rcases hn with rfl | rfl | rfl
  ·exact (Call_find b code told time out M w hI _ _ (h1 (by decide))).mono fun e w' ⟨he, hi, hb⟩ => ⟨he, MacAt.but hO hb hi (eo (by decide)), hb.below (Nat.le_of_lt hlt)⟩
  ·exact (Call_time b code told time out M w hI _ _ _ rfl).mono fun e w' ⟨he, hi, hb⟩ => ⟨he, MacAt.but hO hb hi (eo (by decide)), hb.below (Nat.le_of_lt hlt)⟩
  ·exact (Call_emit b code told time out M w hI hO _ _ (h1 (by decide))).mono fun e w' ⟨he, hi, hb⟩ => ⟨he, hi, hb⟩
end Go.Proofs.YtpdlmbbgioenoaaGreatDoor.W
namespace Go.Proofs.YtpdlmbbgioenoaaGreatDoor.W
open Go.RowKit Go.Proofs.YtpdlmbbgioenoaaGreatDoor.P
theorem Second_any (b : Nat) (code : Value) (told : Nat → Int) (time : Int) (out : Value) (M : Mach) (w : World) (hI : Img w b 108 (mimg code told time out M)) (c d s : Int) (r : Bool) (o n : Int) (hs : 0 ≤ s ∧ s < 11) :
  Calls Tryz.prog 68 #[.pointer (some ⟨b, 0, none⟩), .agg #[.int .i64 c, .int .i64 d, .int .i64 s, .bool r, .int .i64 o, .int .i64 n]] w fun e w' =>
   e = .returned (.agg #[.int .i64 (M.second ⟨c, d, s, r, o, n⟩).kind, .int .i64 (M.second ⟨c, d, s, r, o, n⟩).n, .int .i64 (M.second ⟨c, d, s, r, o, n⟩).cell]) ∧ Below w.heap.size w w' := by
 cases r
 ·exact Second_num _ w c d s o n
 ·obtain ⟨k, rfl⟩ := Int.eq_ofNat_of_zero_le hs.1
  have := Second_reg b code told time out M w hI c d k (by omega) o n
  simpa [Mach.second] using this
attribute [local go_sem ↓] Go.wp_at_zero Go.wp_at_succ
set_option maxHeartbeats 1000000 in
theorem MAsks_any (b : Nat) (code : Value) (told : Nat → Int) (time : Int) (out : Value) (M : Mach) (w : World) (hI : Img w b 108 (mimg code told time out M)) (c s : Int) (d : Nat) (r : Bool) (o n : Int) (hd : d < 11) (hs : 0 ≤ s ∧ s < 11)
  (a x : Val) (ha : M.regs d = a) (hx : M.second ⟨c, d, s, r, o, n⟩ = x) :
  Calls Tryz.prog 65 #[.pointer (some ⟨b, 0, none⟩), .agg #[.int .i64 c, .int .i64 d, .int .i64 s, .bool r, .int .i64 o, .int .i64 n]] w fun e w' =>
   e = .returned (.tuple #[.bool (M.asks ⟨c, d, s, r, o, n⟩).1, .int .i64 (M.asks ⟨c, d, s, r, o, n⟩).2]) ∧ Below w.heap.size w w' := by
 have HW0 := Lib.hid (Below.refl w.heap.size w)
 have hlt := hI.lt (by omega)
 have hS : ∀ w', Img w' b 108 (mimg code told time out M) → Calls Tryz.prog 68 #[.pointer (some ⟨b, 0, none⟩), .agg #[.int .i64 c, .int .i64 d, .int .i64 s, .bool r, .int .i64 o, .int .i64 n]] w' fun e w'' =>
   e = .returned (.agg #[.int .i64 x.kind, .int .i64 x.n, .int .i64 x.cell]) ∧ Below w'.heap.size w' w'' := fun w' h => by
  have := Second_any b code told time out M w' h c d s r o n hs
  rw [hx] at this; exact this
 have HS := Lib.hid hS
 clear hS
 have d7 : (d : Int) < 11 := by omega
 have c0 := (hI.cell (1 + d * 3) (by omega)).trans (congrArg some ((mimg_reg hd (by omega : 0 < 3) (by omega)).trans (vcell_0 _)))
 have c1 := (hI.cell (1 + d * 3 + 1) (by omega)).trans (congrArg some ((mimg_reg hd (by omega : 1 < 3) (by omega)).trans (vcell_1 _)))
 have c2 := (hI.cell (1 + d * 3 + 2) (by omega)).trans (congrArg some ((mimg_reg hd (by omega : 2 < 3) (by omega)).trans (vcell_2 _)))
 rw [ha] at c0 c1 c2
 have HI := Lib.hid hI
 have HX := Lib.hid hx
 have HA := Lib.hid ha
 clear hI hx ha
 go_enter Tryz.func65, Tryz.ntmps65
 go_wp2_with fail
 generalize hW : World.alloc w _ = wd
 have I1 : Img wd b 108 (mimg code told time out M) := hW ▸ HI.out.alloc _
 have h1 : w.heap.size < wd.heap.size := by rw [← hW]; simp
 have HW1 : Hid (Below w.heap.size w wd) := Lib.hid (hW ▸ (Below.refl w.heap.size w).alloc (Nat.le_refl _) _)
 have e0 : wd.cell? ⟨w.heap.size, 0, none⟩ = some (.int .i64 c) := by rw [← hW]; simp [go_sem]
 have e1 : wd.cell? ⟨w.heap.size, 1, none⟩ = some (.int .i64 d) := by rw [← hW]; simp [go_sem]
 have e2 : wd.cell? ⟨w.heap.size, 2, none⟩ = some (.int .i64 s) := by rw [← hW]; simp [go_sem]
 have e3 : wd.cell? ⟨w.heap.size, 3, none⟩ = some (.bool r) := by rw [← hW]; simp [go_sem]
 have e4 : wd.cell? ⟨w.heap.size, 4, none⟩ = some (.int .i64 o) := by rw [← hW]; simp [go_sem]
 have e5 : wd.cell? ⟨w.heap.size, 5, none⟩ = some (.int .i64 n) := by rw [← hW]; simp [go_sem]
 clear hW
 replace c0 := (I1.cell (1 + d * 3) (by omega)).trans (congrArg some ((mimg_reg hd (by omega : 0 < 3) (by omega)).trans (vcell_0 _)))
 replace c1 := (I1.cell (1 + d * 3 + 1) (by omega)).trans (congrArg some ((mimg_reg hd (by omega : 1 < 3) (by omega)).trans (vcell_1 _)))
 replace c2 := (I1.cell (1 + d * 3 + 2) (by omega)).trans (congrArg some ((mimg_reg hd (by omega : 2 < 3) (by omega)).trans (vcell_2 _)))
 rw [HA.out] at c0 c1 c2
 have k0 := cell_regrown c0; have k1 := cell_regrown c1; have k2 := cell_regrown c2
 have k3 := cell_regrown e0; have k4 := cell_regrown e1; have k5 := cell_regrown e2; have k6 := cell_regrown e3; have k7 := cell_regrown e4; have k8 := cell_regrown e5
 have HI1 := Lib.hid I1
 clear I1
 have zb : b < wd.heap.size := by omega
 clear k0 k1 k2 k3 k4 k5 k6 k7 k8
 have mwd00 : ¬ b = wd.heap.size := (by omega); have mwd01 : ¬ b = wd.heap.size + 1 := (by omega); have mwd10 : ¬ w.heap.size = wd.heap.size := (by omega); have mwd11 : ¬ w.heap.size = wd.heap.size + 1 := (by omega); have lwd00 : ¬ wd.heap.size = b := (by omega); have lwd01 : ¬ wd.heap.size + 1 = b := (by omega); have lwd10 : ¬ wd.heap.size = w.heap.size := (by omega); have lwd11 : ¬ wd.heap.size + 1 = w.heap.size := (by omega)
 go_cut [6, 7] (fun u6 u7 wr => ∃ p q : Nat, u6 = .pointer (some ⟨p, 0, none⟩) ∧ u7 = .pointer (some ⟨q, 0, none⟩) ∧ wr.cell? ⟨p, 0, none⟩ = some (.int .i64 a.kind) ∧ wr.cell? ⟨p, 1, none⟩ = some (.int .i64 a.n) ∧ wr.cell? ⟨q, 0, none⟩ = some (.int .i64 x.kind) ∧ wr.cell? ⟨q, 1, none⟩ = some (.int .i64 x.n) ∧
  wr.cell? ⟨w.heap.size, 0, none⟩ = some (.int .i64 c) ∧ wr.cell? ⟨w.heap.size, 3, none⟩ = some (.bool r) ∧ wr.cell? ⟨w.heap.size, 5, none⟩ = some (.int .i64 n) ∧ Below w.heap.size w wr)
 case first =>
  go_region_held3 (fun w' => w'.cell? ⟨b, 1 + d * 3, none⟩ = some (.int .i64 a.kind) ∧ w'.cell? ⟨b, 1 + d * 3 + 1, none⟩ = some (.int .i64 a.n) ∧ w'.cell? ⟨b, 1 + d * 3 + 2, none⟩ = some (.int .i64 a.cell) ∧ w'.cell? ⟨w.heap.size, 0, none⟩ = some (.int .i64 c) ∧ w'.cell? ⟨w.heap.size, 1, none⟩ = some (.int .i64 d) ∧ w'.cell? ⟨w.heap.size, 2, none⟩ = some (.int .i64 s) ∧ w'.cell? ⟨w.heap.size, 3, none⟩ = some (.bool r) ∧ w'.cell? ⟨w.heap.size, 4, none⟩ = some (.int .i64 o) ∧ w'.cell? ⟨w.heap.size, 5, none⟩ = some (.int .i64 n)) (first | go_keep | (go_split_ands; exact ⟨by first | assumption | (rw [hb.cell (by first | omega | simp <;> omega)]; first | assumption | go_keep) | (simp [go_sem, *]; done), by first | assumption | (rw [hb.cell (by first | omega | simp <;> omega)]; first | assumption | go_keep) | (simp [go_sem, *]; done), by first | assumption | (rw [hb.cell (by first | omega | simp <;> omega)]; first | assumption | go_keep) | (simp [go_sem, *]; done), by first | assumption | (rw [hb.cell (by first | omega | simp <;> omega)]; first | assumption | go_keep) | (simp [go_sem, *]; done), by first | assumption | (rw [hb.cell (by first | omega | simp <;> omega)]; first | assumption | go_keep) | (simp [go_sem, *]; done), by first | assumption | (rw [hb.cell (by first | omega | simp <;> omega)]; first | assumption | go_keep) | (simp [go_sem, *]; done), by first | assumption | (rw [hb.cell (by first | omega | simp <;> omega)]; first | assumption | go_keep) | (simp [go_sem, *]; done), by first | assumption | (rw [hb.cell (by first | omega | simp <;> omega)]; first | assumption | go_keep) | (simp [go_sem, *]; done), by first | assumption | (rw [hb.cell (by first | omega | simp <;> omega)]; first | assumption | go_keep) | (simp [go_sem, *]; done)⟩))
   (first | (go_at_call 68; refine (HS.out _ ?_).mono ?_; (first | exact HI1.out.drew | exact (HI1.out.alloc _).drew | exact ((HI1.out.alloc _).alloc _).drew | exact HI1.out | exact (HI1.out.alloc _) | exact ((HI1.out.alloc _).alloc _)); rintro e w1 ⟨rfl, hb⟩; obtain ⟨hc1, hf1⟩ := bcell hb; have z1 := hb.size; (try simp at z1); have mw100 : ¬ b = w1.heap.size := (by omega); have mw101 : ¬ b = w1.heap.size + 1 := (by omega); have mw110 : ¬ w.heap.size = w1.heap.size := (by omega); have mw111 : ¬ w.heap.size = w1.heap.size + 1 := (by omega); have lw100 : ¬ w1.heap.size = b := (by omega); have lw101 : ¬ w1.heap.size + 1 = b := (by omega); have lw110 : ¬ w1.heap.size = w.heap.size := (by omega); have lw111 : ¬ w1.heap.size + 1 = w.heap.size := (by omega); (try (have zz0 : wd.heap.size < w1.heap.size := (by omega); have p00 : w1.cell? ⟨wd.heap.size, 0, none⟩ = some (.int .i64 0) := (by rw [hc1 _ _ (by first | omega | simp <;> omega)]; simp [go_sem]); have q00 : w1.frozen? ⟨wd.heap.size, 0, none⟩ = false := (by rw [hf1 _ _ (by first | omega | simp <;> omega)]; simp [go_sem]); have p01 : w1.cell? ⟨wd.heap.size, 1, none⟩ = some (.int .i64 0) := (by rw [hc1 _ _ (by first | omega | simp <;> omega)]; simp [go_sem]); have q01 : w1.frozen? ⟨wd.heap.size, 1, none⟩ = false := (by rw [hf1 _ _ (by first | omega | simp <;> omega)]; simp [go_sem]); have p02 : w1.cell? ⟨wd.heap.size, 2, none⟩ = some (.int .i64 0) := (by rw [hc1 _ _ (by first | omega | simp <;> omega)]; simp [go_sem]); have q02 : w1.frozen? ⟨wd.heap.size, 2, none⟩ = false := (by rw [hf1 _ _ (by first | omega | simp <;> omega)]; simp [go_sem]))); (try (have zz1 : wd.heap.size + 1 < w1.heap.size := (by omega); have p10 : w1.cell? ⟨wd.heap.size + 1, 0, none⟩ = some (.int .i64 0) := (by rw [hc1 _ _ (by first | omega | simp <;> omega)]; simp [go_sem]); have q10 : w1.frozen? ⟨wd.heap.size + 1, 0, none⟩ = false := (by rw [hf1 _ _ (by first | omega | simp <;> omega)]; simp [go_sem]); have p11 : w1.cell? ⟨wd.heap.size + 1, 1, none⟩ = some (.int .i64 0) := (by rw [hc1 _ _ (by first | omega | simp <;> omega)]; simp [go_sem]); have q11 : w1.frozen? ⟨wd.heap.size + 1, 1, none⟩ = false := (by rw [hf1 _ _ (by first | omega | simp <;> omega)]; simp [go_sem]); have p12 : w1.cell? ⟨wd.heap.size + 1, 2, none⟩ = some (.int .i64 0) := (by rw [hc1 _ _ (by first | omega | simp <;> omega)]; simp [go_sem]); have q12 : w1.frozen? ⟨wd.heap.size + 1, 2, none⟩ = false := (by rw [hf1 _ _ (by first | omega | simp <;> omega)]; simp [go_sem]))); have y0 : w1.cell? ⟨b, 1 + d * 3, none⟩ = some (.int .i64 a.kind) := (hb.cell (p := ⟨b, 1 + d * 3, none⟩) (by first | omega | simp <;> omega)).trans (by first | exact c0 | (simp [go_sem, c0, zb]; done)); have y1 : w1.cell? ⟨b, 1 + d * 3 + 1, none⟩ = some (.int .i64 a.n) := (hb.cell (p := ⟨b, 1 + d * 3 + 1, none⟩) (by first | omega | simp <;> omega)).trans (by first | exact c1 | (simp [go_sem, c1, zb]; done)); have y2 : w1.cell? ⟨b, 1 + d * 3 + 2, none⟩ = some (.int .i64 a.cell) := (hb.cell (p := ⟨b, 1 + d * 3 + 2, none⟩) (by first | omega | simp <;> omega)).trans (by first | exact c2 | (simp [go_sem, c2, zb]; done)); have x0 : w1.cell? ⟨w.heap.size, 0, none⟩ = some (.int .i64 c) := (hb.cell (p := ⟨w.heap.size, 0, none⟩) (by first | omega | simp <;> omega)).trans (by first | exact e0 | (simp [go_sem, e0, h1]; done)); have x1 : w1.cell? ⟨w.heap.size, 1, none⟩ = some (.int .i64 d) := (hb.cell (p := ⟨w.heap.size, 1, none⟩) (by first | omega | simp <;> omega)).trans (by first | exact e1 | (simp [go_sem, e1, h1]; done)); have x2 : w1.cell? ⟨w.heap.size, 2, none⟩ = some (.int .i64 s) := (hb.cell (p := ⟨w.heap.size, 2, none⟩) (by first | omega | simp <;> omega)).trans (by first | exact e2 | (simp [go_sem, e2, h1]; done)); have x3 : w1.cell? ⟨w.heap.size, 3, none⟩ = some (.bool r) := (hb.cell (p := ⟨w.heap.size, 3, none⟩) (by first | omega | simp <;> omega)).trans (by first | exact e3 | (simp [go_sem, e3, h1]; done)); have x4 : w1.cell? ⟨w.heap.size, 4, none⟩ = some (.int .i64 o) := (hb.cell (p := ⟨w.heap.size, 4, none⟩) (by first | omega | simp <;> omega)).trans (by first | exact e4 | (simp [go_sem, e4, h1]; done)); have x5 : w1.cell? ⟨w.heap.size, 5, none⟩ = some (.int .i64 n) := (hb.cell (p := ⟨w.heap.size, 5, none⟩) (by first | omega | simp <;> omega)).trans (by first | exact e5 | (simp [go_sem, e5, h1]; done)); (try have z10 : wd.heap.size < w1.heap.size := (by omega)); (try have z11 : wd.heap.size + 1 < w1.heap.size := (by omega)); have z12 : b < w1.heap.size := (by omega); have z13 : w.heap.size < w1.heap.size := (by omega); clear hc1 hf1))
  all_goals
   go_wp2_with fail
   go_meet
   (first
    | (refine ⟨w1.heap.size, w1.heap.size + 1, ?_, ?_, ?_, ?_, ?_, ?_, ?_, ?_, ?_, ?_⟩; with_reducible rfl; with_reducible rfl)
    | (refine ⟨w1.heap.size + 1, w1.heap.size, ?_, ?_, ?_, ?_, ?_, ?_, ?_, ?_, ?_, ?_⟩; with_reducible rfl; with_reducible rfl)
    | (refine ⟨wd.heap.size, w1.heap.size, ?_, ?_, ?_, ?_, ?_, ?_, ?_, ?_, ?_, ?_⟩; with_reducible rfl; with_reducible rfl)
    | (refine ⟨w1.heap.size, wd.heap.size, ?_, ?_, ?_, ?_, ?_, ?_, ?_, ?_, ?_, ?_⟩; with_reducible rfl; with_reducible rfl)
    | (refine ⟨wd.heap.size, wd.heap.size + 1, ?_, ?_, ?_, ?_, ?_, ?_, ?_, ?_, ?_, ?_⟩; with_reducible rfl; with_reducible rfl)
    | (refine ⟨wd.heap.size + 1, wd.heap.size, ?_, ?_, ?_, ?_, ?_, ?_, ?_, ?_, ?_, ?_⟩; with_reducible rfl; with_reducible rfl))
  all_goals (first | (with_reducible refine Below.mono ?_ (Nat.le_refl _); go_light; repeat' (first | with_reducible exact HW1.out | with_reducible refine Below.drew ?_ | with_reducible refine Below.alloc ?_ ?_ _ | with_reducible refine Below.setCell ?_ ?_ _ | with_reducible refine Below.trans ?_ (hb.mono ?_) | (simp; done) | (simp; omega) | omega)) | (go_light; simp [go_sem, *]; done))
 case rest =>
  obtain ⟨p, q, rfl, rfl, a0, a1, b0, b1, f0, f3, f5, HBc⟩ := hcut
  have HWc := Lib.hid HBc
  clear HBc
  have ea : (M.regs (d : Int).toNat) = a := by rw [Int.toNat_natCast]; exact HA.out
  have eA : M.asks ⟨c, d, s, r, o, n⟩ = if a.kind = 0 ∨ x.kind = 0 then (false, 8) else if a.kind = 1 ∧ x.kind = 1 then (is c a.n x.n, 0) else if r = true ∨ n ≠ 0 ∨ (c ≠ 15 ∧ c ≠ 16) then (false, 1) else (decide (c = 16), 0) := by
   unfold Mach.asks; simp only [ea, HX.out]
  have hfin : ∀ (P : Bool × Int), M.asks ⟨c, d, s, r, o, n⟩ = P → ∀ {e : Ending} {w' : World}, e = .returned (.tuple #[.bool P.1, .int .i64 P.2]) ∧ Below w.heap.size w w' → e = .returned (.tuple #[.bool (M.asks ⟨c, d, s, r, o, n⟩).1, .int .i64 (M.asks ⟨c, d, s, r, o, n⟩).2]) ∧ Below w.heap.size w w' := fun P h => by rw [h]; exact fun h => h
  have HF := Lib.hid hfin
  have HE := Lib.hid eA
  clear eA ea hfin
  by_cases k1 : a.kind = 0
  ·have q1 : (a.kind == 0) = true := by rw [beq_iff_eq]; exact k1
   rw [if_pos (.inl k1)] at HE
   clear k1
   go_wp2_with fail
   go_ret2
   exact HF.out _ HE.out ⟨rfl, HWc.out⟩
  have q1 : (a.kind == 0) = false := by rw [beq_eq_false_iff_ne]; exact k1
  by_cases k2 : x.kind = 0
  ·have q2 : (x.kind == 0) = true := by rw [beq_iff_eq]; exact k2
   rw [if_pos (.inr k2)] at HE
   clear k1 k2
   go_wp2_with fail
   go_ret2
   exact HF.out _ HE.out ⟨rfl, HWc.out⟩
  have q2 : (x.kind == 0) = false := by rw [beq_eq_false_iff_ne]; exact k2
  rw [if_neg (by simp [k1, k2])] at HE
  by_cases k3 : a.kind = 1 ∧ x.kind = 1
  ·have q3 : (a.kind == 1) = true := by rw [beq_iff_eq]; exact k3.1
   have q4 : (x.kind == 1) = true := by rw [beq_iff_eq]; exact k3.2
   rw [if_pos k3] at HE
   clear k1 k2 k3
   go_wp2_with (go_at_call 119; refine (Is_any _ _ _ _).mono ?_; rintro e w' ⟨rfl, rfl⟩)
   go_ret2
   exact HF.out _ HE.out ⟨rfl, HWc.out⟩
  rw [if_neg k3] at HE
  have hk : (a.kind == 1) = false ∨ ((a.kind == 1) = true ∧ (x.kind == 1) = false) := by
   rw [beq_eq_false_iff_ne, beq_eq_false_iff_ne, beq_iff_eq]; omega
  clear k1 k2 k3
  have hv : (r = true ∧ M.asks ⟨c, d, s, r, o, n⟩ = (false, 1)) ∨ (r = false ∧ (n == 0) = false ∧ M.asks ⟨c, d, s, r, o, n⟩ = (false, 1)) ∨
    (r = false ∧ n = 0 ∧ (c == 15) = false ∧ (c == 16) = false ∧ M.asks ⟨c, d, s, r, o, n⟩ = (false, 1)) ∨ (r = false ∧ n = 0 ∧ c = 15 ∧ M.asks ⟨c, d, s, r, o, n⟩ = (false, 0)) ∨ (r = false ∧ n = 0 ∧ c = 16 ∧ M.asks ⟨c, d, s, r, o, n⟩ = (true, 0)) := by
   rw [HE.out]
   cases r
   ·by_cases h0 : n = 0
    ·by_cases h5 : c = 15
     ·simp [h0, h5]
     ·by_cases h6 : c = 16
      ·simp [h0, h6]
      ·simp [h0, h5, h6]
    ·simp [h0]
   ·simp
  clear HE
  rcases hv with ⟨rfl, hv⟩ | ⟨rfl, n0, hv⟩ | ⟨rfl, rfl, c15, c16, hv⟩ | ⟨rfl, rfl, rfl, hv⟩ | ⟨rfl, rfl, rfl, hv⟩ <;> rcases hk with q3 | ⟨q3, q4⟩
  all_goals
   have HV := Lib.hid hv
   clear hv
   (try (have d0 : (n != 0) = true := by rw [bne_iff_ne]; exact beq_eq_false_iff_ne.1 n0))
   (try (have d15 : (c != 15) = true := by rw [bne_iff_ne]; exact beq_eq_false_iff_ne.1 c15))
   (try (have d16 : (c != 16) = true := by rw [bne_iff_ne]; exact beq_eq_false_iff_ne.1 c16))
   go_wp2_with fail
   go_ret2
   exact HF.out _ HV.out ⟨rfl, HWc.out⟩
end Go.Proofs.YtpdlmbbgioenoaaGreatDoor.W
namespace Go.Proofs.YtpdlmbbgioenoaaGreatDoor.W
open Go.RowKit
theorem built_ran (n c0 c1 c2 c3 c4 c5 c6 c7 c8 c9 c10 c11 c12 c13 c14 c15 st : Int) (og : Option Addr) (len cap : Nat) : Tryz.prog.built 87 [(0, .int .i64 n), (1, .agg #[.int .i64 c0, .int .i64 c1, .int .i64 c2, .int .i64 c3, .int .i64 c4, .int .i64 c5, .int .i64 c6, .int .i64 c7, .int .i64 c8, .int .i64 c9, .int .i64 c10, .int .i64 c11, .int .i64 c12, .int .i64 c13, .int .i64 c14, .int .i64 c15]), (2, .slice og len cap), (3, .int .i64 st)] = some #[.int .i64 n, .int .i64 c0, .int .i64 c1, .int .i64 c2, .int .i64 c3, .int .i64 c4, .int .i64 c5, .int .i64 c6, .int .i64 c7, .int .i64 c8, .int .i64 c9, .int .i64 c10, .int .i64 c11, .int .i64 c12, .int .i64 c13, .int .i64 c14, .int .i64 c15, .slice og len cap, .int .i64 st] := by
 kernel_rfl
theorem size_ran : (Tryz.prog.info? 87).map (·.size) = some 19 := by kernel_rfl
theorem one_ran (n c0 c1 c2 c3 c4 c5 c6 c7 c8 c9 c10 c11 c12 c13 c14 c15 st : Int) (og : Option Addr) (len cap : Nat) : (#[.int .i64 n, .int .i64 c0, .int .i64 c1, .int .i64 c2, .int .i64 c3, .int .i64 c4, .int .i64 c5, .int .i64 c6, .int .i64 c7, .int .i64 c8, .int .i64 c9, .int .i64 c10, .int .i64 c11, .int .i64 c12, .int .i64 c13, .int .i64 c14, .int .i64 c15, .slice og len cap, .int .i64 st] : Array Value).all (·.oneCell') = true := by kernel_rfl
theorem size_ranz : (Tryz.prog.info? 87).map (·.size) = some (Array.size (#[.int .i64 0, .int .i64 0, .int .i64 0, .int .i64 0, .int .i64 0, .int .i64 0, .int .i64 0, .int .i64 0, .int .i64 0, .int .i64 0, .int .i64 0, .int .i64 0, .int .i64 0, .int .i64 0, .int .i64 0, .int .i64 0, .int .i64 0, .slice none 0 0, .int .i64 0] : Array Value)) := by kernel_rfl
theorem built_ranz : Tryz.prog.built 87 [] = some #[.int .i64 0, .int .i64 0, .int .i64 0, .int .i64 0, .int .i64 0, .int .i64 0, .int .i64 0, .int .i64 0, .int .i64 0, .int .i64 0, .int .i64 0, .int .i64 0, .int .i64 0, .int .i64 0, .int .i64 0, .int .i64 0, .int .i64 0, .slice none 0 0, .int .i64 0] := by kernel_rfl
theorem one_ranz : (#[.int .i64 0, .int .i64 0, .int .i64 0, .int .i64 0, .int .i64 0, .int .i64 0, .int .i64 0, .int .i64 0, .int .i64 0, .int .i64 0, .int .i64 0, .int .i64 0, .int .i64 0, .int .i64 0, .int .i64 0, .int .i64 0, .int .i64 0, .slice none 0 0, .int .i64 0] : Array Value).all (·.oneCell') = true := by kernel_rfl
open Go.Proofs.YtpdlmbbgioenoaaGreatDoor.P in
theorem but_setCells {b : Nat} : ∀ (vs : List Value) (o : Nat) (w x : World), But b x w → But b x (w.setCells b o vs)
 | [], _, _, _, h => h
 | v :: r, o, w, x, h => by rw [World.setCells]; exact but_setCells r (o + 1) _ _ (h.setCell (.inl rfl) v)
theorem below_setCells {b B : Nat} (hB : B ≤ b) : ∀ (vs : List Value) (o : Nat) (w x : World), Below B x w → Below B x (w.setCells b o vs)
 | [], _, _, _, h => h
 | v :: r, o, w, x, h => by rw [World.setCells]; exact below_setCells hB r (o + 1) _ _ (h.setCell hB v)
open Go.Proofs.YtpdlmbbgioenoaaGreatDoor.P in
theorem owns_setCells {w : World} {B T n g : Nat} {v : Value} {xs vs : List Value} (h : w.ownsRow B T 1 v n xs) (hg : g < B) : (w.setCells g 0 vs).ownsRow B T 1 v n xs :=
 h.kept (but_setCells (b := g) vs 0 w w (But.refl _ _)).grown (by have := h.lt; cases hv : v.ownBlock with | none => exact .inl rfl | some q => (right; intro e; have := (this q hv).1; injection e; omega))
end Go.Proofs.YtpdlmbbgioenoaaGreatDoor.W
namespace Go.Proofs.YtpdlmbbgioenoaaGreatDoor.W
open Go.RowKit Go.Proofs.YtpdlmbbgioenoaaGreatDoor.P
def words8 (f : Nat → Int) : Value := .agg #[.int .i64 (f 0), .int .i64 (f 1), .int .i64 (f 2), .int .i64 (f 3), .int .i64 (f 4), .int .i64 (f 5), .int .i64 (f 6), .int .i64 (f 7)]
def words16 (f : Nat → Int) : Value := .agg #[.int .i64 (f 0), .int .i64 (f 1), .int .i64 (f 2), .int .i64 (f 3), .int .i64 (f 4), .int .i64 (f 5), .int .i64 (f 6), .int .i64 (f 7), .int .i64 (f 8), .int .i64 (f 9), .int .i64 (f 10), .int .i64 (f 11), .int .i64 (f 12), .int .i64 (f 13), .int .i64 (f 14), .int .i64 (f 15)]
def ranz : Nat → Value := fun j => if j = 17 then .slice none 0 0 else .int .i64 0
theorem ErrIs.nil {w : World} {v : Value} {p : Int} (h : ErrIs w v 0 p) : v = .nilIface := by
 rcases h with ⟨h, -, -⟩ | ⟨h, -⟩ | ⟨h, -⟩
 ·exact h
 ·exact absurd rfl h
 ·exact absurd rfl h
theorem Img.mk' {w : World} {b n : Nat} {c : Array Value} {t : TypeId} {I : Nat → Value} (hb : w.heap[b]? = some (.cells c t (0, 0))) (e : c.toList = (List.range n).map I) : Img w b n I := by
 have hs : c.size = n := by rw [← Array.length_toList, e]; simp
 refine Img.of_cells hb hs.symm fun j hj => ?_
 rw [← Array.getElem?_toList, e]
 simp [hj]
def RanIs (w : World) (v err : Value) : (Int × Int) ⊕ (Mach × Int × Int) → Prop
 | .inl (e, p) => v = .agg #[.int .i64 0, .int .i64 0, .int .i64 0, .int .i64 0, .int .i64 0, .int .i64 0, .int .i64 0, .int .i64 0, .int .i64 0, .int .i64 0, .int .i64 0, .int .i64 0, .int .i64 0, .int .i64 0, .int .i64 0, .int .i64 0, .int .i64 0, .slice none 0 0, .int .i64 0] ∧ ErrIs w err e p ∧ e ≠ 0
 | .inr (M, num, st) => ∃ out, v = .agg #[.int .i64 num, .int .i64 (M.cells 0), .int .i64 (M.cells 1), .int .i64 (M.cells 2), .int .i64 (M.cells 3), .int .i64 (M.cells 4), .int .i64 (M.cells 5), .int .i64 (M.cells 6), .int .i64 (M.cells 7), .int .i64 (M.cells 8), .int .i64 (M.cells 9), .int .i64 (M.cells 10), .int .i64 (M.cells 11), .int .i64 (M.cells 12), .int .i64 (M.cells 13), .int .i64 (M.cells 14), .int .i64 (M.cells 15), out, .int .i64 st] ∧ err = .nilIface ∧ ∃ B, w.ownsRow B 2 1 out M.out.length (M.out.map (Value.int .i64))
theorem there_img {w : World} {g n : Nat} {I : Nat → Value} (h : Img w g n I) : w.there g 0 n := fun j hj => ⟨by rw [Nat.zero_add, h.cell j hj]; rfl, by rw [Nat.zero_add]; exact h.free j hj⟩
theorem ErrIs.setZero {w : World} {v : Value} {n p : Int} {g : Nat} {vs : List Value} (h : ErrIs w v n p) (hI : Img w g 19 ranz) : ErrIs (w.setCells g 0 vs) v n p := by
 rcases h with h | h | ⟨hne, b, hv, h0, h1⟩
 ·exact .inl h
 ·exact .inr (.inl h)
 ·have hbg : b ≠ g := by
   rintro rfl
   have := hI.cell 0 (by omega)
   rw [h0] at this
   simp [ranz] at this
   exact hne this
  have B := but_setCells (b := g) vs 0 w w (But.refl _ _)
  exact .inr (.inr ⟨hne, b, hv, B.cell h0 hbg, B.cell h1 hbg⟩)
theorem ErrIs.iface {w : World} {v : Value} {n p : Int} (h : ErrIs w v n p) (hn : n ≠ 0) : ∃ t x, v = .iface t x := by
 rcases h with ⟨-, h, -⟩ | ⟨-, h, -⟩ | ⟨-, b, h, -⟩
 ·exact absurd h hn
 ·exact ⟨_, _, h⟩
 ·exact ⟨_, _, h⟩
end Go.Proofs.YtpdlmbbgioenoaaGreatDoor.W
namespace Go.Proofs.YtpdlmbbgioenoaaGreatDoor.W
open Go.RowKit Go.Proofs.YtpdlmbbgioenoaaGreatDoor.P
theorem MacAt.setReg {w : World} {b : Nat} {code : Value} {told : Nat → Int} {time : Int} {M : Mach} (h : MacAt w b code told time M) {r i0 i1 i2 : Nat} (hr : r < 11) (k n c : Int) (e0 : i0 = 1 + r * 3) (e1 : i1 = 1 + r * 3 + 1) (e2 : i2 = 1 + r * 3 + 2) :
  MacAt (((w.setCell ⟨b, i0, none⟩ (.int .i64 k)).setCell ⟨b, i1, none⟩ (.int .i64 n)).setCell ⟨b, i2, none⟩ (.int .i64 c)) b code told time { M with regs := upd M.regs r ⟨k, n, c⟩ } := by
 obtain ⟨out, hI, hO⟩ := h
 exact MacAt.but hO ((((But.refl b w).setCell (.inl rfl) _).setCell (.inl rfl) _).setCell (.inl rfl) _) (hI.setReg hr k n c e0 e1 e2) rfl
theorem asks_err {M : Mach} {t : Step} (h : (M.asks t).2 ≠ 0) : (M.asks t).1 = false := by
 unfold Mach.asks at *
 simp only at *
 split at h
 ·rename_i h1; rw [if_pos h1]
 ·rename_i h1
  rw [if_neg h1]
  split at h
  ·simp at h
  ·rename_i h2
   rw [if_neg h2]
   split at h
   ·rename_i h3; rw [if_pos h3]
   ·simp at h
def StepTo (n : Nat) (told : Nat → Int) (time : Int) (b : Nat) (code : Value) (M : Mach) (t : Step) (pc q : Nat) (er : Int) (M' : Mach) (w : World) : Prop :=
 (er = 0 ∧ pc ≤ q ∧ q + 1 < n ∧ MOk M' ∧ MacAt w b code told time M' ∧ M.step told time t pc = .go M' ((q : Int) + 1)) ∨ (er ≠ 0 ∧ q = pc ∧ M.step told time t pc = .err er)
theorem StepTo.pair {n : Nat} {told : Nat → Int} {time : Int} {b : Nat} {code : Value} {M M' : Mach} {t : Step} {pc : Nat} {er : Int} {w : World} (hs : M.step told time t pc = if er ≠ 0 then .err er else .go M' ((pc : Int) + 1))
  (hn : pc + 1 < n) (hm : MOk M') (ha : MacAt w b code told time M') : StepTo n told time b code M t pc pc er M' w := by
 by_cases he : er = 0
 ·exact .inl ⟨he, Nat.le_refl _, hn, hm, ha, by rw [hs, if_neg (by simp [he])]⟩
 ·exact .inr ⟨he, rfl, by rw [hs, if_pos he]⟩
theorem range16 {w : World} {b : Nat} {code : Value} {told : Nat → Int} {time : Int} {out : Value} {M : Mach} (h : Img w b 108 (mimg code told time out M)) : w.rangeAt b 90 [.int .i64 (M.cells 0), .int .i64 (M.cells 1), .int .i64 (M.cells 2), .int .i64 (M.cells 3), .int .i64 (M.cells 4), .int .i64 (M.cells 5), .int .i64 (M.cells 6), .int .i64 (M.cells 7), .int .i64 (M.cells 8), .int .i64 (M.cells 9), .int .i64 (M.cells 10), .int .i64 (M.cells 11), .int .i64 (M.cells 12), .int .i64 (M.cells 13), .int .i64 (M.cells 14), .int .i64 (M.cells 15)] := by
 intro j v hv
 have e : [.int .i64 (M.cells 0), .int .i64 (M.cells 1), .int .i64 (M.cells 2), .int .i64 (M.cells 3), .int .i64 (M.cells 4), .int .i64 (M.cells 5), .int .i64 (M.cells 6), .int .i64 (M.cells 7), .int .i64 (M.cells 8), .int .i64 (M.cells 9), .int .i64 (M.cells 10), .int .i64 (M.cells 11), .int .i64 (M.cells 12), .int .i64 (M.cells 13), .int .i64 (M.cells 14), .int .i64 (M.cells 15)] = (List.range 16).map fun j => Value.int .i64 (M.cells j) := rfl
 rw [e] at hv
 have hj : j < 16 := by have := (List.getElem?_eq_some_iff.1 hv).1; simpa using this
 rw [h.cell (90 + j) (by omega), mimg_cells (r := j) hj rfl, ← hv]
 simp [hj]
theorem own_slice {w : World} {B T n : Nat} {v : Value} {xs : List Value} (h : w.ownsRow B T 1 v n xs) : ∃ og cap, v = .slice og n cap := by
 rcases h.2 with ⟨h1, h2⟩ | ⟨g, cap, cur, h1, -⟩
 ·exact ⟨none, 0, by rw [h1, h2]⟩
 ·exact ⟨_, _, h1⟩
theorem run_succ (S : Nat → Step) (told : Nat → Int) (time : Int) (k : Nat) (M : Mach) (pc st : Int) : Mach.run S told time (k + 1) M pc st = (match M.step told time (S pc.toNat) pc with
  | .done M n => .inr (M, n, st)
  | .err e => .inl (e, pc)
  | .go M next => Mach.run S told time k M next (st + 1)) := rfl
theorem step_load (M : Mach) (told : Nat → Int) (time : Int) (d s : Nat) (r : Bool) (o nn : Int) (pc : Int) : M.step told time ⟨25, d, s, r, o, nn⟩ pc =
  if (M.load told (M.regs s) o).2 ≠ 0 then .err (M.load told (M.regs s) o).2 else .go { M with regs := upd M.regs d (M.load told (M.regs s) o).1 } (pc + 1) := by
 unfold Mach.step; simp
theorem step_store (M : Mach) (told : Nat → Int) (time : Int) (d s : Nat) (r : Bool) (o nn : Int) (pc : Int) : M.step told time ⟨26, d, s, r, o, nn⟩ pc =
  if (M.store (M.regs d) o (M.second ⟨26, d, s, r, o, nn⟩)).2 ≠ 0 then .err (M.store (M.regs d) o (M.second ⟨26, d, s, r, o, nn⟩)).2 else .go (M.store (M.regs d) o (M.second ⟨26, d, s, r, o, nn⟩)).1 (pc + 1) := by
 unfold Mach.step; simp
theorem step_call (M : Mach) (told : Nat → Int) (time : Int) (d s : Nat) (r : Bool) (o nn : Int) (pc : Int) : M.step told time ⟨27, d, s, r, o, nn⟩ pc =
  if (M.call time nn).2 ≠ 0 then .err (M.call time nn).2 else .go (M.call time nn).1 (pc + 1) := by
 unfold Mach.step; simp
theorem step_neg (M : Mach) (told : Nat → Int) (time : Int) (d s : Nat) (r : Bool) (o nn : Int) (pc : Int) : M.step told time ⟨13, d, s, r, o, nn⟩ pc =
  if (vcounts 13 (M.regs d) ⟨1, 0, 0⟩).2 ≠ 0 then .err (vcounts 13 (M.regs d) ⟨1, 0, 0⟩).2 else .go { M with regs := upd M.regs d (vcounts 13 (M.regs d) ⟨1, 0, 0⟩).1 } (pc + 1) := by
 unfold Mach.step; simp [Val.num]
theorem step_make (M : Mach) (told : Nat → Int) (time : Int) (c : Int) (hc : c ≤ 12) (d s : Nat) (r : Bool) (o nn : Int) (pc : Int) : M.step told time ⟨c, d, s, r, o, nn⟩ pc =
  if (vcounts c (M.regs d) (M.second ⟨c, d, s, r, o, nn⟩)).2 ≠ 0 then .err (vcounts c (M.regs d) (M.second ⟨c, d, s, r, o, nn⟩)).2 else .go { M with regs := upd M.regs d (vcounts c (M.regs d) (M.second ⟨c, d, s, r, o, nn⟩)).1 } (pc + 1) := by
 unfold Mach.step
 simp only [show ¬ c = 28 by omega, show ¬ c = 14 by omega, show ¬ (15 ≤ c ∧ c ≤ 24) by omega, show ¬ c = 25 by omega, show ¬ c = 26 by omega, show ¬ c = 27 by omega, show ¬ c = 13 by omega, if_false]
 simp
theorem step_ask (M : Mach) (told : Nat → Int) (time : Int) (c : Int) (hc : 15 ≤ c ∧ c ≤ 24) (d s : Nat) (r : Bool) (o nn : Int) (pc : Int) : M.step told time ⟨c, d, s, r, o, nn⟩ pc =
  if (M.asks ⟨c, d, s, r, o, nn⟩).2 ≠ 0 then .err (M.asks ⟨c, d, s, r, o, nn⟩).2 else if (M.asks ⟨c, d, s, r, o, nn⟩).1 then .go M (pc + 1 + o) else .go M (pc + 1) := by
 unfold Mach.step
 simp only [show ¬ c = 28 by omega, show ¬ c = 14 by omega, if_false]
 rw [if_pos hc]
theorem step_jump (M : Mach) (told : Nat → Int) (time : Int) (d s : Nat) (r : Bool) (o nn : Int) (pc : Int) : M.step told time ⟨14, d, s, r, o, nn⟩ pc = .go M (pc + 1 + o) := by
 unfold Mach.step; simp
theorem step_exit (M : Mach) (told : Nat → Int) (time : Int) (d s : Nat) (r : Bool) (o nn : Int) (pc : Int) : M.step told time ⟨28, d, s, r, o, nn⟩ pc =
  if (M.regs 0).kind = 1 then .done M (M.regs 0).n else if (M.regs 0).kind = 0 then .err 8 else .err 1 := by
 unfold Mach.step; simp
set_option maxHeartbeats 16000000 in
theorem Run_ok (a : Addr) (n cap : Nat) (S : Nat → Step) (hn : 1 ≤ n) (hn2 : n ≤ 200) (hcap : n ≤ cap) (told cells : Nat → Int) (time : Int) (w : World) (hs : Cells w a S n) (hg : w.cell? ⟨4, 0, none⟩ = some (.iface 298 (.agg #[.pointer (some ⟨14, 26, none⟩)])))
  (hc : from_ S n 0 n = (0, -1)) :
  Calls Tryz.prog 31 #[.slice (some a) n cap, words8 told, words16 cells, .int .i64 time] w fun e w' => (∃ v err, e = .returned (.tuple #[v, err]) ∧ RanIs w' v err (Mach.run S told time n (Mach.init cells) 0 1)) ∧ Below w.heap.size w w' := by
 have HW0 := Lib.hid (Below.refl w.heap.size w)
 unfold words8 words16
 have ok := fun j (hj : j < n) => at_ok (from_ok n 0 (by omega) (by rw [hc]) j (by omega) hj)
 have OK := Lib.hid ok
 have HS := Lib.hid hs
 have HC := Lib.hid hc
 have HG := Lib.hid hg
 have gz := block_lt_of_cell hg
 have sz : 0 < n → a.block < w.heap.size := fun h => block_lt_of_cell (a := ⟨a.block, a.off + 1, none⟩) (by have := (hs 0 h).2.1; simpa [Addr.add] using this)
 clear ok hs hc hg
 go_enter Tryz.func31, Tryz.ntmps31
 go_wp2_with fail
 refine (Check_some a n cap S hn hn2 hcap _ ?_ ?_).mono ?_
 ·exact HS.out.later (w' := _) (by repeat' (first | with_reducible exact HW0.out | with_reducible refine Below.alloc ?_ ?_ _ | (simp; done) | (simp; omega) | omega))
 ·exact (Below.cell (B := w.heap.size) (w := w) (by repeat' (first | with_reducible (first | exact HW0.out | apply bR | apply bD | apply bN | apply bA | apply bS) | (simp; done) | (simp; omega) | omega)) gz).trans HG.out
 rw [HC.out]
 rintro e w1 ⟨v, rfl, hv, hb⟩
 obtain ⟨hc1, hf1⟩ := bcell hb
 have hz1 := hb.size
 simp at hz1
 have HW1 := Lib.hid (show Below w.heap.size w w1 from Below.trans (by repeat' (first | with_reducible exact HW0.out | with_reducible refine Below.alloc ?_ ?_ _ | (simp; done) | (simp; omega) | omega)) (hb.mono (by first | omega | simp <;> omega)))
 have R1 : Img w1 (w.heap.size + 2) 19 ranz := Img.later (Img.mk' (by simpa using heap_alloc_new ((w.alloc _).alloc _) _) (by rfl)) hb (by simp)
 clear hb
 have z10 : w.heap.size < w1.heap.size := by omega
 have z11 : w.heap.size + 1 < w1.heap.size := by omega
 have z12 : w.heap.size + 2 < w1.heap.size := by omega
 (have k1_w_heap_size_0 : w1.cell? ⟨w.heap.size, 0, none⟩ = some (.int .i64 (told 0)) := (by rw [hc1 _ _ (by first | omega | simp <;> omega)]; first | (simp [go_sem]; done) | assumption | (simp [go_sem, *]; done)); have r1_w_heap_size_0 : w1.frozen? ⟨w.heap.size, 0, none⟩ = false := (by rw [hf1 _ _ (by first | omega | simp <;> omega)]; first | (simp [go_sem]; done) | assumption | (simp [go_sem, *]; done)); have k1_w_heap_size_1 : w1.cell? ⟨w.heap.size, 1, none⟩ = some (.int .i64 (told 1)) := (by rw [hc1 _ _ (by first | omega | simp <;> omega)]; first | (simp [go_sem]; done) | assumption | (simp [go_sem, *]; done)); have r1_w_heap_size_1 : w1.frozen? ⟨w.heap.size, 1, none⟩ = false := (by rw [hf1 _ _ (by first | omega | simp <;> omega)]; first | (simp [go_sem]; done) | assumption | (simp [go_sem, *]; done)); have k1_w_heap_size_2 : w1.cell? ⟨w.heap.size, 2, none⟩ = some (.int .i64 (told 2)) := (by rw [hc1 _ _ (by first | omega | simp <;> omega)]; first | (simp [go_sem]; done) | assumption | (simp [go_sem, *]; done)); have r1_w_heap_size_2 : w1.frozen? ⟨w.heap.size, 2, none⟩ = false := (by rw [hf1 _ _ (by first | omega | simp <;> omega)]; first | (simp [go_sem]; done) | assumption | (simp [go_sem, *]; done)); have k1_w_heap_size_3 : w1.cell? ⟨w.heap.size, 3, none⟩ = some (.int .i64 (told 3)) := (by rw [hc1 _ _ (by first | omega | simp <;> omega)]; first | (simp [go_sem]; done) | assumption | (simp [go_sem, *]; done)); have r1_w_heap_size_3 : w1.frozen? ⟨w.heap.size, 3, none⟩ = false := (by rw [hf1 _ _ (by first | omega | simp <;> omega)]; first | (simp [go_sem]; done) | assumption | (simp [go_sem, *]; done)); have k1_w_heap_size_4 : w1.cell? ⟨w.heap.size, 4, none⟩ = some (.int .i64 (told 4)) := (by rw [hc1 _ _ (by first | omega | simp <;> omega)]; first | (simp [go_sem]; done) | assumption | (simp [go_sem, *]; done)); have r1_w_heap_size_4 : w1.frozen? ⟨w.heap.size, 4, none⟩ = false := (by rw [hf1 _ _ (by first | omega | simp <;> omega)]; first | (simp [go_sem]; done) | assumption | (simp [go_sem, *]; done)); have k1_w_heap_size_5 : w1.cell? ⟨w.heap.size, 5, none⟩ = some (.int .i64 (told 5)) := (by rw [hc1 _ _ (by first | omega | simp <;> omega)]; first | (simp [go_sem]; done) | assumption | (simp [go_sem, *]; done)); have r1_w_heap_size_5 : w1.frozen? ⟨w.heap.size, 5, none⟩ = false := (by rw [hf1 _ _ (by first | omega | simp <;> omega)]; first | (simp [go_sem]; done) | assumption | (simp [go_sem, *]; done)); have k1_w_heap_size_6 : w1.cell? ⟨w.heap.size, 6, none⟩ = some (.int .i64 (told 6)) := (by rw [hc1 _ _ (by first | omega | simp <;> omega)]; first | (simp [go_sem]; done) | assumption | (simp [go_sem, *]; done)); have r1_w_heap_size_6 : w1.frozen? ⟨w.heap.size, 6, none⟩ = false := (by rw [hf1 _ _ (by first | omega | simp <;> omega)]; first | (simp [go_sem]; done) | assumption | (simp [go_sem, *]; done)); have k1_w_heap_size_7 : w1.cell? ⟨w.heap.size, 7, none⟩ = some (.int .i64 (told 7)) := (by rw [hc1 _ _ (by first | omega | simp <;> omega)]; first | (simp [go_sem]; done) | assumption | (simp [go_sem, *]; done)); have r1_w_heap_size_7 : w1.frozen? ⟨w.heap.size, 7, none⟩ = false := (by rw [hf1 _ _ (by first | omega | simp <;> omega)]; first | (simp [go_sem]; done) | assumption | (simp [go_sem, *]; done)))
 (have k1_w_heap_size_1_0 : w1.cell? ⟨w.heap.size + 1, 0, none⟩ = some (.int .i64 (cells 0)) := (by rw [hc1 _ _ (by first | omega | simp <;> omega)]; first | (simp [go_sem]; done) | assumption | (simp [go_sem, *]; done)); have r1_w_heap_size_1_0 : w1.frozen? ⟨w.heap.size + 1, 0, none⟩ = false := (by rw [hf1 _ _ (by first | omega | simp <;> omega)]; first | (simp [go_sem]; done) | assumption | (simp [go_sem, *]; done)); have k1_w_heap_size_1_1 : w1.cell? ⟨w.heap.size + 1, 1, none⟩ = some (.int .i64 (cells 1)) := (by rw [hc1 _ _ (by first | omega | simp <;> omega)]; first | (simp [go_sem]; done) | assumption | (simp [go_sem, *]; done)); have r1_w_heap_size_1_1 : w1.frozen? ⟨w.heap.size + 1, 1, none⟩ = false := (by rw [hf1 _ _ (by first | omega | simp <;> omega)]; first | (simp [go_sem]; done) | assumption | (simp [go_sem, *]; done)); have k1_w_heap_size_1_2 : w1.cell? ⟨w.heap.size + 1, 2, none⟩ = some (.int .i64 (cells 2)) := (by rw [hc1 _ _ (by first | omega | simp <;> omega)]; first | (simp [go_sem]; done) | assumption | (simp [go_sem, *]; done)); have r1_w_heap_size_1_2 : w1.frozen? ⟨w.heap.size + 1, 2, none⟩ = false := (by rw [hf1 _ _ (by first | omega | simp <;> omega)]; first | (simp [go_sem]; done) | assumption | (simp [go_sem, *]; done)); have k1_w_heap_size_1_3 : w1.cell? ⟨w.heap.size + 1, 3, none⟩ = some (.int .i64 (cells 3)) := (by rw [hc1 _ _ (by first | omega | simp <;> omega)]; first | (simp [go_sem]; done) | assumption | (simp [go_sem, *]; done)); have r1_w_heap_size_1_3 : w1.frozen? ⟨w.heap.size + 1, 3, none⟩ = false := (by rw [hf1 _ _ (by first | omega | simp <;> omega)]; first | (simp [go_sem]; done) | assumption | (simp [go_sem, *]; done)); have k1_w_heap_size_1_4 : w1.cell? ⟨w.heap.size + 1, 4, none⟩ = some (.int .i64 (cells 4)) := (by rw [hc1 _ _ (by first | omega | simp <;> omega)]; first | (simp [go_sem]; done) | assumption | (simp [go_sem, *]; done)); have r1_w_heap_size_1_4 : w1.frozen? ⟨w.heap.size + 1, 4, none⟩ = false := (by rw [hf1 _ _ (by first | omega | simp <;> omega)]; first | (simp [go_sem]; done) | assumption | (simp [go_sem, *]; done)); have k1_w_heap_size_1_5 : w1.cell? ⟨w.heap.size + 1, 5, none⟩ = some (.int .i64 (cells 5)) := (by rw [hc1 _ _ (by first | omega | simp <;> omega)]; first | (simp [go_sem]; done) | assumption | (simp [go_sem, *]; done)); have r1_w_heap_size_1_5 : w1.frozen? ⟨w.heap.size + 1, 5, none⟩ = false := (by rw [hf1 _ _ (by first | omega | simp <;> omega)]; first | (simp [go_sem]; done) | assumption | (simp [go_sem, *]; done)); have k1_w_heap_size_1_6 : w1.cell? ⟨w.heap.size + 1, 6, none⟩ = some (.int .i64 (cells 6)) := (by rw [hc1 _ _ (by first | omega | simp <;> omega)]; first | (simp [go_sem]; done) | assumption | (simp [go_sem, *]; done)); have r1_w_heap_size_1_6 : w1.frozen? ⟨w.heap.size + 1, 6, none⟩ = false := (by rw [hf1 _ _ (by first | omega | simp <;> omega)]; first | (simp [go_sem]; done) | assumption | (simp [go_sem, *]; done)); have k1_w_heap_size_1_7 : w1.cell? ⟨w.heap.size + 1, 7, none⟩ = some (.int .i64 (cells 7)) := (by rw [hc1 _ _ (by first | omega | simp <;> omega)]; first | (simp [go_sem]; done) | assumption | (simp [go_sem, *]; done)); have r1_w_heap_size_1_7 : w1.frozen? ⟨w.heap.size + 1, 7, none⟩ = false := (by rw [hf1 _ _ (by first | omega | simp <;> omega)]; first | (simp [go_sem]; done) | assumption | (simp [go_sem, *]; done)); have k1_w_heap_size_1_8 : w1.cell? ⟨w.heap.size + 1, 8, none⟩ = some (.int .i64 (cells 8)) := (by rw [hc1 _ _ (by first | omega | simp <;> omega)]; first | (simp [go_sem]; done) | assumption | (simp [go_sem, *]; done)); have r1_w_heap_size_1_8 : w1.frozen? ⟨w.heap.size + 1, 8, none⟩ = false := (by rw [hf1 _ _ (by first | omega | simp <;> omega)]; first | (simp [go_sem]; done) | assumption | (simp [go_sem, *]; done)); have k1_w_heap_size_1_9 : w1.cell? ⟨w.heap.size + 1, 9, none⟩ = some (.int .i64 (cells 9)) := (by rw [hc1 _ _ (by first | omega | simp <;> omega)]; first | (simp [go_sem]; done) | assumption | (simp [go_sem, *]; done)); have r1_w_heap_size_1_9 : w1.frozen? ⟨w.heap.size + 1, 9, none⟩ = false := (by rw [hf1 _ _ (by first | omega | simp <;> omega)]; first | (simp [go_sem]; done) | assumption | (simp [go_sem, *]; done)); have k1_w_heap_size_1_10 : w1.cell? ⟨w.heap.size + 1, 10, none⟩ = some (.int .i64 (cells 10)) := (by rw [hc1 _ _ (by first | omega | simp <;> omega)]; first | (simp [go_sem]; done) | assumption | (simp [go_sem, *]; done)); have r1_w_heap_size_1_10 : w1.frozen? ⟨w.heap.size + 1, 10, none⟩ = false := (by rw [hf1 _ _ (by first | omega | simp <;> omega)]; first | (simp [go_sem]; done) | assumption | (simp [go_sem, *]; done)); have k1_w_heap_size_1_11 : w1.cell? ⟨w.heap.size + 1, 11, none⟩ = some (.int .i64 (cells 11)) := (by rw [hc1 _ _ (by first | omega | simp <;> omega)]; first | (simp [go_sem]; done) | assumption | (simp [go_sem, *]; done)); have r1_w_heap_size_1_11 : w1.frozen? ⟨w.heap.size + 1, 11, none⟩ = false := (by rw [hf1 _ _ (by first | omega | simp <;> omega)]; first | (simp [go_sem]; done) | assumption | (simp [go_sem, *]; done)); have k1_w_heap_size_1_12 : w1.cell? ⟨w.heap.size + 1, 12, none⟩ = some (.int .i64 (cells 12)) := (by rw [hc1 _ _ (by first | omega | simp <;> omega)]; first | (simp [go_sem]; done) | assumption | (simp [go_sem, *]; done)); have r1_w_heap_size_1_12 : w1.frozen? ⟨w.heap.size + 1, 12, none⟩ = false := (by rw [hf1 _ _ (by first | omega | simp <;> omega)]; first | (simp [go_sem]; done) | assumption | (simp [go_sem, *]; done)); have k1_w_heap_size_1_13 : w1.cell? ⟨w.heap.size + 1, 13, none⟩ = some (.int .i64 (cells 13)) := (by rw [hc1 _ _ (by first | omega | simp <;> omega)]; first | (simp [go_sem]; done) | assumption | (simp [go_sem, *]; done)); have r1_w_heap_size_1_13 : w1.frozen? ⟨w.heap.size + 1, 13, none⟩ = false := (by rw [hf1 _ _ (by first | omega | simp <;> omega)]; first | (simp [go_sem]; done) | assumption | (simp [go_sem, *]; done)); have k1_w_heap_size_1_14 : w1.cell? ⟨w.heap.size + 1, 14, none⟩ = some (.int .i64 (cells 14)) := (by rw [hc1 _ _ (by first | omega | simp <;> omega)]; first | (simp [go_sem]; done) | assumption | (simp [go_sem, *]; done)); have r1_w_heap_size_1_14 : w1.frozen? ⟨w.heap.size + 1, 14, none⟩ = false := (by rw [hf1 _ _ (by first | omega | simp <;> omega)]; first | (simp [go_sem]; done) | assumption | (simp [go_sem, *]; done)); have k1_w_heap_size_1_15 : w1.cell? ⟨w.heap.size + 1, 15, none⟩ = some (.int .i64 (cells 15)) := (by rw [hc1 _ _ (by first | omega | simp <;> omega)]; first | (simp [go_sem]; done) | assumption | (simp [go_sem, *]; done)); have r1_w_heap_size_1_15 : w1.frozen? ⟨w.heap.size + 1, 15, none⟩ = false := (by rw [hf1 _ _ (by first | omega | simp <;> omega)]; first | (simp [go_sem]; done) | assumption | (simp [go_sem, *]; done)))
 clear hc1 hf1
 have HR1 := Lib.hid R1
 clear R1
 obtain rfl : v = .nilIface := hv.nil
 clear hv
 go_wp2_with fail
 go_region
 all_goals go_wp2_with fail
 generalize hW : World.drew (World.alloc w1 _) = w2
 have I2 : Img w2 w1.heap.size 108 (mimg (.slice (some a) n cap) told time (.slice none 0 0) (Mach.init cells)) := by
  rw [← hW]
  exact Img.drew (Img.mk' (heap_alloc_new w1 _) (by kernel_rfl))
 have HB2 := Lib.hid (show Below w.heap.size w w2 from hW ▸ (HW1.out.alloc (by omega) _).drew)
 have HR2 := Lib.hid (show Img w2 (w.heap.size + 2) 19 ranz from hW ▸ (HR1.out.alloc _).drew)
 have zz : w1.heap.size < w2.heap.size := by rw [← hW]; simp
 have HM2 : Hid (MacAt w2 w1.heap.size (.slice (some a) n cap) told time (Mach.init cells)) := ⟨.slice none 0 0, I2, ⟨rfl, .inl ⟨rfl, rfl⟩⟩⟩
 clear hW I2
 have zb := z12
 clear HR1 HW1 z10 z11 z12 hz1
 clear k1_w_heap_size_0 r1_w_heap_size_0 k1_w_heap_size_1 r1_w_heap_size_1 k1_w_heap_size_2 r1_w_heap_size_2 k1_w_heap_size_3 r1_w_heap_size_3 k1_w_heap_size_4 r1_w_heap_size_4 k1_w_heap_size_5 r1_w_heap_size_5 k1_w_heap_size_6 r1_w_heap_size_6 k1_w_heap_size_7 r1_w_heap_size_7 k1_w_heap_size_1_0 r1_w_heap_size_1_0 k1_w_heap_size_1_1 r1_w_heap_size_1_1 k1_w_heap_size_1_2 r1_w_heap_size_1_2 k1_w_heap_size_1_3 r1_w_heap_size_1_3 k1_w_heap_size_1_4 r1_w_heap_size_1_4 k1_w_heap_size_1_5 r1_w_heap_size_1_5 k1_w_heap_size_1_6 r1_w_heap_size_1_6 k1_w_heap_size_1_7 r1_w_heap_size_1_7 k1_w_heap_size_1_8 r1_w_heap_size_1_8 k1_w_heap_size_1_9 r1_w_heap_size_1_9 k1_w_heap_size_1_10 r1_w_heap_size_1_10 k1_w_heap_size_1_11 r1_w_heap_size_1_11 k1_w_heap_size_1_12 r1_w_heap_size_1_12 k1_w_heap_size_1_13 r1_w_heap_size_1_13 k1_w_heap_size_1_14 r1_w_heap_size_1_14 k1_w_heap_size_1_15 r1_w_heap_size_1_15
 generalize w1.heap.size = b at *
 go_loopw [12, 13] (fun p s wr => ∃ (pc st f : Nat) (M : Mach), p = .int .i64 pc ∧ s = .int .i64 st ∧ pc < n ∧ st ≤ pc + 1 ∧ n ≤ pc + f ∧ MOk M ∧ Mach.run S told time n (Mach.init cells) 0 1 = Mach.run S told time f M pc st ∧ MacAt wr b (.slice (some a) n cap) told time M ∧ Img wr (w.heap.size + 2) 19 ranz ∧ Below w.heap.size w wr) (fun p _ _ => n - (intOf p).toNat)
 case atStart => exact ⟨0, 1, n, Mach.init cells, rfl, rfl, by omega, by omega, by omega, MOk.init cells, rfl, HM2.out, HR2.out, HB2.out⟩
 case round =>
  obtain ⟨pc, st, f, M, rfl, rfl, hpc, hst, hf, hM, hrun, hMac, hR, hB⟩ := hrel
  obtain ⟨f, rfl⟩ : ∃ g, f = g + 1 := ⟨f - 1, by omega⟩
  obtain ⟨e0, e1, e2, e3, e4, e5⟩ := HS.out.later hB pc hpc
  have hok := OK.out pc hpc
  rw [run_succ, Int.toNat_natCast] at hrun
  generalize S pc = t at *
  obtain ⟨c, d, s, r, o, nn⟩ := t
  obtain ⟨h1, h2, h3⟩ := hok
  obtain ⟨g1, g2, g3, g4⟩ := wrong_ok h1
  simp only [Step.leads] at g1 g2 g3 g4 h2 h3 e0 e1 e2 e3 e4 e5
  have HRUN := Lib.hid hrun
  have HB := Lib.hid hB
  have HR := Lib.hid hR
  have HMac := Lib.hid hMac
  have HMO := Lib.hid hM
  have HL := Lib.hid h2
  have HN := Lib.hid g4
  have HX := Lib.hid h3
  have zr : w.heap.size ≤ wr.heap.size := hB.size
  clear h1 h2 h3 g4 hrun hM hMac hR hB
  have pc1 : (pc : Int) < n := by omega
  have pc0 : (0 : Int) ≤ pc := by omega
  obtain ⟨d, rfl⟩ := Int.eq_ofNat_of_zero_le g2.1
  obtain ⟨s, rfl⟩ := Int.eq_ofNat_of_zero_le g2.2.2.1
  have d1 : (d : Int) < 11 := by omega
  have s1 : (s : Int) < 11 := by omega
  have dN : d < 11 := by omega
  have sN : s < 11 := by omega
  go_upto_block 2 with fail
  generalize hW : World.alloc wr _ = wd
  have HB1 := Lib.hid (show Below w.heap.size w wd from hW ▸ HB.out.alloc (by omega) _)
  have HR1 := Lib.hid (show Img wd (w.heap.size + 2) 19 ranz from hW ▸ HR.out.alloc _)
  have HMac1 := Lib.hid (show MacAt wd b (.slice (some a) n cap) told time M from hW ▸ HMac.out.later ((Below.refl _ _).alloc (Nat.le_refl _) _))
  have zd : wr.heap.size < wd.heap.size := by rw [← hW]; simp
  have f0 : wd.cell? ⟨wr.heap.size, 0, none⟩ = some (.int .i64 c) := by rw [← hW]; simp [go_sem]
  have f1 : wd.cell? ⟨wr.heap.size, 1, none⟩ = some (.int .i64 d) := by rw [← hW]; simp [go_sem]
  have f2 : wd.cell? ⟨wr.heap.size, 2, none⟩ = some (.int .i64 s) := by rw [← hW]; simp [go_sem]
  have f3 : wd.cell? ⟨wr.heap.size, 3, none⟩ = some (.bool r) := by rw [← hW]; simp [go_sem]
  have f4 : wd.cell? ⟨wr.heap.size, 4, none⟩ = some (.int .i64 o) := by rw [← hW]; simp [go_sem]
  have f5 : wd.cell? ⟨wr.heap.size, 5, none⟩ = some (.int .i64 nn) := by rw [← hW]; simp [go_sem]
  clear hW e0 e1 e2 e3 e4 e5 HB HR HMac
  go_cut [12, 15] (fun p e wx => ∃ (q : Nat) (er : Int) (M' : Mach), p = .int .i64 q ∧ e = .int .i64 er ∧ Img wx (w.heap.size + 2) 19 ranz ∧ Below w.heap.size w wx ∧ StepTo n told time b (.slice (some a) n cap) M ⟨c, d, s, r, o, nn⟩ pc q er M' wx)
  case first =>
   as_aux_lemma =>
    have hM := HMac1.out
    obtain ⟨out, hI, hO⟩ := hM
    have HI := Lib.hid hI
    have HO := Lib.hid hO
    have zb1 : b < wd.heap.size := hI.lt (by omega)
    have r0 : ∀ k, k < 11 → wd.cell? ⟨b, 1 + k * 3, none⟩ = some (.int .i64 (M.regs k).kind) := fun k hk => (hI.cell _ (by omega)).trans (congrArg some ((mimg_reg hk (by omega : 0 < 3) (by omega)).trans (vcell_0 _)))
    have r1 : ∀ k, k < 11 → wd.cell? ⟨b, 1 + k * 3 + 1, none⟩ = some (.int .i64 (M.regs k).n) := fun k hk => (hI.cell _ (by omega)).trans (congrArg some ((mimg_reg hk (by omega : 1 < 3) (by omega)).trans (vcell_1 _)))
    have r2 : ∀ k, k < 11 → wd.cell? ⟨b, 1 + k * 3 + 2, none⟩ = some (.int .i64 (M.regs k).cell) := fun k hk => (hI.cell _ (by omega)).trans (congrArg some ((mimg_reg hk (by omega : 2 < 3) (by omega)).trans (vcell_2 _)))
    have ds0 := r0 d dN; have ds1 := r1 d dN; have ds2 := r2 d dN
    have ss0 := r0 s sN; have ss1 := r1 s sN; have ss2 := r2 s sN
    have zz0 : wd.cell? ⟨b, 1, none⟩ = some (.int .i64 (M.regs 0).kind) := r0 0 (by omega)
    have zz1 : wd.cell? ⟨b, 2, none⟩ = some (.int .i64 (M.regs 0).n) := r1 0 (by omega)
    clear hI hO r0 r1 r2
    have hcl : c = 28 ∨ c = 14 ∨ (15 ≤ c ∧ c ≤ 24) ∨ c = 25 ∨ c = 26 ∨ c = 27 ∨ c = 13 ∨ c ≤ 12 := by omega
    rcases hcl with rfl | rfl | hc | rfl | rfl | rfl | rfl | hc
    ·as_aux_lemma =>
      have hst := step_exit M told time d s r o nn pc
      have HST := Lib.hid hst
      clear hst
      by_cases e1 : (M.regs 0).kind = 1
      ·have t1 : ((M.regs 0).kind == 1) = true := by rw [beq_iff_eq]; exact e1
       obtain ⟨og, ocap, rfl⟩ := own_slice HO.out
       have hs2 := HST.out
       rw [if_pos e1] at hs2
       have hr2 := HRUN.out
       rw [hs2] at hr2
       have HR2 := Lib.hid hr2
       clear hr2 hs2 e1
       have m16 : wd.cell? ⟨b, 107, none⟩ = some (.slice og M.out.length ocap) := HI.out.cell 107 (by omega)
       have zb2 : w.heap.size + 2 < wd.heap.size := HR1.out.lt (by omega)
       have n2 : ¬ w.heap.size + 2 = b := by omega
       have n3 : ¬ b = w.heap.size + 2 := by omega
       go_wp2_with fail
       refine wp_below_tail 16 (by kernel_rfl) (by kernel_rfl) ?_
       have h26 : ∀ dr os, (Instr.loadAt 55 (.pointer (some ⟨b, 90, none⟩))).run Tryz.prog (Go.Sort.grow (redrawn wd dr) os) = .ok (.agg #[.int .i64 (M.cells 0), .int .i64 (M.cells 1), .int .i64 (M.cells 2), .int .i64 (M.cells 3), .int .i64 (M.cells 4), .int .i64 (M.cells 5), .int .i64 (M.cells 6), .int .i64 (M.cells 7), .int .i64 (M.cells 8), .int .i64 (M.cells 9), .int .i64 (M.cells 10), .int .i64 (M.cells 11), .int .i64 (M.cells 12), .int .i64 (M.cells 13), .int .i64 (M.cells 14), .int .i64 (M.cells 15)]) (Go.Sort.grow (redrawn wd dr) os) := fun dr os =>
        run_loadAt_mid _ b 90 55 [.int .i64 (M.cells 0), .int .i64 (M.cells 1), .int .i64 (M.cells 2), .int .i64 (M.cells 3), .int .i64 (M.cells 4), .int .i64 (M.cells 5), .int .i64 (M.cells 6), .int .i64 (M.cells 7), .int .i64 (M.cells 8), .int .i64 (M.cells 9), .int .i64 (M.cells 10), .int .i64 (M.cells 11), .int .i64 (M.cells 12), .int .i64 (M.cells 13), .int .i64 (M.cells 14), .int .i64 (M.cells 15)] _ (range16 (HI.out.later (below_regrown wd dr os) zb1)) Tryz.underlying55 rfl (by kernel_rfl)
       have k1 := cell_regrown zz1
       have j16 := cell_regrown m16
       repeat (quiet_step (fail))
       refine wpQuiet_load (by rfl) 55 _ (by rfl) ⟨b, 90, none⟩ (by rfl) (.agg #[.int .i64 (M.cells 0), .int .i64 (M.cells 1), .int .i64 (M.cells 2), .int .i64 (M.cells 3), .int .i64 (M.cells 4), .int .i64 (M.cells 5), .int .i64 (M.cells 6), .int .i64 (M.cells 7), .int .i64 (M.cells 8), .int .i64 (M.cells 9), .int .i64 (M.cells 10), .int .i64 (M.cells 11), .int .i64 (M.cells 12), .int .i64 (M.cells 13), .int .i64 (M.cells 14), .int .i64 (M.cells 15)]) (fun w hw => by obtain ⟨p, rfl⟩ := hw; exact h26 _ _) ?_
       iterate 5 quiet_step (fail)
       refine wpQuiet_build (by rfl) 87 _ (by rfl) #[(0, .int .i64 (M.regs 0).n), (1, .agg #[.int .i64 (M.cells 0), .int .i64 (M.cells 1), .int .i64 (M.cells 2), .int .i64 (M.cells 3), .int .i64 (M.cells 4), .int .i64 (M.cells 5), .int .i64 (M.cells 6), .int .i64 (M.cells 7), .int .i64 (M.cells 8), .int .i64 (M.cells 9), .int .i64 (M.cells 10), .int .i64 (M.cells 11), .int .i64 (M.cells 12), .int .i64 (M.cells 13), .int .i64 (M.cells 14), .int .i64 (M.cells 15)]), (2, .slice og M.out.length ocap), (3, .int .i64 st)] (by simp [go_sem]) #[.int .i64 (M.regs 0).n, .int .i64 (M.cells 0), .int .i64 (M.cells 1), .int .i64 (M.cells 2), .int .i64 (M.cells 3), .int .i64 (M.cells 4), .int .i64 (M.cells 5), .int .i64 (M.cells 6), .int .i64 (M.cells 7), .int .i64 (M.cells 8), .int .i64 (M.cells 9), .int .i64 (M.cells 10), .int .i64 (M.cells 11), .int .i64 (M.cells 12), .int .i64 (M.cells 13), .int .i64 (M.cells 14), .int .i64 (M.cells 15), .slice og M.out.length ocap, .int .i64 st] (built_ran _ _ _ _ _ _ _ _ _ _ _ _ _ _ _ _ _ _ _ _ _) ?_
       refine wpQuiet_nil ?_
       intro wq hwq
       have hbq : Below wd.heap.size wd wq := by
        obtain ⟨p, hp⟩ := hwq
        rw [hp]; exact below_regrown _ _ _
       clear hwq k1 j16 h26
       have HBB := Lib.hid (HB1.out.trans (hbq.mono (by omega)))
       have hO2 := HO.out.kept (But.of (b := b) hbq).grown (by have := HO.out.lt; cases hv : (Value.slice og M.out.length ocap).ownBlock with | none => exact .inl rfl | some g => (right; intro e; have := (this g hv).1; injection e; omega))
       have HO2 := Lib.hid hO2
       have hR := HR1.out.later hbq zb2
       have hth : wq.there (w.heap.size + 1 + 1) 0 19 := fun j hj => ⟨by rw [Nat.zero_add, hR.cell j hj]; rfl, by rw [Nat.zero_add]; exact hR.free j hj⟩
       have HTH := Lib.hid hth
       clear hbq hO2 hR hth
       refine wpList_store_mid (by rfl) 87 _ _ (by rfl) (w.heap.size + 1 + 1) 0 #[.int .i64 (M.regs 0).n, .int .i64 (M.cells 0), .int .i64 (M.cells 1), .int .i64 (M.cells 2), .int .i64 (M.cells 3), .int .i64 (M.cells 4), .int .i64 (M.cells 5), .int .i64 (M.cells 6), .int .i64 (M.cells 7), .int .i64 (M.cells 8), .int .i64 (M.cells 9), .int .i64 (M.cells 10), .int .i64 (M.cells 11), .int .i64 (M.cells 12), .int .i64 (M.cells 13), .int .i64 (M.cells 14), .int .i64 (M.cells 15), .slice og M.out.length ocap, .int .i64 st] (by simp [go_sem]) (by simp [go_sem]) HTH.out size_ran (one_ran _ _ _ _ _ _ _ _ _ _ _ _ _ _ _ _ _ _ _ _ _) ?_
       go_wp2_with fail
       have hld : (loadVar 87 ⟨w.heap.size + 1 + 1, 0, none⟩).run Tryz.prog (wq.setCells (w.heap.size + 1 + 1) 0 [.int .i64 (M.regs 0).n, .int .i64 (M.cells 0), .int .i64 (M.cells 1), .int .i64 (M.cells 2), .int .i64 (M.cells 3), .int .i64 (M.cells 4), .int .i64 (M.cells 5), .int .i64 (M.cells 6), .int .i64 (M.cells 7), .int .i64 (M.cells 8), .int .i64 (M.cells 9), .int .i64 (M.cells 10), .int .i64 (M.cells 11), .int .i64 (M.cells 12), .int .i64 (M.cells 13), .int .i64 (M.cells 14), .int .i64 (M.cells 15), .slice og M.out.length ocap, .int .i64 st]) = .ok (.agg #[.int .i64 (M.regs 0).n, .int .i64 (M.cells 0), .int .i64 (M.cells 1), .int .i64 (M.cells 2), .int .i64 (M.cells 3), .int .i64 (M.cells 4), .int .i64 (M.cells 5), .int .i64 (M.cells 6), .int .i64 (M.cells 7), .int .i64 (M.cells 8), .int .i64 (M.cells 9), .int .i64 (M.cells 10), .int .i64 (M.cells 11), .int .i64 (M.cells 12), .int .i64 (M.cells 13), .int .i64 (M.cells 14), .int .i64 (M.cells 15), .slice og M.out.length ocap, .int .i64 st]) (wq.setCells (w.heap.size + 1 + 1) 0 [.int .i64 (M.regs 0).n, .int .i64 (M.cells 0), .int .i64 (M.cells 1), .int .i64 (M.cells 2), .int .i64 (M.cells 3), .int .i64 (M.cells 4), .int .i64 (M.cells 5), .int .i64 (M.cells 6), .int .i64 (M.cells 7), .int .i64 (M.cells 8), .int .i64 (M.cells 9), .int .i64 (M.cells 10), .int .i64 (M.cells 11), .int .i64 (M.cells 12), .int .i64 (M.cells 13), .int .i64 (M.cells 14), .int .i64 (M.cells 15), .slice og M.out.length ocap, .int .i64 st]) := run_loadVar_mid (P := Tryz.prog) _ (w.heap.size + 1 + 1) 0 87 [.int .i64 (M.regs 0).n, .int .i64 (M.cells 0), .int .i64 (M.cells 1), .int .i64 (M.cells 2), .int .i64 (M.cells 3), .int .i64 (M.cells 4), .int .i64 (M.cells 5), .int .i64 (M.cells 6), .int .i64 (M.cells 7), .int .i64 (M.cells 8), .int .i64 (M.cells 9), .int .i64 (M.cells 10), .int .i64 (M.cells 11), .int .i64 (M.cells 12), .int .i64 (M.cells 13), .int .i64 (M.cells 14), .int .i64 (M.cells 15), .slice og M.out.length ocap, .int .i64 st] _ (World.rangeAt_setCells_same wq (w.heap.size + 1 + 1) 0 [.int .i64 (M.regs 0).n, .int .i64 (M.cells 0), .int .i64 (M.cells 1), .int .i64 (M.cells 2), .int .i64 (M.cells 3), .int .i64 (M.cells 4), .int .i64 (M.cells 5), .int .i64 (M.cells 6), .int .i64 (M.cells 7), .int .i64 (M.cells 8), .int .i64 (M.cells 9), .int .i64 (M.cells 10), .int .i64 (M.cells 11), .int .i64 (M.cells 12), .int .i64 (M.cells 13), .int .i64 (M.cells 14), .int .i64 (M.cells 15), .slice og M.out.length ocap, .int .i64 st] HTH.out) Tryz.underlying87 rfl size_ran
       refine bodyPost_ret (results_cell_tmp Tryz.results31 (p := ⟨w.heap.size + 1 + 1, 0, none⟩) (by simp [go_sem]) (by simp [go_sem]; rfl) hld) rfl ⟨⟨_, _, rfl, ?_⟩, ?_⟩
       ·rw [HR2.out]
        exact ⟨_, rfl, rfl, b + 1, owns_setCells HO2.out (by omega)⟩
       ·exact below_setCells (by omega) _ _ _ _ HBB.out
      ·have t1 : ((M.regs 0).kind == 1) = false := by rw [beq_eq_false_iff_ne]; exact e1
       by_cases e0 : (M.regs 0).kind = 0
       ·have t0 : ((M.regs 0).kind == 0) = true := by rw [beq_iff_eq]; exact e0
        have hs2 := HST.out
        rw [if_neg e1, if_pos e0] at hs2
        have HS2 := Lib.hid hs2
        clear hs2 e0 e1
        go_wp2_with fail
        go_meet
        go_light
        exact ⟨pc, 8, M, rfl, rfl, HR1.out, HB1.out, .inr ⟨by decide, rfl, HS2.out⟩⟩
       ·have t0 : ((M.regs 0).kind == 0) = false := by rw [beq_eq_false_iff_ne]; exact e0
        have hs2 := HST.out
        rw [if_neg e1, if_neg e0] at hs2
        have HS2 := Lib.hid hs2
        clear hs2 e0 e1
        go_wp2_with fail
        go_meet
        go_light
        exact ⟨pc, 1, M, rfl, rfl, HR1.out, HB1.out, .inr ⟨by decide, rfl, HS2.out⟩⟩
    ·as_aux_lemma =>
      obtain ⟨o1, o2⟩ := HL.out (.inl rfl)
      obtain ⟨o, rfl⟩ := Int.eq_ofNat_of_zero_le o1
      have HST := Lib.hid (step_jump M told time d s r o nn pc)
      go_wp2_with fail
      go_meet
      go_light
      refine ⟨pc + o, 0, M, by go_num, rfl, HR1.out, HB1.out, .inl ⟨rfl, by omega, by omega, HMO.out, ⟨out, HI.out, HO.out⟩, ?_⟩⟩
      rw [HST.out]
      congr 1
      omega
    ·as_aux_lemma =>
      have pn : pc + 1 < n := by
       by_cases e : pc + 1 = n
       ·have := HX.out e; omega
       ·omega
      obtain ⟨o1, o2⟩ := HL.out (.inr hc)
      obtain ⟨o, rfl⟩ := Int.eq_ofNat_of_zero_le o1
      have t28 : (c == 28) = false := by rw [beq_eq_false_iff_ne]; omega
      have t14 : (c == 14) = false := by rw [beq_eq_false_iff_ne]; omega
      have t15 : 15 ≤ c := hc.1
      have t24 : c ≤ 24 := hc.2
      have hst := step_ask M told time c hc d s r o nn pc
      have hae := asks_err (M := M) (t := ⟨c, d, s, r, o, nn⟩)
      have cL := MAsks_any b (.slice (some a) n cap) told time out M wd HI.out c s d r o nn dN ⟨by omega, by omega⟩ _ _ rfl rfl
      generalize M.asks ⟨c, d, s, r, o, nn⟩ = L at *
      obtain ⟨ab, ae⟩ := L
      have HST := Lib.hid hst
      have HAE := Lib.hid hae
      have CL := Lib.hid cL
      clear hst hae cL hc
      cases ab
      all_goals
       go_wp2_with (go_at_call 63; refine (Asks_any _ _).mono ?_; rintro e w' ⟨rfl, rfl⟩; rw [asks_of])
       refine CL.out.mono ?_
       rintro e w3 ⟨rfl, hb3⟩
       have HBB := Lib.hid (HB1.out.trans (hb3.mono (by omega)))
       have HRR := Lib.hid (HR1.out.later hb3 (by omega))
       have hM3 : Hid (MacAt w3 b (.slice (some a) n cap) told time M) := MacAt.later ⟨out, HI.out, HO.out⟩ hb3
       have g4 : w3.cell? ⟨wr.heap.size, 4, none⟩ = some (.int .i64 o) := (hb3.cell zd).trans f4
       clear hb3
       go_wp2_with fail
       go_meet
       go_light
      ·refine ⟨pc, ae, M, rfl, rfl, ?_, ?_, ?_⟩
       ·(repeat' (first | with_reducible exact HRR.out | with_reducible refine Img.drew ?_ | with_reducible refine Img.other ?_ ?_ _ | (simp; done) | (simp; omega) | omega))
       ·(repeat' (first | with_reducible exact HBB.out | with_reducible refine Below.drew ?_ | with_reducible refine Below.setCell ?_ ?_ _ | (simp; done) | (simp; omega) | omega))
       ·refine StepTo.pair (HST.out.trans ?_) pn HMO.out hM3.out
        simp
      ·by_cases he : ae = 0
       ·subst he
        refine ⟨pc + o, 0, M, by go_num, rfl, ?_, ?_, .inl ⟨rfl, by omega, by omega, HMO.out, hM3.out, ?_⟩⟩
        ·(repeat' (first | with_reducible exact HRR.out | with_reducible refine Img.drew ?_ | with_reducible refine Img.other ?_ ?_ _ | (simp; done) | (simp; omega) | omega))
        ·(repeat' (first | with_reducible exact HBB.out | with_reducible refine Below.drew ?_ | with_reducible refine Below.setCell ?_ ?_ _ | (simp; done) | (simp; omega) | omega))
        ·rw [HST.out]
         simp
         omega
       ·exact absurd (HAE.out he) (by simp)
    ·as_aux_lemma =>
      have pn : pc + 1 < n := by
       by_cases e : pc + 1 = n
       ·have := HX.out e; omega
       ·omega
      have k0 := cell_regrown f0; have k1 := cell_regrown f1; have k2 := cell_regrown f2; have k4 := cell_regrown f4
      have k5 := cell_regrown ss0; have k6 := cell_regrown ss1; have k7 := cell_regrown ss2
      have cL : ∀ dr os, Calls Tryz.prog 66 #[.pointer (some ⟨b, 0, none⟩), .agg #[.int .i64 (M.regs s).kind, .int .i64 (M.regs s).n, .int .i64 (M.regs s).cell], .int .i64 o] (Go.Sort.grow (redrawn wd dr) os) fun e w'' =>
       e = .returned (.tuple #[.agg #[.int .i64 (M.load told (M.regs s) o).1.kind, .int .i64 (M.load told (M.regs s) o).1.n, .int .i64 (M.load told (M.regs s) o).1.cell], .int .i64 (M.load told (M.regs s) o).2]) ∧ ∃ p : Regrown, w'' = Go.Sort.grow (redrawn wd p.d) p.os := fun dr os => Calls.regrown_of (Load_any b _ told time out M _ (HI.out.later (below_regrown wd dr os) zb1) (M.regs s) (HMO.out.1 s) o)
      have hst := step_load M told time d s r o nn pc
      have hml := HMO.out.load told (M.regs s) o
      generalize M.load told (M.regs s) o = L at *
      obtain ⟨⟨lk, ln, lc⟩, le⟩ := L
      have HST := Lib.hid hst
      have HML := Lib.hid hml
      have CL := Lib.hid cL
      clear hst hml cL
      go_wp2_with (go_at_call 63; refine (Asks_any _ _).mono ?_; rintro e w' ⟨rfl, rfl⟩; rw [asks_of])
      refine wp_below_one 20 (by kernel_rfl) (by kernel_rfl) ?_
      repeat (quiet_step (first | exact CL.out _ _))
      refine wpQuiet_nil ?_
      intro wq hwq
      have hbq : Below wd.heap.size wd wq := by
       obtain ⟨p, hp⟩ := hwq
       rw [hp]; exact below_regrown _ _ _
      clear hwq
      clear k0 k1 k2 k4 k5 k6 k7 f0 f1 f2 f3 f4 f5
      have HBB := Lib.hid (HB1.out.trans (hbq.mono (by omega)))
      have HRR := Lib.hid (HR1.out.later hbq (by omega))
      have MQ : MacAt wq b (.slice (some a) n cap) told time M := MacAt.later ⟨out, HI.out, HO.out⟩ hbq
      have HMQ := Lib.hid MQ
      obtain ⟨out2, IQ, -⟩ := MQ
      have q0 := IQ.cell (1 + d * 3) (by omega)
      have q1 := IQ.cell (1 + d * 3 + 1) (by omega)
      have q2 := IQ.cell (1 + d * 3 + 2) (by omega)
      have p0 := IQ.free (1 + d * 3) (by omega)
      have p1 := IQ.free (1 + d * 3 + 1) (by omega)
      have p2 := IQ.free (1 + d * 3 + 2) (by omega)
      clear IQ hbq
      go_wp2_with fail
      refine NoPanic.normal ?_
      go_wp2_with fail
      go_meet
      go_light
      refine ⟨pc, le, { M with regs := upd M.regs d ⟨lk, ln, lc⟩ }, rfl, rfl, ?_, ?_, ?_⟩
      ·(repeat' (first | with_reducible exact HRR.out | with_reducible refine Img.drew ?_ | with_reducible refine Img.other ?_ ?_ _ | (simp; done) | (simp; omega) | omega))
      ·(repeat' (first | with_reducible exact HBB.out | with_reducible refine Below.drew ?_ | with_reducible refine Below.setCell ?_ ?_ _ | (simp; done) | (simp; omega) | omega))
      ·refine StepTo.pair HST.out pn (HMO.out.setreg d HML.out) ?_
       first
       | with_reducible exact HMQ.out.setReg dN lk ln lc rfl rfl rfl
       | with_reducible exact (HMQ.out.setReg dN lk ln lc rfl rfl rfl).drew
    ·as_aux_lemma =>
      have pn : pc + 1 < n := by
       by_cases e : pc + 1 = n
       ·have := HX.out e; omega
       ·omega
      have k0 := cell_regrown f0; have k1 := cell_regrown f1; have k2 := cell_regrown f2; have k3 := cell_regrown f3; have k4 := cell_regrown f4; have k8 := cell_regrown f5
      have k5 := cell_regrown ds0; have k6 := cell_regrown ds1; have k7 := cell_regrown ds2
      have hst := step_store M told time d s r o nn pc
      have hx := HMO.out.second ⟨26, d, s, r, o, nn⟩
      have cL : ∀ dr os, Calls Tryz.prog 68 #[.pointer (some ⟨b, 0, none⟩), .agg #[.int .i64 26, .int .i64 d, .int .i64 s, .bool r, .int .i64 o, .int .i64 nn]] (Go.Sort.grow (redrawn wd dr) os) fun e w'' =>
       e = .returned (.agg #[.int .i64 (M.second ⟨26, d, s, r, o, nn⟩).kind, .int .i64 (M.second ⟨26, d, s, r, o, nn⟩).n, .int .i64 (M.second ⟨26, d, s, r, o, nn⟩).cell]) ∧ ∃ p : Regrown, w'' = Go.Sort.grow (redrawn wd p.d) p.os := fun dr os => Calls.regrown_of (Second_any b _ told time out M _ (HI.out.later (below_regrown wd dr os) zb1) 26 d s r o nn ⟨by omega, by omega⟩)
      generalize M.second ⟨26, d, s, r, o, nn⟩ = x at *
      have hml := HMO.out.store (M.regs d) o hx
      have HVX := Lib.hid hx
      clear hx
      have HST := Lib.hid hst
      have HML := Lib.hid hml
      have CL := Lib.hid cL
      clear hst hml cL
      go_wp2_with (go_at_call 63; refine (Asks_any _ _).mono ?_; rintro e w' ⟨rfl, rfl⟩; rw [asks_of])
      refine wp_below_tail 13 (by kernel_rfl) (by kernel_rfl) ?_
      repeat (quiet_step (first | exact CL.out _ _))
      refine wpQuiet_nil ?_
      intro wq hwq
      have hbq : Below wd.heap.size wd wq := by
       obtain ⟨p, hp⟩ := hwq
       rw [hp]; exact below_regrown _ _ _
      clear hwq
      clear k0 k1 k2 k3 k4 k5 k6 k7 k8 f0 f1 f2 f3 f4 f5
      have MQ : MacAt wq b (.slice (some a) n cap) told time M := MacAt.later ⟨out, HI.out, HO.out⟩ hbq
      have HMQ := Lib.hid MQ
      have HBQ := Lib.hid hbq
      clear MQ hbq
      go_wp2_with fail
      refine (Store_any b _ told time M _ HMQ.out (M.regs d) (HMO.out.1 d) o x HVX.out).mono ?_
      rintro e w3 ⟨rfl, hM3, hb3⟩
      have HBB := Lib.hid (HB1.out.trans ((HBQ.out.mono (by omega)).trans (hb3.mono (by omega))))
      have HRR := Lib.hid ((HR1.out.later HBQ.out (by omega)).later hb3 (by omega))
      clear hb3
      generalize M.store (M.regs d) o x = L at *
      obtain ⟨M2, le⟩ := L
      have HM2 := HML
      go_wp2_with fail
      go_meet
      go_light
      refine ⟨pc, le, M2, rfl, rfl, ?_, ?_, ?_⟩
      ·(repeat' (first | with_reducible exact HRR.out | with_reducible refine Img.drew ?_ | with_reducible refine Img.other ?_ ?_ _ | (simp; done) | (simp; omega) | omega))
      ·(repeat' (first | with_reducible exact HBB.out | with_reducible refine Below.drew ?_ | with_reducible refine Below.setCell ?_ ?_ _ | (simp; done) | (simp; omega) | omega))
      ·exact StepTo.pair HST.out pn HM2.out (by first | exact hM3 | exact hM3.drew)
    ·as_aux_lemma =>
      have pn : pc + 1 < n := by
       by_cases e : pc + 1 = n
       ·have := HX.out e; omega
       ·omega
      have hnn : nn = 1 ∨ nn = 2 ∨ nn = 3 := by
       have := HN.out
       unfold bad at this
       omega
      have hst := step_call M told time d s r o nn pc
      have hml := HMO.out.call time nn
      have HST := Lib.hid hst
      have HM2 := Lib.hid hml
      have HNN := Lib.hid hnn
      clear hst hml hnn
      go_wp2_with (go_at_call 63; refine (Asks_any _ _).mono ?_; rintro e w' ⟨rfl, rfl⟩; rw [asks_of])
      refine (Call_any b _ told time M _ ⟨out, HI.out, HO.out⟩ nn HNN.out).mono ?_
      rintro e w3 ⟨rfl, hM3, hb3⟩
      have HBB := Lib.hid (HB1.out.trans (hb3.mono (by omega)))
      have HRR := Lib.hid (HR1.out.later hb3 (by omega))
      clear hb3
      generalize M.call time nn = L at *
      obtain ⟨M2, le⟩ := L
      go_wp2_with fail
      go_meet
      go_light
      refine ⟨pc, le, M2, rfl, rfl, ?_, ?_, ?_⟩
      ·(repeat' (first | with_reducible exact HRR.out | with_reducible refine Img.drew ?_ | with_reducible refine Img.other ?_ ?_ _ | (simp; done) | (simp; omega) | omega))
      ·(repeat' (first | with_reducible exact HBB.out | with_reducible refine Below.drew ?_ | with_reducible refine Below.setCell ?_ ?_ _ | (simp; done) | (simp; omega) | omega))
      ·exact StepTo.pair HST.out pn HM2.out (by first | exact hM3 | exact hM3.drew)
    ·as_aux_lemma =>
      have pn : pc + 1 < n := by
       by_cases e : pc + 1 = n
       ·have := HX.out e; omega
       ·omega
      have k0 := cell_regrown f0; have k1 := cell_regrown f1
      have k5 := cell_regrown ds0; have k6 := cell_regrown ds1; have k7 := cell_regrown ds2
      have cL : ∀ dr os, Calls Tryz.prog 70 #[.int .i64 13, .agg #[.int .i64 (M.regs d).kind, .int .i64 (M.regs d).n, .int .i64 (M.regs d).cell], .agg #[.int .i64 1, .int .i64 0, .int .i64 0]] (Go.Sort.grow (redrawn wd dr) os) fun e w'' =>
       e = .returned (.tuple #[.agg #[.int .i64 (vcounts 13 (M.regs d) ⟨1, 0, 0⟩).1.kind, .int .i64 (vcounts 13 (M.regs d) ⟨1, 0, 0⟩).1.n, .int .i64 (vcounts 13 (M.regs d) ⟨1, 0, 0⟩).1.cell], .int .i64 (vcounts 13 (M.regs d) ⟨1, 0, 0⟩).2]) ∧ ∃ p : Regrown, w'' = Go.Sort.grow (redrawn wd p.d) p.os := fun dr os => Calls.regrown_of (Counts_any 13 _ _ _ 1 0 0 _)
      have hst := step_neg M told time d s r o nn pc
      have hml := (HMO.out.1 d).counts (VOk.num 0) 13
      simp only [Val.num] at hml
      generalize vcounts 13 (M.regs d) ⟨1, 0, 0⟩ = L at *
      obtain ⟨⟨lk, ln, lc⟩, le⟩ := L
      have HST := Lib.hid hst
      have HML := Lib.hid hml
      have CL := Lib.hid cL
      clear hst hml cL
      go_wp2_with (go_at_call 63; refine (Asks_any _ _).mono ?_; rintro e w' ⟨rfl, rfl⟩; rw [asks_of])
      refine wp_below_one 20 (by kernel_rfl) (by kernel_rfl) ?_
      repeat (quiet_step (first | exact CL.out _ _))
      refine wpQuiet_nil ?_
      intro wq hwq
      have hbq : Below wd.heap.size wd wq := by
       obtain ⟨p, hp⟩ := hwq
       rw [hp]; exact below_regrown _ _ _
      clear hwq
      clear k0 k1 k5 k6 k7 f0 f1 f2 f3 f4 f5
      have HBB := Lib.hid (HB1.out.trans (hbq.mono (by omega)))
      have HRR := Lib.hid (HR1.out.later hbq (by omega))
      have MQ : MacAt wq b (.slice (some a) n cap) told time M := MacAt.later ⟨out, HI.out, HO.out⟩ hbq
      have HMQ := Lib.hid MQ
      obtain ⟨out2, IQ, -⟩ := MQ
      have q0 := IQ.cell (1 + d * 3) (by omega)
      have q1 := IQ.cell (1 + d * 3 + 1) (by omega)
      have q2 := IQ.cell (1 + d * 3 + 2) (by omega)
      have p0 := IQ.free (1 + d * 3) (by omega)
      have p1 := IQ.free (1 + d * 3 + 1) (by omega)
      have p2 := IQ.free (1 + d * 3 + 2) (by omega)
      clear IQ hbq
      go_wp2_with fail
      refine NoPanic.normal ?_
      go_wp2_with fail
      go_meet
      go_light
      refine ⟨pc, le, { M with regs := upd M.regs d ⟨lk, ln, lc⟩ }, rfl, rfl, ?_, ?_, ?_⟩
      ·(repeat' (first | with_reducible exact HRR.out | with_reducible refine Img.drew ?_ | with_reducible refine Img.other ?_ ?_ _ | (simp; done) | (simp; omega) | omega))
      ·(repeat' (first | with_reducible exact HBB.out | with_reducible refine Below.drew ?_ | with_reducible refine Below.setCell ?_ ?_ _ | (simp; done) | (simp; omega) | omega))
      ·refine StepTo.pair HST.out pn (HMO.out.setreg d HML.out) ?_
       first
       | with_reducible exact HMQ.out.setReg dN lk ln lc rfl rfl rfl
       | with_reducible exact (HMQ.out.setReg dN lk ln lc rfl rfl rfl).drew
    ·as_aux_lemma =>
      have pn : pc + 1 < n := by
       by_cases e : pc + 1 = n
       ·have := HX.out e; omega
       ·omega
      have k0 := cell_regrown f0; have k1 := cell_regrown f1; have k2 := cell_regrown f2; have k3 := cell_regrown f3; have k4 := cell_regrown f4; have k8 := cell_regrown f5
      have k5 := cell_regrown ds0; have k6 := cell_regrown ds1; have k7 := cell_regrown ds2
      have t28 : (c == 28) = false := by rw [beq_eq_false_iff_ne]; omega
      have t14 : (c == 14) = false := by rw [beq_eq_false_iff_ne]; omega
      have t25 : (c == 25) = false := by rw [beq_eq_false_iff_ne]; omega
      have t26 : (c == 26) = false := by rw [beq_eq_false_iff_ne]; omega
      have t27 : (c == 27) = false := by rw [beq_eq_false_iff_ne]; omega
      have t13 : (c == 13) = false := by rw [beq_eq_false_iff_ne]; omega
      have t15 : decide (15 ≤ c) = false := by simp; omega
      have hst := step_make M told time c hc d s r o nn pc
      have hx := HMO.out.second ⟨c, d, s, r, o, nn⟩
      have cS : ∀ dr os, Calls Tryz.prog 68 #[.pointer (some ⟨b, 0, none⟩), .agg #[.int .i64 c, .int .i64 d, .int .i64 s, .bool r, .int .i64 o, .int .i64 nn]] (Go.Sort.grow (redrawn wd dr) os) fun e w'' =>
       e = .returned (.agg #[.int .i64 (M.second ⟨c, d, s, r, o, nn⟩).kind, .int .i64 (M.second ⟨c, d, s, r, o, nn⟩).n, .int .i64 (M.second ⟨c, d, s, r, o, nn⟩).cell]) ∧ ∃ p : Regrown, w'' = Go.Sort.grow (redrawn wd p.d) p.os := fun dr os => Calls.regrown_of (Second_any b _ told time out M _ (HI.out.later (below_regrown wd dr os) zb1) c d s r o nn ⟨by omega, by omega⟩)
      generalize M.second ⟨c, d, s, r, o, nn⟩ = x at *
      have cL : ∀ dr os, Calls Tryz.prog 70 #[.int .i64 c, .agg #[.int .i64 (M.regs d).kind, .int .i64 (M.regs d).n, .int .i64 (M.regs d).cell], .agg #[.int .i64 x.kind, .int .i64 x.n, .int .i64 x.cell]] (Go.Sort.grow (redrawn wd dr) os) fun e w'' =>
       e = .returned (.tuple #[.agg #[.int .i64 (vcounts c (M.regs d) x).1.kind, .int .i64 (vcounts c (M.regs d) x).1.n, .int .i64 (vcounts c (M.regs d) x).1.cell], .int .i64 (vcounts c (M.regs d) x).2]) ∧ ∃ p : Regrown, w'' = Go.Sort.grow (redrawn wd p.d) p.os := fun dr os => Calls.regrown_of (Counts_any c _ _ _ _ _ _ _)
      have hml := (HMO.out.1 d).counts hx c
      generalize vcounts c (M.regs d) x = L at *
      obtain ⟨⟨lk, ln, lc⟩, le⟩ := L
      have CS := Lib.hid cS
      clear cS hx hc
      have HST := Lib.hid hst
      have HML := Lib.hid hml
      have CL := Lib.hid cL
      clear hst hml cL
      go_wp2_with (go_at_call 63; refine (Asks_any _ _).mono ?_; rintro e w' ⟨rfl, rfl⟩; rw [asks_of])
      refine wp_below_one 22 (by kernel_rfl) (by kernel_rfl) ?_
      repeat (quiet_step (first | exact CL.out _ _ | exact CS.out _ _))
      refine wpQuiet_nil ?_
      intro wq hwq
      have hbq : Below wd.heap.size wd wq := by
       obtain ⟨p, hp⟩ := hwq
       rw [hp]; exact below_regrown _ _ _
      clear hwq
      clear k0 k1 k2 k3 k4 k5 k6 k7 k8 f0 f1 f2 f3 f4 f5
      have HBB := Lib.hid (HB1.out.trans (hbq.mono (by omega)))
      have HRR := Lib.hid (HR1.out.later hbq (by omega))
      have MQ : MacAt wq b (.slice (some a) n cap) told time M := MacAt.later ⟨out, HI.out, HO.out⟩ hbq
      have HMQ := Lib.hid MQ
      obtain ⟨out2, IQ, -⟩ := MQ
      have q0 := IQ.cell (1 + d * 3) (by omega)
      have q1 := IQ.cell (1 + d * 3 + 1) (by omega)
      have q2 := IQ.cell (1 + d * 3 + 2) (by omega)
      have p0 := IQ.free (1 + d * 3) (by omega)
      have p1 := IQ.free (1 + d * 3 + 1) (by omega)
      have p2 := IQ.free (1 + d * 3 + 2) (by omega)
      clear IQ hbq
      go_wp2_with fail
      refine NoPanic.normal ?_
      go_wp2_with fail
      go_meet
      go_light
      refine ⟨pc, le, { M with regs := upd M.regs d ⟨lk, ln, lc⟩ }, rfl, rfl, ?_, ?_, ?_⟩
      ·(repeat' (first | with_reducible exact HRR.out | with_reducible refine Img.drew ?_ | with_reducible refine Img.other ?_ ?_ _ | (simp; done) | (simp; omega) | omega))
      ·(repeat' (first | with_reducible exact HBB.out | with_reducible refine Below.drew ?_ | with_reducible refine Below.setCell ?_ ?_ _ | (simp; done) | (simp; omega) | omega))
      ·refine StepTo.pair HST.out pn (HMO.out.setreg d HML.out) ?_
       first
       | with_reducible exact HMQ.out.setReg dN lk ln lc rfl rfl rfl
       | with_reducible exact (HMQ.out.setReg dN lk ln lc rfl rfl rfl).drew
  case rest =>
   as_aux_lemma =>
    obtain ⟨q, er, M', rfl, rfl, hR, hB, hS⟩ := hcut
    have HRr := Lib.hid hR
    have HBr := Lib.hid hB
    have zc : w.heap.size ≤ wc.heap.size := hB.size
    clear hR hB
    rcases hS with ⟨rfl, hq1, hq2, hmo, hma, hst⟩ | ⟨he, hq, hst⟩
    ·have hr2 := HRUN.out
     rw [hst] at hr2
     have HR2 := Lib.hid hr2
     have HMA := Lib.hid hma
     have HMO2 := Lib.hid hmo
     clear hr2 hst hma hmo
     go_wp2_with fail
     go_roundw
     case rel =>
      go_light
      exact ⟨q + 1, st + 1, f, M', by go_num, by go_num, by omega, by omega, by omega, HMO2.out, HR2.out, HMA.out, HRr.out, HBr.out⟩
     case measure => simp [intOf]; omega
    ·subst hq
     have hr2 := HRUN.out
     rw [hst] at hr2
     have HR2 := Lib.hid hr2
     have HE := Lib.hid he
     have t0 : (er == 0) = false := by rw [beq_eq_false_iff_ne]; exact he
     have t1 : (er != 0) = true := by rw [bne_iff_ne]; exact he
     clear hr2 hst he
     have zr2 : w.heap.size + 2 < wc.heap.size := HRr.out.lt (by omega)
     have hth : wc.there (w.heap.size + 1 + 1) 0 (Array.size (#[.int .i64 0, .int .i64 0, .int .i64 0, .int .i64 0, .int .i64 0, .int .i64 0, .int .i64 0, .int .i64 0, .int .i64 0, .int .i64 0, .int .i64 0, .int .i64 0, .int .i64 0, .int .i64 0, .int .i64 0, .int .i64 0, .int .i64 0, .slice none 0 0, .int .i64 0] : Array Value)) := fun j hj => ⟨by rw [Nat.zero_add, HRr.out.cell j hj]; rfl, by rw [Nat.zero_add]; exact HRr.out.free j hj⟩
     have HTH := Lib.hid hth
     clear hth
     go_upto_region 33 with fail
     refine wp_region_lit ?_
     refine wpList_build (by rfl) 87 _ (by rfl) #[] (by simp) #[.int .i64 0, .int .i64 0, .int .i64 0, .int .i64 0, .int .i64 0, .int .i64 0, .int .i64 0, .int .i64 0, .int .i64 0, .int .i64 0, .int .i64 0, .int .i64 0, .int .i64 0, .int .i64 0, .int .i64 0, .int .i64 0, .int .i64 0, .slice none 0 0, .int .i64 0] built_ranz ?_
     go_wp2_with (with_reducible refine wpList_store_mid rfl 87 (.tmp 8) (.tmp 214) rfl (w.heap.size + 1 + 1) 0 #[.int .i64 0, .int .i64 0, .int .i64 0, .int .i64 0, .int .i64 0, .int .i64 0, .int .i64 0, .int .i64 0, .int .i64 0, .int .i64 0, .int .i64 0, .int .i64 0, .int .i64 0, .int .i64 0, .int .i64 0, .int .i64 0, .int .i64 0, .slice none 0 0, .int .i64 0] (by simp [go_sem]; done) (by simp [go_sem]; done) (World.there_alloc HTH.out _) size_ranz one_ranz ?_)
     have hld : (loadVar 87 ⟨w.heap.size + 1 + 1, 0, none⟩).run Tryz.prog ((wc.alloc (.cells #[.int .i64 er, .int .i64 q] 146)).setCells (w.heap.size + 1 + 1) 0 [.int .i64 0, .int .i64 0, .int .i64 0, .int .i64 0, .int .i64 0, .int .i64 0, .int .i64 0, .int .i64 0, .int .i64 0, .int .i64 0, .int .i64 0, .int .i64 0, .int .i64 0, .int .i64 0, .int .i64 0, .int .i64 0, .int .i64 0, .slice none 0 0, .int .i64 0]) = .ok (.agg #[.int .i64 0, .int .i64 0, .int .i64 0, .int .i64 0, .int .i64 0, .int .i64 0, .int .i64 0, .int .i64 0, .int .i64 0, .int .i64 0, .int .i64 0, .int .i64 0, .int .i64 0, .int .i64 0, .int .i64 0, .int .i64 0, .int .i64 0, .slice none 0 0, .int .i64 0]) ((wc.alloc (.cells #[.int .i64 er, .int .i64 q] 146)).setCells (w.heap.size + 1 + 1) 0 [.int .i64 0, .int .i64 0, .int .i64 0, .int .i64 0, .int .i64 0, .int .i64 0, .int .i64 0, .int .i64 0, .int .i64 0, .int .i64 0, .int .i64 0, .int .i64 0, .int .i64 0, .int .i64 0, .int .i64 0, .int .i64 0, .int .i64 0, .slice none 0 0, .int .i64 0]) := run_loadVar_mid (P := Tryz.prog) _ (w.heap.size + 1 + 1) 0 87 [.int .i64 0, .int .i64 0, .int .i64 0, .int .i64 0, .int .i64 0, .int .i64 0, .int .i64 0, .int .i64 0, .int .i64 0, .int .i64 0, .int .i64 0, .int .i64 0, .int .i64 0, .int .i64 0, .int .i64 0, .int .i64 0, .int .i64 0, .slice none 0 0, .int .i64 0] _ (World.rangeAt_setCells_same _ (w.heap.size + 1 + 1) 0 [.int .i64 0, .int .i64 0, .int .i64 0, .int .i64 0, .int .i64 0, .int .i64 0, .int .i64 0, .int .i64 0, .int .i64 0, .int .i64 0, .int .i64 0, .int .i64 0, .int .i64 0, .int .i64 0, .int .i64 0, .int .i64 0, .int .i64 0, .slice none 0 0, .int .i64 0] (World.there_alloc HTH.out _)) Tryz.underlying87 rfl size_ran
     refine bodyPost_ret (results_cell_tmp Tryz.results31 (p := ⟨w.heap.size + 1 + 1, 0, none⟩) (by simp [go_sem]) (by simp [go_sem]; rfl) hld) rfl ⟨⟨_, _, rfl, ?_⟩, ?_⟩
     ·rw [HR2.out]
      have B := but_setCells (b := w.heap.size + 1 + 1) [.int .i64 0, .int .i64 0, .int .i64 0, .int .i64 0, .int .i64 0, .int .i64 0, .int .i64 0, .int .i64 0, .int .i64 0, .int .i64 0, .int .i64 0, .int .i64 0, .int .i64 0, .int .i64 0, .int .i64 0, .int .i64 0, .int .i64 0, .slice none 0 0, .int .i64 0] 0 (wc.alloc (.cells #[.int .i64 er, .int .i64 q] 146)) _ (But.refl _ _)
      exact ⟨rfl, .inr (.inr ⟨HE.out, wc.heap.size, rfl, B.cell (p := ⟨wc.heap.size, 0, none⟩) (by simp [go_sem]) (by show wc.heap.size ≠ w.heap.size + 1 + 1; omega), B.cell (p := ⟨wc.heap.size, 1, none⟩) (by simp [go_sem]) (by show wc.heap.size ≠ w.heap.size + 1 + 1; omega)⟩), HE.out⟩
     ·exact below_setCells (by omega) _ _ _ _ (HBr.out.alloc (by omega) _)
end Go.Proofs.YtpdlmbbgioenoaaGreatDoor.W
