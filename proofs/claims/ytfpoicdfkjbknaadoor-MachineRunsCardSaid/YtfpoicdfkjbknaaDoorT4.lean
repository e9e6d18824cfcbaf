/- The walk of machine.asks: whether what a step asks is so. Conditions: the machine lies in a block of 108 cells. -/
import Derived.Test.YtfpoicdfkjbknaaDoorT3
import Derived.Test.YtfpoicdfkjbknaaDoorQuietTail
import Derived.Deep.RegionHeld3
import Derived.Deep.DrawnRows
import Derived.Deep.Light
import Derived.Deep.DeepCutAuto
import Derived.Outline
namespace Go.Proofs.YtfpoicdfkjbknaaDoor.W
open Go.RowKit Go.Proofs.YtfpoicdfkjbknaaDoor.P
set_option linter.unusedSimpArgs false
set_option linter.unusedVariables false

theorem Second_any (b : Nat) (code : Value) (told : Nat → Int) (time : Int) (out : Value) (M : Mach) (w : World) (hI : Img w b 108 (mimg code told time out M)) (c d s : Int) (r : Bool) (o n : Int) (hs : 0 ≤ s ∧ s < 11) :
    Calls Tryd.prog 22 #[.pointer (some ⟨b, 0, none⟩), .agg #[.int .i64 c, .int .i64 d, .int .i64 s, .bool r, .int .i64 o, .int .i64 n]] w fun e w' =>
      e = .returned (.agg #[.int .i64 (M.second ⟨c, d, s, r, o, n⟩).kind, .int .i64 (M.second ⟨c, d, s, r, o, n⟩).n, .int .i64 (M.second ⟨c, d, s, r, o, n⟩).cell]) ∧ Below w.heap.size w w' := by
  cases r
  · exact Second_num _ w c d s o n
  · obtain ⟨k, rfl⟩ := Int.eq_ofNat_of_zero_le hs.1
    have := Second_reg b code told time out M w hI c d k (by omega) o n
    simpa [Mach.second] using this

attribute [local go_sem ↓] Go.wp_at_zero Go.wp_at_succ

set_option maxRecDepth 100000 in
set_option maxHeartbeats 1000000 in
theorem MAsks_any (b : Nat) (code : Value) (told : Nat → Int) (time : Int) (out : Value) (M : Mach) (w : World) (hI : Img w b 108 (mimg code told time out M)) (c s : Int) (d : Nat) (r : Bool) (o n : Int) (hd : d < 11) (hs : 0 ≤ s ∧ s < 11)
    (a x : Val) (ha : M.regs d = a) (hx : M.second ⟨c, d, s, r, o, n⟩ = x) :
    Calls Tryd.prog 19 #[.pointer (some ⟨b, 0, none⟩), .agg #[.int .i64 c, .int .i64 d, .int .i64 s, .bool r, .int .i64 o, .int .i64 n]] w fun e w' =>
      e = .returned (.tuple #[.bool (M.asks ⟨c, d, s, r, o, n⟩).1, .int .i64 (M.asks ⟨c, d, s, r, o, n⟩).2]) ∧ Below w.heap.size w w' := by
  have HW0 := Lib.hid (Below.refl w.heap.size w)
  have hlt := hI.lt (by omega)
  have hS : ∀ w', Img w' b 108 (mimg code told time out M) → Calls Tryd.prog 22 #[.pointer (some ⟨b, 0, none⟩), .agg #[.int .i64 c, .int .i64 d, .int .i64 s, .bool r, .int .i64 o, .int .i64 n]] w' fun e w'' =>
      e = .returned (.agg #[.int .i64 x.kind, .int .i64 x.n, .int .i64 x.cell]) ∧ Below w'.heap.size w' w'' := fun w' h => by
    have := Second_any b code told time out M w' h c d s r o n hs
    rw [hx] at this; exact this
  have HS := Lib.hid hS
  clear hS
  have d7 : (d : Int) < 11 := by omega
  have c0 := (hI.cell (1 + d * 3) (by omega)).trans (congrArg some ((mimg_reg hd (by omega : 0 < 3) (by omega)).trans (vcell_0 _)))
  have c1 := (hI.cell (1 + d * 3 + 1) (by omega)).trans (congrArg some ((mimg_reg hd (by omega : 1 < 3) (by omega)).trans (vcell_1 _)))
  have c2 := (hI.cell (1 + d * 3 + 2) (by omega)).trans (congrArg some ((mimg_reg hd (by omega : 2 < 3) (by omega)).trans (vcell_2 _)))
  rw [ha] at c0 c1 c2
  have HI := Lib.hid hI
  have HX := Lib.hid hx
  have HA := Lib.hid ha
  clear hI hx ha
  go_enter Tryd.func19, Tryd.ntmps19
  go_wp2_with fail
  generalize hW : World.alloc w _ = wd
  have I1 : Img wd b 108 (mimg code told time out M) := hW ▸ HI.out.alloc _
  have h1 : w.heap.size < wd.heap.size := by rw [← hW]; simp
  have HW1 : Hid (Below w.heap.size w wd) := Lib.hid (hW ▸ (Below.refl w.heap.size w).alloc (Nat.le_refl _) _)
  have e0 : wd.cell? ⟨w.heap.size, 0, none⟩ = some (.int .i64 c) := by rw [← hW]; simp [go_sem]
  have e1 : wd.cell? ⟨w.heap.size, 1, none⟩ = some (.int .i64 d) := by rw [← hW]; simp [go_sem]
  have e2 : wd.cell? ⟨w.heap.size, 2, none⟩ = some (.int .i64 s) := by rw [← hW]; simp [go_sem]
  have e3 : wd.cell? ⟨w.heap.size, 3, none⟩ = some (.bool r) := by rw [← hW]; simp [go_sem]
  have e4 : wd.cell? ⟨w.heap.size, 4, none⟩ = some (.int .i64 o) := by rw [← hW]; simp [go_sem]
  have e5 : wd.cell? ⟨w.heap.size, 5, none⟩ = some (.int .i64 n) := by rw [← hW]; simp [go_sem]
  clear hW
  replace c0 := (I1.cell (1 + d * 3) (by omega)).trans (congrArg some ((mimg_reg hd (by omega : 0 < 3) (by omega)).trans (vcell_0 _)))
  replace c1 := (I1.cell (1 + d * 3 + 1) (by omega)).trans (congrArg some ((mimg_reg hd (by omega : 1 < 3) (by omega)).trans (vcell_1 _)))
  replace c2 := (I1.cell (1 + d * 3 + 2) (by omega)).trans (congrArg some ((mimg_reg hd (by omega : 2 < 3) (by omega)).trans (vcell_2 _)))
  rw [HA.out] at c0 c1 c2
  have k0 := cell_regrown c0; have k1 := cell_regrown c1; have k2 := cell_regrown c2
  have k3 := cell_regrown e0; have k4 := cell_regrown e1; have k5 := cell_regrown e2; have k6 := cell_regrown e3; have k7 := cell_regrown e4; have k8 := cell_regrown e5
  have HI1 := Lib.hid I1
  clear I1
  have zb : b < wd.heap.size := by omega
  clear k0 k1 k2 k3 k4 k5 k6 k7 k8
  have mwd00 : ¬ b = wd.heap.size := (by omega); have mwd01 : ¬ b = wd.heap.size + 1 := (by omega); have mwd10 : ¬ w.heap.size = wd.heap.size := (by omega); have mwd11 : ¬ w.heap.size = wd.heap.size + 1 := (by omega); have lwd00 : ¬ wd.heap.size = b := (by omega); have lwd01 : ¬ wd.heap.size + 1 = b := (by omega); have lwd10 : ¬ wd.heap.size = w.heap.size := (by omega); have lwd11 : ¬ wd.heap.size + 1 = w.heap.size := (by omega)
  go_cut [6, 7] (fun u6 u7 wr => ∃ p q : Nat, u6 = .pointer (some ⟨p, 0, none⟩) ∧ u7 = .pointer (some ⟨q, 0, none⟩) ∧ wr.cell? ⟨p, 0, none⟩ = some (.int .i64 a.kind) ∧ wr.cell? ⟨p, 1, none⟩ = some (.int .i64 a.n) ∧ wr.cell? ⟨q, 0, none⟩ = some (.int .i64 x.kind) ∧ wr.cell? ⟨q, 1, none⟩ = some (.int .i64 x.n) ∧
    wr.cell? ⟨w.heap.size, 0, none⟩ = some (.int .i64 c) ∧ wr.cell? ⟨w.heap.size, 3, none⟩ = some (.bool r) ∧ wr.cell? ⟨w.heap.size, 5, none⟩ = some (.int .i64 n) ∧ Below w.heap.size w wr)
  case first =>
    go_region_held3 (fun w' => w'.cell? ⟨b, 1 + d * 3, none⟩ = some (.int .i64 a.kind) ∧ w'.cell? ⟨b, 1 + d * 3 + 1, none⟩ = some (.int .i64 a.n) ∧ w'.cell? ⟨b, 1 + d * 3 + 2, none⟩ = some (.int .i64 a.cell) ∧ w'.cell? ⟨w.heap.size, 0, none⟩ = some (.int .i64 c) ∧ w'.cell? ⟨w.heap.size, 1, none⟩ = some (.int .i64 d) ∧ w'.cell? ⟨w.heap.size, 2, none⟩ = some (.int .i64 s) ∧ w'.cell? ⟨w.heap.size, 3, none⟩ = some (.bool r) ∧ w'.cell? ⟨w.heap.size, 4, none⟩ = some (.int .i64 o) ∧ w'.cell? ⟨w.heap.size, 5, none⟩ = some (.int .i64 n)) (first | go_keep | (go_split_ands; exact ⟨by first | assumption | (rw [hb.cell (by first | (simp; done) | (simp; omega) | omega)]; first | assumption | go_keep) | (simp [go_sem, *]; done), by first | assumption | (rw [hb.cell (by first | (simp; done) | (simp; omega) | omega)]; first | assumption | go_keep) | (simp [go_sem, *]; done), by first | assumption | (rw [hb.cell (by first | (simp; done) | (simp; omega) | omega)]; first | assumption | go_keep) | (simp [go_sem, *]; done), by first | assumption | (rw [hb.cell (by first | (simp; done) | (simp; omega) | omega)]; first | assumption | go_keep) | (simp [go_sem, *]; done), by first | assumption | (rw [hb.cell (by first | (simp; done) | (simp; omega) | omega)]; first | assumption | go_keep) | (simp [go_sem, *]; done), by first | assumption | (rw [hb.cell (by first | (simp; done) | (simp; omega) | omega)]; first | assumption | go_keep) | (simp [go_sem, *]; done), by first | assumption | (rw [hb.cell (by first | (simp; done) | (simp; omega) | omega)]; first | assumption | go_keep) | (simp [go_sem, *]; done), by first | assumption | (rw [hb.cell (by first | (simp; done) | (simp; omega) | omega)]; first | assumption | go_keep) | (simp [go_sem, *]; done), by first | assumption | (rw [hb.cell (by first | (simp; done) | (simp; omega) | omega)]; first | assumption | go_keep) | (simp [go_sem, *]; done)⟩))
      (first | (go_at_call 22; refine (HS.out _ ?_).mono ?_; (first | exact HI1.out.drew | exact (HI1.out.alloc _).drew | exact ((HI1.out.alloc _).alloc _).drew | exact HI1.out | exact (HI1.out.alloc _) | exact ((HI1.out.alloc _).alloc _)); rintro e w1 ⟨rfl, hb⟩; obtain ⟨hc1, hf1⟩ := bcell hb; have z1 := hb.size; (try simp at z1); have mw100 : ¬ b = w1.heap.size := (by omega); have mw101 : ¬ b = w1.heap.size + 1 := (by omega); have mw110 : ¬ w.heap.size = w1.heap.size := (by omega); have mw111 : ¬ w.heap.size = w1.heap.size + 1 := (by omega); have lw100 : ¬ w1.heap.size = b := (by omega); have lw101 : ¬ w1.heap.size + 1 = b := (by omega); have lw110 : ¬ w1.heap.size = w.heap.size := (by omega); have lw111 : ¬ w1.heap.size + 1 = w.heap.size := (by omega); (try have p00 : w1.cell? ⟨wd.heap.size, 0, none⟩ = some (.int .i64 0) := (by rw [hc1 _ _ (by first | (simp; done) | (simp; omega) | omega)]; simp [go_sem])); (try have q00 : w1.frozen? ⟨wd.heap.size, 0, none⟩ = false := (by rw [hf1 _ _ (by first | (simp; done) | (simp; omega) | omega)]; simp [go_sem])); (try have p01 : w1.cell? ⟨wd.heap.size, 1, none⟩ = some (.int .i64 0) := (by rw [hc1 _ _ (by first | (simp; done) | (simp; omega) | omega)]; simp [go_sem])); (try have q01 : w1.frozen? ⟨wd.heap.size, 1, none⟩ = false := (by rw [hf1 _ _ (by first | (simp; done) | (simp; omega) | omega)]; simp [go_sem])); (try have p02 : w1.cell? ⟨wd.heap.size, 2, none⟩ = some (.int .i64 0) := (by rw [hc1 _ _ (by first | (simp; done) | (simp; omega) | omega)]; simp [go_sem])); (try have q02 : w1.frozen? ⟨wd.heap.size, 2, none⟩ = false := (by rw [hf1 _ _ (by first | (simp; done) | (simp; omega) | omega)]; simp [go_sem])); (try have p10 : w1.cell? ⟨wd.heap.size + 1, 0, none⟩ = some (.int .i64 0) := (by rw [hc1 _ _ (by first | (simp; done) | (simp; omega) | omega)]; simp [go_sem])); (try have q10 : w1.frozen? ⟨wd.heap.size + 1, 0, none⟩ = false := (by rw [hf1 _ _ (by first | (simp; done) | (simp; omega) | omega)]; simp [go_sem])); (try have p11 : w1.cell? ⟨wd.heap.size + 1, 1, none⟩ = some (.int .i64 0) := (by rw [hc1 _ _ (by first | (simp; done) | (simp; omega) | omega)]; simp [go_sem])); (try have q11 : w1.frozen? ⟨wd.heap.size + 1, 1, none⟩ = false := (by rw [hf1 _ _ (by first | (simp; done) | (simp; omega) | omega)]; simp [go_sem])); (try have p12 : w1.cell? ⟨wd.heap.size + 1, 2, none⟩ = some (.int .i64 0) := (by rw [hc1 _ _ (by first | (simp; done) | (simp; omega) | omega)]; simp [go_sem])); (try have q12 : w1.frozen? ⟨wd.heap.size + 1, 2, none⟩ = false := (by rw [hf1 _ _ (by first | (simp; done) | (simp; omega) | omega)]; simp [go_sem])); have y0 : w1.cell? ⟨b, 1 + d * 3, none⟩ = some (.int .i64 a.kind) := (hb.cell (p := ⟨b, 1 + d * 3, none⟩) (by first | (simp; done) | (simp; omega) | omega)).trans (by first | exact c0 | (simp [go_sem, c0, zb]; done)); have y1 : w1.cell? ⟨b, 1 + d * 3 + 1, none⟩ = some (.int .i64 a.n) := (hb.cell (p := ⟨b, 1 + d * 3 + 1, none⟩) (by first | (simp; done) | (simp; omega) | omega)).trans (by first | exact c1 | (simp [go_sem, c1, zb]; done)); have y2 : w1.cell? ⟨b, 1 + d * 3 + 2, none⟩ = some (.int .i64 a.cell) := (hb.cell (p := ⟨b, 1 + d * 3 + 2, none⟩) (by first | (simp; done) | (simp; omega) | omega)).trans (by first | exact c2 | (simp [go_sem, c2, zb]; done)); have x0 : w1.cell? ⟨w.heap.size, 0, none⟩ = some (.int .i64 c) := (hb.cell (p := ⟨w.heap.size, 0, none⟩) (by first | (simp; done) | (simp; omega) | omega)).trans (by first | exact e0 | (simp [go_sem, e0, h1]; done)); have x1 : w1.cell? ⟨w.heap.size, 1, none⟩ = some (.int .i64 d) := (hb.cell (p := ⟨w.heap.size, 1, none⟩) (by first | (simp; done) | (simp; omega) | omega)).trans (by first | exact e1 | (simp [go_sem, e1, h1]; done)); have x2 : w1.cell? ⟨w.heap.size, 2, none⟩ = some (.int .i64 s) := (hb.cell (p := ⟨w.heap.size, 2, none⟩) (by first | (simp; done) | (simp; omega) | omega)).trans (by first | exact e2 | (simp [go_sem, e2, h1]; done)); have x3 : w1.cell? ⟨w.heap.size, 3, none⟩ = some (.bool r) := (hb.cell (p := ⟨w.heap.size, 3, none⟩) (by first | (simp; done) | (simp; omega) | omega)).trans (by first | exact e3 | (simp [go_sem, e3, h1]; done)); have x4 : w1.cell? ⟨w.heap.size, 4, none⟩ = some (.int .i64 o) := (hb.cell (p := ⟨w.heap.size, 4, none⟩) (by first | (simp; done) | (simp; omega) | omega)).trans (by first | exact e4 | (simp [go_sem, e4, h1]; done)); have x5 : w1.cell? ⟨w.heap.size, 5, none⟩ = some (.int .i64 n) := (hb.cell (p := ⟨w.heap.size, 5, none⟩) (by first | (simp; done) | (simp; omega) | omega)).trans (by first | exact e5 | (simp [go_sem, e5, h1]; done)); (try have z10 : wd.heap.size < w1.heap.size := (by omega)); (try have z11 : wd.heap.size + 1 < w1.heap.size := (by omega)); have z12 : b < w1.heap.size := (by omega); have z13 : w.heap.size < w1.heap.size := (by omega); clear hc1 hf1))
    all_goals
      go_wp2_with fail
      go_meet
      (first
        | (refine ⟨w1.heap.size, w1.heap.size + 1, ?_, ?_, ?_, ?_, ?_, ?_, ?_, ?_, ?_, ?_⟩; with_reducible rfl; with_reducible rfl)
        | (refine ⟨w1.heap.size + 1, w1.heap.size, ?_, ?_, ?_, ?_, ?_, ?_, ?_, ?_, ?_, ?_⟩; with_reducible rfl; with_reducible rfl)
        | (refine ⟨wd.heap.size, w1.heap.size, ?_, ?_, ?_, ?_, ?_, ?_, ?_, ?_, ?_, ?_⟩; with_reducible rfl; with_reducible rfl)
        | (refine ⟨w1.heap.size, wd.heap.size, ?_, ?_, ?_, ?_, ?_, ?_, ?_, ?_, ?_, ?_⟩; with_reducible rfl; with_reducible rfl)
        | (refine ⟨wd.heap.size, wd.heap.size + 1, ?_, ?_, ?_, ?_, ?_, ?_, ?_, ?_, ?_, ?_⟩; with_reducible rfl; with_reducible rfl)
        | (refine ⟨wd.heap.size + 1, wd.heap.size, ?_, ?_, ?_, ?_, ?_, ?_, ?_, ?_, ?_, ?_⟩; with_reducible rfl; with_reducible rfl))
    all_goals (first | (with_reducible refine Below.mono ?_ (Nat.le_refl _); go_light; repeat' (first | with_reducible exact HW1.out | with_reducible refine Below.drew ?_ | with_reducible refine Below.alloc ?_ ?_ _ | with_reducible refine Below.setCell ?_ ?_ _ | with_reducible refine Below.trans ?_ (hb.mono ?_) | (simp; done) | (simp; omega) | omega)) | (go_light; simp [go_sem, *]; done))
  case rest =>
    obtain ⟨p, q, rfl, rfl, a0, a1, b0, b1, f0, f3, f5, HBc⟩ := hcut
    have HWc := Lib.hid HBc
    clear HBc
    have ea : (M.regs (d : Int).toNat) = a := by rw [Int.toNat_natCast]; exact HA.out
    have eA : M.asks ⟨c, d, s, r, o, n⟩ = if a.kind = 0 ∨ x.kind = 0 then (false, 8) else if a.kind = 1 ∧ x.kind = 1 then (is c a.n x.n, 0) else if r = true ∨ n ≠ 0 ∨ (c ≠ 15 ∧ c ≠ 16) then (false, 1) else (decide (c = 16), 0) := by
      unfold Mach.asks; simp only [ea, HX.out]
    have hfin : ∀ (P : Bool × Int), M.asks ⟨c, d, s, r, o, n⟩ = P → ∀ {e : Ending} {w' : World}, e = .returned (.tuple #[.bool P.1, .int .i64 P.2]) ∧ Below w.heap.size w w' → e = .returned (.tuple #[.bool (M.asks ⟨c, d, s, r, o, n⟩).1, .int .i64 (M.asks ⟨c, d, s, r, o, n⟩).2]) ∧ Below w.heap.size w w' := fun P h => by rw [h]; exact fun h => h
    have HF := Lib.hid hfin
    have HE := Lib.hid eA
    clear eA ea hfin
    by_cases k1 : a.kind = 0
    · have q1 : (a.kind == 0) = true := by rw [beq_iff_eq]; exact k1
      rw [if_pos (.inl k1)] at HE
      clear k1
      go_wp2_with fail
      go_ret2
      exact HF.out _ HE.out ⟨rfl, HWc.out⟩
    have q1 : (a.kind == 0) = false := by rw [beq_eq_false_iff_ne]; exact k1
    by_cases k2 : x.kind = 0
    · have q2 : (x.kind == 0) = true := by rw [beq_iff_eq]; exact k2
      rw [if_pos (.inr k2)] at HE
      clear k1 k2
      go_wp2_with fail
      go_ret2
      exact HF.out _ HE.out ⟨rfl, HWc.out⟩
    have q2 : (x.kind == 0) = false := by rw [beq_eq_false_iff_ne]; exact k2
    rw [if_neg (by simp [k1, k2])] at HE
    by_cases k3 : a.kind = 1 ∧ x.kind = 1
    · have q3 : (a.kind == 1) = true := by rw [beq_iff_eq]; exact k3.1
      have q4 : (x.kind == 1) = true := by rw [beq_iff_eq]; exact k3.2
      rw [if_pos k3] at HE
      clear k1 k2 k3
      go_wp2_with (go_at_call 45; refine (Is_any _ _ _ _).mono ?_; rintro e w' ⟨rfl, rfl⟩)
      go_ret2
      exact HF.out _ HE.out ⟨rfl, HWc.out⟩
    rw [if_neg k3] at HE
    have hk : (a.kind == 1) = false ∨ ((a.kind == 1) = true ∧ (x.kind == 1) = false) := by
      rw [beq_eq_false_iff_ne, beq_eq_false_iff_ne, beq_iff_eq]; omega
    clear k1 k2 k3
    have hv : (r = true ∧ M.asks ⟨c, d, s, r, o, n⟩ = (false, 1)) ∨ (r = false ∧ (n == 0) = false ∧ M.asks ⟨c, d, s, r, o, n⟩ = (false, 1)) ∨
        (r = false ∧ n = 0 ∧ (c == 15) = false ∧ (c == 16) = false ∧ M.asks ⟨c, d, s, r, o, n⟩ = (false, 1)) ∨ (r = false ∧ n = 0 ∧ c = 15 ∧ M.asks ⟨c, d, s, r, o, n⟩ = (false, 0)) ∨ (r = false ∧ n = 0 ∧ c = 16 ∧ M.asks ⟨c, d, s, r, o, n⟩ = (true, 0)) := by
      rw [HE.out]
      cases r
      · by_cases h0 : n = 0
        · by_cases h5 : c = 15
          · simp [h0, h5]
          · by_cases h6 : c = 16
            · simp [h0, h6]
            · simp [h0, h5, h6]
        · simp [h0]
      · simp
    clear HE
    rcases hv with ⟨rfl, hv⟩ | ⟨rfl, n0, hv⟩ | ⟨rfl, rfl, c15, c16, hv⟩ | ⟨rfl, rfl, rfl, hv⟩ | ⟨rfl, rfl, rfl, hv⟩ <;> rcases hk with q3 | ⟨q3, q4⟩
    all_goals
      have HV := Lib.hid hv
      clear hv
      (try (have d0 : (n != 0) = true := by rw [bne_iff_ne]; exact beq_eq_false_iff_ne.1 n0))
      (try (have d15 : (c != 15) = true := by rw [bne_iff_ne]; exact beq_eq_false_iff_ne.1 c15))
      (try (have d16 : (c != 16) = true := by rw [bne_iff_ne]; exact beq_eq_false_iff_ne.1 c16))
      go_wp2_with fail
      go_ret2
      exact HF.out _ HV.out ⟨rfl, HWc.out⟩
end Go.Proofs.YtfpoicdfkjbknaaDoor.W
