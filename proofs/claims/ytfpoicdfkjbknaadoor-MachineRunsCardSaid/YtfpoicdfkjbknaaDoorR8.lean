/- The walk of the reference's step: what one step comes to. Conditions: the box lies in memory, its numbers are int64's; the step is in order. -/
import Derived.Test.YtfpoicdfkjbknaaDoorR7
import Derived.Test.YtfpoicdfkjbknaaDoorPureInv
import Derived.Deep.CutBlock
import Derived.BigQuiet
import Derived.Deep.QuietTactic
namespace Go.Proofs.YtfpoicdfkjbknaaDoor.W
open Go.RowKit Go.Proofs.YtfpoicdfkjbknaaDoor.P
set_option linter.unusedSimpArgs false
set_option linter.unusedVariables false

/-- what a step of the reference's comes to -/
def StepIs (b : Nat) (told : Nat → Int) (time num st pc : Int) (e : Ending) (w' : World) : Res → Prop
  | .done M' n => e = .returned (.tuple #[.int .i64 (pc + 1), .bool true, .int .i64 0]) ∧ BoxAt w' b told time n st M'
  | .err er => (∃ nx : Int, e = .returned (.tuple #[.int .i64 nx, .bool false, .int .i64 er])) ∧ er ≠ 0
  | .go M' nx => e = .returned (.tuple #[.int .i64 nx, .bool false, .int .i64 0]) ∧ BoxAt w' b told time num st M'
def StepPost (b : Nat) (told : Nat → Int) (time num st pc : Int) (R : Res) (w : World) (e : Ending) (w' : World) : Prop := StepIs b told time num st pc e w' R ∧ Below b w w'
theorem cell_new {w : World} {b j : Nat} {c : Array Value} {t : TypeId} {v : Value} (hb : b = w.heap.size) (hj : c[j]? = some v) : (w.alloc (.cells c t (0, 0))).cell? ⟨b, j, none⟩ = some v := by
  subst hb
  simp only [World.cell?, heap_alloc_new, Option.isSome_none, Bool.false_eq_true, if_false]; simp [hj]
/-- second's three cells -/
def SecAt (w : World) (g : Nat) (y : Val) : Prop := w.cell? ⟨g, 0, none⟩ = some (.int .u8 (kl y.kind)) ∧ w.cell? ⟨g, 1, none⟩ = some (.int .i64 y.n) ∧ w.cell? ⟨g, 2, none⟩ = some (.int .i64 y.cell)
theorem BoxAt.drew {w : World} {b : Nat} {told : Nat → Int} {time num st : Int} {M : Mach} (h : BoxAt w b told time num st M) : BoxAt w.drew b told time num st M := h.later ((Below.refl _ _).drew)
theorem BoxAt.alloc {w : World} {b : Nat} {told : Nat → Int} {time num st : Int} {M : Mach} (h : BoxAt w b told time num st M) (o : Obj) : BoxAt (w.alloc o) b told time num st M := h.later ((Below.refl _ _).alloc (Nat.le_refl _) _)
theorem BoxAt.other {w : World} {b : Nat} {told : Nat → Int} {time num st : Int} {M : Mach} (h : BoxAt w b told time num st M) {B : Nat} {w' : World} (hb : Below B w w') (hB : b < B) (ho : ∀ out : Value, w.ownsRow (b + 1) 2 1 out M.out.length (M.out.map (Value.int .i64)) → w'.ownsRow (b + 1) 2 1 out M.out.length (M.out.map (Value.int .i64))) : BoxAt w' b told time num st M := by
  obtain ⟨out, hI, hO⟩ := h
  exact ⟨out, hI.later hb hB, ho _ hO⟩

theorem rasks_err {M : Mach} {t : Step} (h : (M.asks t).2 ≠ 0) : (M.asks t).1 = false := by
  unfold Mach.asks at *
  simp only at *
  split at h
  · rename_i h1; rw [if_pos h1]
  · rename_i h1
    rw [if_neg h1]
    split at h
    · simp at h
    · rename_i h2
      rw [if_neg h2]
      split at h
      · rename_i h3; rw [if_pos h3]
      · simp at h
theorem rstep_load (M : Mach) (told : Nat → Int) (time : Int) (d s : Nat) (r : Bool) (o nn : Int) (pc : Int) : M.step told time ⟨25, d, s, r, o, nn⟩ pc =
    if (M.load told (M.regs s) o).2 ≠ 0 then .err (M.load told (M.regs s) o).2 else .go { M with regs := upd M.regs d (M.load told (M.regs s) o).1 } (pc + 1) := by
  unfold Mach.step; simp
theorem rstep_store (M : Mach) (told : Nat → Int) (time : Int) (d s : Nat) (r : Bool) (o nn : Int) (pc : Int) : M.step told time ⟨26, d, s, r, o, nn⟩ pc =
    if (M.store (M.regs d) o (M.second ⟨26, d, s, r, o, nn⟩)).2 ≠ 0 then .err (M.store (M.regs d) o (M.second ⟨26, d, s, r, o, nn⟩)).2 else .go (M.store (M.regs d) o (M.second ⟨26, d, s, r, o, nn⟩)).1 (pc + 1) := by
  unfold Mach.step; simp
theorem rstep_call (M : Mach) (told : Nat → Int) (time : Int) (d s : Nat) (r : Bool) (o nn : Int) (pc : Int) : M.step told time ⟨27, d, s, r, o, nn⟩ pc =
    if (M.call time nn).2 ≠ 0 then .err (M.call time nn).2 else .go (M.call time nn).1 (pc + 1) := by
  unfold Mach.step; simp
theorem rstep_neg (M : Mach) (told : Nat → Int) (time : Int) (d s : Nat) (r : Bool) (o nn : Int) (pc : Int) : M.step told time ⟨13, d, s, r, o, nn⟩ pc =
    if (vcounts 13 (M.regs d) ⟨1, 0, 0⟩).2 ≠ 0 then .err (vcounts 13 (M.regs d) ⟨1, 0, 0⟩).2 else .go { M with regs := upd M.regs d (vcounts 13 (M.regs d) ⟨1, 0, 0⟩).1 } (pc + 1) := by
  unfold Mach.step; simp [Val.num]
theorem rstep_make (M : Mach) (told : Nat → Int) (time : Int) (c : Int) (hc : c ≤ 12) (d s : Nat) (r : Bool) (o nn : Int) (pc : Int) : M.step told time ⟨c, d, s, r, o, nn⟩ pc =
    if (vcounts c (M.regs d) (M.second ⟨c, d, s, r, o, nn⟩)).2 ≠ 0 then .err (vcounts c (M.regs d) (M.second ⟨c, d, s, r, o, nn⟩)).2 else .go { M with regs := upd M.regs d (vcounts c (M.regs d) (M.second ⟨c, d, s, r, o, nn⟩)).1 } (pc + 1) := by
  unfold Mach.step
  simp only [show ¬ c = 28 by omega, show ¬ c = 14 by omega, show ¬ (15 ≤ c ∧ c ≤ 24) by omega, show ¬ c = 25 by omega, show ¬ c = 26 by omega, show ¬ c = 27 by omega, show ¬ c = 13 by omega, if_false]
  simp
theorem rstep_ask (M : Mach) (told : Nat → Int) (time : Int) (c : Int) (hc : 15 ≤ c ∧ c ≤ 24) (d s : Nat) (r : Bool) (o nn : Int) (pc : Int) : M.step told time ⟨c, d, s, r, o, nn⟩ pc =
    if (M.asks ⟨c, d, s, r, o, nn⟩).2 ≠ 0 then .err (M.asks ⟨c, d, s, r, o, nn⟩).2 else if (M.asks ⟨c, d, s, r, o, nn⟩).1 then .go M (pc + 1 + o) else .go M (pc + 1) := by
  unfold Mach.step
  simp only [show ¬ c = 28 by omega, show ¬ c = 14 by omega, if_false]
  rw [if_pos hc]
theorem rstep_jump (M : Mach) (told : Nat → Int) (time : Int) (d s : Nat) (r : Bool) (o nn : Int) (pc : Int) : M.step told time ⟨14, d, s, r, o, nn⟩ pc = .go M (pc + 1 + o) := by
  unfold Mach.step; simp
theorem rstep_exit (M : Mach) (told : Nat → Int) (time : Int) (d s : Nat) (r : Bool) (o nn : Int) (pc : Int) : M.step told time ⟨28, d, s, r, o, nn⟩ pc =
    if (M.regs 0).kind = 1 then .done M (M.regs 0).n else if (M.regs 0).kind = 0 then .err 8 else .err 1 := by
  unfold Mach.step; simp

set_option maxRecDepth 100000 in
set_option maxHeartbeats 16000000 in
theorem RefStep_any (b : Nat) (told : Nat → Int) (time num st : Int) (M : Mach) (w : World) (hM : BoxAt w b told time num st M) (hO : MOk M) (hN : MNum M) (ht : ∀ r, In64 (told r)) (htm : In64 time)
    (c : Int) (d s : Nat) (r : Bool) (o nn : Int) (pc : Nat) (hp : pc < 1000) (dN : d < 11) (sN : s < 11) (hc : 1 ≤ c ∧ c ≤ 28) (ho : In64 o) (hnn : In64 nn) (hl : c = 14 ∨ (15 ≤ c ∧ c ≤ 24) → 0 ≤ o ∧ o < 1000) (hbad : ¬ bad c d s r o nn) :
    Calls Tryd.prog 15 #[.pointer (some ⟨b, 0, none⟩), .agg #[.int .i64 c, .int .i64 d, .int .i64 s, .bool r, .int .i64 o, .int .i64 nn], .int .i64 pc] w (StepPost b told time num st pc (M.step told time ⟨c, d, s, r, o, nn⟩ pc) w) := by
  have HW0 := Lib.hid (Below.refl w.heap.size w)
  have zb := hM.ge
  have HM := Lib.hid hM
  have HO := Lib.hid hO
  have HN := Lib.hid hN
  have HT := Lib.hid ht
  have HTM := Lib.hid htm
  have HOF := Lib.hid ho
  have HNN := Lib.hid hnn
  have HL := Lib.hid hl
  have HBAD := Lib.hid hbad
  have HP := Lib.hid hp
  clear hM hO hN ht htm ho hnn hl hbad hp
  have d1 : (d : Int) < 27 := by omega
  have s1 : (s : Int) < 27 := by omega
  obtain ⟨R, hR⟩ : ∃ R, M.step told time ⟨c, d, s, r, o, nn⟩ pc = R := ⟨_, rfl⟩
  rw [hR]
  have HR := Lib.hid hR
  clear hR
  obtain ⟨y, hy⟩ : ∃ y, y = M.second ⟨c, d, s, r, o, nn⟩ := ⟨_, rfl⟩
  have HY := Lib.hid hy
  clear hy
  go_enter Tryd.func15, Tryd.ntmps15
  go_upto_if 23 with fail
  go_cut [9] (fun p wx => p = .pointer (some ⟨w.heap.size + 1, 0, none⟩) ∧ SecAt wx (w.heap.size + 1) y ∧ (wx.cell? ⟨w.heap.size, 0, none⟩ = some (.int .i64 c) ∧ wx.cell? ⟨w.heap.size, 1, none⟩ = some (.int .i64 d) ∧ wx.cell? ⟨w.heap.size, 2, none⟩ = some (.int .i64 s) ∧ wx.cell? ⟨w.heap.size, 3, none⟩ = some (.bool r) ∧ wx.cell? ⟨w.heap.size, 4, none⟩ = some (.int .i64 o) ∧ wx.cell? ⟨w.heap.size, 5, none⟩ = some (.int .i64 nn)) ∧ BoxAt wx b told time num st M ∧ Below w.heap.size w wx ∧ w.heap.size + 1 < wx.heap.size)
  case first =>
    as_aux_lemma =>
      obtain ⟨out, hI, hOw⟩ := HM.out
      have x0 : w.cell? ⟨b, s * 3, none⟩ = some (.int .u8 (kl (M.regs s).kind)) := (hI.cell (s * 3) (by omega)).trans (congrArg some ((bimg_at (r := s) (by omega) (by omega : 0 < 3) (by omega)).trans (by rw [at_reg sN]; rfl)))
      have x1 : w.cell? ⟨b, s * 3 + 1, none⟩ = some (.int .i64 (M.regs s).n) := (hI.cell (s * 3 + 1) (by omega)).trans (congrArg some ((bimg_at (r := s) (by omega) (by omega : 1 < 3) (by omega)).trans (by rw [at_reg sN]; rfl)))
      have x2 : w.cell? ⟨b, s * 3 + 2, none⟩ = some (.int .i64 (M.regs s).cell) := (hI.cell (s * 3 + 2) (by omega)).trans (congrArg some ((bimg_at (r := s) (by omega) (by omega : 2 < 3) (by omega)).trans (by rw [at_reg sN]; rfl)))
      clear hI hOw
      cases r
      · obtain rfl : y = .num nn := by rw [HY.out]; unfold Mach.second; simp
        go_wp2_with fail
        go_meet
        go_light
        refine ⟨rfl, ⟨?_, ?_, ?_⟩, ⟨?_, ?_, ?_, ?_, ?_, ?_⟩, ?_, ?_, ?_⟩
        all_goals first
          | with_reducible exact (HM.out.alloc _).alloc _
          | exact cell_new (by simp) rfl
          | (simp [go_sem, Val.num, kl]; done)
          | exact (by repeat' (first | with_reducible exact HW0.out | with_reducible exact Below.refl _ _ | with_reducible refine Below.drew ?_ | with_reducible refine Below.drewN' ?_ _ | with_reducible refine Below.alloc ?_ ?_ _ | with_reducible refine Below.setCell ?_ ?_ _ | (simp; done) | (simp; omega) | omega))
      · obtain rfl : y = M.regs s := by rw [HY.out]; unfold Mach.second; simp
        go_wp2_with fail
        go_region
        all_goals
          go_wp2_with fail
          go_meet
          go_light
          refine ⟨rfl, ⟨?_, ?_, ?_⟩, ⟨?_, ?_, ?_, ?_, ?_, ?_⟩, ?_, ?_, ?_⟩
        all_goals first
          | with_reducible exact ((HM.out.alloc _).alloc _).drew
          | exact cell_new (by simp) rfl
          | (simp [go_sem, Val.num, kl]; done)
          | exact (by repeat' (first | with_reducible exact HW0.out | with_reducible exact Below.refl _ _ | with_reducible refine Below.drew ?_ | with_reducible refine Below.drewN' ?_ _ | with_reducible refine Below.alloc ?_ ?_ _ | with_reducible refine Below.setCell ?_ ?_ _ | (simp; done) | (simp; omega) | omega))
  case rest =>
    obtain ⟨rfl, hS, ⟨f0, f1, f2, f3, f4, f5⟩, hM, hb, hz⟩ := hcut
    obtain ⟨wd, h⟩ : ∃ x, x = wc := ⟨_, rfl⟩; subst h
    have zb2 := hM.ge
    obtain ⟨y0, y1, y2⟩ := hS
    obtain ⟨out, hI, hOw⟩ := hM
    have HI := Lib.hid hI
    have HOW := Lib.hid hOw
    have HWd := Lib.hid hb
    have z0 : w.heap.size < wd.heap.size := by omega
    clear hI hOw hb HM
    have x0 : wd.cell? ⟨b, d * 3, none⟩ = some (.int .u8 (kl (M.regs d).kind)) := (HI.out.cell (d * 3) (by omega)).trans (congrArg some ((bimg_at (r := d) (by omega) (by omega : 0 < 3) (by omega)).trans (by rw [at_reg dN]; rfl)))
    have x1 : wd.cell? ⟨b, d * 3 + 1, none⟩ = some (.int .i64 (M.regs d).n) := (HI.out.cell (d * 3 + 1) (by omega)).trans (congrArg some ((bimg_at (r := d) (by omega) (by omega : 1 < 3) (by omega)).trans (by rw [at_reg dN]; rfl)))
    have x2 : wd.cell? ⟨b, d * 3 + 2, none⟩ = some (.int .i64 (M.regs d).cell) := (HI.out.cell (d * 3 + 2) (by omega)).trans (congrArg some ((bimg_at (r := d) (by omega) (by omega : 2 < 3) (by omega)).trans (by rw [at_reg dN]; rfl)))
    have pc0 : (pc : Int) + 1 ≤ 1000 := by have := HP.out; omega
    have hcl : c = 28 ∨ c = 14 ∨ (15 ≤ c ∧ c ≤ 24) ∨ c = 25 ∨ c = 26 ∨ c = 27 ∨ c ≤ 13 := by omega
    rcases hcl with rfl | rfl | hcc | rfl | rfl | rfl | hcc
    · as_aux_lemma =>
      -- exit
      obtain rfl : d = 0 := by
        have := HBAD.out
        unfold bad two at this
        omega
      have hR := HR.out
      rw [rstep_exit] at hR
      have kk0 := kl_0 (HO.out.1 0).1
      have kk1 := kl_110 (HO.out.1 0).1
      have u0 : wd.cell? ⟨b, 0, none⟩ = some (.int .u8 (kl (M.regs 0).kind)) := x0
      have u1 : wd.cell? ⟨b, 1, none⟩ = some (.int .i64 (M.regs 0).n) := x1
      have n0 := HI.out.cell 89 (by omega)
      have nf := HI.out.free 89 (by omega)
      clear x0 x1 x2 y0 y1 y2
      by_cases e1 : (M.regs 0).kind = 1
      · rw [if_pos e1] at hR
        have HRR := Lib.hid hR
        clear hR
        have t1 : (kl (M.regs 0).kind == 110) = true := by rw [kk1, beq_iff_eq]; exact e1
        have t0 : (kl (M.regs 0).kind == 0) = false := by rw [kk0, beq_eq_false_iff_ne]; omega
        clear kk0 kk1 e1
        generalize kl (M.regs 0).kind = kk at *
        go_wp2_with fail
        go_region
        all_goals go_wp2_with fail
        go_ret3
        rw [← HRR.out]
        refine ⟨⟨rfl, out, ?_, ?_⟩, ?_⟩
        · exact HI.out.drew.bsetNum _
        · exact ownsRow_setCell_below (World.ownsRow.drew HOW.out) (by simp) _
        · exact (((HWd.out.mono (Nat.le_of_lt zb)).drew).setCell (Nat.le_refl _) _)
      · rw [if_neg e1] at hR
        have t1 : (kl (M.regs 0).kind == 110) = false := by rw [kk1, beq_eq_false_iff_ne]; exact e1
        by_cases e0 : (M.regs 0).kind = 0
        · rw [if_pos e0] at hR
          have HRR := Lib.hid hR
          clear hR
          have t0 : (kl (M.regs 0).kind == 0) = true := by rw [kk0, beq_iff_eq]; exact e0
          clear kk0 kk1 e1 e0
          generalize kl (M.regs 0).kind = kk at *
          go_wp2_with fail
          go_region
          all_goals go_wp2_with fail
          go_ret3
          rw [← HRR.out]
          exact ⟨⟨⟨_, rfl⟩, by decide⟩, (HWd.out.mono (Nat.le_of_lt zb)).drew⟩
        · rw [if_neg e0] at hR
          have HRR := Lib.hid hR
          clear hR
          have t0 : (kl (M.regs 0).kind == 0) = false := by rw [kk0, beq_eq_false_iff_ne]; exact e0
          clear kk0 kk1 e1 e0
          generalize kl (M.regs 0).kind = kk at *
          go_wp2_with fail
          go_region
          all_goals go_wp2_with fail
          go_ret3
          rw [← HRR.out]
          exact ⟨⟨⟨_, rfl⟩, by decide⟩, (HWd.out.mono (Nat.le_of_lt zb)).drew⟩
    · as_aux_lemma =>
      -- jump
      obtain ⟨o1, o2⟩ := HL.out (.inl rfl)
      have hR := HR.out
      rw [rstep_jump] at hR
      have HRR := Lib.hid hR
      clear hR
      go_wp2_with fail
      go_region
      all_goals go_wp2_with fail
      go_ret3
      rw [← HRR.out]
      exact ⟨⟨rfl, out, HI.out.drew, World.ownsRow.drew HOW.out⟩, (HWd.out.mono (Nat.le_of_lt zb)).drew⟩
    · as_aux_lemma =>
      -- asks
      obtain ⟨o1, o2⟩ := HL.out (.inr hcc)
      have t28 : (c == 28) = false := by rw [beq_eq_false_iff_ne]; omega
      have t14 : (c == 14) = false := by rw [beq_eq_false_iff_ne]; omega
      have t15 : 15 ≤ c := hcc.1
      have t24 : c ≤ 24 := hcc.2
      have kx0 := kl_0 (HO.out.1 d).1
      have kx1 := kl_110 (HO.out.1 d).1
      have hyO : VOk y := HY.out ▸ HO.out.second _
      have ky0 := kl_0 hyO.1
      have ky1 := kl_110 hyO.1
      have hR := HR.out
      rw [rstep_ask _ _ _ _ hcc] at hR
      have hA : M.asks ⟨c, d, s, r, o, nn⟩ = (if (M.regs d).kind = 0 ∨ y.kind = 0 then (false, 8) else if (M.regs d).kind = 1 ∧ y.kind = 1 then (P.is c (M.regs d).n y.n, 0)
          else if r = true ∨ nn ≠ 0 ∨ (c ≠ 15 ∧ c ≠ 16) then (false, 1) else (decide (c = 16), 0)) := by
        rw [HY.out]; rfl
      by_cases a0 : (M.regs d).kind = 0
      · rw [if_pos (.inl a0)] at hA
        have u0 : (kl (M.regs d).kind == 0) = true := by rw [kx0, beq_iff_eq]; exact a0
        have hR2 : .err 8 = R := by rw [← hR, hA]; rfl
        have HRR := Lib.hid hR2
        clear hR2
        clear kx0 kx1 ky0 ky1 hR hA hyO
        generalize kl (M.regs d).kind = ak at *
        generalize kl y.kind = yk at *
        go_wp2_with (go_at_call 29; refine (RefAsks_any _ _).mono ?_; rintro e w' ⟨rfl, rfl⟩; rw [asks_of])
        go_region
        all_goals go_wp2_with (go_at_call 29; refine (RefAsks_any _ _).mono ?_; rintro e w' ⟨rfl, rfl⟩; rw [asks_of])
        go_ret3
        rw [← HRR.out]
        exact ⟨⟨⟨_, rfl⟩, by decide⟩, (by repeat' (first | with_reducible exact (HWd.out.mono (Nat.le_of_lt zb)) | with_reducible refine Below.drew ?_ | with_reducible refine Below.drewN' ?_ _))⟩
      by_cases b0 : y.kind = 0
      · rw [if_pos (.inr b0)] at hA
        have u0 : (kl (M.regs d).kind == 0) = false := by rw [kx0, beq_eq_false_iff_ne]; exact a0
        have v0 : (kl y.kind == 0) = true := by rw [ky0, beq_iff_eq]; exact b0
        have hR2 : .err 8 = R := by rw [← hR, hA]; rfl
        have HRR := Lib.hid hR2
        clear hR2
        clear kx0 kx1 ky0 ky1 hR hA hyO
        generalize kl (M.regs d).kind = ak at *
        generalize kl y.kind = yk at *
        go_wp2_with (go_at_call 29; refine (RefAsks_any _ _).mono ?_; rintro e w' ⟨rfl, rfl⟩; rw [asks_of])
        go_region
        all_goals go_wp2_with (go_at_call 29; refine (RefAsks_any _ _).mono ?_; rintro e w' ⟨rfl, rfl⟩; rw [asks_of])
        go_ret3
        rw [← HRR.out]
        exact ⟨⟨⟨_, rfl⟩, by decide⟩, (by repeat' (first | with_reducible exact (HWd.out.mono (Nat.le_of_lt zb)) | with_reducible refine Below.drew ?_ | with_reducible refine Below.drewN' ?_ _))⟩
      rw [if_neg (by omega)] at hA
      have u0 : (kl (M.regs d).kind == 0) = false := by rw [kx0, beq_eq_false_iff_ne]; exact a0
      have v0 : (kl y.kind == 0) = false := by rw [ky0, beq_eq_false_iff_ne]; exact b0
      by_cases ab : (M.regs d).kind = 1 ∧ y.kind = 1
      · rw [if_pos ab] at hA
        have u1 : (kl (M.regs d).kind == 110) = true := by rw [kx1, beq_iff_eq]; exact ab.1
        have v1 : (kl y.kind == 110) = true := by rw [ky1, beq_iff_eq]; exact ab.2
        have cI := fun w' => RefIs_any c (M.regs d).n y.n w'
        generalize P.is c (M.regs d).n y.n = yes at *
        have CI := Lib.hid cI
        clear cI
        cases yes
        · have hR2 : .go M (pc + 1) = R := by rw [← hR, hA]; rfl
          have HRR := Lib.hid hR2
          clear hR2
          clear kx0 kx1 ky0 ky1 hR hA hyO
          generalize kl (M.regs d).kind = ak at *
          generalize kl y.kind = yk at *
          go_wp2_with (go_at_call 29; refine (RefAsks_any _ _).mono ?_; rintro e w' ⟨rfl, rfl⟩; rw [asks_of])
          go_region
          all_goals go_wp2_with (go_at_call 29; refine (RefAsks_any _ _).mono ?_; rintro e w' ⟨rfl, rfl⟩; rw [asks_of])
          generalize hW : World.drew wd = we
          have HIe : Hid (Img we b 109 (bimg told time num st out M)) := Lib.hid (by rw [← hW]; exact HI.out.drew)
          have HOWe : Hid (we.ownsRow (b + 1) 2 1 out M.out.length (M.out.map (Value.int .i64))) := Lib.hid (by rw [← hW]; exact World.ownsRow.drew HOW.out)
          have HWe : Hid (Below b w we) := Lib.hid (by rw [← hW]; exact (HWd.out.mono (Nat.le_of_lt zb)).drew)
          have f0' : we.cell? ⟨w.heap.size, 0, none⟩ = some (.int .i64 c) := by rw [← hW]; exact f0
          have f4' : we.cell? ⟨w.heap.size, 4, none⟩ = some (.int .i64 o) := by rw [← hW]; exact f4
          have x1' : we.cell? ⟨b, d * 3 + 1, none⟩ = some (.int .i64 (M.regs d).n) := by rw [← hW]; exact x1
          have y1' : we.cell? ⟨w.heap.size + 1, 1, none⟩ = some (.int .i64 y.n) := by rw [← hW]; exact y1
          clear hW
          go_quiet ((go_at_call 39; exact Calls.quiet_of_same ((CI.out _).mono (fun _ _ h => ⟨h.1, h.2.symm⟩))))
          go_wp2_with fail
          go_ret3
          rw [← HRR.out]
          exact ⟨⟨rfl, out, (by repeat' (first | with_reducible exact HIe.out | with_reducible refine Img.drew ?_ | with_reducible refine Img.drewN ?_ _)), HOWe.out⟩, (by repeat' (first | with_reducible exact HWe.out | with_reducible refine Below.drew ?_ | with_reducible refine Below.drewN' ?_ _))⟩
        · have hR2 : .go M (pc + 1 + o) = R := by rw [← hR, hA]; rfl
          have HRR := Lib.hid hR2
          clear hR2
          clear kx0 kx1 ky0 ky1 hR hA hyO
          generalize kl (M.regs d).kind = ak at *
          generalize kl y.kind = yk at *
          go_wp2_with (go_at_call 29; refine (RefAsks_any _ _).mono ?_; rintro e w' ⟨rfl, rfl⟩; rw [asks_of])
          go_region
          all_goals go_wp2_with (go_at_call 29; refine (RefAsks_any _ _).mono ?_; rintro e w' ⟨rfl, rfl⟩; rw [asks_of])
          generalize hW : World.drew wd = we
          have HIe : Hid (Img we b 109 (bimg told time num st out M)) := Lib.hid (by rw [← hW]; exact HI.out.drew)
          have HOWe : Hid (we.ownsRow (b + 1) 2 1 out M.out.length (M.out.map (Value.int .i64))) := Lib.hid (by rw [← hW]; exact World.ownsRow.drew HOW.out)
          have HWe : Hid (Below b w we) := Lib.hid (by rw [← hW]; exact (HWd.out.mono (Nat.le_of_lt zb)).drew)
          have f0' : we.cell? ⟨w.heap.size, 0, none⟩ = some (.int .i64 c) := by rw [← hW]; exact f0
          have f4' : we.cell? ⟨w.heap.size, 4, none⟩ = some (.int .i64 o) := by rw [← hW]; exact f4
          have x1' : we.cell? ⟨b, d * 3 + 1, none⟩ = some (.int .i64 (M.regs d).n) := by rw [← hW]; exact x1
          have y1' : we.cell? ⟨w.heap.size + 1, 1, none⟩ = some (.int .i64 y.n) := by rw [← hW]; exact y1
          clear hW
          go_quiet ((go_at_call 39; exact Calls.quiet_of_same ((CI.out _).mono (fun _ _ h => ⟨h.1, h.2.symm⟩))))
          go_wp2_with fail
          go_ret3
          rw [← HRR.out]
          exact ⟨⟨rfl, out, (by repeat' (first | with_reducible exact HIe.out | with_reducible refine Img.drew ?_ | with_reducible refine Img.drewN ?_ _)), HOWe.out⟩, (by repeat' (first | with_reducible exact HWe.out | with_reducible refine Below.drew ?_ | with_reducible refine Below.drewN' ?_ _))⟩
      rw [if_neg ab] at hA
      have uv : (kl (M.regs d).kind == 110) = false ∨ ((kl (M.regs d).kind == 110) = true ∧ (kl y.kind == 110) = false) := by
        rw [kx1, ky1]
        by_cases a1 : (M.regs d).kind = 1
        · right; simp [a1]; exact fun h => ab ⟨a1, h⟩
        · left; rw [beq_eq_false_iff_ne]; exact a1
      by_cases bd : r = true ∨ nn ≠ 0 ∨ (c ≠ 15 ∧ c ≠ 16)
      · rw [if_pos bd] at hA
        have hR2 : .err 1 = R := by rw [← hR, hA]; rfl
        have HRR := Lib.hid hR2
        clear hR2
        have bd2 : r = true ∨ (r = false ∧ (nn != 0) = true) ∨ (r = false ∧ (nn != 0) = false ∧ (c == 15) = false ∧ (c != 15) = true ∧ (c == 16) = false ∧ (c != 16) = true) := by
          cases r
          · by_cases hn : nn = 0
            · have h5 : c ≠ 15 ∧ c ≠ 16 := by
                rcases bd with h | h | h
                · cases h
                · exact absurd hn h
                · exact h
              right; right; simp [hn, h5]
            · right; left; simp [hn]
          · left; rfl
        clear kx0 kx1 ky0 ky1 hR hA hyO
        generalize kl (M.regs d).kind = ak at *
        generalize kl y.kind = yk at *
        clear bd ab
        rcases bd2 with rfl | ⟨rfl, q1⟩ | ⟨rfl, q1, q2, q3, q4, q5⟩ <;> rcases uv with u1 | ⟨u1, v1⟩
        · go_wp2_with (go_at_call 29; refine (RefAsks_any _ _).mono ?_; rintro e w' ⟨rfl, rfl⟩; rw [asks_of])
          go_region
          all_goals go_wp2_with (go_at_call 29; refine (RefAsks_any _ _).mono ?_; rintro e w' ⟨rfl, rfl⟩; rw [asks_of])
          go_ret3
          rw [← HRR.out]
          exact ⟨⟨⟨_, rfl⟩, by decide⟩, (by repeat' (first | with_reducible exact (HWd.out.mono (Nat.le_of_lt zb)) | with_reducible refine Below.drew ?_ | with_reducible refine Below.drewN' ?_ _))⟩
        · go_wp2_with (go_at_call 29; refine (RefAsks_any _ _).mono ?_; rintro e w' ⟨rfl, rfl⟩; rw [asks_of])
          go_region
          all_goals go_wp2_with (go_at_call 29; refine (RefAsks_any _ _).mono ?_; rintro e w' ⟨rfl, rfl⟩; rw [asks_of])
          go_ret3
          rw [← HRR.out]
          exact ⟨⟨⟨_, rfl⟩, by decide⟩, (by repeat' (first | with_reducible exact (HWd.out.mono (Nat.le_of_lt zb)) | with_reducible refine Below.drew ?_ | with_reducible refine Below.drewN' ?_ _))⟩
        · go_wp2_with (go_at_call 29; refine (RefAsks_any _ _).mono ?_; rintro e w' ⟨rfl, rfl⟩; rw [asks_of])
          go_region
          all_goals go_wp2_with (go_at_call 29; refine (RefAsks_any _ _).mono ?_; rintro e w' ⟨rfl, rfl⟩; rw [asks_of])
          go_ret3
          rw [← HRR.out]
          exact ⟨⟨⟨_, rfl⟩, by decide⟩, (by repeat' (first | with_reducible exact (HWd.out.mono (Nat.le_of_lt zb)) | with_reducible refine Below.drew ?_ | with_reducible refine Below.drewN' ?_ _))⟩
        · go_wp2_with (go_at_call 29; refine (RefAsks_any _ _).mono ?_; rintro e w' ⟨rfl, rfl⟩; rw [asks_of])
          go_region
          all_goals go_wp2_with (go_at_call 29; refine (RefAsks_any _ _).mono ?_; rintro e w' ⟨rfl, rfl⟩; rw [asks_of])
          go_ret3
          rw [← HRR.out]
          exact ⟨⟨⟨_, rfl⟩, by decide⟩, (by repeat' (first | with_reducible exact (HWd.out.mono (Nat.le_of_lt zb)) | with_reducible refine Below.drew ?_ | with_reducible refine Below.drewN' ?_ _))⟩
        · go_wp2_with (go_at_call 29; refine (RefAsks_any _ _).mono ?_; rintro e w' ⟨rfl, rfl⟩; rw [asks_of])
          go_region
          all_goals go_wp2_with (go_at_call 29; refine (RefAsks_any _ _).mono ?_; rintro e w' ⟨rfl, rfl⟩; rw [asks_of])
          go_ret3
          rw [← HRR.out]
          exact ⟨⟨⟨_, rfl⟩, by decide⟩, (by repeat' (first | with_reducible exact (HWd.out.mono (Nat.le_of_lt zb)) | with_reducible refine Below.drew ?_ | with_reducible refine Below.drewN' ?_ _))⟩
        · go_wp2_with (go_at_call 29; refine (RefAsks_any _ _).mono ?_; rintro e w' ⟨rfl, rfl⟩; rw [asks_of])
          go_region
          all_goals go_wp2_with (go_at_call 29; refine (RefAsks_any _ _).mono ?_; rintro e w' ⟨rfl, rfl⟩; rw [asks_of])
          go_ret3
          rw [← HRR.out]
          exact ⟨⟨⟨_, rfl⟩, by decide⟩, (by repeat' (first | with_reducible exact (HWd.out.mono (Nat.le_of_lt zb)) | with_reducible refine Below.drew ?_ | with_reducible refine Below.drewN' ?_ _))⟩
      · rw [if_neg bd] at hA
        have bd2 : r = false ∧ (nn != 0) = false ∧ ((c = 15 ∧ decide (c = 16) = false) ∨ (c = 16 ∧ decide (c = 16) = true)) := by
          cases r
          · by_cases hn : nn = 0
            · refine ⟨rfl, by simp [hn], ?_⟩
              by_cases h5 : c = 15
              · left; exact ⟨h5, by simp [h5]⟩
              · right; simp; omega
            · exact absurd (.inr (.inl hn)) bd
          · exact absurd (.inl rfl) bd
        obtain ⟨rfl, q1, ⟨q2, q3⟩ | ⟨q2, q3⟩⟩ := bd2
        · rw [q3] at hA
          subst q2
          have hR2 : .go M (pc + 1) = R := by rw [← hR, hA]; rfl
          have HRR := Lib.hid hR2
          clear hR2
          clear kx0 kx1 ky0 ky1 hR hA hyO
          generalize kl (M.regs d).kind = ak at *
          generalize kl y.kind = yk at *
          clear bd ab q3
          rcases uv with u1 | ⟨u1, v1⟩
          · go_wp2_with (go_at_call 29; refine (RefAsks_any _ _).mono ?_; rintro e w' ⟨rfl, rfl⟩; rw [asks_of])
            go_region
            all_goals go_wp2_with (go_at_call 29; refine (RefAsks_any _ _).mono ?_; rintro e w' ⟨rfl, rfl⟩; rw [asks_of])
            go_ret3
            rw [← HRR.out]
            exact ⟨⟨rfl, out, (by repeat' (first | with_reducible exact HI.out | with_reducible refine Img.drew ?_ | with_reducible refine Img.drewN ?_ _)), HOW.out⟩, (by repeat' (first | with_reducible exact (HWd.out.mono (Nat.le_of_lt zb)) | with_reducible refine Below.drew ?_ | with_reducible refine Below.drewN' ?_ _))⟩
          · go_wp2_with (go_at_call 29; refine (RefAsks_any _ _).mono ?_; rintro e w' ⟨rfl, rfl⟩; rw [asks_of])
            go_region
            all_goals go_wp2_with (go_at_call 29; refine (RefAsks_any _ _).mono ?_; rintro e w' ⟨rfl, rfl⟩; rw [asks_of])
            go_ret3
            rw [← HRR.out]
            exact ⟨⟨rfl, out, (by repeat' (first | with_reducible exact HI.out | with_reducible refine Img.drew ?_ | with_reducible refine Img.drewN ?_ _)), HOW.out⟩, (by repeat' (first | with_reducible exact (HWd.out.mono (Nat.le_of_lt zb)) | with_reducible refine Below.drew ?_ | with_reducible refine Below.drewN' ?_ _))⟩
        · rw [q3] at hA
          subst q2
          have hR2 : .go M (pc + 1 + o) = R := by rw [← hR, hA]; rfl
          have HRR := Lib.hid hR2
          clear hR2
          clear kx0 kx1 ky0 ky1 hR hA hyO
          generalize kl (M.regs d).kind = ak at *
          generalize kl y.kind = yk at *
          clear bd ab q3
          rcases uv with u1 | ⟨u1, v1⟩
          · go_wp2_with (go_at_call 29; refine (RefAsks_any _ _).mono ?_; rintro e w' ⟨rfl, rfl⟩; rw [asks_of])
            go_region
            all_goals go_wp2_with (go_at_call 29; refine (RefAsks_any _ _).mono ?_; rintro e w' ⟨rfl, rfl⟩; rw [asks_of])
            go_ret3
            rw [← HRR.out]
            exact ⟨⟨rfl, out, (by repeat' (first | with_reducible exact HI.out | with_reducible refine Img.drew ?_ | with_reducible refine Img.drewN ?_ _)), HOW.out⟩, (by repeat' (first | with_reducible exact (HWd.out.mono (Nat.le_of_lt zb)) | with_reducible refine Below.drew ?_ | with_reducible refine Below.drewN' ?_ _))⟩
          · go_wp2_with (go_at_call 29; refine (RefAsks_any _ _).mono ?_; rintro e w' ⟨rfl, rfl⟩; rw [asks_of])
            go_region
            all_goals go_wp2_with (go_at_call 29; refine (RefAsks_any _ _).mono ?_; rintro e w' ⟨rfl, rfl⟩; rw [asks_of])
            go_ret3
            rw [← HRR.out]
            exact ⟨⟨rfl, out, (by repeat' (first | with_reducible exact HI.out | with_reducible refine Img.drew ?_ | with_reducible refine Img.drewN ?_ _)), HOW.out⟩, (by repeat' (first | with_reducible exact (HWd.out.mono (Nat.le_of_lt zb)) | with_reducible refine Below.drew ?_ | with_reducible refine Below.drewN' ?_ _))⟩
    · as_aux_lemma =>
      -- load
      have hR := HR.out
      rw [rstep_load] at hR
      have xs0 : wd.cell? ⟨b, s * 3, none⟩ = some (.int .u8 (kl (M.regs s).kind)) := (HI.out.cell (s * 3) (by omega)).trans (congrArg some ((bimg_at (r := s) (by omega) (by omega : 0 < 3) (by omega)).trans (by rw [at_reg sN]; rfl)))
      have xs1 : wd.cell? ⟨b, s * 3 + 1, none⟩ = some (.int .i64 (M.regs s).n) := (HI.out.cell (s * 3 + 1) (by omega)).trans (congrArg some ((bimg_at (r := s) (by omega) (by omega : 1 < 3) (by omega)).trans (by rw [at_reg sN]; rfl)))
      have xs2 : wd.cell? ⟨b, s * 3 + 2, none⟩ = some (.int .i64 (M.regs s).cell) := (HI.out.cell (s * 3 + 2) (by omega)).trans (congrArg some ((bimg_at (r := s) (by omega) (by omega : 2 < 3) (by omega)).trans (by rw [at_reg sN]; rfl)))
      have hvS := HO.out.1 s
      have cW := fun w' => RefWord_any (M.regs s) o (HO.out.1 s).1 (HN.out.1 s).1 HOF.out w'
      obtain ⟨⟨k, er⟩, hke⟩ : ∃ x, P.far (M.regs s) o = x := ⟨_, rfl⟩
      rw [hke] at cW
      have hML : M.load told (M.regs s) o = (if er ≠ 0 then (.none, er) else if (M.regs s).kind = 2 then (.num (told k.toNat), 0) else if (M.regs s).kind = 4 then (.num (M.cells ((M.regs s).cell * 4 + k).toNat), 0)
          else if (M.slots (k + 16).toNat).kind = 0 then (.none, 8) else (M.slots (k + 16).toNat, 0)) := by unfold Mach.load; rw [hke]
      by_cases he : er = 0
      · subst he
        have h0 : (P.far (M.regs s) o).2 = 0 := by rw [hke]
        obtain ⟨k0, k1⟩ := far_kind h0
        have hr := far_ok h0 ⟨k0, k1⟩
        rw [hke] at hr
        generalize M.regs s = V at *
        obtain ⟨kind, n, cell⟩ := V
        obtain ⟨hk, hcl⟩ := hvS
        simp only at hk hcl k0 k1 hr xs0 xs1 xs2 cW hML
        rw [if_neg (by simp)] at hML
        have hk2 : kind = 2 ∨ kind = 3 ∨ kind = 4 := by omega
        clear hk k0 k1 h0 hke
        rcases hk2 with rfl | rfl | rfl
        · -- what is told
          simp only [low, high] at hr
          obtain ⟨q, rfl⟩ := Int.eq_ofNat_of_zero_le (show 0 ≤ k by simp at hr; omega)
          have hq : q < 8 := by simp at hr; omega
          have q1 : (q : Int) < 8 := by omega
          have hR2 : Res.go { M with regs := upd M.regs d ⟨1, told q, 0⟩ } (pc + 1) = R := by rw [← hR, hML]; simp [Val.num]
          have HRR := Lib.hid hR2
          rw [show kl 2 = 116 from rfl] at xs0 cW
          have CW := Lib.hid cW
          clear hR hR2 hML cW hr hcl
          go_wp2_with (go_at_call 29; refine (RefAsks_any _ _).mono ?_; rintro e w' ⟨rfl, rfl⟩; rw [asks_of])
          go_region
          all_goals go_wp2_with (go_at_call 29; refine (RefAsks_any _ _).mono ?_; rintro e w' ⟨rfl, rfl⟩; rw [asks_of])
          go_region
          all_goals go_wp2_with (go_at_call 29; refine (RefAsks_any _ _).mono ?_; rintro e w' ⟨rfl, rfl⟩; rw [asks_of])
          refine (CW.out _).mono ?_
          rintro e w2 ⟨rfl, hb2⟩
          have hB2 : Below wd.heap.size wd w2 := by
            refine Below.trans ?_ (hb2.mono ?_)
            · repeat' (first | with_reducible exact Below.refl _ _ | with_reducible refine Below.drew ?_ | with_reducible refine Below.alloc ?_ ?_ _ | (simp; done))
            · simp
          have p0 : w2.cell? ⟨wd.heap.size, 0, none⟩ = some (.int .u8 116) := (hb2.cell (p := ⟨wd.heap.size, 0, none⟩) (by simp)).trans (by simp [go_sem])
          have p2 : w2.cell? ⟨wd.heap.size, 2, none⟩ = some (.int .i64 cell) := (hb2.cell (p := ⟨wd.heap.size, 2, none⟩) (by simp)).trans (by simp [go_sem])
          have z2 : wd.heap.size < w2.heap.size := by have := hb2.size; simp at this; omega
          have zb3 : b < w2.heap.size := by omega
          have z3 : w.heap.size < w2.heap.size := by omega
          have z4 : w.heap.size + 1 < w2.heap.size := by omega
          have HI2 := Lib.hid (HI.out.later hB2 zb2)
          have HB2 := Lib.hid ((HWd.out.mono (Nat.le_of_lt zb)).trans (hB2.mono (by omega)))
          have HOW2 := Lib.hid (HOW.out.kept (But.of (b := b) hB2).grown (by have := HOW.out.lt; cases hv : out.ownBlock with | none => exact .inl rfl | some g => (right; intro e; have := (this g hv).1; injection e; omega)))
          have f3' : w2.cell? ⟨w.heap.size, 3, none⟩ = some (.bool r) := (hB2.cell (p := ⟨w.heap.size, 3, none⟩) z0).trans f3
          have y0' : w2.cell? ⟨w.heap.size + 1, 0, none⟩ = some (.int .u8 (kl y.kind)) := (hB2.cell (p := ⟨w.heap.size + 1, 0, none⟩) hz).trans y0
          have y1' : w2.cell? ⟨w.heap.size + 1, 1, none⟩ = some (.int .i64 y.n) := (hB2.cell (p := ⟨w.heap.size + 1, 1, none⟩) hz).trans y1
          have y2' : w2.cell? ⟨w.heap.size + 1, 2, none⟩ = some (.int .i64 y.cell) := (hB2.cell (p := ⟨w.heap.size + 1, 2, none⟩) hz).trans y2
          have v0 : w2.cell? ⟨b, d * 3, none⟩ = some (.int .u8 (kl (M.regs d).kind)) := (hB2.cell (p := ⟨b, d * 3, none⟩) zb2).trans x0
          have v1 : w2.cell? ⟨b, d * 3 + 1, none⟩ = some (.int .i64 (M.regs d).n) := (hB2.cell (p := ⟨b, d * 3 + 1, none⟩) zb2).trans x1
          have v2 : w2.cell? ⟨b, d * 3 + 2, none⟩ = some (.int .i64 (M.regs d).cell) := (hB2.cell (p := ⟨b, d * 3 + 2, none⟩) zb2).trans x2
          have fv0 : w2.frozen? ⟨b, d * 3, none⟩ = false := HI2.out.free _ (by omega)
          have fv1 : w2.frozen? ⟨b, d * 3 + 1, none⟩ = false := HI2.out.free _ (by omega)
          have fv2 : w2.frozen? ⟨b, d * 3 + 2, none⟩ = false := HI2.out.free _ (by omega)
          clear hB2 hb2
          have g1 : w2.cell? ⟨b, 81 + q, none⟩ = some (.int .i64 (told q)) := (HI2.out.cell _ (by omega)).trans (congrArg some (bimg_told hq rfl))
          clear x0 x1 x2 xs0 xs1 xs2 y0 y1 y2 f3
          go_wp2_with fail
          go_ret3
          rw [← HRR.out]
          exact ⟨⟨rfl, BoxAt.but (M := M) HOW2.out (by repeat' (first | with_reducible exact But.refl _ _ | with_reducible refine But.drew ?_ | with_reducible refine But.alloc ?_ _ | with_reducible refine But.setCell ?_ ?_ _ | exact .inl rfl)) (by first | exact (HI2.out.bsetReg dN ⟨1, told q, 0⟩ rfl rfl rfl).alloc _ | exact (HI2.out.bsetReg dN ⟨1, told q, 0⟩ rfl rfl rfl).drew | exact ((HI2.out.bsetReg dN ⟨1, told q, 0⟩ rfl rfl rfl).alloc _).drew | exact (HI2.out.alloc _).bsetReg dN ⟨1, told q, 0⟩ rfl rfl rfl) rfl⟩, (by repeat' (first | with_reducible exact HB2.out | with_reducible refine Below.drew ?_ | with_reducible refine Below.alloc ?_ ?_ _ | with_reducible refine Below.setCell ?_ ?_ _ | (simp; done) | (simp; omega) | omega))⟩
        · -- the frame
          simp only [low, high] at hr
          obtain ⟨q, hq⟩ := Int.eq_ofNat_of_zero_le (show 0 ≤ k + 27 by simp at hr; omega)
          obtain rfl : k = (q : Int) - 27 := by omega
          have hq2 : 11 ≤ q ∧ q < 27 := by simp at hr; omega
          have q1 : (q : Int) < 27 := by omega
          have q2 : (11 : Int) ≤ q := by omega
          have e27 : (27 : Int) + ((q : Int) - 27) = q := by omega
          obtain ⟨SV, hSV⟩ : ∃ x, M.slots (q - 11) = x := ⟨_, rfl⟩
          rw [if_neg (by decide), if_neg (by decide), show ((q : Int) - 27 + 16).toNat = q - 11 by omega, hSV] at hML
          have hat : M.at_ q = SV := by unfold Mach.at_; rw [if_neg (by omega), hSV]
          have hSO : VOk SV := hSV ▸ HO.out.2 _
          have kz := kl_0 hSO.1
          rw [show kl 3 = 102 from rfl] at xs0 cW
          have CW := Lib.hid cW
          have HSV := Lib.hid hSV
          have HAT := Lib.hid hat
          clear cW hr hcl hSV hat
          by_cases hz0 : SV.kind = 0
          · rw [if_pos hz0] at hML
            have hR2 : Res.err 8 = R := by rw [← hR, hML]; rfl
            have HRR := Lib.hid hR2
            have t0 : (kl SV.kind == 0) = true := by rw [kz, beq_iff_eq]; exact hz0
            clear hR hR2 hML kz hz0
            go_wp2_with (go_at_call 29; refine (RefAsks_any _ _).mono ?_; rintro e w' ⟨rfl, rfl⟩; rw [asks_of])
            go_region
            all_goals go_wp2_with (go_at_call 29; refine (RefAsks_any _ _).mono ?_; rintro e w' ⟨rfl, rfl⟩; rw [asks_of])
            go_region
            all_goals go_wp2_with (go_at_call 29; refine (RefAsks_any _ _).mono ?_; rintro e w' ⟨rfl, rfl⟩; rw [asks_of])
            refine (CW.out _).mono ?_
            rintro e w2 ⟨rfl, hb2⟩
            have hB2 : Below wd.heap.size wd w2 := by
              refine Below.trans ?_ (hb2.mono ?_)
              · repeat' (first | with_reducible exact Below.refl _ _ | with_reducible refine Below.drew ?_ | with_reducible refine Below.alloc ?_ ?_ _ | (simp; done))
              · simp
            have p0 : w2.cell? ⟨wd.heap.size, 0, none⟩ = some (.int .u8 102) := (hb2.cell (p := ⟨wd.heap.size, 0, none⟩) (by simp)).trans (by simp [go_sem])
            have p2 : w2.cell? ⟨wd.heap.size, 2, none⟩ = some (.int .i64 cell) := (hb2.cell (p := ⟨wd.heap.size, 2, none⟩) (by simp)).trans (by simp [go_sem])
            have z2 : wd.heap.size < w2.heap.size := by have := hb2.size; simp at this; omega
            have zb3 : b < w2.heap.size := by omega
            have z3 : w.heap.size < w2.heap.size := by omega
            have z4 : w.heap.size + 1 < w2.heap.size := by omega
            have HI2 := Lib.hid (HI.out.later hB2 zb2)
            have HB2 := Lib.hid ((HWd.out.mono (Nat.le_of_lt zb)).trans (hB2.mono (by omega)))
            have HOW2 := Lib.hid (HOW.out.kept (But.of (b := b) hB2).grown (by have := HOW.out.lt; cases hv : out.ownBlock with | none => exact .inl rfl | some g => (right; intro e; have := (this g hv).1; injection e; omega)))
            have f3' : w2.cell? ⟨w.heap.size, 3, none⟩ = some (.bool r) := (hB2.cell (p := ⟨w.heap.size, 3, none⟩) z0).trans f3
            have y0' : w2.cell? ⟨w.heap.size + 1, 0, none⟩ = some (.int .u8 (kl y.kind)) := (hB2.cell (p := ⟨w.heap.size + 1, 0, none⟩) hz).trans y0
            have y1' : w2.cell? ⟨w.heap.size + 1, 1, none⟩ = some (.int .i64 y.n) := (hB2.cell (p := ⟨w.heap.size + 1, 1, none⟩) hz).trans y1
            have y2' : w2.cell? ⟨w.heap.size + 1, 2, none⟩ = some (.int .i64 y.cell) := (hB2.cell (p := ⟨w.heap.size + 1, 2, none⟩) hz).trans y2
            have v0 : w2.cell? ⟨b, d * 3, none⟩ = some (.int .u8 (kl (M.regs d).kind)) := (hB2.cell (p := ⟨b, d * 3, none⟩) zb2).trans x0
            have v1 : w2.cell? ⟨b, d * 3 + 1, none⟩ = some (.int .i64 (M.regs d).n) := (hB2.cell (p := ⟨b, d * 3 + 1, none⟩) zb2).trans x1
            have v2 : w2.cell? ⟨b, d * 3 + 2, none⟩ = some (.int .i64 (M.regs d).cell) := (hB2.cell (p := ⟨b, d * 3 + 2, none⟩) zb2).trans x2
            have fv0 : w2.frozen? ⟨b, d * 3, none⟩ = false := HI2.out.free _ (by omega)
            have fv1 : w2.frozen? ⟨b, d * 3 + 1, none⟩ = false := HI2.out.free _ (by omega)
            have fv2 : w2.frozen? ⟨b, d * 3 + 2, none⟩ = false := HI2.out.free _ (by omega)
            clear hB2 hb2
            have g0 : w2.cell? ⟨b, q * 3, none⟩ = some (.int .u8 (kl SV.kind)) := (HI2.out.cell _ (by omega)).trans (congrArg some ((bimg_at (r := q) (by omega) (by omega : 0 < 3) (by omega)).trans (by rw [HAT.out]; rfl)))
            have g1 : w2.cell? ⟨b, q * 3 + 1, none⟩ = some (.int .i64 SV.n) := (HI2.out.cell _ (by omega)).trans (congrArg some ((bimg_at (r := q) (by omega) (by omega : 1 < 3) (by omega)).trans (by rw [HAT.out]; rfl)))
            have g2 : w2.cell? ⟨b, q * 3 + 2, none⟩ = some (.int .i64 SV.cell) := (HI2.out.cell _ (by omega)).trans (congrArg some ((bimg_at (r := q) (by omega) (by omega : 2 < 3) (by omega)).trans (by rw [HAT.out]; rfl)))
            generalize kl SV.kind = sk at *
            clear x0 x1 x2 xs0 xs1 xs2 y0 y1 y2 f3
            go_wp2_with fail
            go_ret3
            rw [← HRR.out]
            exact ⟨⟨⟨_, rfl⟩, by decide⟩, (by repeat' (first | with_reducible exact HB2.out | with_reducible refine Below.drew ?_ | with_reducible refine Below.alloc ?_ ?_ _ | with_reducible refine Below.setCell ?_ ?_ _ | (simp; done) | (simp; omega) | omega))⟩
          · rw [if_neg hz0] at hML
            have hR2 : Res.go { M with regs := upd M.regs d SV } (pc + 1) = R := by rw [← hR, hML]; simp
            have HRR := Lib.hid hR2
            have t0 : (kl SV.kind == 0) = false := by rw [kz, beq_eq_false_iff_ne]; exact hz0
            clear hR hR2 hML kz hz0
            go_wp2_with (go_at_call 29; refine (RefAsks_any _ _).mono ?_; rintro e w' ⟨rfl, rfl⟩; rw [asks_of])
            go_region
            all_goals go_wp2_with (go_at_call 29; refine (RefAsks_any _ _).mono ?_; rintro e w' ⟨rfl, rfl⟩; rw [asks_of])
            go_region
            all_goals go_wp2_with (go_at_call 29; refine (RefAsks_any _ _).mono ?_; rintro e w' ⟨rfl, rfl⟩; rw [asks_of])
            refine (CW.out _).mono ?_
            rintro e w2 ⟨rfl, hb2⟩
            have hB2 : Below wd.heap.size wd w2 := by
              refine Below.trans ?_ (hb2.mono ?_)
              · repeat' (first | with_reducible exact Below.refl _ _ | with_reducible refine Below.drew ?_ | with_reducible refine Below.alloc ?_ ?_ _ | (simp; done))
              · simp
            have p0 : w2.cell? ⟨wd.heap.size, 0, none⟩ = some (.int .u8 102) := (hb2.cell (p := ⟨wd.heap.size, 0, none⟩) (by simp)).trans (by simp [go_sem])
            have p2 : w2.cell? ⟨wd.heap.size, 2, none⟩ = some (.int .i64 cell) := (hb2.cell (p := ⟨wd.heap.size, 2, none⟩) (by simp)).trans (by simp [go_sem])
            have z2 : wd.heap.size < w2.heap.size := by have := hb2.size; simp at this; omega
            have zb3 : b < w2.heap.size := by omega
            have z3 : w.heap.size < w2.heap.size := by omega
            have z4 : w.heap.size + 1 < w2.heap.size := by omega
            have HI2 := Lib.hid (HI.out.later hB2 zb2)
            have HB2 := Lib.hid ((HWd.out.mono (Nat.le_of_lt zb)).trans (hB2.mono (by omega)))
            have HOW2 := Lib.hid (HOW.out.kept (But.of (b := b) hB2).grown (by have := HOW.out.lt; cases hv : out.ownBlock with | none => exact .inl rfl | some g => (right; intro e; have := (this g hv).1; injection e; omega)))
            have f3' : w2.cell? ⟨w.heap.size, 3, none⟩ = some (.bool r) := (hB2.cell (p := ⟨w.heap.size, 3, none⟩) z0).trans f3
            have y0' : w2.cell? ⟨w.heap.size + 1, 0, none⟩ = some (.int .u8 (kl y.kind)) := (hB2.cell (p := ⟨w.heap.size + 1, 0, none⟩) hz).trans y0
            have y1' : w2.cell? ⟨w.heap.size + 1, 1, none⟩ = some (.int .i64 y.n) := (hB2.cell (p := ⟨w.heap.size + 1, 1, none⟩) hz).trans y1
            have y2' : w2.cell? ⟨w.heap.size + 1, 2, none⟩ = some (.int .i64 y.cell) := (hB2.cell (p := ⟨w.heap.size + 1, 2, none⟩) hz).trans y2
            have v0 : w2.cell? ⟨b, d * 3, none⟩ = some (.int .u8 (kl (M.regs d).kind)) := (hB2.cell (p := ⟨b, d * 3, none⟩) zb2).trans x0
            have v1 : w2.cell? ⟨b, d * 3 + 1, none⟩ = some (.int .i64 (M.regs d).n) := (hB2.cell (p := ⟨b, d * 3 + 1, none⟩) zb2).trans x1
            have v2 : w2.cell? ⟨b, d * 3 + 2, none⟩ = some (.int .i64 (M.regs d).cell) := (hB2.cell (p := ⟨b, d * 3 + 2, none⟩) zb2).trans x2
            have fv0 : w2.frozen? ⟨b, d * 3, none⟩ = false := HI2.out.free _ (by omega)
            have fv1 : w2.frozen? ⟨b, d * 3 + 1, none⟩ = false := HI2.out.free _ (by omega)
            have fv2 : w2.frozen? ⟨b, d * 3 + 2, none⟩ = false := HI2.out.free _ (by omega)
            clear hB2 hb2
            have g0 : w2.cell? ⟨b, q * 3, none⟩ = some (.int .u8 (kl SV.kind)) := (HI2.out.cell _ (by omega)).trans (congrArg some ((bimg_at (r := q) (by omega) (by omega : 0 < 3) (by omega)).trans (by rw [HAT.out]; rfl)))
            have g1 : w2.cell? ⟨b, q * 3 + 1, none⟩ = some (.int .i64 SV.n) := (HI2.out.cell _ (by omega)).trans (congrArg some ((bimg_at (r := q) (by omega) (by omega : 1 < 3) (by omega)).trans (by rw [HAT.out]; rfl)))
            have g2 : w2.cell? ⟨b, q * 3 + 2, none⟩ = some (.int .i64 SV.cell) := (HI2.out.cell _ (by omega)).trans (congrArg some ((bimg_at (r := q) (by omega) (by omega : 2 < 3) (by omega)).trans (by rw [HAT.out]; rfl)))
            clear x0 x1 x2 xs0 xs1 xs2 y0 y1 y2 f3
            go_wp2_with fail
            go_ret3
            rw [← HRR.out]
            exact ⟨⟨rfl, BoxAt.but (M := M) HOW2.out (by repeat' (first | with_reducible exact But.refl _ _ | with_reducible refine But.drew ?_ | with_reducible refine But.alloc ?_ _ | with_reducible refine But.setCell ?_ ?_ _ | exact .inl rfl)) (by first | exact (HI2.out.bsetReg dN SV rfl rfl rfl).alloc _ | exact (HI2.out.bsetReg dN SV rfl rfl rfl).drew | exact ((HI2.out.bsetReg dN SV rfl rfl rfl).alloc _).drew | exact (HI2.out.alloc _).bsetReg dN SV rfl rfl rfl) rfl⟩, (by repeat' (first | with_reducible exact HB2.out | with_reducible refine Below.drew ?_ | with_reducible refine Below.alloc ?_ ?_ _ | with_reducible refine Below.setCell ?_ ?_ _ | (simp; done) | (simp; omega) | omega))⟩
        · -- a cell
          have hcc := hcl rfl
          obtain ⟨cell, rfl⟩ := Int.eq_ofNat_of_zero_le hcc.1
          simp only [low, high] at hr
          obtain ⟨q, rfl⟩ := Int.eq_ofNat_of_zero_le (show 0 ≤ k by simp at hr; omega)
          have hq : q < 4 := by simp at hr; omega
          have hc4 : cell < 4 := by omega
          have q1 : (q : Int) < 4 := by omega
          have q8 : (cell : Int) < 4 := by omega
          have hR2 : Res.go { M with regs := upd M.regs d ⟨1, M.cells (cell * 4 + q), 0⟩ } (pc + 1) = R := by
            rw [← hR, hML]
            simp [Val.num]
            rw [show ((cell : Int) * 4 + (q : Int)).toNat = cell * 4 + q by omega]
          have HRR := Lib.hid hR2
          rw [show kl 4 = 99 from rfl] at xs0 cW
          have CW := Lib.hid cW
          clear hR hR2 hML cW hr hcl hcc
          go_wp2_with (go_at_call 29; refine (RefAsks_any _ _).mono ?_; rintro e w' ⟨rfl, rfl⟩; rw [asks_of])
          go_region
          all_goals go_wp2_with (go_at_call 29; refine (RefAsks_any _ _).mono ?_; rintro e w' ⟨rfl, rfl⟩; rw [asks_of])
          go_region
          all_goals go_wp2_with (go_at_call 29; refine (RefAsks_any _ _).mono ?_; rintro e w' ⟨rfl, rfl⟩; rw [asks_of])
          refine (CW.out _).mono ?_
          rintro e w2 ⟨rfl, hb2⟩
          have hB2 : Below wd.heap.size wd w2 := by
            refine Below.trans ?_ (hb2.mono ?_)
            · repeat' (first | with_reducible exact Below.refl _ _ | with_reducible refine Below.drew ?_ | with_reducible refine Below.alloc ?_ ?_ _ | (simp; done))
            · simp
          have p0 : w2.cell? ⟨wd.heap.size, 0, none⟩ = some (.int .u8 99) := (hb2.cell (p := ⟨wd.heap.size, 0, none⟩) (by simp)).trans (by simp [go_sem])
          have p2 : w2.cell? ⟨wd.heap.size, 2, none⟩ = some (.int .i64 cell) := (hb2.cell (p := ⟨wd.heap.size, 2, none⟩) (by simp)).trans (by simp [go_sem])
          have z2 : wd.heap.size < w2.heap.size := by have := hb2.size; simp at this; omega
          have zb3 : b < w2.heap.size := by omega
          have z3 : w.heap.size < w2.heap.size := by omega
          have z4 : w.heap.size + 1 < w2.heap.size := by omega
          have HI2 := Lib.hid (HI.out.later hB2 zb2)
          have HB2 := Lib.hid ((HWd.out.mono (Nat.le_of_lt zb)).trans (hB2.mono (by omega)))
          have HOW2 := Lib.hid (HOW.out.kept (But.of (b := b) hB2).grown (by have := HOW.out.lt; cases hv : out.ownBlock with | none => exact .inl rfl | some g => (right; intro e; have := (this g hv).1; injection e; omega)))
          have f3' : w2.cell? ⟨w.heap.size, 3, none⟩ = some (.bool r) := (hB2.cell (p := ⟨w.heap.size, 3, none⟩) z0).trans f3
          have y0' : w2.cell? ⟨w.heap.size + 1, 0, none⟩ = some (.int .u8 (kl y.kind)) := (hB2.cell (p := ⟨w.heap.size + 1, 0, none⟩) hz).trans y0
          have y1' : w2.cell? ⟨w.heap.size + 1, 1, none⟩ = some (.int .i64 y.n) := (hB2.cell (p := ⟨w.heap.size + 1, 1, none⟩) hz).trans y1
          have y2' : w2.cell? ⟨w.heap.size + 1, 2, none⟩ = some (.int .i64 y.cell) := (hB2.cell (p := ⟨w.heap.size + 1, 2, none⟩) hz).trans y2
          have v0 : w2.cell? ⟨b, d * 3, none⟩ = some (.int .u8 (kl (M.regs d).kind)) := (hB2.cell (p := ⟨b, d * 3, none⟩) zb2).trans x0
          have v1 : w2.cell? ⟨b, d * 3 + 1, none⟩ = some (.int .i64 (M.regs d).n) := (hB2.cell (p := ⟨b, d * 3 + 1, none⟩) zb2).trans x1
          have v2 : w2.cell? ⟨b, d * 3 + 2, none⟩ = some (.int .i64 (M.regs d).cell) := (hB2.cell (p := ⟨b, d * 3 + 2, none⟩) zb2).trans x2
          have fv0 : w2.frozen? ⟨b, d * 3, none⟩ = false := HI2.out.free _ (by omega)
          have fv1 : w2.frozen? ⟨b, d * 3 + 1, none⟩ = false := HI2.out.free _ (by omega)
          have fv2 : w2.frozen? ⟨b, d * 3 + 2, none⟩ = false := HI2.out.free _ (by omega)
          clear hB2 hb2
          have g1 : w2.cell? ⟨b, 90 + cell * 4 + q, none⟩ = some (.int .i64 (M.cells (cell * 4 + q))) := (HI2.out.cell _ (by omega)).trans (congrArg some (bimg_cells (by omega : cell * 4 + q < 16) (by omega)))
          clear x0 x1 x2 xs0 xs1 xs2 y0 y1 y2 f3
          go_wp2_with fail
          go_region
          all_goals
            go_wp2_with fail
            go_ret3
            rw [← HRR.out]
            exact ⟨⟨rfl, BoxAt.but (M := M) HOW2.out (by repeat' (first | with_reducible exact But.refl _ _ | with_reducible refine But.drew ?_ | with_reducible refine But.alloc ?_ _ | with_reducible refine But.setCell ?_ ?_ _ | exact .inl rfl)) (by first | exact (HI2.out.bsetReg dN ⟨1, M.cells (cell * 4 + q), 0⟩ rfl rfl rfl).alloc _ | exact (HI2.out.bsetReg dN ⟨1, M.cells (cell * 4 + q), 0⟩ rfl rfl rfl).drew | exact ((HI2.out.bsetReg dN ⟨1, M.cells (cell * 4 + q), 0⟩ rfl rfl rfl).alloc _).drew | exact (HI2.out.alloc _).bsetReg dN ⟨1, M.cells (cell * 4 + q), 0⟩ rfl rfl rfl) rfl⟩, (by repeat' (first | with_reducible exact HB2.out | with_reducible refine Below.drew ?_ | with_reducible refine Below.alloc ?_ ?_ _ | with_reducible refine Below.setCell ?_ ?_ _ | (simp; done) | (simp; omega) | omega))⟩
      · have hR2 : Res.err er = R := by rw [← hR, hML, if_pos he]; simp [he]
        have HRR := Lib.hid hR2
        have CW := Lib.hid cW
        have HE := Lib.hid he
        have t0 : (er == 0) = false := by rw [beq_eq_false_iff_ne]; exact he
        have t1 : (er != 0) = true := by rw [bne_iff_ne]; exact he
        generalize kl (M.regs s).kind = kk at *
        generalize (M.regs s).cell = cell at *
        clear hR hR2 hML cW he hke hvS
        go_wp2_with (go_at_call 29; refine (RefAsks_any _ _).mono ?_; rintro e w' ⟨rfl, rfl⟩; rw [asks_of])
        go_region
        all_goals go_wp2_with (go_at_call 29; refine (RefAsks_any _ _).mono ?_; rintro e w' ⟨rfl, rfl⟩; rw [asks_of])
        go_region
        all_goals go_wp2_with (go_at_call 29; refine (RefAsks_any _ _).mono ?_; rintro e w' ⟨rfl, rfl⟩; rw [asks_of])
        refine (CW.out _).mono ?_
        rintro e w2 ⟨rfl, hb2⟩
        have hB2 : Below wd.heap.size wd w2 := by
          refine Below.trans ?_ (hb2.mono ?_)
          · repeat' (first | with_reducible exact Below.refl _ _ | with_reducible refine Below.drew ?_ | with_reducible refine Below.alloc ?_ ?_ _ | (simp; done))
          · simp
        have p0 : w2.cell? ⟨wd.heap.size, 0, none⟩ = some (.int .u8 kk) := (hb2.cell (p := ⟨wd.heap.size, 0, none⟩) (by simp)).trans (by simp [go_sem])
        have p2 : w2.cell? ⟨wd.heap.size, 2, none⟩ = some (.int .i64 cell) := (hb2.cell (p := ⟨wd.heap.size, 2, none⟩) (by simp)).trans (by simp [go_sem])
        have z2 : wd.heap.size < w2.heap.size := by have := hb2.size; simp at this; omega
        have zb3 : b < w2.heap.size := by omega
        have z3 : w.heap.size < w2.heap.size := by omega
        have z4 : w.heap.size + 1 < w2.heap.size := by omega
        have HI2 := Lib.hid (HI.out.later hB2 zb2)
        have HB2 := Lib.hid ((HWd.out.mono (Nat.le_of_lt zb)).trans (hB2.mono (by omega)))
        have HOW2 := Lib.hid (HOW.out.kept (But.of (b := b) hB2).grown (by have := HOW.out.lt; cases hv : out.ownBlock with | none => exact .inl rfl | some g => (right; intro e; have := (this g hv).1; injection e; omega)))
        have f3' : w2.cell? ⟨w.heap.size, 3, none⟩ = some (.bool r) := (hB2.cell (p := ⟨w.heap.size, 3, none⟩) z0).trans f3
        have y0' : w2.cell? ⟨w.heap.size + 1, 0, none⟩ = some (.int .u8 (kl y.kind)) := (hB2.cell (p := ⟨w.heap.size + 1, 0, none⟩) hz).trans y0
        have y1' : w2.cell? ⟨w.heap.size + 1, 1, none⟩ = some (.int .i64 y.n) := (hB2.cell (p := ⟨w.heap.size + 1, 1, none⟩) hz).trans y1
        have y2' : w2.cell? ⟨w.heap.size + 1, 2, none⟩ = some (.int .i64 y.cell) := (hB2.cell (p := ⟨w.heap.size + 1, 2, none⟩) hz).trans y2
        have v0 : w2.cell? ⟨b, d * 3, none⟩ = some (.int .u8 (kl (M.regs d).kind)) := (hB2.cell (p := ⟨b, d * 3, none⟩) zb2).trans x0
        have v1 : w2.cell? ⟨b, d * 3 + 1, none⟩ = some (.int .i64 (M.regs d).n) := (hB2.cell (p := ⟨b, d * 3 + 1, none⟩) zb2).trans x1
        have v2 : w2.cell? ⟨b, d * 3 + 2, none⟩ = some (.int .i64 (M.regs d).cell) := (hB2.cell (p := ⟨b, d * 3 + 2, none⟩) zb2).trans x2
        have fv0 : w2.frozen? ⟨b, d * 3, none⟩ = false := HI2.out.free _ (by omega)
        have fv1 : w2.frozen? ⟨b, d * 3 + 1, none⟩ = false := HI2.out.free _ (by omega)
        have fv2 : w2.frozen? ⟨b, d * 3 + 2, none⟩ = false := HI2.out.free _ (by omega)
        clear hB2 hb2
        go_wp2_with fail
        go_ret3
        rw [← HRR.out]
        exact ⟨⟨⟨_, rfl⟩, HE.out⟩, (by repeat' (first | with_reducible exact HB2.out | with_reducible refine Below.drew ?_ | with_reducible refine Below.alloc ?_ ?_ _ | with_reducible refine Below.setCell ?_ ?_ _ | (simp; done) | (simp; omega) | omega))⟩
    · as_aux_lemma =>
      -- store
      have hR := HR.out
      rw [rstep_store, ← HY.out] at hR
      have hyO : VOk y := HY.out ▸ HO.out.second _
      have ky0 := kl_0 hyO.1
      have ky1 := kl_110 hyO.1
      have hvS := HO.out.1 d
      have cW := fun w' => RefWord_any (M.regs d) o (HO.out.1 d).1 (HN.out.1 d).1 HOF.out w'
      obtain ⟨⟨k, er⟩, hke⟩ : ∃ x, P.far (M.regs d) o = x := ⟨_, rfl⟩
      rw [hke] at cW
      have hMS : M.store (M.regs d) o y = (if er ≠ 0 then (M, er) else if (M.regs d).kind = 2 then (M, 6) else if y.kind = 0 then (M, 8) else if (M.regs d).kind = 3 then ({ M with slots := upd M.slots (k + 16).toNat y }, 0)
          else if y.kind ≠ 1 then (M, 1) else ({ M with cells := upd M.cells ((M.regs d).cell * 4 + k).toNat y.n }, 0)) := by unfold Mach.store; rw [hke]
      by_cases he : er = 0
      · subst he
        have h0 : (P.far (M.regs d) o).2 = 0 := by rw [hke]
        obtain ⟨k0, k1⟩ := far_kind h0
        have hr := far_ok h0 ⟨k0, k1⟩
        rw [hke] at hr
        generalize M.regs d = V at *
        obtain ⟨kind, n, cell⟩ := V
        obtain ⟨hk, hcl⟩ := hvS
        simp only at hk hcl k0 k1 hr x0 x1 x2 cW hMS
        rw [if_neg (by simp)] at hMS
        have hk2 : kind = 2 ∨ kind = 3 ∨ kind = 4 := by omega
        clear hk k0 k1 h0 hke
        rcases hk2 with rfl | rfl | rfl
        · -- what is told
          rw [if_pos rfl] at hMS
          have hR2 : Res.err 6 = R := by rw [← hR, hMS]; rfl
          have HRR := Lib.hid hR2
          rw [show kl 2 = 116 from rfl] at x0 cW
          have CW := Lib.hid cW
          clear hR hR2 hMS cW hr hcl ky0 ky1 hyO
          go_wp2_with (go_at_call 29; refine (RefAsks_any _ _).mono ?_; rintro e w' ⟨rfl, rfl⟩; rw [asks_of])
          go_region
          all_goals go_wp2_with (go_at_call 29; refine (RefAsks_any _ _).mono ?_; rintro e w' ⟨rfl, rfl⟩; rw [asks_of])
          refine (CW.out _).mono ?_
          rintro e w2 ⟨rfl, hb2⟩
          have hB2 : Below wd.heap.size wd w2 := by
            refine Below.trans ?_ (hb2.mono ?_)
            · repeat' (first | with_reducible exact Below.refl _ _ | with_reducible refine Below.drew ?_ | with_reducible refine Below.alloc ?_ ?_ _ | (simp; done))
            · simp
          have p0 : w2.cell? ⟨wd.heap.size, 0, none⟩ = some (.int .u8 116) := (hb2.cell (p := ⟨wd.heap.size, 0, none⟩) (by simp)).trans (by simp [go_sem])
          have p2 : w2.cell? ⟨wd.heap.size, 2, none⟩ = some (.int .i64 cell) := (hb2.cell (p := ⟨wd.heap.size, 2, none⟩) (by simp)).trans (by simp [go_sem])
          have z2 : wd.heap.size < w2.heap.size := by have := hb2.size; simp at this; omega
          have zb3 : b < w2.heap.size := by omega
          have z3 : w.heap.size < w2.heap.size := by omega
          have z4 : w.heap.size + 1 < w2.heap.size := by omega
          have HI2 := Lib.hid (HI.out.later hB2 zb2)
          have HB2 := Lib.hid ((HWd.out.mono (Nat.le_of_lt zb)).trans (hB2.mono (by omega)))
          have HOW2 := Lib.hid (HOW.out.kept (But.of (b := b) hB2).grown (by have := HOW.out.lt; cases hv : out.ownBlock with | none => exact .inl rfl | some g => (right; intro e; have := (this g hv).1; injection e; omega)))
          have f3' : w2.cell? ⟨w.heap.size, 3, none⟩ = some (.bool r) := (hB2.cell (p := ⟨w.heap.size, 3, none⟩) z0).trans f3
          have y0' : w2.cell? ⟨w.heap.size + 1, 0, none⟩ = some (.int .u8 (kl y.kind)) := (hB2.cell (p := ⟨w.heap.size + 1, 0, none⟩) hz).trans y0
          have y1' : w2.cell? ⟨w.heap.size + 1, 1, none⟩ = some (.int .i64 y.n) := (hB2.cell (p := ⟨w.heap.size + 1, 1, none⟩) hz).trans y1
          have y2' : w2.cell? ⟨w.heap.size + 1, 2, none⟩ = some (.int .i64 y.cell) := (hB2.cell (p := ⟨w.heap.size + 1, 2, none⟩) hz).trans y2
          clear hB2 hb2
          clear x0 x1 x2 y0 y1 y2 f3
          go_wp2_with fail
          go_ret3
          rw [← HRR.out]
          exact ⟨⟨⟨_, rfl⟩, by decide⟩, (by repeat' (first | with_reducible exact HB2.out | with_reducible refine Below.drew ?_ | with_reducible refine Below.alloc ?_ ?_ _ | with_reducible refine Below.setCell ?_ ?_ _ | (simp; done) | (simp; omega) | omega))⟩
        · -- the frame
          simp only [low, high] at hr
          obtain ⟨q, hq⟩ := Int.eq_ofNat_of_zero_le (show 0 ≤ k + 27 by simp at hr; omega)
          obtain rfl : k = (q : Int) - 27 := by omega
          have hq2 : 11 ≤ q ∧ q < 27 := by simp at hr; omega
          have q1 : (q : Int) < 27 := by omega
          have q2 : (11 : Int) ≤ q := by omega
          have e27 : (27 : Int) + ((q : Int) - 27) = q := by omega
          rw [if_neg (by decide)] at hMS
          rw [show kl 3 = 102 from rfl] at x0 cW
          have CW := Lib.hid cW
          clear cW hr hcl
          by_cases hy0 : y.kind = 0
          · rw [if_pos hy0] at hMS
            have hR2 : Res.err 8 = R := by rw [← hR, hMS]; rfl
            have HRR := Lib.hid hR2
            have t0 : (kl y.kind == 0) = true := by rw [ky0, beq_iff_eq]; exact hy0
            clear hR hR2 hMS ky0 ky1 hyO hy0
            go_wp2_with (go_at_call 29; refine (RefAsks_any _ _).mono ?_; rintro e w' ⟨rfl, rfl⟩; rw [asks_of])
            go_region
            all_goals go_wp2_with (go_at_call 29; refine (RefAsks_any _ _).mono ?_; rintro e w' ⟨rfl, rfl⟩; rw [asks_of])
            refine (CW.out _).mono ?_
            rintro e w2 ⟨rfl, hb2⟩
            have hB2 : Below wd.heap.size wd w2 := by
              refine Below.trans ?_ (hb2.mono ?_)
              · repeat' (first | with_reducible exact Below.refl _ _ | with_reducible refine Below.drew ?_ | with_reducible refine Below.alloc ?_ ?_ _ | (simp; done))
              · simp
            have p0 : w2.cell? ⟨wd.heap.size, 0, none⟩ = some (.int .u8 102) := (hb2.cell (p := ⟨wd.heap.size, 0, none⟩) (by simp)).trans (by simp [go_sem])
            have p2 : w2.cell? ⟨wd.heap.size, 2, none⟩ = some (.int .i64 cell) := (hb2.cell (p := ⟨wd.heap.size, 2, none⟩) (by simp)).trans (by simp [go_sem])
            have z2 : wd.heap.size < w2.heap.size := by have := hb2.size; simp at this; omega
            have zb3 : b < w2.heap.size := by omega
            have z3 : w.heap.size < w2.heap.size := by omega
            have z4 : w.heap.size + 1 < w2.heap.size := by omega
            have HI2 := Lib.hid (HI.out.later hB2 zb2)
            have HB2 := Lib.hid ((HWd.out.mono (Nat.le_of_lt zb)).trans (hB2.mono (by omega)))
            have HOW2 := Lib.hid (HOW.out.kept (But.of (b := b) hB2).grown (by have := HOW.out.lt; cases hv : out.ownBlock with | none => exact .inl rfl | some g => (right; intro e; have := (this g hv).1; injection e; omega)))
            have f3' : w2.cell? ⟨w.heap.size, 3, none⟩ = some (.bool r) := (hB2.cell (p := ⟨w.heap.size, 3, none⟩) z0).trans f3
            have y0' : w2.cell? ⟨w.heap.size + 1, 0, none⟩ = some (.int .u8 (kl y.kind)) := (hB2.cell (p := ⟨w.heap.size + 1, 0, none⟩) hz).trans y0
            have y1' : w2.cell? ⟨w.heap.size + 1, 1, none⟩ = some (.int .i64 y.n) := (hB2.cell (p := ⟨w.heap.size + 1, 1, none⟩) hz).trans y1
            have y2' : w2.cell? ⟨w.heap.size + 1, 2, none⟩ = some (.int .i64 y.cell) := (hB2.cell (p := ⟨w.heap.size + 1, 2, none⟩) hz).trans y2
            clear hB2 hb2
            clear x0 x1 x2 y0 y1 y2 f3
            go_wp2_with fail
            go_ret3
            rw [← HRR.out]
            exact ⟨⟨⟨_, rfl⟩, by decide⟩, (by repeat' (first | with_reducible exact HB2.out | with_reducible refine Below.drew ?_ | with_reducible refine Below.alloc ?_ ?_ _ | with_reducible refine Below.setCell ?_ ?_ _ | (simp; done) | (simp; omega) | omega))⟩
          · rw [if_neg hy0, if_pos rfl, show ((q : Int) - 27 + 16).toNat = q - 11 by omega] at hMS
            have hR2 : Res.go { M with slots := upd M.slots (q - 11) y } (pc + 1) = R := by rw [← hR, hMS]; simp
            have HRR := Lib.hid hR2
            have t0 : (kl y.kind == 0) = false := by rw [ky0, beq_eq_false_iff_ne]; exact hy0
            clear hR hR2 hMS ky0 ky1 hyO hy0
            go_wp2_with (go_at_call 29; refine (RefAsks_any _ _).mono ?_; rintro e w' ⟨rfl, rfl⟩; rw [asks_of])
            go_region
            all_goals go_wp2_with (go_at_call 29; refine (RefAsks_any _ _).mono ?_; rintro e w' ⟨rfl, rfl⟩; rw [asks_of])
            refine (CW.out _).mono ?_
            rintro e w2 ⟨rfl, hb2⟩
            have hB2 : Below wd.heap.size wd w2 := by
              refine Below.trans ?_ (hb2.mono ?_)
              · repeat' (first | with_reducible exact Below.refl _ _ | with_reducible refine Below.drew ?_ | with_reducible refine Below.alloc ?_ ?_ _ | (simp; done))
              · simp
            have p0 : w2.cell? ⟨wd.heap.size, 0, none⟩ = some (.int .u8 102) := (hb2.cell (p := ⟨wd.heap.size, 0, none⟩) (by simp)).trans (by simp [go_sem])
            have p2 : w2.cell? ⟨wd.heap.size, 2, none⟩ = some (.int .i64 cell) := (hb2.cell (p := ⟨wd.heap.size, 2, none⟩) (by simp)).trans (by simp [go_sem])
            have z2 : wd.heap.size < w2.heap.size := by have := hb2.size; simp at this; omega
            have zb3 : b < w2.heap.size := by omega
            have z3 : w.heap.size < w2.heap.size := by omega
            have z4 : w.heap.size + 1 < w2.heap.size := by omega
            have HI2 := Lib.hid (HI.out.later hB2 zb2)
            have HB2 := Lib.hid ((HWd.out.mono (Nat.le_of_lt zb)).trans (hB2.mono (by omega)))
            have HOW2 := Lib.hid (HOW.out.kept (But.of (b := b) hB2).grown (by have := HOW.out.lt; cases hv : out.ownBlock with | none => exact .inl rfl | some g => (right; intro e; have := (this g hv).1; injection e; omega)))
            have f3' : w2.cell? ⟨w.heap.size, 3, none⟩ = some (.bool r) := (hB2.cell (p := ⟨w.heap.size, 3, none⟩) z0).trans f3
            have y0' : w2.cell? ⟨w.heap.size + 1, 0, none⟩ = some (.int .u8 (kl y.kind)) := (hB2.cell (p := ⟨w.heap.size + 1, 0, none⟩) hz).trans y0
            have y1' : w2.cell? ⟨w.heap.size + 1, 1, none⟩ = some (.int .i64 y.n) := (hB2.cell (p := ⟨w.heap.size + 1, 1, none⟩) hz).trans y1
            have y2' : w2.cell? ⟨w.heap.size + 1, 2, none⟩ = some (.int .i64 y.cell) := (hB2.cell (p := ⟨w.heap.size + 1, 2, none⟩) hz).trans y2
            clear hB2 hb2
            have g0 := HI2.out.cell (q * 3) (by omega)
            have g1 := HI2.out.cell (q * 3 + 1) (by omega)
            have g2 := HI2.out.cell (q * 3 + 2) (by omega)
            have fg0 := HI2.out.free (q * 3) (by omega)
            have fg1 := HI2.out.free (q * 3 + 1) (by omega)
            have fg2 := HI2.out.free (q * 3 + 2) (by omega)
            have HI9 := Lib.hid (HI2.out.bsetSlot (r := q - 11) (i0 := q * 3) (i1 := q * 3 + 1) (i2 := q * 3 + 2) (by omega) y (by omega) (by omega) (by omega))
            clear x0 x1 x2 y0 y1 y2 f3
            go_wp2_with fail
            go_region
            all_goals
              go_wp2_with fail
              go_ret3
              rw [← HRR.out]
              exact ⟨⟨rfl, BoxAt.but (M := M) HOW2.out (by repeat' (first | with_reducible exact But.refl _ _ | with_reducible refine But.drew ?_ | with_reducible refine But.alloc ?_ _ | with_reducible refine But.setCell ?_ ?_ _ | exact .inl rfl)) (by first | exact HI9.out | exact HI9.out.drew | exact HI9.out.alloc _) rfl⟩, (by repeat' (first | with_reducible exact HB2.out | with_reducible refine Below.drew ?_ | with_reducible refine Below.alloc ?_ ?_ _ | with_reducible refine Below.setCell ?_ ?_ _ | (simp; done) | (simp; omega) | omega))⟩
        · -- a cell
          have hcc := hcl rfl
          obtain ⟨cell, rfl⟩ := Int.eq_ofNat_of_zero_le hcc.1
          simp only [low, high] at hr
          obtain ⟨q, rfl⟩ := Int.eq_ofNat_of_zero_le (show 0 ≤ k by simp at hr; omega)
          have hq : q < 4 := by simp at hr; omega
          have hc4 : cell < 4 := by omega
          have q1 : (q : Int) < 4 := by omega
          have q8 : (cell : Int) < 4 := by omega
          rw [if_neg (by decide)] at hMS
          rw [show kl 4 = 99 from rfl] at x0 cW
          have CW := Lib.hid cW
          clear cW hr hcl hcc
          by_cases hy0 : y.kind = 0
          · rw [if_pos hy0] at hMS
            have hR2 : Res.err 8 = R := by rw [← hR, hMS]; rfl
            have HRR := Lib.hid hR2
            have t0 : (kl y.kind == 0) = true := by rw [ky0, beq_iff_eq]; exact hy0
            clear hR hR2 hMS ky0 ky1 hyO hy0
            go_wp2_with (go_at_call 29; refine (RefAsks_any _ _).mono ?_; rintro e w' ⟨rfl, rfl⟩; rw [asks_of])
            go_region
            all_goals go_wp2_with (go_at_call 29; refine (RefAsks_any _ _).mono ?_; rintro e w' ⟨rfl, rfl⟩; rw [asks_of])
            refine (CW.out _).mono ?_
            rintro e w2 ⟨rfl, hb2⟩
            have hB2 : Below wd.heap.size wd w2 := by
              refine Below.trans ?_ (hb2.mono ?_)
              · repeat' (first | with_reducible exact Below.refl _ _ | with_reducible refine Below.drew ?_ | with_reducible refine Below.alloc ?_ ?_ _ | (simp; done))
              · simp
            have p0 : w2.cell? ⟨wd.heap.size, 0, none⟩ = some (.int .u8 99) := (hb2.cell (p := ⟨wd.heap.size, 0, none⟩) (by simp)).trans (by simp [go_sem])
            have p2 : w2.cell? ⟨wd.heap.size, 2, none⟩ = some (.int .i64 cell) := (hb2.cell (p := ⟨wd.heap.size, 2, none⟩) (by simp)).trans (by simp [go_sem])
            have z2 : wd.heap.size < w2.heap.size := by have := hb2.size; simp at this; omega
            have zb3 : b < w2.heap.size := by omega
            have z3 : w.heap.size < w2.heap.size := by omega
            have z4 : w.heap.size + 1 < w2.heap.size := by omega
            have HI2 := Lib.hid (HI.out.later hB2 zb2)
            have HB2 := Lib.hid ((HWd.out.mono (Nat.le_of_lt zb)).trans (hB2.mono (by omega)))
            have HOW2 := Lib.hid (HOW.out.kept (But.of (b := b) hB2).grown (by have := HOW.out.lt; cases hv : out.ownBlock with | none => exact .inl rfl | some g => (right; intro e; have := (this g hv).1; injection e; omega)))
            have f3' : w2.cell? ⟨w.heap.size, 3, none⟩ = some (.bool r) := (hB2.cell (p := ⟨w.heap.size, 3, none⟩) z0).trans f3
            have y0' : w2.cell? ⟨w.heap.size + 1, 0, none⟩ = some (.int .u8 (kl y.kind)) := (hB2.cell (p := ⟨w.heap.size + 1, 0, none⟩) hz).trans y0
            have y1' : w2.cell? ⟨w.heap.size + 1, 1, none⟩ = some (.int .i64 y.n) := (hB2.cell (p := ⟨w.heap.size + 1, 1, none⟩) hz).trans y1
            have y2' : w2.cell? ⟨w.heap.size + 1, 2, none⟩ = some (.int .i64 y.cell) := (hB2.cell (p := ⟨w.heap.size + 1, 2, none⟩) hz).trans y2
            clear hB2 hb2
            clear x0 x1 x2 y0 y1 y2 f3
            go_wp2_with fail
            go_ret3
            rw [← HRR.out]
            exact ⟨⟨⟨_, rfl⟩, by decide⟩, (by repeat' (first | with_reducible exact HB2.out | with_reducible refine Below.drew ?_ | with_reducible refine Below.alloc ?_ ?_ _ | with_reducible refine Below.setCell ?_ ?_ _ | (simp; done) | (simp; omega) | omega))⟩
          · rw [if_neg hy0, if_neg (by decide)] at hMS
            have t0 : (kl y.kind == 0) = false := by rw [ky0, beq_eq_false_iff_ne]; exact hy0
            by_cases hy1 : y.kind = 1
            · rw [if_neg (by simp [hy1]), show ((cell : Int) * 4 + (q : Int)).toNat = cell * 4 + q by omega] at hMS
              have hR2 : Res.go { M with cells := upd M.cells (cell * 4 + q) y.n } (pc + 1) = R := by rw [← hR, hMS]; simp
              have HRR := Lib.hid hR2
              have t1 : (kl y.kind == 110) = true := by rw [ky1, beq_iff_eq]; exact hy1
              have t2 : (kl y.kind != 110) = false := by rw [bne_eq_false_iff_eq]; exact beq_iff_eq.1 t1
              clear hR hR2 hMS ky0 ky1 hyO hy0 hy1
              go_wp2_with (go_at_call 29; refine (RefAsks_any _ _).mono ?_; rintro e w' ⟨rfl, rfl⟩; rw [asks_of])
              go_region
              all_goals go_wp2_with (go_at_call 29; refine (RefAsks_any _ _).mono ?_; rintro e w' ⟨rfl, rfl⟩; rw [asks_of])
              refine (CW.out _).mono ?_
              rintro e w2 ⟨rfl, hb2⟩
              have hB2 : Below wd.heap.size wd w2 := by
                refine Below.trans ?_ (hb2.mono ?_)
                · repeat' (first | with_reducible exact Below.refl _ _ | with_reducible refine Below.drew ?_ | with_reducible refine Below.alloc ?_ ?_ _ | (simp; done))
                · simp
              have p0 : w2.cell? ⟨wd.heap.size, 0, none⟩ = some (.int .u8 99) := (hb2.cell (p := ⟨wd.heap.size, 0, none⟩) (by simp)).trans (by simp [go_sem])
              have p2 : w2.cell? ⟨wd.heap.size, 2, none⟩ = some (.int .i64 cell) := (hb2.cell (p := ⟨wd.heap.size, 2, none⟩) (by simp)).trans (by simp [go_sem])
              have z2 : wd.heap.size < w2.heap.size := by have := hb2.size; simp at this; omega
              have zb3 : b < w2.heap.size := by omega
              have z3 : w.heap.size < w2.heap.size := by omega
              have z4 : w.heap.size + 1 < w2.heap.size := by omega
              have HI2 := Lib.hid (HI.out.later hB2 zb2)
              have HB2 := Lib.hid ((HWd.out.mono (Nat.le_of_lt zb)).trans (hB2.mono (by omega)))
              have HOW2 := Lib.hid (HOW.out.kept (But.of (b := b) hB2).grown (by have := HOW.out.lt; cases hv : out.ownBlock with | none => exact .inl rfl | some g => (right; intro e; have := (this g hv).1; injection e; omega)))
              have f3' : w2.cell? ⟨w.heap.size, 3, none⟩ = some (.bool r) := (hB2.cell (p := ⟨w.heap.size, 3, none⟩) z0).trans f3
              have y0' : w2.cell? ⟨w.heap.size + 1, 0, none⟩ = some (.int .u8 (kl y.kind)) := (hB2.cell (p := ⟨w.heap.size + 1, 0, none⟩) hz).trans y0
              have y1' : w2.cell? ⟨w.heap.size + 1, 1, none⟩ = some (.int .i64 y.n) := (hB2.cell (p := ⟨w.heap.size + 1, 1, none⟩) hz).trans y1
              have y2' : w2.cell? ⟨w.heap.size + 1, 2, none⟩ = some (.int .i64 y.cell) := (hB2.cell (p := ⟨w.heap.size + 1, 2, none⟩) hz).trans y2
              clear hB2 hb2
              have g0 := HI2.out.cell (90 + cell * 4 + q) (by omega)
              have fg0 := HI2.out.free (90 + cell * 4 + q) (by omega)
              have hI9 := HI2.out.bsetCell (r := cell * 4 + q) (by omega) y.n
              rw [← Nat.add_assoc] at hI9
              have HI9 := Lib.hid hI9
              clear hI9
              clear x0 x1 x2 y0 y1 y2 f3
              go_wp2_with fail
              go_region
              all_goals
                go_wp2_with fail
                go_ret3
                rw [← HRR.out]
                exact ⟨⟨rfl, BoxAt.but (M := M) HOW2.out (by repeat' (first | with_reducible exact But.refl _ _ | with_reducible refine But.drew ?_ | with_reducible refine But.alloc ?_ _ | with_reducible refine But.setCell ?_ ?_ _ | exact .inl rfl)) (by first | exact HI9.out | exact HI9.out.drew | exact HI9.out.alloc _) rfl⟩, (by repeat' (first | with_reducible exact HB2.out | with_reducible refine Below.drew ?_ | with_reducible refine Below.alloc ?_ ?_ _ | with_reducible refine Below.setCell ?_ ?_ _ | (simp; done) | (simp; omega) | omega))⟩
            · rw [if_pos hy1] at hMS
              have hR2 : Res.err 1 = R := by rw [← hR, hMS]; rfl
              have HRR := Lib.hid hR2
              have t1 : (kl y.kind == 110) = false := by rw [ky1, beq_eq_false_iff_ne]; exact hy1
              have t2 : (kl y.kind != 110) = true := by rw [bne_iff_ne]; exact beq_eq_false_iff_ne.1 t1
              clear hR hR2 hMS ky0 ky1 hyO hy0 hy1
              go_wp2_with (go_at_call 29; refine (RefAsks_any _ _).mono ?_; rintro e w' ⟨rfl, rfl⟩; rw [asks_of])
              go_region
              all_goals go_wp2_with (go_at_call 29; refine (RefAsks_any _ _).mono ?_; rintro e w' ⟨rfl, rfl⟩; rw [asks_of])
              refine (CW.out _).mono ?_
              rintro e w2 ⟨rfl, hb2⟩
              have hB2 : Below wd.heap.size wd w2 := by
                refine Below.trans ?_ (hb2.mono ?_)
                · repeat' (first | with_reducible exact Below.refl _ _ | with_reducible refine Below.drew ?_ | with_reducible refine Below.alloc ?_ ?_ _ | (simp; done))
                · simp
              have p0 : w2.cell? ⟨wd.heap.size, 0, none⟩ = some (.int .u8 99) := (hb2.cell (p := ⟨wd.heap.size, 0, none⟩) (by simp)).trans (by simp [go_sem])
              have p2 : w2.cell? ⟨wd.heap.size, 2, none⟩ = some (.int .i64 cell) := (hb2.cell (p := ⟨wd.heap.size, 2, none⟩) (by simp)).trans (by simp [go_sem])
              have z2 : wd.heap.size < w2.heap.size := by have := hb2.size; simp at this; omega
              have zb3 : b < w2.heap.size := by omega
              have z3 : w.heap.size < w2.heap.size := by omega
              have z4 : w.heap.size + 1 < w2.heap.size := by omega
              have HI2 := Lib.hid (HI.out.later hB2 zb2)
              have HB2 := Lib.hid ((HWd.out.mono (Nat.le_of_lt zb)).trans (hB2.mono (by omega)))
              have HOW2 := Lib.hid (HOW.out.kept (But.of (b := b) hB2).grown (by have := HOW.out.lt; cases hv : out.ownBlock with | none => exact .inl rfl | some g => (right; intro e; have := (this g hv).1; injection e; omega)))
              have f3' : w2.cell? ⟨w.heap.size, 3, none⟩ = some (.bool r) := (hB2.cell (p := ⟨w.heap.size, 3, none⟩) z0).trans f3
              have y0' : w2.cell? ⟨w.heap.size + 1, 0, none⟩ = some (.int .u8 (kl y.kind)) := (hB2.cell (p := ⟨w.heap.size + 1, 0, none⟩) hz).trans y0
              have y1' : w2.cell? ⟨w.heap.size + 1, 1, none⟩ = some (.int .i64 y.n) := (hB2.cell (p := ⟨w.heap.size + 1, 1, none⟩) hz).trans y1
              have y2' : w2.cell? ⟨w.heap.size + 1, 2, none⟩ = some (.int .i64 y.cell) := (hB2.cell (p := ⟨w.heap.size + 1, 2, none⟩) hz).trans y2
              clear hB2 hb2
              clear x0 x1 x2 y0 y1 y2 f3
              go_wp2_with fail
              go_ret3
              rw [← HRR.out]
              exact ⟨⟨⟨_, rfl⟩, by decide⟩, (by repeat' (first | with_reducible exact HB2.out | with_reducible refine Below.drew ?_ | with_reducible refine Below.alloc ?_ ?_ _ | with_reducible refine Below.setCell ?_ ?_ _ | (simp; done) | (simp; omega) | omega))⟩
      · have hR2 : Res.err er = R := by rw [← hR, hMS, if_pos he]; simp [he]
        have HRR := Lib.hid hR2
        have CW := Lib.hid cW
        have HE := Lib.hid he
        have t0 : (er == 0) = false := by rw [beq_eq_false_iff_ne]; exact he
        have t1 : (er != 0) = true := by rw [bne_iff_ne]; exact he
        generalize kl (M.regs d).kind = kk at *
        generalize (M.regs d).cell = cell at *
        clear hR hR2 hMS cW he hke hvS ky0 ky1 hyO
        go_wp2_with (go_at_call 29; refine (RefAsks_any _ _).mono ?_; rintro e w' ⟨rfl, rfl⟩; rw [asks_of])
        go_region
        all_goals go_wp2_with (go_at_call 29; refine (RefAsks_any _ _).mono ?_; rintro e w' ⟨rfl, rfl⟩; rw [asks_of])
        refine (CW.out _).mono ?_
        rintro e w2 ⟨rfl, hb2⟩
        have hB2 : Below wd.heap.size wd w2 := by
          refine Below.trans ?_ (hb2.mono ?_)
          · repeat' (first | with_reducible exact Below.refl _ _ | with_reducible refine Below.drew ?_ | with_reducible refine Below.alloc ?_ ?_ _ | (simp; done))
          · simp
        have p0 : w2.cell? ⟨wd.heap.size, 0, none⟩ = some (.int .u8 kk) := (hb2.cell (p := ⟨wd.heap.size, 0, none⟩) (by simp)).trans (by simp [go_sem])
        have p2 : w2.cell? ⟨wd.heap.size, 2, none⟩ = some (.int .i64 cell) := (hb2.cell (p := ⟨wd.heap.size, 2, none⟩) (by simp)).trans (by simp [go_sem])
        have z2 : wd.heap.size < w2.heap.size := by have := hb2.size; simp at this; omega
        have zb3 : b < w2.heap.size := by omega
        have z3 : w.heap.size < w2.heap.size := by omega
        have z4 : w.heap.size + 1 < w2.heap.size := by omega
        have HI2 := Lib.hid (HI.out.later hB2 zb2)
        have HB2 := Lib.hid ((HWd.out.mono (Nat.le_of_lt zb)).trans (hB2.mono (by omega)))
        have HOW2 := Lib.hid (HOW.out.kept (But.of (b := b) hB2).grown (by have := HOW.out.lt; cases hv : out.ownBlock with | none => exact .inl rfl | some g => (right; intro e; have := (this g hv).1; injection e; omega)))
        have f3' : w2.cell? ⟨w.heap.size, 3, none⟩ = some (.bool r) := (hB2.cell (p := ⟨w.heap.size, 3, none⟩) z0).trans f3
        have y0' : w2.cell? ⟨w.heap.size + 1, 0, none⟩ = some (.int .u8 (kl y.kind)) := (hB2.cell (p := ⟨w.heap.size + 1, 0, none⟩) hz).trans y0
        have y1' : w2.cell? ⟨w.heap.size + 1, 1, none⟩ = some (.int .i64 y.n) := (hB2.cell (p := ⟨w.heap.size + 1, 1, none⟩) hz).trans y1
        have y2' : w2.cell? ⟨w.heap.size + 1, 2, none⟩ = some (.int .i64 y.cell) := (hB2.cell (p := ⟨w.heap.size + 1, 2, none⟩) hz).trans y2
        clear hB2 hb2
        clear x0 x1 x2 y0 y1 y2 f3
        go_wp2_with fail
        go_ret3
        rw [← HRR.out]
        exact ⟨⟨⟨_, rfl⟩, HE.out⟩, (by repeat' (first | with_reducible exact HB2.out | with_reducible refine Below.drew ?_ | with_reducible refine Below.alloc ?_ ?_ _ | with_reducible refine Below.setCell ?_ ?_ _ | (simp; done) | (simp; omega) | omega))⟩
    · as_aux_lemma =>
      -- call
      have hnn : nn = 1 ∨ nn = 2 ∨ nn = 3 := by
        have := HBAD.out
        unfold bad at this
        omega
      have hR := HR.out
      rw [rstep_call] at hR
      have HRR := Lib.hid hR
      have HNN2 := Lib.hid hnn
      clear hR hnn
      go_wp2_with (go_at_call 29; refine (RefAsks_any _ _).mono ?_; rintro e w' ⟨rfl, rfl⟩; rw [asks_of])
      go_region
      all_goals go_wp2_with (go_at_call 29; refine (RefAsks_any _ _).mono ?_; rintro e w' ⟨rfl, rfl⟩; rw [asks_of])
      refine (RefCall_any b told time num st M wd.drew ⟨out, HI.out.drew, World.ownsRow.drew HOW.out⟩ (HO.out.1 1) nn HNN2.out).mono ?_
      rintro e w3 ⟨rfl, hM3, hb3⟩
      have HM3 := Lib.hid hM3
      have HB3 := Lib.hid hb3
      clear hM3 hb3
      generalize M.call time nn = L at *
      obtain ⟨M2, le⟩ := L
      go_wp2_with fail
      go_ret3
      rw [← HRR.out]
      unfold StepPost
      by_cases he : le = 0
      · subst he
        simp only [ne_eq, not_true_eq_false, if_false]
        exact ⟨⟨rfl, HM3.out⟩, (show Below b w _ from (by repeat' (first | with_reducible exact (HWd.out.mono (Nat.le_of_lt zb)) | with_reducible refine Below.drew ?_ | with_reducible refine Below.drewN' ?_ _))).trans HB3.out⟩
      · simp only [ne_eq, he, not_false_eq_true, if_true]
        exact ⟨⟨⟨_, rfl⟩, he⟩, (show Below b w _ from (by repeat' (first | with_reducible exact (HWd.out.mono (Nat.le_of_lt zb)) | with_reducible refine Below.drew ?_ | with_reducible refine Below.drewN' ?_ _))).trans HB3.out⟩
    · as_aux_lemma =>
      -- makes
      have hyO : VOk y := HY.out ▸ HO.out.second _
      have hyN : VNum y := HY.out ▸ HN.out.second ⟨c, d, s, r, o, nn⟩ HNN.out
      have hR2 : (if (vcounts c (M.regs d) y).2 ≠ 0 then Res.err (vcounts c (M.regs d) y).2 else .go { M with regs := upd M.regs d (vcounts c (M.regs d) y).1 } (pc + 1)) = R := by
        rw [← HR.out]
        by_cases h13 : c = 13
        · subst h13
          have e : y = ⟨1, 0, 0⟩ := by
            rw [HY.out]
            have := HBAD.out
            unfold bad two at this
            have r0 : r = false := by
              cases r
              · rfl
              · exfalso; apply this; right; right; left; exact ⟨by omega, rfl⟩
            have n0 : nn = 0 := by omega
            subst r0 n0
            unfold Mach.second Val.num; simp
          rw [rstep_neg, e]
        · rw [rstep_make _ _ _ _ (by omega), HY.out]
      have HRR := Lib.hid hR2
      clear hR2
      have t28 : (c == 28) = false := by rw [beq_eq_false_iff_ne]; omega
      have t14 : (c == 14) = false := by rw [beq_eq_false_iff_ne]; omega
      have t25 : (c == 25) = false := by rw [beq_eq_false_iff_ne]; omega
      have t26 : (c == 26) = false := by rw [beq_eq_false_iff_ne]; omega
      have t27 : (c == 27) = false := by rw [beq_eq_false_iff_ne]; omega
      have t15 : decide (15 ≤ c) = false := by simp; omega
      have HVO := Lib.hid hyO
      have HVN := Lib.hid hyN
      clear hyO hyN hcc
      go_wp2_with (go_at_call 29; refine (RefAsks_any _ _).mono ?_; rintro e w' ⟨rfl, rfl⟩; rw [asks_of])
      go_region
      all_goals go_wp2_with (go_at_call 29; refine (RefAsks_any _ _).mono ?_; rintro e w' ⟨rfl, rfl⟩; rw [asks_of])
      have hK := RefCounts_any b told time num st out M wd.drew HI.out.drew c d dN y (HO.out.1 d) HVO.out (HN.out.1 d).1 HVN.out.1 (HN.out.1 d).2 (.pointer (some ⟨b, 0, none⟩))
      unfold RCounts at hK
      refine hK.mono ?_
      clear hK
      rintro e w3 ⟨rfl, hI3, hb3⟩
      have HI3 := Lib.hid hI3
      have HB3 := Lib.hid hb3
      clear hI3 hb3
      generalize vcounts c (M.regs d) y = L at *
      obtain ⟨v, le⟩ := L
      go_wp2_with fail
      go_ret3
      rw [← HRR.out]
      unfold StepPost
      have hB := (show Below b w _ from (by repeat' (first | with_reducible exact (HWd.out.mono (Nat.le_of_lt zb)) | with_reducible refine Below.drew ?_ | with_reducible refine Below.drewN' ?_ _))).trans (HB3.out.below (Nat.le_of_lt (show b < wd.drew.heap.size by simp; omega)))
      by_cases he : le = 0
      · subst he
        have hi := HI3.out
        simp only [if_true] at hi
        simp only [ne_eq, not_true_eq_false, if_false]
        exact ⟨⟨rfl, BoxAt.but (M := M) (World.ownsRow.drew HOW.out) HB3.out hi rfl⟩, hB⟩
      · simp only [ne_eq, he, not_false_eq_true, if_true]
        exact ⟨⟨⟨_, rfl⟩, he⟩, hB⟩
end Go.Proofs.YtfpoicdfkjbknaaDoor.W
