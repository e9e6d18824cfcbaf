/- BoundCounts: the walk of the law: package bound answers as the reference does. Conditions: the ends and the number are int64's; the variable 'all' holds all numbers. -/
import Derived.Test.YtfmcapmaebfppaaDoorWalkBound5
import Derived.Test.YtfmcapmaebfppaaDoorWalkBound3
import Derived.Test.YtfmcapmaebfppaaDoorWalkRefB3
import Derived.Test.YtfmcapmaebfppaaDoorWalkRefN
import Derived.Lib.QuietBelow
import Derived.Deep.RegionWith
import Derived.Deep.DeepCutAuto
namespace Go.Proofs.YtfmcapmaebfppaaDoor.W
open Go.RowKit Go.Proofs.YtfmcapmaebfppaaDoor.P
set_option linter.unusedSimpArgs false
set_option linter.unusedVariables false
open Go.Sort (grow)

theorem below2 (w : World) (o1 o2 : Obj) : Below w.heap.size w ((w.alloc o1).alloc o2).drew := by
  repeat' (first | with_reducible exact Below.refl _ _ | with_reducible refine Below.drew ?_ | with_reducible refine Below.alloc ?_ ?_ _ | (simp; done) | (simp; omega))

set_option maxRecDepth 100000 in
set_option maxHeartbeats 4000000 in
theorem lrow_any (l h : Int) (w : World) :
    Calls Tryd.prog 11 #[.agg #[.int .i64 l, .int .i64 h]] w fun e w' => e = .returned (.agg #[.int .i64 (min l h), .int .i64 (max l h)]) ∧ Below w.heap.size w w' := by
  go_enter Tryd.func11, Tryd.ntmps11
  go_wp2_with fail
  exact bodyPost_ret (v := .agg #[.int .i64 (min l h), .int .i64 (max l h)]) (by simp [results, Tryd.results11, go_sem]) rfl ⟨rfl, (by repeat (first | exact Below.refl _ _ | refine Below.drew ?_ | refine Below.drewN' ?_ _ | refine Below.alloc ?_ (by simp; try omega) _ | refine Below.setCell ?_ (by simp; try omega) _ | refine Below.trans ?_ (Below.mono (by assumption) (by simp; try omega)) | refine Below.trans ?_ (Below.mono (Lib.Hid.out (by assumption)) (by simp; try omega))))⟩

set_option maxRecDepth 100000 in
set_option maxHeartbeats 4000000 in
theorem counts_walk (code al ah bl bh n : Int) (i1 : In64 al) (i2 : In64 ah) (i3 : In64 bl) (i4 : In64 bh) (i5 : In64 n) (w : World) (hg0 : w.cell? ⟨0, 0, none⟩ = some (.int .i64 (-9223372036854775808))) (hg1 : w.cell? ⟨0, 1, none⟩ = some (.int .i64 9223372036854775807)) (gz : 0 < w.heap.size) :
    Calls Tryd.prog 4 #[.int .i64 code, .agg #[.int .i64 al, .int .i64 ah], .agg #[.int .i64 bl, .int .i64 bh], .int .i64 n] w fun e w' => e = .returned (.bool true) ∧ Below w.heap.size w w' := by
  have HW0 := Lib.hid (Below.refl w.heap.size w)
  have RA := Lib.hid (show (B.mk (min al ah) (max al ah)).Ok by unfold B.Ok In64 at *; simp only; omega)
  have RB := Lib.hid (show (B.mk (min bl bh) (max bl bh)).Ok by unfold B.Ok In64 at *; simp only; omega)
  have RN := Lib.hid i5
  have G0 := Lib.hid hg0; have G1 := Lib.hid hg1
  clear i1 i2 i3 i4 i5 hg0 hg1
  go_enter Tryd.func4, Tryd.ntmps4
  go_wp2_with fail
  go_cut [] (fun wr => wr.cell? ⟨w.heap.size, 0, none⟩ = some (.int .i64 (min al ah)) ∧ wr.frozen? ⟨w.heap.size, 0, none⟩ = false ∧ wr.cell? ⟨w.heap.size, 1, none⟩ = some (.int .i64 (max al ah)) ∧ wr.frozen? ⟨w.heap.size, 1, none⟩ = false ∧ wr.cell? ⟨w.heap.size + 1, 0, none⟩ = some (.int .i64 (min bl bh)) ∧ wr.frozen? ⟨w.heap.size + 1, 0, none⟩ = false ∧ wr.cell? ⟨w.heap.size + 1, 1, none⟩ = some (.int .i64 (max bl bh)) ∧ wr.frozen? ⟨w.heap.size + 1, 1, none⟩ = false ∧ w.heap.size + 1 < wr.heap.size ∧ Below w.heap.size w wr)
  case first =>
    go_region_with (first | (go_at_call 11; refine (lrow_any _ _ _).mono ?_; rintro e w2 ⟨rfl, hb⟩; obtain ⟨hc, hf⟩ := bcell hb; have hz := hb.size; (try simp at hz); (try have z0 : w.heap.size < w2.heap.size := (by omega)); (try have z1 : w.heap.size + 1 < w2.heap.size := (by omega)); have hwn : Below w.heap.size w w2 := (by first | exact Below.trans (below2 w _ _) (hb.mono (by first | (simp; done) | (simp; omega) | omega)) | exact Below.trans hwn (hb.mono (by first | (simp; done) | (simp; omega) | omega))); clear hb; have d00 : w2.cell? ⟨w.heap.size, 0, none⟩ = some (.int .i64 al) := (by rw [hc _ _ (by first | (simp; done) | (simp; omega) | omega)]; simp [go_sem, *]); have f00 : w2.frozen? ⟨w.heap.size, 0, none⟩ = false := (by rw [hf _ _ (by first | (simp; done) | (simp; omega) | omega)]; simp [go_sem, *]); have d01 : w2.cell? ⟨w.heap.size, 1, none⟩ = some (.int .i64 ah) := (by rw [hc _ _ (by first | (simp; done) | (simp; omega) | omega)]; simp [go_sem, *]); have f01 : w2.frozen? ⟨w.heap.size, 1, none⟩ = false := (by rw [hf _ _ (by first | (simp; done) | (simp; omega) | omega)]; simp [go_sem, *]); have d10 : w2.cell? ⟨w.heap.size + 1, 0, none⟩ = some (.int .i64 bl) := (by rw [hc _ _ (by first | (simp; done) | (simp; omega) | omega)]; simp [go_sem, *]); have f10 : w2.frozen? ⟨w.heap.size + 1, 0, none⟩ = false := (by rw [hf _ _ (by first | (simp; done) | (simp; omega) | omega)]; simp [go_sem, *]); have d11 : w2.cell? ⟨w.heap.size + 1, 1, none⟩ = some (.int .i64 bh) := (by rw [hc _ _ (by first | (simp; done) | (simp; omega) | omega)]; simp [go_sem, *]); have f11 : w2.frozen? ⟨w.heap.size + 1, 1, none⟩ = false := (by rw [hf _ _ (by first | (simp; done) | (simp; omega) | omega)]; simp [go_sem, *]); clear hc hf))
    all_goals
      go_wp2_with fail
      go_meet
      refine ⟨?_, ?_, ?_, ?_, ?_, ?_, ?_, ?_, ?_, ?_⟩
      all_goals (first | (simp [go_sem, *]; done) | (simp; omega) | skip)
      repeat' (first | with_reducible exact hwn | with_reducible refine Below.setCell ?_ ?_ _ | (simp; done) | (simp; omega) | omega)
  case rest =>
    obtain ⟨cc_0_0, rc_0_0, cc_0_1, rc_0_1, cc_1_0, rc_1_0, cc_1_1, rc_1_1, zzc, HBc⟩ := hcut
    generalize min al ah = Al at *
    generalize max al ah = Ah at *
    generalize min bl bh = Bl at *
    generalize max bl bh = Bh at *
    have HWc := Lib.hid HBc
    clear HBc
    have zc0 : w.heap.size < wc.heap.size := by omega
    go_wp2_with fail
    go_cut [9, 10] (fun u9 u10 wr => ∃ p q : Nat, u9 = .pointer (some ⟨p, 0, none⟩) ∧ u10 = .pointer (some ⟨q, 0, none⟩) ∧ wr.cell? ⟨w.heap.size, 0, none⟩ = some (.int .i64 Al) ∧ wr.cell? ⟨w.heap.size, 1, none⟩ = some (.int .i64 Ah) ∧ wr.cell? ⟨w.heap.size + 1, 0, none⟩ = some (.int .i64 Bl) ∧ wr.cell? ⟨w.heap.size + 1, 1, none⟩ = some (.int .i64 Bh) ∧ wr.cell? ⟨p, 0, none⟩ = some (.int .i64 Al) ∧ wr.cell? ⟨p, 1, none⟩ = some (.int .i64 Ah) ∧ wr.cell? ⟨q, 0, none⟩ = some (.int .i64 Bl) ∧ wr.cell? ⟨q, 1, none⟩ = some (.int .i64 Bh) ∧ p < wr.heap.size ∧ q < wr.heap.size ∧ w.heap.size + 1 < wr.heap.size ∧ Below w.heap.size w wr)
    case first =>
      go_region
      all_goals
        go_wp2_with fail
        go_meet
        first
        | exact ⟨wc.heap.size, wc.heap.size + 1, rfl, rfl, (by simp [go_sem, zc0, zzc, cc_0_0, cc_0_1, cc_1_0, cc_1_1]; done), (by simp [go_sem, zc0, zzc, cc_0_0, cc_0_1, cc_1_0, cc_1_1]; done), (by simp [go_sem, zc0, zzc, cc_0_0, cc_0_1, cc_1_0, cc_1_1]; done), (by simp [go_sem, zc0, zzc, cc_0_0, cc_0_1, cc_1_0, cc_1_1]; done), (by simp [go_sem, zc0, zzc, cc_0_0, cc_0_1, cc_1_0, cc_1_1]; done), (by simp [go_sem, zc0, zzc, cc_0_0, cc_0_1, cc_1_0, cc_1_1]; done), (by simp [go_sem, zc0, zzc, cc_0_0, cc_0_1, cc_1_0, cc_1_1]; done), (by simp [go_sem, zc0, zzc, cc_0_0, cc_0_1, cc_1_0, cc_1_1]; done), (by first | (simp; done) | (simp; omega) | omega), (by first | (simp; done) | (simp; omega) | omega), (by first | (simp; done) | (simp; omega) | omega), (by repeat' (first | with_reducible exact HWc.out | with_reducible exact Below.refl _ _ | with_reducible refine Below.drew ?_ | with_reducible refine Below.drewN' ?_ _ | with_reducible refine Below.alloc ?_ ?_ _ | with_reducible refine Below.setCell ?_ ?_ _ | (simp; done) | (simp; omega) | omega))⟩
        | exact ⟨wc.heap.size + 1, wc.heap.size, rfl, rfl, (by simp [go_sem, zc0, zzc, cc_0_0, cc_0_1, cc_1_0, cc_1_1]; done), (by simp [go_sem, zc0, zzc, cc_0_0, cc_0_1, cc_1_0, cc_1_1]; done), (by simp [go_sem, zc0, zzc, cc_0_0, cc_0_1, cc_1_0, cc_1_1]; done), (by simp [go_sem, zc0, zzc, cc_0_0, cc_0_1, cc_1_0, cc_1_1]; done), (by simp [go_sem, zc0, zzc, cc_0_0, cc_0_1, cc_1_0, cc_1_1]; done), (by simp [go_sem, zc0, zzc, cc_0_0, cc_0_1, cc_1_0, cc_1_1]; done), (by simp [go_sem, zc0, zzc, cc_0_0, cc_0_1, cc_1_0, cc_1_1]; done), (by simp [go_sem, zc0, zzc, cc_0_0, cc_0_1, cc_1_0, cc_1_1]; done), (by first | (simp; done) | (simp; omega) | omega), (by first | (simp; done) | (simp; omega) | omega), (by first | (simp; done) | (simp; omega) | omega), (by repeat' (first | with_reducible exact HWc.out | with_reducible exact Below.refl _ _ | with_reducible refine Below.drew ?_ | with_reducible refine Below.drewN' ?_ _ | with_reducible refine Below.alloc ?_ ?_ _ | with_reducible refine Below.setCell ?_ ?_ _ | (simp; done) | (simp; omega) | omega))⟩
    case rest =>
      obtain ⟨p, q, rfl, rfl, da0, da1, db0, db1, dp0, dp1, dq0, dq1, yp, yq, zz, HBd⟩ := hcut
      obtain ⟨wd, hwd⟩ : ∃ x, x = wc := ⟨_, rfl⟩
      subst hwd
      have HWd := Lib.hid HBd
      have gd0 := Lib.hid ((HBd.cell gz).trans G0.out); have gd1 := Lib.hid ((HBd.cell gz).trans G1.out)
      have gdz := Lib.hid (show 0 < wd.heap.size from Nat.lt_of_lt_of_le gz HBd.size)
      clear HBd
      go_wp2_with fail
      go_cut [66] (fun u66 wr => u66 = .bool false ∧ wr.cell? ⟨w.heap.size, 0, none⟩ = some (.int .i64 Al) ∧ wr.cell? ⟨w.heap.size, 1, none⟩ = some (.int .i64 Ah) ∧ wr.cell? ⟨w.heap.size + 1, 0, none⟩ = some (.int .i64 Bl) ∧ wr.cell? ⟨w.heap.size + 1, 1, none⟩ = some (.int .i64 Bh) ∧ wr.cell? ⟨p, 0, none⟩ = some (.int .i64 Al) ∧ wr.cell? ⟨p, 1, none⟩ = some (.int .i64 Ah) ∧ wr.cell? ⟨q, 0, none⟩ = some (.int .i64 Bl) ∧ wr.cell? ⟨q, 1, none⟩ = some (.int .i64 Bh) ∧ p < wr.heap.size ∧ q < wr.heap.size ∧ w.heap.size + 1 < wr.heap.size ∧ Below w.heap.size w wr)
      case first =>
        have k0 := cell_regrown da0; have k1 := cell_regrown da1; have k2 := cell_regrown db0; have k3 := cell_regrown db1; have k4 := cell_regrown dp0; have k5 := cell_regrown dp1; have k6 := cell_regrown dq0; have k7 := cell_regrown dq1
        have c1 : ∀ d os, Calls Tryd.prog 12 #[.int .i64 code, .agg #[.int .i64 Al, .int .i64 Ah], .agg #[.int .i64 Bl, .int .i64 Bh]] (grow (redrawn wd d) os) fun e w'' => e = .returned (.agg #[.int .i64 ((bdoes code ⟨Al, Ah⟩ ⟨Bl, Bh⟩).lo), .int .i64 ((bdoes code ⟨Al, Ah⟩ ⟨Bl, Bh⟩).hi)]) ∧ ∃ p : Regrown, w'' = grow (redrawn wd p.d) p.os := fun d os => Calls.regrown_of (BDoes_any code Al Ah Bl Bh RA.out.1 RA.out.2.1 RB.out.1 RB.out.2.1 RA.out.2.2 RB.out.2.2 _)
        have c2 : ∀ d os, Calls Tryd.prog 13 #[.int .i64 code, .agg #[.int .i64 Al, .int .i64 Ah], .agg #[.int .i64 Bl, .int .i64 Bh]] (grow (redrawn wd d) os) fun e w'' => e = .returned (.agg #[.int .i64 ((bdoes code ⟨Al, Ah⟩ ⟨Bl, Bh⟩).lo), .int .i64 ((bdoes code ⟨Al, Ah⟩ ⟨Bl, Bh⟩).hi)]) ∧ ∃ p : Regrown, w'' = grow (redrawn wd p.d) p.os := fun d os => Calls.regrown_of (RefBDoes_any code Al Ah Bl Bh RA.out.1 RA.out.2.1 RB.out.1 RB.out.2.1 RA.out.2.2 RB.out.2.2 _ (cell_regrown gd0.out d os) (cell_regrown gd1.out d os) (Nat.lt_of_lt_of_le gdz.out (below_regrown wd d os).size))
        have c3 : ∀ d os, Calls Tryd.prog 14 #[.agg #[.int .i64 Al, .int .i64 Ah], .agg #[.int .i64 Bl, .int .i64 Bh]] (grow (redrawn wd d) os) fun e w'' => e = .returned (.agg #[.int .i64 (min Al Bl), .int .i64 (max Ah Bh)]) ∧ ∃ p : Regrown, w'' = grow (redrawn wd p.d) p.os := fun d os => Calls.regrown_of (Join_any Al Ah Bl Bh _)
        have c4 : ∀ d os, Calls Tryd.prog 15 #[.agg #[.int .i64 Al, .int .i64 Ah], .agg #[.int .i64 Bl, .int .i64 Bh]] (grow (redrawn wd d) os) fun e w'' => e = .returned (.agg #[.int .i64 (min Al Bl), .int .i64 (max Ah Bh)]) ∧ ∃ p : Regrown, w'' = grow (redrawn wd p.d) p.os := fun d os => Calls.regrown_of (RefJoin_any Al Ah Bl Bh _)
        have c5 : ∀ d os, Calls Tryd.prog 16 #[.agg #[.int .i64 Al, .int .i64 Ah], .int .i64 n] (grow (redrawn wd d) os) fun e w'' => e = .returned (.bool (decide (Al ≤ n ∧ n ≤ Ah))) ∧ ∃ p : Regrown, w'' = grow (redrawn wd p.d) p.os := fun d os => Calls.regrown_of (Has_any Al Ah n _)
        have c6 : ∀ d os, Calls Tryd.prog 17 #[.int .i64 n] (grow (redrawn wd d) os) fun e w'' => e = .returned (.agg #[.int .i64 n, .int .i64 n]) ∧ ∃ p : Regrown, w'' = grow (redrawn wd p.d) p.os := fun d os => Calls.regrown_of (One_any n _)
        generalize bdoes code ⟨Al, Ah⟩ ⟨Bl, Bh⟩ = D at c1 c2
        obtain ⟨Dl, Dh⟩ := D
        by_cases q1 : Al ≤ n <;> by_cases q2 : n ≤ Ah
        all_goals
          refine wp_region_quiet_below (by kernel_rfl) (by kernel_rfl) ?_
          repeat (quiet_step (first | exact c1 _ _ | exact c2 _ _ | exact c3 _ _ | exact c4 _ _ | exact c5 _ _ | exact c6 _ _))
          refine wpQuiet_nil ?_
          intro _ hw'
          obtain ⟨⟨dq, osq⟩, hw''⟩ := hw'
          subst hw''
          have hb := below_regrown wd dq osq
          go_wp2_with fail
          go_meet
          exact ⟨by first | rfl | (simp [q1, q2]; done), ((hb.cell (Nat.lt_of_succ_lt zz)).trans da0), ((hb.cell (Nat.lt_of_succ_lt zz)).trans da1), ((hb.cell zz).trans db0), ((hb.cell zz).trans db1), ((hb.cell yp).trans dp0), ((hb.cell yp).trans dp1), ((hb.cell yq).trans dq0), ((hb.cell yq).trans dq1), Nat.lt_of_lt_of_le yp hb.size, Nat.lt_of_lt_of_le yq hb.size, Nat.lt_of_lt_of_le zz hb.size, HWd.out.trans (hb.mono HWd.out.size)⟩
      case rest =>
        obtain ⟨rfl, c4a_0, c4a_1, c4b_0, c4b_1, c4p_0, c4p_1, c4q_0, c4q_1, y4p, y4q, y4b, HBe⟩ := hcut
        obtain ⟨w4, hwe⟩ : ∃ x, x = wc := ⟨_, rfl⟩
        subst hwe
        have HW4 := Lib.hid HBe
        clear HBe da0 da1 db0 db1 dp0 dp1 dq0 dq1
        have y4a : w.heap.size < w4.heap.size := Nat.lt_of_succ_lt y4b
        generalize hm : bmeet ⟨Al, Ah⟩ ⟨Bl, Bh⟩ = m
        have HM := Lib.hid hm
        clear hm
        obtain ⟨⟨ml, mh⟩, mb⟩ := m
        generalize hr : bnarrow code ⟨Al, Ah⟩ ⟨Bl, Bh⟩ = r
        have HR := Lib.hid hr
        clear hr
        obtain ⟨⟨r1, r2⟩, ⟨r3, r4⟩, rb⟩ := r
        go_wp2_with fail
        refine (RefMeet_any _ _ _ _ _).mono ?_
        rw [HM.out]
        (rintro e w5 ⟨rfl, hb⟩; obtain ⟨hc5, hf5⟩ := bcell hb; have hz5 := hb.size; (try simp at hz5); have HW5 := Lib.hid (show Below w.heap.size w w5 from Below.trans (by repeat' (first | with_reducible exact HW4.out | with_reducible exact Below.refl _ _ | with_reducible refine Below.drew ?_ | with_reducible refine Below.drewN' ?_ _ | with_reducible refine Below.alloc ?_ ?_ _ | with_reducible refine Below.setCell ?_ ?_ _ | (simp; done) | (simp; omega) | omega)) (hb.mono (by first | (simp; done) | (simp; omega) | omega))); clear hb; (try have z50 : w.heap.size < w5.heap.size := by omega); (try have z51 : w.heap.size + 1 < w5.heap.size := by omega); (try have z52 : w.heap.size + 1 + 1 < w5.heap.size := by omega); (try have z53 : w.heap.size + 1 + 1 + 1 < w5.heap.size := by omega); (try have z54 : w.heap.size + 1 + 1 + 1 + 1 < w5.heap.size := by omega); (try have z55 : w.heap.size + 1 + 1 + 1 + 1 + 1 < w5.heap.size := by omega); (try have z56 : w.heap.size + 1 + 1 + 1 + 1 + 1 + 1 < w5.heap.size := by omega); (try have z57 : w.heap.size + 1 + 1 + 1 + 1 + 1 + 1 + 1 < w5.heap.size := by omega))
        have y5a : w.heap.size < w5.heap.size := (by omega)
        have c5a_0 : w5.cell? ⟨w.heap.size, 0, none⟩ = some (.int .i64 (Al)) := by rw [hc5 _ _ (by first | (simp; done) | (simp; omega) | omega)]; first | assumption | (simp [go_sem, c4a_0, y4a, y4b, y4p, y4q]; done)
        have c5a_1 : w5.cell? ⟨w.heap.size, 1, none⟩ = some (.int .i64 (Ah)) := by rw [hc5 _ _ (by first | (simp; done) | (simp; omega) | omega)]; first | assumption | (simp [go_sem, c4a_1, y4a, y4b, y4p, y4q]; done)
        have y5b : w.heap.size + 1 < w5.heap.size := (by omega)
        have c5b_0 : w5.cell? ⟨w.heap.size + 1, 0, none⟩ = some (.int .i64 (Bl)) := by rw [hc5 _ _ (by first | (simp; done) | (simp; omega) | omega)]; first | assumption | (simp [go_sem, c4b_0, y4a, y4b, y4p, y4q]; done)
        have c5b_1 : w5.cell? ⟨w.heap.size + 1, 1, none⟩ = some (.int .i64 (Bh)) := by rw [hc5 _ _ (by first | (simp; done) | (simp; omega) | omega)]; first | assumption | (simp [go_sem, c4b_1, y4a, y4b, y4p, y4q]; done)
        have y5p : p < w5.heap.size := (by omega)
        have c5p_0 : w5.cell? ⟨p, 0, none⟩ = some (.int .i64 (Al)) := by rw [hc5 _ _ (by first | (simp; done) | (simp; omega) | omega)]; first | assumption | (simp [go_sem, c4p_0, y4a, y4b, y4p, y4q]; done)
        have c5p_1 : w5.cell? ⟨p, 1, none⟩ = some (.int .i64 (Ah)) := by rw [hc5 _ _ (by first | (simp; done) | (simp; omega) | omega)]; first | assumption | (simp [go_sem, c4p_1, y4a, y4b, y4p, y4q]; done)
        have y5q : q < w5.heap.size := (by omega)
        have c5q_0 : w5.cell? ⟨q, 0, none⟩ = some (.int .i64 (Bl)) := by rw [hc5 _ _ (by first | (simp; done) | (simp; omega) | omega)]; first | assumption | (simp [go_sem, c4q_0, y4a, y4b, y4p, y4q]; done)
        have c5q_1 : w5.cell? ⟨q, 1, none⟩ = some (.int .i64 (Bh)) := by rw [hc5 _ _ (by first | (simp; done) | (simp; omega) | omega)]; first | assumption | (simp [go_sem, c4q_1, y4a, y4b, y4p, y4q]; done)
        clear hc5 hf5
        go_wp2_with fail
        refine (Meet_any _ _ _ _ _).mono ?_
        rw [HM.out]
        (rintro e w6 ⟨rfl, hb⟩; obtain ⟨hc6, hf6⟩ := bcell hb; have hz6 := hb.size; (try simp at hz6); have HW6 := Lib.hid (show Below w.heap.size w w6 from Below.trans (by repeat' (first | with_reducible exact HW5.out | with_reducible exact Below.refl _ _ | with_reducible refine Below.drew ?_ | with_reducible refine Below.drewN' ?_ _ | with_reducible refine Below.alloc ?_ ?_ _ | with_reducible refine Below.setCell ?_ ?_ _ | (simp; done) | (simp; omega) | omega)) (hb.mono (by first | (simp; done) | (simp; omega) | omega))); clear hb; (try have z60 : w.heap.size < w6.heap.size := by omega); (try have z61 : w.heap.size + 1 < w6.heap.size := by omega); (try have z62 : w.heap.size + 1 + 1 < w6.heap.size := by omega); (try have z63 : w.heap.size + 1 + 1 + 1 < w6.heap.size := by omega); (try have z64 : w.heap.size + 1 + 1 + 1 + 1 < w6.heap.size := by omega); (try have z65 : w.heap.size + 1 + 1 + 1 + 1 + 1 < w6.heap.size := by omega); (try have z66 : w.heap.size + 1 + 1 + 1 + 1 + 1 + 1 < w6.heap.size := by omega); (try have z67 : w.heap.size + 1 + 1 + 1 + 1 + 1 + 1 + 1 < w6.heap.size := by omega))
        have y6a : w.heap.size < w6.heap.size := (by omega)
        have c6a_0 : w6.cell? ⟨w.heap.size, 0, none⟩ = some (.int .i64 (Al)) := by rw [hc6 _ _ (by first | (simp; done) | (simp; omega) | omega)]; first | assumption | (simp [go_sem, c5a_0, y5a, y5b, y5p, y5q]; done)
        have c6a_1 : w6.cell? ⟨w.heap.size, 1, none⟩ = some (.int .i64 (Ah)) := by rw [hc6 _ _ (by first | (simp; done) | (simp; omega) | omega)]; first | assumption | (simp [go_sem, c5a_1, y5a, y5b, y5p, y5q]; done)
        have y6b : w.heap.size + 1 < w6.heap.size := (by omega)
        have c6b_0 : w6.cell? ⟨w.heap.size + 1, 0, none⟩ = some (.int .i64 (Bl)) := by rw [hc6 _ _ (by first | (simp; done) | (simp; omega) | omega)]; first | assumption | (simp [go_sem, c5b_0, y5a, y5b, y5p, y5q]; done)
        have c6b_1 : w6.cell? ⟨w.heap.size + 1, 1, none⟩ = some (.int .i64 (Bh)) := by rw [hc6 _ _ (by first | (simp; done) | (simp; omega) | omega)]; first | assumption | (simp [go_sem, c5b_1, y5a, y5b, y5p, y5q]; done)
        have y6p : p < w6.heap.size := (by omega)
        have c6p_0 : w6.cell? ⟨p, 0, none⟩ = some (.int .i64 (Al)) := by rw [hc6 _ _ (by first | (simp; done) | (simp; omega) | omega)]; first | assumption | (simp [go_sem, c5p_0, y5a, y5b, y5p, y5q]; done)
        have c6p_1 : w6.cell? ⟨p, 1, none⟩ = some (.int .i64 (Ah)) := by rw [hc6 _ _ (by first | (simp; done) | (simp; omega) | omega)]; first | assumption | (simp [go_sem, c5p_1, y5a, y5b, y5p, y5q]; done)
        have y6q : q < w6.heap.size := (by omega)
        have c6q_0 : w6.cell? ⟨q, 0, none⟩ = some (.int .i64 (Bl)) := by rw [hc6 _ _ (by first | (simp; done) | (simp; omega) | omega)]; first | assumption | (simp [go_sem, c5q_0, y5a, y5b, y5p, y5q]; done)
        have c6q_1 : w6.cell? ⟨q, 1, none⟩ = some (.int .i64 (Bh)) := by rw [hc6 _ _ (by first | (simp; done) | (simp; omega) | omega)]; first | assumption | (simp [go_sem, c5q_1, y5a, y5b, y5p, y5q]; done)
        have y6u : w5.heap.size < w6.heap.size := (by omega)
        have c6u_0 : w6.cell? ⟨w5.heap.size, 0, none⟩ = some (.int .i64 (ml)) := by rw [hc6 _ _ (by first | (simp; done) | (simp; omega) | omega)]; first | assumption | (simp [go_sem, y5a, y5b, y5p, y5q]; done)
        have c6u_1 : w6.cell? ⟨w5.heap.size, 1, none⟩ = some (.int .i64 (mh)) := by rw [hc6 _ _ (by first | (simp; done) | (simp; omega) | omega)]; first | assumption | (simp [go_sem, y5a, y5b, y5p, y5q]; done)
        clear hc6 hf6
        go_wp2_with fail
        refine (RefAsks_any _ _).mono ?_
        rintro e w' ⟨rfl, rfl⟩
        cases ha : P.asks code
        · have ha' := Lib.hid ha
          clear ha
          go_wp2_with fail
          refine (RefNarrow_any _ _ _ _ _ RA.out.1 RA.out.2.1 RB.out.1 RB.out.2.1 RA.out.2.2 RB.out.2.2 _).mono ?_
          rw [HR.out]
          (rintro e w8 ⟨rfl, hb⟩; obtain ⟨hc8, hf8⟩ := bcell hb; have hz8 := hb.size; (try simp at hz8); have HW8 := Lib.hid (show Below w.heap.size w w8 from Below.trans (by repeat' (first | with_reducible exact HW6.out | with_reducible exact Below.refl _ _ | with_reducible refine Below.drew ?_ | with_reducible refine Below.drewN' ?_ _ | with_reducible refine Below.alloc ?_ ?_ _ | with_reducible refine Below.setCell ?_ ?_ _ | (simp; done) | (simp; omega) | omega)) (hb.mono (by first | (simp; done) | (simp; omega) | omega))); clear hb; (try have z80 : w.heap.size < w8.heap.size := by omega); (try have z81 : w.heap.size + 1 < w8.heap.size := by omega); (try have z82 : w.heap.size + 1 + 1 < w8.heap.size := by omega); (try have z83 : w.heap.size + 1 + 1 + 1 < w8.heap.size := by omega); (try have z84 : w.heap.size + 1 + 1 + 1 + 1 < w8.heap.size := by omega); (try have z85 : w.heap.size + 1 + 1 + 1 + 1 + 1 < w8.heap.size := by omega); (try have z86 : w.heap.size + 1 + 1 + 1 + 1 + 1 + 1 < w8.heap.size := by omega); (try have z87 : w.heap.size + 1 + 1 + 1 + 1 + 1 + 1 + 1 < w8.heap.size := by omega))
          have y8a : w.heap.size < w8.heap.size := (by omega)
          have c8a_0 : w8.cell? ⟨w.heap.size, 0, none⟩ = some (.int .i64 (Al)) := by rw [hc8 _ _ (by first | (simp; done) | (simp; omega) | omega)]; first | assumption | (simp [go_sem, c6a_0, y6a, y6b, y6p, y6q, y6u]; done)
          have c8a_1 : w8.cell? ⟨w.heap.size, 1, none⟩ = some (.int .i64 (Ah)) := by rw [hc8 _ _ (by first | (simp; done) | (simp; omega) | omega)]; first | assumption | (simp [go_sem, c6a_1, y6a, y6b, y6p, y6q, y6u]; done)
          have y8b : w.heap.size + 1 < w8.heap.size := (by omega)
          have c8b_0 : w8.cell? ⟨w.heap.size + 1, 0, none⟩ = some (.int .i64 (Bl)) := by rw [hc8 _ _ (by first | (simp; done) | (simp; omega) | omega)]; first | assumption | (simp [go_sem, c6b_0, y6a, y6b, y6p, y6q, y6u]; done)
          have c8b_1 : w8.cell? ⟨w.heap.size + 1, 1, none⟩ = some (.int .i64 (Bh)) := by rw [hc8 _ _ (by first | (simp; done) | (simp; omega) | omega)]; first | assumption | (simp [go_sem, c6b_1, y6a, y6b, y6p, y6q, y6u]; done)
          clear hc8 hf8
          go_wp2_with fail
          refine (Narrow_any _ _ _ _ _ RA.out.1 RA.out.2.1 RB.out.1 RB.out.2.1 _).mono ?_
          rw [HR.out]
          (rintro e w9 ⟨rfl, hb⟩; obtain ⟨hc9, hf9⟩ := bcell hb; have hz9 := hb.size; (try simp at hz9); have HW9 := Lib.hid (show Below w.heap.size w w9 from Below.trans (by repeat' (first | with_reducible exact HW8.out | with_reducible exact Below.refl _ _ | with_reducible refine Below.drew ?_ | with_reducible refine Below.drewN' ?_ _ | with_reducible refine Below.alloc ?_ ?_ _ | with_reducible refine Below.setCell ?_ ?_ _ | (simp; done) | (simp; omega) | omega)) (hb.mono (by first | (simp; done) | (simp; omega) | omega))); clear hb; (try have z90 : w.heap.size < w9.heap.size := by omega); (try have z91 : w.heap.size + 1 < w9.heap.size := by omega); (try have z92 : w.heap.size + 1 + 1 < w9.heap.size := by omega); (try have z93 : w.heap.size + 1 + 1 + 1 < w9.heap.size := by omega); (try have z94 : w.heap.size + 1 + 1 + 1 + 1 < w9.heap.size := by omega); (try have z95 : w.heap.size + 1 + 1 + 1 + 1 + 1 < w9.heap.size := by omega); (try have z96 : w.heap.size + 1 + 1 + 1 + 1 + 1 + 1 < w9.heap.size := by omega); (try have z97 : w.heap.size + 1 + 1 + 1 + 1 + 1 + 1 + 1 < w9.heap.size := by omega))
          have y9x : w8.heap.size < w9.heap.size := (by omega)
          have c9x_0 : w9.cell? ⟨w8.heap.size, 0, none⟩ = some (.int .i64 (r1)) := by rw [hc9 _ _ (by first | (simp; done) | (simp; omega) | omega)]; first | assumption | (simp [go_sem, y8a, y8b]; done)
          have c9x_1 : w9.cell? ⟨w8.heap.size, 1, none⟩ = some (.int .i64 (r2)) := by rw [hc9 _ _ (by first | (simp; done) | (simp; omega) | omega)]; first | assumption | (simp [go_sem, y8a, y8b]; done)
          have y9y : w8.heap.size + 1 < w9.heap.size := (by omega)
          have c9y_0 : w9.cell? ⟨w8.heap.size + 1, 0, none⟩ = some (.int .i64 (r3)) := by rw [hc9 _ _ (by first | (simp; done) | (simp; omega) | omega)]; first | assumption | (simp [go_sem, y8a, y8b]; done)
          have c9y_1 : w9.cell? ⟨w8.heap.size + 1, 1, none⟩ = some (.int .i64 (r4)) := by rw [hc9 _ _ (by first | (simp; done) | (simp; omega) | omega)]; first | assumption | (simp [go_sem, y8a, y8b]; done)
          clear hc9 hf9
          go_wp2_with fail
          refine (All_any _).mono ?_
          (rintro e wA ⟨rfl, hb⟩; obtain ⟨hcA, hfA⟩ := bcell hb; have hzA := hb.size; (try simp at hzA); have HWA := Lib.hid (show Below w.heap.size w wA from Below.trans (by repeat' (first | with_reducible exact HW9.out | with_reducible exact Below.refl _ _ | with_reducible refine Below.drew ?_ | with_reducible refine Below.drewN' ?_ _ | with_reducible refine Below.alloc ?_ ?_ _ | with_reducible refine Below.setCell ?_ ?_ _ | (simp; done) | (simp; omega) | omega)) (hb.mono (by first | (simp; done) | (simp; omega) | omega))); clear hb; (try have zA0 : w.heap.size < wA.heap.size := by omega); (try have zA1 : w.heap.size + 1 < wA.heap.size := by omega); (try have zA2 : w.heap.size + 1 + 1 < wA.heap.size := by omega); (try have zA3 : w.heap.size + 1 + 1 + 1 < wA.heap.size := by omega); (try have zA4 : w.heap.size + 1 + 1 + 1 + 1 < wA.heap.size := by omega); (try have zA5 : w.heap.size + 1 + 1 + 1 + 1 + 1 < wA.heap.size := by omega); (try have zA6 : w.heap.size + 1 + 1 + 1 + 1 + 1 + 1 < wA.heap.size := by omega); (try have zA7 : w.heap.size + 1 + 1 + 1 + 1 + 1 + 1 + 1 < wA.heap.size := by omega))
          clear hcA hfA
          go_wp2_with fail
          refine (Has_any _ _ _ _).mono ?_
          rw [show decide (-9223372036854775808 ≤ n ∧ n ≤ 9223372036854775807) = true from decide_eq_true RN.out]
          (rintro e wB ⟨rfl, hb⟩; obtain ⟨hcB, hfB⟩ := bcell hb; have hzB := hb.size; (try simp at hzB); have HWB := Lib.hid (show Below w.heap.size w wB from Below.trans (by repeat' (first | with_reducible exact HWA.out | with_reducible exact Below.refl _ _ | with_reducible refine Below.drew ?_ | with_reducible refine Below.drewN' ?_ _ | with_reducible refine Below.alloc ?_ ?_ _ | with_reducible refine Below.setCell ?_ ?_ _ | (simp; done) | (simp; omega) | omega)) (hb.mono (by first | (simp; done) | (simp; omega) | omega))); clear hb; (try have zB0 : w.heap.size < wB.heap.size := by omega); (try have zB1 : w.heap.size + 1 < wB.heap.size := by omega); (try have zB2 : w.heap.size + 1 + 1 < wB.heap.size := by omega); (try have zB3 : w.heap.size + 1 + 1 + 1 < wB.heap.size := by omega); (try have zB4 : w.heap.size + 1 + 1 + 1 + 1 < wB.heap.size := by omega); (try have zB5 : w.heap.size + 1 + 1 + 1 + 1 + 1 < wB.heap.size := by omega); (try have zB6 : w.heap.size + 1 + 1 + 1 + 1 + 1 + 1 < wB.heap.size := by omega); (try have zB7 : w.heap.size + 1 + 1 + 1 + 1 + 1 + 1 + 1 < wB.heap.size := by omega))
          clear hcB hfB
          go_wp2_with fail
          go_ret
          exact ⟨rfl, (by repeat' (first | with_reducible exact HWB.out | with_reducible exact Below.refl _ _ | with_reducible refine Below.drew ?_ | with_reducible refine Below.drewN' ?_ _ | with_reducible refine Below.alloc ?_ ?_ _ | with_reducible refine Below.setCell ?_ ?_ _ | (simp; done) | (simp; omega) | omega))⟩
        · have ha' := Lib.hid ha
          clear ha
          go_wp2_with fail
          refine (Opposite_any _ ha'.out _).mono ?_
          rintro e w' ⟨rfl, rfl⟩
          go_wp2_with fail
          refine (RefOpposite_any _ ha'.out _).mono ?_
          (rintro e w7 ⟨rfl, hb⟩; obtain ⟨hc7, hf7⟩ := bcell hb; have hz7 := hb.size; (try simp at hz7); have HW7 := Lib.hid (show Below w.heap.size w w7 from Below.trans (by repeat' (first | with_reducible exact HW6.out | with_reducible exact Below.refl _ _ | with_reducible refine Below.drew ?_ | with_reducible refine Below.drewN' ?_ _ | with_reducible refine Below.alloc ?_ ?_ _ | with_reducible refine Below.setCell ?_ ?_ _ | (simp; done) | (simp; omega) | omega)) (hb.mono (by first | (simp; done) | (simp; omega) | omega))); clear hb; (try have z70 : w.heap.size < w7.heap.size := by omega); (try have z71 : w.heap.size + 1 < w7.heap.size := by omega); (try have z72 : w.heap.size + 1 + 1 < w7.heap.size := by omega); (try have z73 : w.heap.size + 1 + 1 + 1 < w7.heap.size := by omega); (try have z74 : w.heap.size + 1 + 1 + 1 + 1 < w7.heap.size := by omega); (try have z75 : w.heap.size + 1 + 1 + 1 + 1 + 1 < w7.heap.size := by omega); (try have z76 : w.heap.size + 1 + 1 + 1 + 1 + 1 + 1 < w7.heap.size := by omega); (try have z77 : w.heap.size + 1 + 1 + 1 + 1 + 1 + 1 + 1 < w7.heap.size := by omega))
          have y7a : w.heap.size < w7.heap.size := (by omega)
          have c7a_0 : w7.cell? ⟨w.heap.size, 0, none⟩ = some (.int .i64 (Al)) := by rw [hc7 _ _ (by first | (simp; done) | (simp; omega) | omega)]; first | assumption | (simp [go_sem, c6a_0, y6a, y6b, y6p, y6q, y6u]; done)
          have c7a_1 : w7.cell? ⟨w.heap.size, 1, none⟩ = some (.int .i64 (Ah)) := by rw [hc7 _ _ (by first | (simp; done) | (simp; omega) | omega)]; first | assumption | (simp [go_sem, c6a_1, y6a, y6b, y6p, y6q, y6u]; done)
          have y7b : w.heap.size + 1 < w7.heap.size := (by omega)
          have c7b_0 : w7.cell? ⟨w.heap.size + 1, 0, none⟩ = some (.int .i64 (Bl)) := by rw [hc7 _ _ (by first | (simp; done) | (simp; omega) | omega)]; first | assumption | (simp [go_sem, c6b_0, y6a, y6b, y6p, y6q, y6u]; done)
          have c7b_1 : w7.cell? ⟨w.heap.size + 1, 1, none⟩ = some (.int .i64 (Bh)) := by rw [hc7 _ _ (by first | (simp; done) | (simp; omega) | omega)]; first | assumption | (simp [go_sem, c6b_1, y6a, y6b, y6p, y6q, y6u]; done)
          have y7p : p < w7.heap.size := (by omega)
          have c7p_0 : w7.cell? ⟨p, 0, none⟩ = some (.int .i64 (Al)) := by rw [hc7 _ _ (by first | (simp; done) | (simp; omega) | omega)]; first | assumption | (simp [go_sem, c6p_0, y6a, y6b, y6p, y6q, y6u]; done)
          have c7p_1 : w7.cell? ⟨p, 1, none⟩ = some (.int .i64 (Ah)) := by rw [hc7 _ _ (by first | (simp; done) | (simp; omega) | omega)]; first | assumption | (simp [go_sem, c6p_1, y6a, y6b, y6p, y6q, y6u]; done)
          have y7q : q < w7.heap.size := (by omega)
          have c7q_0 : w7.cell? ⟨q, 0, none⟩ = some (.int .i64 (Bl)) := by rw [hc7 _ _ (by first | (simp; done) | (simp; omega) | omega)]; first | assumption | (simp [go_sem, c6q_0, y6a, y6b, y6p, y6q, y6u]; done)
          have c7q_1 : w7.cell? ⟨q, 1, none⟩ = some (.int .i64 (Bh)) := by rw [hc7 _ _ (by first | (simp; done) | (simp; omega) | omega)]; first | assumption | (simp [go_sem, c6q_1, y6a, y6b, y6p, y6q, y6u]; done)
          clear hc7 hf7
          go_wp2_with fail
          refine (RefNarrow_any _ _ _ _ _ RA.out.1 RA.out.2.1 RB.out.1 RB.out.2.1 RA.out.2.2 RB.out.2.2 _).mono ?_
          rw [HR.out]
          (rintro e w8 ⟨rfl, hb⟩; obtain ⟨hc8, hf8⟩ := bcell hb; have hz8 := hb.size; (try simp at hz8); have HW8 := Lib.hid (show Below w.heap.size w w8 from Below.trans (by repeat' (first | with_reducible exact HW7.out | with_reducible exact Below.refl _ _ | with_reducible refine Below.drew ?_ | with_reducible refine Below.drewN' ?_ _ | with_reducible refine Below.alloc ?_ ?_ _ | with_reducible refine Below.setCell ?_ ?_ _ | (simp; done) | (simp; omega) | omega)) (hb.mono (by first | (simp; done) | (simp; omega) | omega))); clear hb; (try have z80 : w.heap.size < w8.heap.size := by omega); (try have z81 : w.heap.size + 1 < w8.heap.size := by omega); (try have z82 : w.heap.size + 1 + 1 < w8.heap.size := by omega); (try have z83 : w.heap.size + 1 + 1 + 1 < w8.heap.size := by omega); (try have z84 : w.heap.size + 1 + 1 + 1 + 1 < w8.heap.size := by omega); (try have z85 : w.heap.size + 1 + 1 + 1 + 1 + 1 < w8.heap.size := by omega); (try have z86 : w.heap.size + 1 + 1 + 1 + 1 + 1 + 1 < w8.heap.size := by omega); (try have z87 : w.heap.size + 1 + 1 + 1 + 1 + 1 + 1 + 1 < w8.heap.size := by omega))
          have y8a : w.heap.size < w8.heap.size := (by omega)
          have c8a_0 : w8.cell? ⟨w.heap.size, 0, none⟩ = some (.int .i64 (Al)) := by rw [hc8 _ _ (by first | (simp; done) | (simp; omega) | omega)]; first | assumption | (simp [go_sem, c7a_0, y7a, y7b, y7p, y7q]; done)
          have c8a_1 : w8.cell? ⟨w.heap.size, 1, none⟩ = some (.int .i64 (Ah)) := by rw [hc8 _ _ (by first | (simp; done) | (simp; omega) | omega)]; first | assumption | (simp [go_sem, c7a_1, y7a, y7b, y7p, y7q]; done)
          have y8b : w.heap.size + 1 < w8.heap.size := (by omega)
          have c8b_0 : w8.cell? ⟨w.heap.size + 1, 0, none⟩ = some (.int .i64 (Bl)) := by rw [hc8 _ _ (by first | (simp; done) | (simp; omega) | omega)]; first | assumption | (simp [go_sem, c7b_0, y7a, y7b, y7p, y7q]; done)
          have c8b_1 : w8.cell? ⟨w.heap.size + 1, 1, none⟩ = some (.int .i64 (Bh)) := by rw [hc8 _ _ (by first | (simp; done) | (simp; omega) | omega)]; first | assumption | (simp [go_sem, c7b_1, y7a, y7b, y7p, y7q]; done)
          clear hc8 hf8
          go_wp2_with fail
          refine (Narrow_any _ _ _ _ _ RA.out.1 RA.out.2.1 RB.out.1 RB.out.2.1 _).mono ?_
          rw [HR.out]
          (rintro e w9 ⟨rfl, hb⟩; obtain ⟨hc9, hf9⟩ := bcell hb; have hz9 := hb.size; (try simp at hz9); have HW9 := Lib.hid (show Below w.heap.size w w9 from Below.trans (by repeat' (first | with_reducible exact HW8.out | with_reducible exact Below.refl _ _ | with_reducible refine Below.drew ?_ | with_reducible refine Below.drewN' ?_ _ | with_reducible refine Below.alloc ?_ ?_ _ | with_reducible refine Below.setCell ?_ ?_ _ | (simp; done) | (simp; omega) | omega)) (hb.mono (by first | (simp; done) | (simp; omega) | omega))); clear hb; (try have z90 : w.heap.size < w9.heap.size := by omega); (try have z91 : w.heap.size + 1 < w9.heap.size := by omega); (try have z92 : w.heap.size + 1 + 1 < w9.heap.size := by omega); (try have z93 : w.heap.size + 1 + 1 + 1 < w9.heap.size := by omega); (try have z94 : w.heap.size + 1 + 1 + 1 + 1 < w9.heap.size := by omega); (try have z95 : w.heap.size + 1 + 1 + 1 + 1 + 1 < w9.heap.size := by omega); (try have z96 : w.heap.size + 1 + 1 + 1 + 1 + 1 + 1 < w9.heap.size := by omega); (try have z97 : w.heap.size + 1 + 1 + 1 + 1 + 1 + 1 + 1 < w9.heap.size := by omega))
          have y9x : w8.heap.size < w9.heap.size := (by omega)
          have c9x_0 : w9.cell? ⟨w8.heap.size, 0, none⟩ = some (.int .i64 (r1)) := by rw [hc9 _ _ (by first | (simp; done) | (simp; omega) | omega)]; first | assumption | (simp [go_sem, y8a, y8b]; done)
          have c9x_1 : w9.cell? ⟨w8.heap.size, 1, none⟩ = some (.int .i64 (r2)) := by rw [hc9 _ _ (by first | (simp; done) | (simp; omega) | omega)]; first | assumption | (simp [go_sem, y8a, y8b]; done)
          have y9y : w8.heap.size + 1 < w9.heap.size := (by omega)
          have c9y_0 : w9.cell? ⟨w8.heap.size + 1, 0, none⟩ = some (.int .i64 (r3)) := by rw [hc9 _ _ (by first | (simp; done) | (simp; omega) | omega)]; first | assumption | (simp [go_sem, y8a, y8b]; done)
          have c9y_1 : w9.cell? ⟨w8.heap.size + 1, 1, none⟩ = some (.int .i64 (r4)) := by rw [hc9 _ _ (by first | (simp; done) | (simp; omega) | omega)]; first | assumption | (simp [go_sem, y8a, y8b]; done)
          clear hc9 hf9
          go_wp2_with fail
          refine (All_any _).mono ?_
          (rintro e wA ⟨rfl, hb⟩; obtain ⟨hcA, hfA⟩ := bcell hb; have hzA := hb.size; (try simp at hzA); have HWA := Lib.hid (show Below w.heap.size w wA from Below.trans (by repeat' (first | with_reducible exact HW9.out | with_reducible exact Below.refl _ _ | with_reducible refine Below.drew ?_ | with_reducible refine Below.drewN' ?_ _ | with_reducible refine Below.alloc ?_ ?_ _ | with_reducible refine Below.setCell ?_ ?_ _ | (simp; done) | (simp; omega) | omega)) (hb.mono (by first | (simp; done) | (simp; omega) | omega))); clear hb; (try have zA0 : w.heap.size < wA.heap.size := by omega); (try have zA1 : w.heap.size + 1 < wA.heap.size := by omega); (try have zA2 : w.heap.size + 1 + 1 < wA.heap.size := by omega); (try have zA3 : w.heap.size + 1 + 1 + 1 < wA.heap.size := by omega); (try have zA4 : w.heap.size + 1 + 1 + 1 + 1 < wA.heap.size := by omega); (try have zA5 : w.heap.size + 1 + 1 + 1 + 1 + 1 < wA.heap.size := by omega); (try have zA6 : w.heap.size + 1 + 1 + 1 + 1 + 1 + 1 < wA.heap.size := by omega); (try have zA7 : w.heap.size + 1 + 1 + 1 + 1 + 1 + 1 + 1 < wA.heap.size := by omega))
          clear hcA hfA
          go_wp2_with fail
          refine (Has_any _ _ _ _).mono ?_
          rw [show decide (-9223372036854775808 ≤ n ∧ n ≤ 9223372036854775807) = true from decide_eq_true RN.out]
          (rintro e wB ⟨rfl, hb⟩; obtain ⟨hcB, hfB⟩ := bcell hb; have hzB := hb.size; (try simp at hzB); have HWB := Lib.hid (show Below w.heap.size w wB from Below.trans (by repeat' (first | with_reducible exact HWA.out | with_reducible exact Below.refl _ _ | with_reducible refine Below.drew ?_ | with_reducible refine Below.drewN' ?_ _ | with_reducible refine Below.alloc ?_ ?_ _ | with_reducible refine Below.setCell ?_ ?_ _ | (simp; done) | (simp; omega) | omega)) (hb.mono (by first | (simp; done) | (simp; omega) | omega))); clear hb; (try have zB0 : w.heap.size < wB.heap.size := by omega); (try have zB1 : w.heap.size + 1 < wB.heap.size := by omega); (try have zB2 : w.heap.size + 1 + 1 < wB.heap.size := by omega); (try have zB3 : w.heap.size + 1 + 1 + 1 < wB.heap.size := by omega); (try have zB4 : w.heap.size + 1 + 1 + 1 + 1 < wB.heap.size := by omega); (try have zB5 : w.heap.size + 1 + 1 + 1 + 1 + 1 < wB.heap.size := by omega); (try have zB6 : w.heap.size + 1 + 1 + 1 + 1 + 1 + 1 < wB.heap.size := by omega); (try have zB7 : w.heap.size + 1 + 1 + 1 + 1 + 1 + 1 + 1 < wB.heap.size := by omega))
          clear hcB hfB
          go_wp2_with fail
          go_ret
          exact ⟨rfl, (by repeat' (first | with_reducible exact HWB.out | with_reducible exact Below.refl _ _ | with_reducible refine Below.drew ?_ | with_reducible refine Below.drewN' ?_ _ | with_reducible refine Below.alloc ?_ ?_ _ | with_reducible refine Below.setCell ?_ ?_ _ | (simp; done) | (simp; omega) | omega))⟩

end Go.Proofs.YtfmcapmaebfppaaDoor.W
