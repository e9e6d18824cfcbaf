/- BoundHolds: the walk of the law over the contracts of package bound. No conditions. -/
import Derived.Test.YtfmcapmaebfppaaWalkKeep
import Derived.Test.YtfmcapmaebfppaaPureHolds
import Derived.Deep.RegionWith
import Derived.Deep.DeepCutAuto
namespace Go.Proofs.Ytfmcapmaebfppaa.W
open Go.RowKit Go.Proofs.Ytfmcapmaebfppaa.P
set_option linter.unusedSimpArgs false
set_option linter.unusedVariables false

set_option maxRecDepth 100000 in
set_option maxHeartbeats 4000000 in
theorem holds_walk (code al ah bl bh x y : Int) (i1 : In64 al) (i2 : In64 ah) (i3 : In64 bl) (i4 : In64 bh) (i5 : In64 x) (i6 : In64 y) (w : World) :
    Calls Try.prog 5 #[.int .i64 code, .agg #[.int .i64 al, .int .i64 ah], .agg #[.int .i64 bl, .int .i64 bh], .int .i64 x, .int .i64 y] w fun e w' => e = .returned (.bool true) ∧ Below w.heap.size w w' := by
  have HW0 := Lib.hid (Below.refl w.heap.size w)
  have RA := Lib.hid (row_ok i1 i2 i5)
  have RB := Lib.hid (row_ok i3 i4 i6)
  clear i1 i2 i3 i4 i5 i6
  go_enter Try.func5, Try.ntmps5
  go_wp2_with fail
  refine (bounded_any _).mono ?_
  (rintro e w1 ⟨rfl, hb⟩; obtain ⟨hc1, hf1⟩ := bcell hb; have hz1 := hb.size; (try simp at hz1); have HW1 := Lib.hid (show Below w.heap.size w w1 from Below.trans (by repeat' (first | with_reducible exact HW0.out | with_reducible exact Below.refl _ _ | with_reducible refine Below.drew ?_ | with_reducible refine Below.drewN' ?_ _ | with_reducible refine Below.alloc ?_ ?_ _ | with_reducible refine Below.setCell ?_ ?_ _ | (simp; done) | (simp; omega) | omega)) (hb.mono (by first | (simp; done) | (simp; omega) | omega))); clear hb; (try have z10 : w.heap.size < w1.heap.size := by omega); (try have z11 : w.heap.size + 1 < w1.heap.size := by omega); (try have z12 : w.heap.size + 1 + 1 < w1.heap.size := by omega); (try have z13 : w.heap.size + 1 + 1 + 1 < w1.heap.size := by omega); (try have z14 : w.heap.size + 1 + 1 + 1 + 1 < w1.heap.size := by omega); (try have z15 : w.heap.size + 1 + 1 + 1 + 1 + 1 < w1.heap.size := by omega); (try have z16 : w.heap.size + 1 + 1 + 1 + 1 + 1 + 1 < w1.heap.size := by omega); (try have z17 : w.heap.size + 1 + 1 + 1 + 1 + 1 + 1 + 1 < w1.heap.size := by omega))
  have c1_0_0 : w1.cell? ⟨w.heap.size, 0, none⟩ = some (.int .i64 (al)) := by simp [go_sem, hc1]
  have r1_0_0 : w1.frozen? ⟨w.heap.size, 0, none⟩ = false := by simp [go_sem, hf1]
  have c1_0_1 : w1.cell? ⟨w.heap.size, 1, none⟩ = some (.int .i64 (ah)) := by simp [go_sem, hc1]
  have r1_0_1 : w1.frozen? ⟨w.heap.size, 1, none⟩ = false := by simp [go_sem, hf1]
  have c1_1_0 : w1.cell? ⟨w.heap.size + 1, 0, none⟩ = some (.int .i64 (bl)) := by simp [go_sem, hc1]
  have r1_1_0 : w1.frozen? ⟨w.heap.size + 1, 0, none⟩ = false := by simp [go_sem, hf1]
  have c1_1_1 : w1.cell? ⟨w.heap.size + 1, 1, none⟩ = some (.int .i64 (bh)) := by simp [go_sem, hc1]
  have r1_1_1 : w1.frozen? ⟨w.heap.size + 1, 1, none⟩ = false := by simp [go_sem, hf1]
  clear hc1 hf1
  go_wp2_with fail
  go_cut [] (fun wr => wr.cell? ⟨w.heap.size, 0, none⟩ = some (.int .i64 (min al (min ah x))) ∧ wr.frozen? ⟨w.heap.size, 0, none⟩ = false ∧ wr.cell? ⟨w.heap.size, 1, none⟩ = some (.int .i64 (max al (max ah x))) ∧ wr.frozen? ⟨w.heap.size, 1, none⟩ = false ∧ wr.cell? ⟨w.heap.size + 1, 0, none⟩ = some (.int .i64 (min bl (min bh y))) ∧ wr.frozen? ⟨w.heap.size + 1, 0, none⟩ = false ∧ wr.cell? ⟨w.heap.size + 1, 1, none⟩ = some (.int .i64 (max bl (max bh y))) ∧ wr.frozen? ⟨w.heap.size + 1, 1, none⟩ = false ∧ w.heap.size + 1 < wr.heap.size ∧ Below w.heap.size w wr)
  case first =>
    go_region_with (first | (go_at_call 16; refine (row_any _ _ _ _).mono ?_; rintro e w2 ⟨rfl, hb⟩; obtain ⟨hc, hf⟩ := bcell hb; have hz := hb.size; (try simp at hz); (try have z0 : w.heap.size < w2.heap.size := (by omega)); (try have z1 : w.heap.size + 1 < w2.heap.size := (by omega)); have hwn : Below w.heap.size w w2 := (by first | exact Below.trans (Below.drew HW1.out) (hb.mono (by first | (simp; done) | (simp; omega) | omega)) | exact Below.trans hwn (hb.mono (by first | (simp; done) | (simp; omega) | omega))); clear hb; have d00 : w2.cell? ⟨w.heap.size, 0, none⟩ = some (.int .i64 al) := (by rw [hc _ _ (by first | (simp; done) | (simp; omega) | omega)]; simp [go_sem, *]); have f00 : w2.frozen? ⟨w.heap.size, 0, none⟩ = false := (by rw [hf _ _ (by first | (simp; done) | (simp; omega) | omega)]; simp [go_sem, *]); have d01 : w2.cell? ⟨w.heap.size, 1, none⟩ = some (.int .i64 ah) := (by rw [hc _ _ (by first | (simp; done) | (simp; omega) | omega)]; simp [go_sem, *]); have f01 : w2.frozen? ⟨w.heap.size, 1, none⟩ = false := (by rw [hf _ _ (by first | (simp; done) | (simp; omega) | omega)]; simp [go_sem, *]); have d10 : w2.cell? ⟨w.heap.size + 1, 0, none⟩ = some (.int .i64 bl) := (by rw [hc _ _ (by first | (simp; done) | (simp; omega) | omega)]; simp [go_sem, *]); have f10 : w2.frozen? ⟨w.heap.size + 1, 0, none⟩ = false := (by rw [hf _ _ (by first | (simp; done) | (simp; omega) | omega)]; simp [go_sem, *]); have d11 : w2.cell? ⟨w.heap.size + 1, 1, none⟩ = some (.int .i64 bh) := (by rw [hc _ _ (by first | (simp; done) | (simp; omega) | omega)]; simp [go_sem, *]); have f11 : w2.frozen? ⟨w.heap.size + 1, 1, none⟩ = false := (by rw [hf _ _ (by first | (simp; done) | (simp; omega) | omega)]; simp [go_sem, *]); clear hc hf))
    all_goals
      go_wp2_with fail
      go_meet
      refine ⟨?_, ?_, ?_, ?_, ?_, ?_, ?_, ?_, ?_, ?_⟩
      all_goals (first | (simp [go_sem, *]; done) | (simp; omega) | skip)
      repeat' (first | with_reducible exact hwn | with_reducible refine Below.setCell ?_ ?_ _ | (simp; done) | (simp; omega) | omega)
  case rest =>
    obtain ⟨cc_0_0, rc_0_0, cc_0_1, rc_0_1, cc_1_0, rc_1_0, cc_1_1, rc_1_1, zzc, HBc⟩ := hcut
    generalize min al (min ah x) = Al at *
    generalize max al (max ah x) = Ah at *
    generalize min bl (min bh y) = Bl at *
    generalize max bl (max bh y) = Bh at *
    have HWc := Lib.hid HBc
    clear HBc
    have zc0 : w.heap.size < wc.heap.size := by omega
    go_wp2_with fail
    go_loopw [11] (fun i wr => ∃ k : Nat, 1 ≤ k ∧ k ≤ 14 ∧ i = .int .i64 k ∧ wr.cell? ⟨w.heap.size, 0, none⟩ = some (.int .i64 (Al)) ∧ wr.frozen? ⟨w.heap.size, 0, none⟩ = false ∧ wr.cell? ⟨w.heap.size, 1, none⟩ = some (.int .i64 (Ah)) ∧ wr.frozen? ⟨w.heap.size, 1, none⟩ = false ∧ wr.cell? ⟨w.heap.size + 1, 0, none⟩ = some (.int .i64 (Bl)) ∧ wr.frozen? ⟨w.heap.size + 1, 0, none⟩ = false ∧ wr.cell? ⟨w.heap.size + 1, 1, none⟩ = some (.int .i64 (Bh)) ∧ wr.frozen? ⟨w.heap.size + 1, 1, none⟩ = false ∧ w.heap.size + 1 < wr.heap.size ∧ Below w.heap.size w wr) (fun i _ => 14 - (intOf i).toNat)
    case atStart => exact ⟨1, by omega, by omega, rfl, cc_0_0, rc_0_0, cc_0_1, rc_0_1, cc_1_0, rc_1_0, cc_1_1, rc_1_1, zzc, HWc.out⟩
    case round =>
      obtain ⟨k, hk1, hk, rfl, cr_0_0, rr_0_0, cr_0_1, rr_0_1, cr_1_0, rr_1_0, cr_1_1, rr_1_1, zzr, HBr⟩ := hrel
      have HWr := Lib.hid HBr
      clear HBr
      have zr0 : w.heap.size < wr.heap.size := by omega
      by_cases h : k ≤ 13
      · have HD := Lib.hid (holds_does RA.out.1 RB.out.1 RA.out.2 RB.out.2 k)
        go_wp2_with fail
        refine (BDoes_any _ _ _ _ _ RA.out.1.1 RA.out.1.2.1 RB.out.1.1 RB.out.1.2.1 RA.out.1.2.2 RB.out.1.2.2 _).mono ?_
        (rintro e w2 ⟨rfl, hb⟩; obtain ⟨hc2, hf2⟩ := bcell hb; have hz2 := hb.size; (try simp at hz2); have HW2 := Lib.hid (show Below w.heap.size w w2 from Below.trans (by repeat' (first | with_reducible exact HWr.out | with_reducible exact Below.refl _ _ | with_reducible refine Below.drew ?_ | with_reducible refine Below.drewN' ?_ _ | with_reducible refine Below.alloc ?_ ?_ _ | with_reducible refine Below.setCell ?_ ?_ _ | (simp; done) | (simp; omega) | omega)) (hb.mono (by first | (simp; done) | (simp; omega) | omega))); clear hb; (try have z20 : w.heap.size < w2.heap.size := by omega); (try have z21 : w.heap.size + 1 < w2.heap.size := by omega); (try have z22 : w.heap.size + 1 + 1 < w2.heap.size := by omega); (try have z23 : w.heap.size + 1 + 1 + 1 < w2.heap.size := by omega); (try have z24 : w.heap.size + 1 + 1 + 1 + 1 < w2.heap.size := by omega); (try have z25 : w.heap.size + 1 + 1 + 1 + 1 + 1 < w2.heap.size := by omega); (try have z26 : w.heap.size + 1 + 1 + 1 + 1 + 1 + 1 < w2.heap.size := by omega); (try have z27 : w.heap.size + 1 + 1 + 1 + 1 + 1 + 1 + 1 < w2.heap.size := by omega))
        have c2_0_0 : w2.cell? ⟨w.heap.size, 0, none⟩ = some (.int .i64 (Al)) := by simp [go_sem, hc2, zr0, zzr, cr_0_0, cr_0_1, cr_1_0, cr_1_1]
        have r2_0_0 : w2.frozen? ⟨w.heap.size, 0, none⟩ = false := by simp [go_sem, hf2, zr0, zzr, rr_0_0, rr_0_1, rr_1_0, rr_1_1]
        have c2_0_1 : w2.cell? ⟨w.heap.size, 1, none⟩ = some (.int .i64 (Ah)) := by simp [go_sem, hc2, zr0, zzr, cr_0_0, cr_0_1, cr_1_0, cr_1_1]
        have r2_0_1 : w2.frozen? ⟨w.heap.size, 1, none⟩ = false := by simp [go_sem, hf2, zr0, zzr, rr_0_0, rr_0_1, rr_1_0, rr_1_1]
        have c2_1_0 : w2.cell? ⟨w.heap.size + 1, 0, none⟩ = some (.int .i64 (Bl)) := by simp [go_sem, hc2, zr0, zzr, cr_0_0, cr_0_1, cr_1_0, cr_1_1]
        have r2_1_0 : w2.frozen? ⟨w.heap.size + 1, 0, none⟩ = false := by simp [go_sem, hf2, zr0, zzr, rr_0_0, rr_0_1, rr_1_0, rr_1_1]
        have c2_1_1 : w2.cell? ⟨w.heap.size + 1, 1, none⟩ = some (.int .i64 (Bh)) := by simp [go_sem, hc2, zr0, zzr, cr_0_0, cr_0_1, cr_1_0, cr_1_1]
        have r2_1_1 : w2.frozen? ⟨w.heap.size + 1, 1, none⟩ = false := by simp [go_sem, hf2, zr0, zzr, rr_0_0, rr_0_1, rr_1_0, rr_1_1]
        clear hc2 hf2
        go_wp2_with fail
        refine (Does_any _ _ _ _).mono ?_
        rintro e w' ⟨rfl, rfl⟩
        go_wp2_with fail
        refine (Has_any _ _ _ _).mono ?_
        rw [HD.out]
        (rintro e w3 ⟨rfl, hb⟩; obtain ⟨hc3, hf3⟩ := bcell hb; have hz3 := hb.size; (try simp at hz3); have HW3 := Lib.hid (show Below w.heap.size w w3 from Below.trans (by repeat' (first | with_reducible exact HW2.out | with_reducible exact Below.refl _ _ | with_reducible refine Below.drew ?_ | with_reducible refine Below.drewN' ?_ _ | with_reducible refine Below.alloc ?_ ?_ _ | with_reducible refine Below.setCell ?_ ?_ _ | (simp; done) | (simp; omega) | omega)) (hb.mono (by first | (simp; done) | (simp; omega) | omega))); clear hb; (try have z30 : w.heap.size < w3.heap.size := by omega); (try have z31 : w.heap.size + 1 < w3.heap.size := by omega); (try have z32 : w.heap.size + 1 + 1 < w3.heap.size := by omega); (try have z33 : w.heap.size + 1 + 1 + 1 < w3.heap.size := by omega); (try have z34 : w.heap.size + 1 + 1 + 1 + 1 < w3.heap.size := by omega); (try have z35 : w.heap.size + 1 + 1 + 1 + 1 + 1 < w3.heap.size := by omega); (try have z36 : w.heap.size + 1 + 1 + 1 + 1 + 1 + 1 < w3.heap.size := by omega); (try have z37 : w.heap.size + 1 + 1 + 1 + 1 + 1 + 1 + 1 < w3.heap.size := by omega))
        have c3_0_0 : w3.cell? ⟨w.heap.size, 0, none⟩ = some (.int .i64 (Al)) := by simp [go_sem, hc3, z20, z21, c2_0_0, c2_0_1, c2_1_0, c2_1_1]
        have r3_0_0 : w3.frozen? ⟨w.heap.size, 0, none⟩ = false := by simp [go_sem, hf3, z20, z21, r2_0_0, r2_0_1, r2_1_0, r2_1_1]
        have c3_0_1 : w3.cell? ⟨w.heap.size, 1, none⟩ = some (.int .i64 (Ah)) := by simp [go_sem, hc3, z20, z21, c2_0_0, c2_0_1, c2_1_0, c2_1_1]
        have r3_0_1 : w3.frozen? ⟨w.heap.size, 1, none⟩ = false := by simp [go_sem, hf3, z20, z21, r2_0_0, r2_0_1, r2_1_0, r2_1_1]
        have c3_1_0 : w3.cell? ⟨w.heap.size + 1, 0, none⟩ = some (.int .i64 (Bl)) := by simp [go_sem, hc3, z20, z21, c2_0_0, c2_0_1, c2_1_0, c2_1_1]
        have r3_1_0 : w3.frozen? ⟨w.heap.size + 1, 0, none⟩ = false := by simp [go_sem, hf3, z20, z21, r2_0_0, r2_0_1, r2_1_0, r2_1_1]
        have c3_1_1 : w3.cell? ⟨w.heap.size + 1, 1, none⟩ = some (.int .i64 (Bh)) := by simp [go_sem, hc3, z20, z21, c2_0_0, c2_0_1, c2_1_0, c2_1_1]
        have r3_1_1 : w3.frozen? ⟨w.heap.size + 1, 1, none⟩ = false := by simp [go_sem, hf3, z20, z21, r2_0_0, r2_0_1, r2_1_0, r2_1_1]
        clear hc3 hf3
        go_wp2_with fail
        go_roundw
        case rel => exact ⟨k + 1, by omega, by omega, by go_num, c3_0_0, r3_0_0, c3_0_1, r3_0_1, c3_1_0, r3_1_0, c3_1_1, r3_1_1, z31, HW3.out⟩
        case measure => simp [intOf]; omega
      · go_wp2_with fail
        refine (pick_any _ _).mono ?_
        rintro e w' ⟨rfl, rfl⟩
        have p0 : 0 ≤ u code % 10 := by omega
        have p1 : u code % 10 ≤ 9 := by omega
        generalize u code % 10 = p at *
        have ha : P.asks (15 + p) = true := by simp [P.asks]; omega
        have HA := Lib.hid ha
        have ho := holds_opp ha x y
        have ho1 := ho.1
        have ho2 := ho.2
        clear ha ho
        go_wp2_with (first | (go_at_call 8; refine (Is_any _ _ _ _).mono ?_; rintro e w' ⟨rfl, rfl⟩) | (go_at_call 20; refine (Opposite_any _ (by first | exact HA.out | exact opp_asks HA.out) _).mono ?_; rintro e w' ⟨rfl, rfl⟩))
        have NS := Lib.hid (fun (h : P.is (15 + p) x y = true) => bnarrow_sound RA.out.1 RB.out.1 RA.out.2 RB.out.2 h)
        have NL := Lib.hid (fun (h : (bnarrow (15 + p) _ _).2.2 = true) => bnarrow_le RA.out.1 RB.out.1 h)
        refine (Narrow_any _ _ _ _ _ RA.out.1.1 RA.out.1.2.1 RB.out.1.1 RB.out.1.2.1 _).mono ?_
        generalize bnarrow (15 + p) ⟨Al, Ah⟩ ⟨Bl, Bh⟩ = r at NS NL ⊢
        obtain ⟨⟨pl, ph⟩, ⟨ql, qh⟩, ok⟩ := r
        (rintro e w4 ⟨rfl, hb⟩; obtain ⟨hc4, hf4⟩ := bcell hb; have hz4 := hb.size; (try simp at hz4); have HW4 := Lib.hid (show Below w.heap.size w w4 from Below.trans (by repeat' (first | with_reducible exact HWr.out | with_reducible exact Below.refl _ _ | with_reducible refine Below.drew ?_ | with_reducible refine Below.drewN' ?_ _ | with_reducible refine Below.alloc ?_ ?_ _ | with_reducible refine Below.setCell ?_ ?_ _ | (simp; done) | (simp; omega) | omega)) (hb.mono (by first | (simp; done) | (simp; omega) | omega))); clear hb; (try have z40 : w.heap.size < w4.heap.size := by omega); (try have z41 : w.heap.size + 1 < w4.heap.size := by omega); (try have z42 : w.heap.size + 1 + 1 < w4.heap.size := by omega); (try have z43 : w.heap.size + 1 + 1 + 1 < w4.heap.size := by omega); (try have z44 : w.heap.size + 1 + 1 + 1 + 1 < w4.heap.size := by omega); (try have z45 : w.heap.size + 1 + 1 + 1 + 1 + 1 < w4.heap.size := by omega); (try have z46 : w.heap.size + 1 + 1 + 1 + 1 + 1 + 1 < w4.heap.size := by omega); (try have z47 : w.heap.size + 1 + 1 + 1 + 1 + 1 + 1 + 1 < w4.heap.size := by omega))
        have c4_0_0 : w4.cell? ⟨w.heap.size, 0, none⟩ = some (.int .i64 (Al)) := by simp [go_sem, hc4, zr0, zzr, cr_0_0, cr_0_1, cr_1_0, cr_1_1]
        have r4_0_0 : w4.frozen? ⟨w.heap.size, 0, none⟩ = false := by simp [go_sem, hf4, zr0, zzr, rr_0_0, rr_0_1, rr_1_0, rr_1_1]
        have c4_0_1 : w4.cell? ⟨w.heap.size, 1, none⟩ = some (.int .i64 (Ah)) := by simp [go_sem, hc4, zr0, zzr, cr_0_0, cr_0_1, cr_1_0, cr_1_1]
        have r4_0_1 : w4.frozen? ⟨w.heap.size, 1, none⟩ = false := by simp [go_sem, hf4, zr0, zzr, rr_0_0, rr_0_1, rr_1_0, rr_1_1]
        have c4_1_0 : w4.cell? ⟨w.heap.size + 1, 0, none⟩ = some (.int .i64 (Bl)) := by simp [go_sem, hc4, zr0, zzr, cr_0_0, cr_0_1, cr_1_0, cr_1_1]
        have r4_1_0 : w4.frozen? ⟨w.heap.size + 1, 0, none⟩ = false := by simp [go_sem, hf4, zr0, zzr, rr_0_0, rr_0_1, rr_1_0, rr_1_1]
        have c4_1_1 : w4.cell? ⟨w.heap.size + 1, 1, none⟩ = some (.int .i64 (Bh)) := by simp [go_sem, hc4, zr0, zzr, cr_0_0, cr_0_1, cr_1_0, cr_1_1]
        have r4_1_1 : w4.frozen? ⟨w.heap.size + 1, 1, none⟩ = false := by simp [go_sem, hf4, zr0, zzr, rr_0_0, rr_0_1, rr_1_0, rr_1_1]
        clear hc4 hf4
        cases ok
        · have n0 : P.is (15 + p) x y = false := by
            cases hq : P.is (15 + p) x y
            · rfl
            · exact absurd (NS.out hq).1 (by simp)
          go_wp2_with (first | (go_at_call 8; refine (Is_any _ _ _ _).mono ?_; rintro e w' ⟨rfl, rfl⟩))
          have cta_0 := c4_0_0; have cta_1 := c4_0_1; have ctb_0 := c4_1_0; have ctb_1 := c4_1_1; have yta := z40; have ytb := z41; have HWt := HW4
          have MM := Lib.hid (holds_meet RA.out.1 RB.out.1)
          have MH := Lib.hid (fun (h : (bmeet _ _).2 = true) => holds_meet_has (a := ⟨Al, Ah⟩) (b := ⟨Bl, Bh⟩) h)
          refine (Meet_any _ _ _ _ _).mono ?_
          generalize bmeet ⟨Al, Ah⟩ ⟨Bl, Bh⟩ = m at MM MH ⊢
          obtain ⟨⟨ml, mh⟩, met⟩ := m
          (rintro e w5 ⟨rfl, hb⟩; obtain ⟨hc5, hf5⟩ := bcell hb; have hz5 := hb.size; (try simp at hz5); have HW5 := Lib.hid (show Below w.heap.size w w5 from Below.trans (by repeat' (first | with_reducible exact HWt.out | with_reducible exact Below.refl _ _ | with_reducible refine Below.drew ?_ | with_reducible refine Below.drewN' ?_ _ | with_reducible refine Below.alloc ?_ ?_ _ | with_reducible refine Below.setCell ?_ ?_ _ | (simp; done) | (simp; omega) | omega)) (hb.mono (by first | (simp; done) | (simp; omega) | omega))); clear hb; (try have z50 : w.heap.size < w5.heap.size := by omega); (try have z51 : w.heap.size + 1 < w5.heap.size := by omega); (try have z52 : w.heap.size + 1 + 1 < w5.heap.size := by omega); (try have z53 : w.heap.size + 1 + 1 + 1 < w5.heap.size := by omega); (try have z54 : w.heap.size + 1 + 1 + 1 + 1 < w5.heap.size := by omega); (try have z55 : w.heap.size + 1 + 1 + 1 + 1 + 1 < w5.heap.size := by omega); (try have z56 : w.heap.size + 1 + 1 + 1 + 1 + 1 + 1 < w5.heap.size := by omega); (try have z57 : w.heap.size + 1 + 1 + 1 + 1 + 1 + 1 + 1 < w5.heap.size := by omega))
          have y5a : w.heap.size < w5.heap.size := (by omega)
          have c5a_0 : w5.cell? ⟨w.heap.size, 0, none⟩ = some (.int .i64 (Al)) := by rw [hc5 _ _ (by first | (simp; done) | (simp; omega) | omega)]; first | done | (simp [go_sem, cta_0, yta, yta, ytb]; done) | assumption
          have c5a_1 : w5.cell? ⟨w.heap.size, 1, none⟩ = some (.int .i64 (Ah)) := by rw [hc5 _ _ (by first | (simp; done) | (simp; omega) | omega)]; first | done | (simp [go_sem, cta_1, yta, yta, ytb]; done) | assumption
          have y5b : w.heap.size + 1 < w5.heap.size := (by omega)
          have c5b_0 : w5.cell? ⟨w.heap.size + 1, 0, none⟩ = some (.int .i64 (Bl)) := by rw [hc5 _ _ (by first | (simp; done) | (simp; omega) | omega)]; first | done | (simp [go_sem, ctb_0, ytb, yta, ytb]; done) | assumption
          have c5b_1 : w5.cell? ⟨w.heap.size + 1, 1, none⟩ = some (.int .i64 (Bh)) := by rw [hc5 _ _ (by first | (simp; done) | (simp; omega) | omega)]; first | done | (simp [go_sem, ctb_1, ytb, yta, ytb]; done) | assumption
          clear hc5 hf5
          go_wp2_with fail
          refine (Join_any _ _ _ _ _).mono ?_
          (rintro e w6 ⟨rfl, hb⟩; obtain ⟨hc6, hf6⟩ := bcell hb; have hz6 := hb.size; (try simp at hz6); have HW6 := Lib.hid (show Below w.heap.size w w6 from Below.trans (by repeat' (first | with_reducible exact HW5.out | with_reducible exact Below.refl _ _ | with_reducible refine Below.drew ?_ | with_reducible refine Below.drewN' ?_ _ | with_reducible refine Below.alloc ?_ ?_ _ | with_reducible refine Below.setCell ?_ ?_ _ | (simp; done) | (simp; omega) | omega)) (hb.mono (by first | (simp; done) | (simp; omega) | omega))); clear hb; (try have z60 : w.heap.size < w6.heap.size := by omega); (try have z61 : w.heap.size + 1 < w6.heap.size := by omega); (try have z62 : w.heap.size + 1 + 1 < w6.heap.size := by omega); (try have z63 : w.heap.size + 1 + 1 + 1 < w6.heap.size := by omega); (try have z64 : w.heap.size + 1 + 1 + 1 + 1 < w6.heap.size := by omega); (try have z65 : w.heap.size + 1 + 1 + 1 + 1 + 1 < w6.heap.size := by omega); (try have z66 : w.heap.size + 1 + 1 + 1 + 1 + 1 + 1 < w6.heap.size := by omega); (try have z67 : w.heap.size + 1 + 1 + 1 + 1 + 1 + 1 + 1 < w6.heap.size := by omega))
          have y6a : w.heap.size < w6.heap.size := (by omega)
          have c6a_0 : w6.cell? ⟨w.heap.size, 0, none⟩ = some (.int .i64 (Al)) := by rw [hc6 _ _ (by first | (simp; done) | (simp; omega) | omega)]; first | done | (simp [go_sem, c5a_0, y5a, y5a, y5b]; done) | assumption
          have c6a_1 : w6.cell? ⟨w.heap.size, 1, none⟩ = some (.int .i64 (Ah)) := by rw [hc6 _ _ (by first | (simp; done) | (simp; omega) | omega)]; first | done | (simp [go_sem, c5a_1, y5a, y5a, y5b]; done) | assumption
          have y6b : w.heap.size + 1 < w6.heap.size := (by omega)
          have c6b_0 : w6.cell? ⟨w.heap.size + 1, 0, none⟩ = some (.int .i64 (Bl)) := by rw [hc6 _ _ (by first | (simp; done) | (simp; omega) | omega)]; first | done | (simp [go_sem, c5b_0, y5b, y5a, y5b]; done) | assumption
          have c6b_1 : w6.cell? ⟨w.heap.size + 1, 1, none⟩ = some (.int .i64 (Bh)) := by rw [hc6 _ _ (by first | (simp; done) | (simp; omega) | omega)]; first | done | (simp [go_sem, c5b_1, y5b, y5a, y5b]; done) | assumption
          have y6m : w5.heap.size < w6.heap.size := (by omega)
          have c6m_0 : w6.cell? ⟨w5.heap.size, 0, none⟩ = some (.int .i64 (ml)) := by rw [hc6 _ _ (by first | (simp; done) | (simp; omega) | omega)]; first | done | (simp [go_sem, y5a, y5b]; done) | assumption
          have c6m_1 : w6.cell? ⟨w5.heap.size, 1, none⟩ = some (.int .i64 (mh)) := by rw [hc6 _ _ (by first | (simp; done) | (simp; omega) | omega)]; first | done | (simp [go_sem, y5a, y5b]; done) | assumption
          clear hc6 hf6
          have J1 : decide (min (Al) (Bl) ≤ x ∧ x ≤ max (Ah) (Bh)) = true := by have h1 := RA.out.2; unfold B.Has at h1; simp only at h1; rw [decide_eq_true_iff]; omega
          have J2 : decide (min (Al) (Bl) ≤ y ∧ y ≤ max (Ah) (Bh)) = true := by have h1 := RB.out.2; unfold B.Has at h1; simp only at h1; rw [decide_eq_true_iff]; omega
          have HJ1 := Lib.hid J1; have HJ2 := Lib.hid J2; clear J1 J2
          go_wp2_with fail
          refine (Has_any _ _ _ _).mono ?_
          rw [HJ1.out]
          (rintro e w7 ⟨rfl, hb⟩; obtain ⟨hc7, hf7⟩ := bcell hb; have hz7 := hb.size; (try simp at hz7); have HW7 := Lib.hid (show Below w.heap.size w w7 from Below.trans (by repeat' (first | with_reducible exact HW6.out | with_reducible exact Below.refl _ _ | with_reducible refine Below.drew ?_ | with_reducible refine Below.drewN' ?_ _ | with_reducible refine Below.alloc ?_ ?_ _ | with_reducible refine Below.setCell ?_ ?_ _ | (simp; done) | (simp; omega) | omega)) (hb.mono (by first | (simp; done) | (simp; omega) | omega))); clear hb; (try have z70 : w.heap.size < w7.heap.size := by omega); (try have z71 : w.heap.size + 1 < w7.heap.size := by omega); (try have z72 : w.heap.size + 1 + 1 < w7.heap.size := by omega); (try have z73 : w.heap.size + 1 + 1 + 1 < w7.heap.size := by omega); (try have z74 : w.heap.size + 1 + 1 + 1 + 1 < w7.heap.size := by omega); (try have z75 : w.heap.size + 1 + 1 + 1 + 1 + 1 < w7.heap.size := by omega); (try have z76 : w.heap.size + 1 + 1 + 1 + 1 + 1 + 1 < w7.heap.size := by omega); (try have z77 : w.heap.size + 1 + 1 + 1 + 1 + 1 + 1 + 1 < w7.heap.size := by omega))
          have y7a : w.heap.size < w7.heap.size := (by omega)
          have c7a_0 : w7.cell? ⟨w.heap.size, 0, none⟩ = some (.int .i64 (Al)) := by rw [hc7 _ _ (by first | (simp; done) | (simp; omega) | omega)]; first | done | (simp [go_sem, c6a_0, y6a, y6a, y6b, y6m]; done) | assumption
          have c7a_1 : w7.cell? ⟨w.heap.size, 1, none⟩ = some (.int .i64 (Ah)) := by rw [hc7 _ _ (by first | (simp; done) | (simp; omega) | omega)]; first | done | (simp [go_sem, c6a_1, y6a, y6a, y6b, y6m]; done) | assumption
          have y7b : w.heap.size + 1 < w7.heap.size := (by omega)
          have c7b_0 : w7.cell? ⟨w.heap.size + 1, 0, none⟩ = some (.int .i64 (Bl)) := by rw [hc7 _ _ (by first | (simp; done) | (simp; omega) | omega)]; first | done | (simp [go_sem, c6b_0, y6b, y6a, y6b, y6m]; done) | assumption
          have c7b_1 : w7.cell? ⟨w.heap.size + 1, 1, none⟩ = some (.int .i64 (Bh)) := by rw [hc7 _ _ (by first | (simp; done) | (simp; omega) | omega)]; first | done | (simp [go_sem, c6b_1, y6b, y6a, y6b, y6m]; done) | assumption
          have y7m : w5.heap.size < w7.heap.size := (by omega)
          have c7m_0 : w7.cell? ⟨w5.heap.size, 0, none⟩ = some (.int .i64 (ml)) := by rw [hc7 _ _ (by first | (simp; done) | (simp; omega) | omega)]; first | done | (simp [go_sem, c6m_0, y6m, y6a, y6b, y6m]; done) | assumption
          have c7m_1 : w7.cell? ⟨w5.heap.size, 1, none⟩ = some (.int .i64 (mh)) := by rw [hc7 _ _ (by first | (simp; done) | (simp; omega) | omega)]; first | done | (simp [go_sem, c6m_1, y6m, y6a, y6b, y6m]; done) | assumption
          have y7j : w6.heap.size < w7.heap.size := (by omega)
          have c7j_0 : w7.cell? ⟨w6.heap.size, 0, none⟩ = some (.int .i64 (min (Al) (Bl))) := by rw [hc7 _ _ (by first | (simp; done) | (simp; omega) | omega)]; first | done | (simp [go_sem, y6a, y6b, y6m]; done) | assumption
          have c7j_1 : w7.cell? ⟨w6.heap.size, 1, none⟩ = some (.int .i64 (max (Ah) (Bh))) := by rw [hc7 _ _ (by first | (simp; done) | (simp; omega) | omega)]; first | done | (simp [go_sem, y6a, y6b, y6m]; done) | assumption
          clear hc7 hf7
          go_wp2_with fail
          refine (Has_any _ _ _ _).mono ?_
          rw [HJ2.out]
          (rintro e w8 ⟨rfl, hb⟩; obtain ⟨hc8, hf8⟩ := bcell hb; have hz8 := hb.size; (try simp at hz8); have HW8 := Lib.hid (show Below w.heap.size w w8 from Below.trans (by repeat' (first | with_reducible exact HW7.out | with_reducible exact Below.refl _ _ | with_reducible refine Below.drew ?_ | with_reducible refine Below.drewN' ?_ _ | with_reducible refine Below.alloc ?_ ?_ _ | with_reducible refine Below.setCell ?_ ?_ _ | (simp; done) | (simp; omega) | omega)) (hb.mono (by first | (simp; done) | (simp; omega) | omega))); clear hb; (try have z80 : w.heap.size < w8.heap.size := by omega); (try have z81 : w.heap.size + 1 < w8.heap.size := by omega); (try have z82 : w.heap.size + 1 + 1 < w8.heap.size := by omega); (try have z83 : w.heap.size + 1 + 1 + 1 < w8.heap.size := by omega); (try have z84 : w.heap.size + 1 + 1 + 1 + 1 < w8.heap.size := by omega); (try have z85 : w.heap.size + 1 + 1 + 1 + 1 + 1 < w8.heap.size := by omega); (try have z86 : w.heap.size + 1 + 1 + 1 + 1 + 1 + 1 < w8.heap.size := by omega); (try have z87 : w.heap.size + 1 + 1 + 1 + 1 + 1 + 1 + 1 < w8.heap.size := by omega))
          have y8a : w.heap.size < w8.heap.size := (by omega)
          have c8a_0 : w8.cell? ⟨w.heap.size, 0, none⟩ = some (.int .i64 (Al)) := by rw [hc8 _ _ (by first | (simp; done) | (simp; omega) | omega)]; first | done | (simp [go_sem, c7a_0, y7a, y7a, y7b, y7m, y7j]; done) | assumption
          have c8a_1 : w8.cell? ⟨w.heap.size, 1, none⟩ = some (.int .i64 (Ah)) := by rw [hc8 _ _ (by first | (simp; done) | (simp; omega) | omega)]; first | done | (simp [go_sem, c7a_1, y7a, y7a, y7b, y7m, y7j]; done) | assumption
          have y8b : w.heap.size + 1 < w8.heap.size := (by omega)
          have c8b_0 : w8.cell? ⟨w.heap.size + 1, 0, none⟩ = some (.int .i64 (Bl)) := by rw [hc8 _ _ (by first | (simp; done) | (simp; omega) | omega)]; first | done | (simp [go_sem, c7b_0, y7b, y7a, y7b, y7m, y7j]; done) | assumption
          have c8b_1 : w8.cell? ⟨w.heap.size + 1, 1, none⟩ = some (.int .i64 (Bh)) := by rw [hc8 _ _ (by first | (simp; done) | (simp; omega) | omega)]; first | done | (simp [go_sem, c7b_1, y7b, y7a, y7b, y7m, y7j]; done) | assumption
          have y8m : w5.heap.size < w8.heap.size := (by omega)
          have c8m_0 : w8.cell? ⟨w5.heap.size, 0, none⟩ = some (.int .i64 (ml)) := by rw [hc8 _ _ (by first | (simp; done) | (simp; omega) | omega)]; first | done | (simp [go_sem, c7m_0, y7m, y7a, y7b, y7m, y7j]; done) | assumption
          have c8m_1 : w8.cell? ⟨w5.heap.size, 1, none⟩ = some (.int .i64 (mh)) := by rw [hc8 _ _ (by first | (simp; done) | (simp; omega) | omega)]; first | done | (simp [go_sem, c7m_1, y7m, y7a, y7b, y7m, y7j]; done) | assumption
          have y8j : w6.heap.size < w8.heap.size := (by omega)
          have c8j_0 : w8.cell? ⟨w6.heap.size, 0, none⟩ = some (.int .i64 (min (Al) (Bl))) := by rw [hc8 _ _ (by first | (simp; done) | (simp; omega) | omega)]; first | done | (simp [go_sem, c7j_0, y7j, y7a, y7b, y7m, y7j]; done) | assumption
          have c8j_1 : w8.cell? ⟨w6.heap.size, 1, none⟩ = some (.int .i64 (max (Ah) (Bh))) := by rw [hc8 _ _ (by first | (simp; done) | (simp; omega) | omega)]; first | done | (simp [go_sem, c7j_1, y7j, y7a, y7b, y7m, y7j]; done) | assumption
          clear hc8 hf8
          have hm := MM.out
          by_cases q1 : Al ≤ Bh <;> by_cases q2 : Bl ≤ Ah <;> simp only [q1, q2, decide_true, decide_false, Bool.and_true, Bool.and_false] at hm <;> subst hm
          · obtain ⟨D1, D2, D3, D4⟩ := MH.out rfl
            have E1 := Lib.hid (show decide (Al ≤ ml ∧ ml ≤ Ah) = true from decide_eq_true D1); have E2 := Lib.hid (show decide (Bl ≤ ml ∧ ml ≤ Bh) = true from decide_eq_true D2)
            have E3 := Lib.hid (show decide (Al ≤ mh ∧ mh ≤ Ah) = true from decide_eq_true D3); have E4 := Lib.hid (show decide (Bl ≤ mh ∧ mh ≤ Bh) = true from decide_eq_true D4)
            clear D1 D2 D3 D4
            go_wp2_with fail
            refine (Has_any _ _ _ _).mono ?_
            rw [E1.out]
            (rintro e w9 ⟨rfl, hb⟩; obtain ⟨hc9, hf9⟩ := bcell hb; have hz9 := hb.size; (try simp at hz9); have HW9 := Lib.hid (show Below w.heap.size w w9 from Below.trans (by repeat' (first | with_reducible exact HW8.out | with_reducible exact Below.refl _ _ | with_reducible refine Below.drew ?_ | with_reducible refine Below.drewN' ?_ _ | with_reducible refine Below.alloc ?_ ?_ _ | with_reducible refine Below.setCell ?_ ?_ _ | (simp; done) | (simp; omega) | omega)) (hb.mono (by first | (simp; done) | (simp; omega) | omega))); clear hb; (try have z90 : w.heap.size < w9.heap.size := by omega); (try have z91 : w.heap.size + 1 < w9.heap.size := by omega); (try have z92 : w.heap.size + 1 + 1 < w9.heap.size := by omega); (try have z93 : w.heap.size + 1 + 1 + 1 < w9.heap.size := by omega); (try have z94 : w.heap.size + 1 + 1 + 1 + 1 < w9.heap.size := by omega); (try have z95 : w.heap.size + 1 + 1 + 1 + 1 + 1 < w9.heap.size := by omega); (try have z96 : w.heap.size + 1 + 1 + 1 + 1 + 1 + 1 < w9.heap.size := by omega); (try have z97 : w.heap.size + 1 + 1 + 1 + 1 + 1 + 1 + 1 < w9.heap.size := by omega))
            have y9a : w.heap.size < w9.heap.size := (by omega)
            have c9a_0 : w9.cell? ⟨w.heap.size, 0, none⟩ = some (.int .i64 (Al)) := by rw [hc9 _ _ (by first | (simp; done) | (simp; omega) | omega)]; first | done | (simp [go_sem, c8a_0, y8a, y8a, y8b, y8m]; done) | assumption
            have c9a_1 : w9.cell? ⟨w.heap.size, 1, none⟩ = some (.int .i64 (Ah)) := by rw [hc9 _ _ (by first | (simp; done) | (simp; omega) | omega)]; first | done | (simp [go_sem, c8a_1, y8a, y8a, y8b, y8m]; done) | assumption
            have y9b : w.heap.size + 1 < w9.heap.size := (by omega)
            have c9b_0 : w9.cell? ⟨w.heap.size + 1, 0, none⟩ = some (.int .i64 (Bl)) := by rw [hc9 _ _ (by first | (simp; done) | (simp; omega) | omega)]; first | done | (simp [go_sem, c8b_0, y8b, y8a, y8b, y8m]; done) | assumption
            have c9b_1 : w9.cell? ⟨w.heap.size + 1, 1, none⟩ = some (.int .i64 (Bh)) := by rw [hc9 _ _ (by first | (simp; done) | (simp; omega) | omega)]; first | done | (simp [go_sem, c8b_1, y8b, y8a, y8b, y8m]; done) | assumption
            have y9m : w5.heap.size < w9.heap.size := (by omega)
            have c9m_0 : w9.cell? ⟨w5.heap.size, 0, none⟩ = some (.int .i64 (ml)) := by rw [hc9 _ _ (by first | (simp; done) | (simp; omega) | omega)]; first | done | (simp [go_sem, c8m_0, y8m, y8a, y8b, y8m]; done) | assumption
            have c9m_1 : w9.cell? ⟨w5.heap.size, 1, none⟩ = some (.int .i64 (mh)) := by rw [hc9 _ _ (by first | (simp; done) | (simp; omega) | omega)]; first | done | (simp [go_sem, c8m_1, y8m, y8a, y8b, y8m]; done) | assumption
            clear hc9 hf9
            go_wp2_with fail
            refine (Has_any _ _ _ _).mono ?_
            rw [E2.out]
            (rintro e wA ⟨rfl, hb⟩; obtain ⟨hcA, hfA⟩ := bcell hb; have hzA := hb.size; (try simp at hzA); have HWA := Lib.hid (show Below w.heap.size w wA from Below.trans (by repeat' (first | with_reducible exact HW9.out | with_reducible exact Below.refl _ _ | with_reducible refine Below.drew ?_ | with_reducible refine Below.drewN' ?_ _ | with_reducible refine Below.alloc ?_ ?_ _ | with_reducible refine Below.setCell ?_ ?_ _ | (simp; done) | (simp; omega) | omega)) (hb.mono (by first | (simp; done) | (simp; omega) | omega))); clear hb; (try have zA0 : w.heap.size < wA.heap.size := by omega); (try have zA1 : w.heap.size + 1 < wA.heap.size := by omega); (try have zA2 : w.heap.size + 1 + 1 < wA.heap.size := by omega); (try have zA3 : w.heap.size + 1 + 1 + 1 < wA.heap.size := by omega); (try have zA4 : w.heap.size + 1 + 1 + 1 + 1 < wA.heap.size := by omega); (try have zA5 : w.heap.size + 1 + 1 + 1 + 1 + 1 < wA.heap.size := by omega); (try have zA6 : w.heap.size + 1 + 1 + 1 + 1 + 1 + 1 < wA.heap.size := by omega); (try have zA7 : w.heap.size + 1 + 1 + 1 + 1 + 1 + 1 + 1 < wA.heap.size := by omega))
            have yAa : w.heap.size < wA.heap.size := (by omega)
            have cAa_0 : wA.cell? ⟨w.heap.size, 0, none⟩ = some (.int .i64 (Al)) := by rw [hcA _ _ (by first | (simp; done) | (simp; omega) | omega)]; first | done | (simp [go_sem, c9a_0, y9a, y9a, y9b, y9m]; done) | assumption
            have cAa_1 : wA.cell? ⟨w.heap.size, 1, none⟩ = some (.int .i64 (Ah)) := by rw [hcA _ _ (by first | (simp; done) | (simp; omega) | omega)]; first | done | (simp [go_sem, c9a_1, y9a, y9a, y9b, y9m]; done) | assumption
            have yAb : w.heap.size + 1 < wA.heap.size := (by omega)
            have cAb_0 : wA.cell? ⟨w.heap.size + 1, 0, none⟩ = some (.int .i64 (Bl)) := by rw [hcA _ _ (by first | (simp; done) | (simp; omega) | omega)]; first | done | (simp [go_sem, c9b_0, y9b, y9a, y9b, y9m]; done) | assumption
            have cAb_1 : wA.cell? ⟨w.heap.size + 1, 1, none⟩ = some (.int .i64 (Bh)) := by rw [hcA _ _ (by first | (simp; done) | (simp; omega) | omega)]; first | done | (simp [go_sem, c9b_1, y9b, y9a, y9b, y9m]; done) | assumption
            have yAm : w5.heap.size < wA.heap.size := (by omega)
            have cAm_0 : wA.cell? ⟨w5.heap.size, 0, none⟩ = some (.int .i64 (ml)) := by rw [hcA _ _ (by first | (simp; done) | (simp; omega) | omega)]; first | done | (simp [go_sem, c9m_0, y9m, y9a, y9b, y9m]; done) | assumption
            have cAm_1 : wA.cell? ⟨w5.heap.size, 1, none⟩ = some (.int .i64 (mh)) := by rw [hcA _ _ (by first | (simp; done) | (simp; omega) | omega)]; first | done | (simp [go_sem, c9m_1, y9m, y9a, y9b, y9m]; done) | assumption
            clear hcA hfA
            go_wp2_with fail
            refine (Has_any _ _ _ _).mono ?_
            rw [E3.out]
            (rintro e wB ⟨rfl, hb⟩; obtain ⟨hcB, hfB⟩ := bcell hb; have hzB := hb.size; (try simp at hzB); have HWB := Lib.hid (show Below w.heap.size w wB from Below.trans (by repeat' (first | with_reducible exact HWA.out | with_reducible exact Below.refl _ _ | with_reducible refine Below.drew ?_ | with_reducible refine Below.drewN' ?_ _ | with_reducible refine Below.alloc ?_ ?_ _ | with_reducible refine Below.setCell ?_ ?_ _ | (simp; done) | (simp; omega) | omega)) (hb.mono (by first | (simp; done) | (simp; omega) | omega))); clear hb; (try have zB0 : w.heap.size < wB.heap.size := by omega); (try have zB1 : w.heap.size + 1 < wB.heap.size := by omega); (try have zB2 : w.heap.size + 1 + 1 < wB.heap.size := by omega); (try have zB3 : w.heap.size + 1 + 1 + 1 < wB.heap.size := by omega); (try have zB4 : w.heap.size + 1 + 1 + 1 + 1 < wB.heap.size := by omega); (try have zB5 : w.heap.size + 1 + 1 + 1 + 1 + 1 < wB.heap.size := by omega); (try have zB6 : w.heap.size + 1 + 1 + 1 + 1 + 1 + 1 < wB.heap.size := by omega); (try have zB7 : w.heap.size + 1 + 1 + 1 + 1 + 1 + 1 + 1 < wB.heap.size := by omega))
            have yBa : w.heap.size < wB.heap.size := (by omega)
            have cBa_0 : wB.cell? ⟨w.heap.size, 0, none⟩ = some (.int .i64 (Al)) := by rw [hcB _ _ (by first | (simp; done) | (simp; omega) | omega)]; first | done | (simp [go_sem, cAa_0, yAa, yAa, yAb, yAm]; done) | assumption
            have cBa_1 : wB.cell? ⟨w.heap.size, 1, none⟩ = some (.int .i64 (Ah)) := by rw [hcB _ _ (by first | (simp; done) | (simp; omega) | omega)]; first | done | (simp [go_sem, cAa_1, yAa, yAa, yAb, yAm]; done) | assumption
            have yBb : w.heap.size + 1 < wB.heap.size := (by omega)
            have cBb_0 : wB.cell? ⟨w.heap.size + 1, 0, none⟩ = some (.int .i64 (Bl)) := by rw [hcB _ _ (by first | (simp; done) | (simp; omega) | omega)]; first | done | (simp [go_sem, cAb_0, yAb, yAa, yAb, yAm]; done) | assumption
            have cBb_1 : wB.cell? ⟨w.heap.size + 1, 1, none⟩ = some (.int .i64 (Bh)) := by rw [hcB _ _ (by first | (simp; done) | (simp; omega) | omega)]; first | done | (simp [go_sem, cAb_1, yAb, yAa, yAb, yAm]; done) | assumption
            have yBm : w5.heap.size < wB.heap.size := (by omega)
            have cBm_0 : wB.cell? ⟨w5.heap.size, 0, none⟩ = some (.int .i64 (ml)) := by rw [hcB _ _ (by first | (simp; done) | (simp; omega) | omega)]; first | done | (simp [go_sem, cAm_0, yAm, yAa, yAb, yAm]; done) | assumption
            have cBm_1 : wB.cell? ⟨w5.heap.size, 1, none⟩ = some (.int .i64 (mh)) := by rw [hcB _ _ (by first | (simp; done) | (simp; omega) | omega)]; first | done | (simp [go_sem, cAm_1, yAm, yAa, yAb, yAm]; done) | assumption
            clear hcB hfB
            go_wp2_with fail
            refine (Has_any _ _ _ _).mono ?_
            rw [E4.out]
            (rintro e wC ⟨rfl, hb⟩; obtain ⟨hcC, hfC⟩ := bcell hb; have hzC := hb.size; (try simp at hzC); have HWC := Lib.hid (show Below w.heap.size w wC from Below.trans (by repeat' (first | with_reducible exact HWB.out | with_reducible exact Below.refl _ _ | with_reducible refine Below.drew ?_ | with_reducible refine Below.drewN' ?_ _ | with_reducible refine Below.alloc ?_ ?_ _ | with_reducible refine Below.setCell ?_ ?_ _ | (simp; done) | (simp; omega) | omega)) (hb.mono (by first | (simp; done) | (simp; omega) | omega))); clear hb; (try have zC0 : w.heap.size < wC.heap.size := by omega); (try have zC1 : w.heap.size + 1 < wC.heap.size := by omega); (try have zC2 : w.heap.size + 1 + 1 < wC.heap.size := by omega); (try have zC3 : w.heap.size + 1 + 1 + 1 < wC.heap.size := by omega); (try have zC4 : w.heap.size + 1 + 1 + 1 + 1 < wC.heap.size := by omega); (try have zC5 : w.heap.size + 1 + 1 + 1 + 1 + 1 < wC.heap.size := by omega); (try have zC6 : w.heap.size + 1 + 1 + 1 + 1 + 1 + 1 < wC.heap.size := by omega); (try have zC7 : w.heap.size + 1 + 1 + 1 + 1 + 1 + 1 + 1 < wC.heap.size := by omega))
            have yCa : w.heap.size < wC.heap.size := (by omega)
            have cCa_0 : wC.cell? ⟨w.heap.size, 0, none⟩ = some (.int .i64 (Al)) := by rw [hcC _ _ (by first | (simp; done) | (simp; omega) | omega)]; first | done | (simp [go_sem, cBa_0, yBa, yBa, yBb, yBm]; done) | assumption
            have cCa_1 : wC.cell? ⟨w.heap.size, 1, none⟩ = some (.int .i64 (Ah)) := by rw [hcC _ _ (by first | (simp; done) | (simp; omega) | omega)]; first | done | (simp [go_sem, cBa_1, yBa, yBa, yBb, yBm]; done) | assumption
            have yCb : w.heap.size + 1 < wC.heap.size := (by omega)
            have cCb_0 : wC.cell? ⟨w.heap.size + 1, 0, none⟩ = some (.int .i64 (Bl)) := by rw [hcC _ _ (by first | (simp; done) | (simp; omega) | omega)]; first | done | (simp [go_sem, cBb_0, yBb, yBa, yBb, yBm]; done) | assumption
            have cCb_1 : wC.cell? ⟨w.heap.size + 1, 1, none⟩ = some (.int .i64 (Bh)) := by rw [hcC _ _ (by first | (simp; done) | (simp; omega) | omega)]; first | done | (simp [go_sem, cBb_1, yBb, yBa, yBb, yBm]; done) | assumption
            have yCm : w5.heap.size < wC.heap.size := (by omega)
            have cCm_0 : wC.cell? ⟨w5.heap.size, 0, none⟩ = some (.int .i64 (ml)) := by rw [hcC _ _ (by first | (simp; done) | (simp; omega) | omega)]; first | done | (simp [go_sem, cBm_0, yBm, yBa, yBb, yBm]; done) | assumption
            have cCm_1 : wC.cell? ⟨w5.heap.size, 1, none⟩ = some (.int .i64 (mh)) := by rw [hcC _ _ (by first | (simp; done) | (simp; omega) | omega)]; first | done | (simp [go_sem, cBm_1, yBm, yBa, yBb, yBm]; done) | assumption
            clear hcC hfC
            go_wp2_with fail
            go_ret
            exact ⟨rfl, (by repeat' (first | with_reducible exact HWC.out | with_reducible exact Below.refl _ _ | with_reducible refine Below.drew ?_ | with_reducible refine Below.drewN' ?_ _ | with_reducible refine Below.alloc ?_ ?_ _ | with_reducible refine Below.setCell ?_ ?_ _ | (simp; done) | (simp; omega) | omega))⟩
          all_goals (first | (exfalso; omega) | (go_wp2_with fail; go_ret; exact ⟨ret_bool (by simp [q1, q2]), (by repeat' (first | with_reducible exact HW8.out | with_reducible exact Below.refl _ _ | with_reducible refine Below.drew ?_ | with_reducible refine Below.drewN' ?_ _ | with_reducible refine Below.alloc ?_ ?_ _ | with_reducible refine Below.setCell ?_ ?_ _ | (simp; done) | (simp; omega) | omega))⟩))
        · have NLE : (pl ≤ ph ∧ Al ≤ pl ∧ ph ≤ Ah) ∧ (ql ≤ qh ∧ Bl ≤ ql ∧ qh ≤ Bh) := NL.out rfl
          obtain ⟨⟨l1, l2, l3⟩, l4, l5, l6⟩ := NLE
          cases hq : P.is (15 + p) x y
          · go_wp2_with (first | (go_at_call 8; refine (Is_any _ _ _ _).mono ?_; rintro e w' ⟨rfl, rfl⟩; rw [hq]))
            have cta_0 := c4_0_0; have cta_1 := c4_0_1; have ctb_0 := c4_1_0; have ctb_1 := c4_1_1; have yta := z40; have ytb := z41; have HWt := HW4
            have MM := Lib.hid (holds_meet RA.out.1 RB.out.1)
            have MH := Lib.hid (fun (h : (bmeet _ _).2 = true) => holds_meet_has (a := ⟨Al, Ah⟩) (b := ⟨Bl, Bh⟩) h)
            refine (Meet_any _ _ _ _ _).mono ?_
            generalize bmeet ⟨Al, Ah⟩ ⟨Bl, Bh⟩ = m at MM MH ⊢
            obtain ⟨⟨ml, mh⟩, met⟩ := m
            (rintro e w5 ⟨rfl, hb⟩; obtain ⟨hc5, hf5⟩ := bcell hb; have hz5 := hb.size; (try simp at hz5); have HW5 := Lib.hid (show Below w.heap.size w w5 from Below.trans (by repeat' (first | with_reducible exact HWt.out | with_reducible exact Below.refl _ _ | with_reducible refine Below.drew ?_ | with_reducible refine Below.drewN' ?_ _ | with_reducible refine Below.alloc ?_ ?_ _ | with_reducible refine Below.setCell ?_ ?_ _ | (simp; done) | (simp; omega) | omega)) (hb.mono (by first | (simp; done) | (simp; omega) | omega))); clear hb; (try have z50 : w.heap.size < w5.heap.size := by omega); (try have z51 : w.heap.size + 1 < w5.heap.size := by omega); (try have z52 : w.heap.size + 1 + 1 < w5.heap.size := by omega); (try have z53 : w.heap.size + 1 + 1 + 1 < w5.heap.size := by omega); (try have z54 : w.heap.size + 1 + 1 + 1 + 1 < w5.heap.size := by omega); (try have z55 : w.heap.size + 1 + 1 + 1 + 1 + 1 < w5.heap.size := by omega); (try have z56 : w.heap.size + 1 + 1 + 1 + 1 + 1 + 1 < w5.heap.size := by omega); (try have z57 : w.heap.size + 1 + 1 + 1 + 1 + 1 + 1 + 1 < w5.heap.size := by omega))
            have y5a : w.heap.size < w5.heap.size := (by omega)
            have c5a_0 : w5.cell? ⟨w.heap.size, 0, none⟩ = some (.int .i64 (Al)) := by rw [hc5 _ _ (by first | (simp; done) | (simp; omega) | omega)]; first | done | (simp [go_sem, cta_0, yta, yta, ytb]; done) | assumption
            have c5a_1 : w5.cell? ⟨w.heap.size, 1, none⟩ = some (.int .i64 (Ah)) := by rw [hc5 _ _ (by first | (simp; done) | (simp; omega) | omega)]; first | done | (simp [go_sem, cta_1, yta, yta, ytb]; done) | assumption
            have y5b : w.heap.size + 1 < w5.heap.size := (by omega)
            have c5b_0 : w5.cell? ⟨w.heap.size + 1, 0, none⟩ = some (.int .i64 (Bl)) := by rw [hc5 _ _ (by first | (simp; done) | (simp; omega) | omega)]; first | done | (simp [go_sem, ctb_0, ytb, yta, ytb]; done) | assumption
            have c5b_1 : w5.cell? ⟨w.heap.size + 1, 1, none⟩ = some (.int .i64 (Bh)) := by rw [hc5 _ _ (by first | (simp; done) | (simp; omega) | omega)]; first | done | (simp [go_sem, ctb_1, ytb, yta, ytb]; done) | assumption
            clear hc5 hf5
            go_wp2_with fail
            refine (Join_any _ _ _ _ _).mono ?_
            (rintro e w6 ⟨rfl, hb⟩; obtain ⟨hc6, hf6⟩ := bcell hb; have hz6 := hb.size; (try simp at hz6); have HW6 := Lib.hid (show Below w.heap.size w w6 from Below.trans (by repeat' (first | with_reducible exact HW5.out | with_reducible exact Below.refl _ _ | with_reducible refine Below.drew ?_ | with_reducible refine Below.drewN' ?_ _ | with_reducible refine Below.alloc ?_ ?_ _ | with_reducible refine Below.setCell ?_ ?_ _ | (simp; done) | (simp; omega) | omega)) (hb.mono (by first | (simp; done) | (simp; omega) | omega))); clear hb; (try have z60 : w.heap.size < w6.heap.size := by omega); (try have z61 : w.heap.size + 1 < w6.heap.size := by omega); (try have z62 : w.heap.size + 1 + 1 < w6.heap.size := by omega); (try have z63 : w.heap.size + 1 + 1 + 1 < w6.heap.size := by omega); (try have z64 : w.heap.size + 1 + 1 + 1 + 1 < w6.heap.size := by omega); (try have z65 : w.heap.size + 1 + 1 + 1 + 1 + 1 < w6.heap.size := by omega); (try have z66 : w.heap.size + 1 + 1 + 1 + 1 + 1 + 1 < w6.heap.size := by omega); (try have z67 : w.heap.size + 1 + 1 + 1 + 1 + 1 + 1 + 1 < w6.heap.size := by omega))
            have y6a : w.heap.size < w6.heap.size := (by omega)
            have c6a_0 : w6.cell? ⟨w.heap.size, 0, none⟩ = some (.int .i64 (Al)) := by rw [hc6 _ _ (by first | (simp; done) | (simp; omega) | omega)]; first | done | (simp [go_sem, c5a_0, y5a, y5a, y5b]; done) | assumption
            have c6a_1 : w6.cell? ⟨w.heap.size, 1, none⟩ = some (.int .i64 (Ah)) := by rw [hc6 _ _ (by first | (simp; done) | (simp; omega) | omega)]; first | done | (simp [go_sem, c5a_1, y5a, y5a, y5b]; done) | assumption
            have y6b : w.heap.size + 1 < w6.heap.size := (by omega)
            have c6b_0 : w6.cell? ⟨w.heap.size + 1, 0, none⟩ = some (.int .i64 (Bl)) := by rw [hc6 _ _ (by first | (simp; done) | (simp; omega) | omega)]; first | done | (simp [go_sem, c5b_0, y5b, y5a, y5b]; done) | assumption
            have c6b_1 : w6.cell? ⟨w.heap.size + 1, 1, none⟩ = some (.int .i64 (Bh)) := by rw [hc6 _ _ (by first | (simp; done) | (simp; omega) | omega)]; first | done | (simp [go_sem, c5b_1, y5b, y5a, y5b]; done) | assumption
            have y6m : w5.heap.size < w6.heap.size := (by omega)
            have c6m_0 : w6.cell? ⟨w5.heap.size, 0, none⟩ = some (.int .i64 (ml)) := by rw [hc6 _ _ (by first | (simp; done) | (simp; omega) | omega)]; first | done | (simp [go_sem, y5a, y5b]; done) | assumption
            have c6m_1 : w6.cell? ⟨w5.heap.size, 1, none⟩ = some (.int .i64 (mh)) := by rw [hc6 _ _ (by first | (simp; done) | (simp; omega) | omega)]; first | done | (simp [go_sem, y5a, y5b]; done) | assumption
            clear hc6 hf6
            have J1 : decide (min (Al) (Bl) ≤ x ∧ x ≤ max (Ah) (Bh)) = true := by have h1 := RA.out.2; unfold B.Has at h1; simp only at h1; rw [decide_eq_true_iff]; omega
            have J2 : decide (min (Al) (Bl) ≤ y ∧ y ≤ max (Ah) (Bh)) = true := by have h1 := RB.out.2; unfold B.Has at h1; simp only at h1; rw [decide_eq_true_iff]; omega
            have HJ1 := Lib.hid J1; have HJ2 := Lib.hid J2; clear J1 J2
            go_wp2_with fail
            refine (Has_any _ _ _ _).mono ?_
            rw [HJ1.out]
            (rintro e w7 ⟨rfl, hb⟩; obtain ⟨hc7, hf7⟩ := bcell hb; have hz7 := hb.size; (try simp at hz7); have HW7 := Lib.hid (show Below w.heap.size w w7 from Below.trans (by repeat' (first | with_reducible exact HW6.out | with_reducible exact Below.refl _ _ | with_reducible refine Below.drew ?_ | with_reducible refine Below.drewN' ?_ _ | with_reducible refine Below.alloc ?_ ?_ _ | with_reducible refine Below.setCell ?_ ?_ _ | (simp; done) | (simp; omega) | omega)) (hb.mono (by first | (simp; done) | (simp; omega) | omega))); clear hb; (try have z70 : w.heap.size < w7.heap.size := by omega); (try have z71 : w.heap.size + 1 < w7.heap.size := by omega); (try have z72 : w.heap.size + 1 + 1 < w7.heap.size := by omega); (try have z73 : w.heap.size + 1 + 1 + 1 < w7.heap.size := by omega); (try have z74 : w.heap.size + 1 + 1 + 1 + 1 < w7.heap.size := by omega); (try have z75 : w.heap.size + 1 + 1 + 1 + 1 + 1 < w7.heap.size := by omega); (try have z76 : w.heap.size + 1 + 1 + 1 + 1 + 1 + 1 < w7.heap.size := by omega); (try have z77 : w.heap.size + 1 + 1 + 1 + 1 + 1 + 1 + 1 < w7.heap.size := by omega))
            have y7a : w.heap.size < w7.heap.size := (by omega)
            have c7a_0 : w7.cell? ⟨w.heap.size, 0, none⟩ = some (.int .i64 (Al)) := by rw [hc7 _ _ (by first | (simp; done) | (simp; omega) | omega)]; first | done | (simp [go_sem, c6a_0, y6a, y6a, y6b, y6m]; done) | assumption
            have c7a_1 : w7.cell? ⟨w.heap.size, 1, none⟩ = some (.int .i64 (Ah)) := by rw [hc7 _ _ (by first | (simp; done) | (simp; omega) | omega)]; first | done | (simp [go_sem, c6a_1, y6a, y6a, y6b, y6m]; done) | assumption
            have y7b : w.heap.size + 1 < w7.heap.size := (by omega)
            have c7b_0 : w7.cell? ⟨w.heap.size + 1, 0, none⟩ = some (.int .i64 (Bl)) := by rw [hc7 _ _ (by first | (simp; done) | (simp; omega) | omega)]; first | done | (simp [go_sem, c6b_0, y6b, y6a, y6b, y6m]; done) | assumption
            have c7b_1 : w7.cell? ⟨w.heap.size + 1, 1, none⟩ = some (.int .i64 (Bh)) := by rw [hc7 _ _ (by first | (simp; done) | (simp; omega) | omega)]; first | done | (simp [go_sem, c6b_1, y6b, y6a, y6b, y6m]; done) | assumption
            have y7m : w5.heap.size < w7.heap.size := (by omega)
            have c7m_0 : w7.cell? ⟨w5.heap.size, 0, none⟩ = some (.int .i64 (ml)) := by rw [hc7 _ _ (by first | (simp; done) | (simp; omega) | omega)]; first | done | (simp [go_sem, c6m_0, y6m, y6a, y6b, y6m]; done) | assumption
            have c7m_1 : w7.cell? ⟨w5.heap.size, 1, none⟩ = some (.int .i64 (mh)) := by rw [hc7 _ _ (by first | (simp; done) | (simp; omega) | omega)]; first | done | (simp [go_sem, c6m_1, y6m, y6a, y6b, y6m]; done) | assumption
            have y7j : w6.heap.size < w7.heap.size := (by omega)
            have c7j_0 : w7.cell? ⟨w6.heap.size, 0, none⟩ = some (.int .i64 (min (Al) (Bl))) := by rw [hc7 _ _ (by first | (simp; done) | (simp; omega) | omega)]; first | done | (simp [go_sem, y6a, y6b, y6m]; done) | assumption
            have c7j_1 : w7.cell? ⟨w6.heap.size, 1, none⟩ = some (.int .i64 (max (Ah) (Bh))) := by rw [hc7 _ _ (by first | (simp; done) | (simp; omega) | omega)]; first | done | (simp [go_sem, y6a, y6b, y6m]; done) | assumption
            clear hc7 hf7
            go_wp2_with fail
            refine (Has_any _ _ _ _).mono ?_
            rw [HJ2.out]
            (rintro e w8 ⟨rfl, hb⟩; obtain ⟨hc8, hf8⟩ := bcell hb; have hz8 := hb.size; (try simp at hz8); have HW8 := Lib.hid (show Below w.heap.size w w8 from Below.trans (by repeat' (first | with_reducible exact HW7.out | with_reducible exact Below.refl _ _ | with_reducible refine Below.drew ?_ | with_reducible refine Below.drewN' ?_ _ | with_reducible refine Below.alloc ?_ ?_ _ | with_reducible refine Below.setCell ?_ ?_ _ | (simp; done) | (simp; omega) | omega)) (hb.mono (by first | (simp; done) | (simp; omega) | omega))); clear hb; (try have z80 : w.heap.size < w8.heap.size := by omega); (try have z81 : w.heap.size + 1 < w8.heap.size := by omega); (try have z82 : w.heap.size + 1 + 1 < w8.heap.size := by omega); (try have z83 : w.heap.size + 1 + 1 + 1 < w8.heap.size := by omega); (try have z84 : w.heap.size + 1 + 1 + 1 + 1 < w8.heap.size := by omega); (try have z85 : w.heap.size + 1 + 1 + 1 + 1 + 1 < w8.heap.size := by omega); (try have z86 : w.heap.size + 1 + 1 + 1 + 1 + 1 + 1 < w8.heap.size := by omega); (try have z87 : w.heap.size + 1 + 1 + 1 + 1 + 1 + 1 + 1 < w8.heap.size := by omega))
            have y8a : w.heap.size < w8.heap.size := (by omega)
            have c8a_0 : w8.cell? ⟨w.heap.size, 0, none⟩ = some (.int .i64 (Al)) := by rw [hc8 _ _ (by first | (simp; done) | (simp; omega) | omega)]; first | done | (simp [go_sem, c7a_0, y7a, y7a, y7b, y7m, y7j]; done) | assumption
            have c8a_1 : w8.cell? ⟨w.heap.size, 1, none⟩ = some (.int .i64 (Ah)) := by rw [hc8 _ _ (by first | (simp; done) | (simp; omega) | omega)]; first | done | (simp [go_sem, c7a_1, y7a, y7a, y7b, y7m, y7j]; done) | assumption
            have y8b : w.heap.size + 1 < w8.heap.size := (by omega)
            have c8b_0 : w8.cell? ⟨w.heap.size + 1, 0, none⟩ = some (.int .i64 (Bl)) := by rw [hc8 _ _ (by first | (simp; done) | (simp; omega) | omega)]; first | done | (simp [go_sem, c7b_0, y7b, y7a, y7b, y7m, y7j]; done) | assumption
            have c8b_1 : w8.cell? ⟨w.heap.size + 1, 1, none⟩ = some (.int .i64 (Bh)) := by rw [hc8 _ _ (by first | (simp; done) | (simp; omega) | omega)]; first | done | (simp [go_sem, c7b_1, y7b, y7a, y7b, y7m, y7j]; done) | assumption
            have y8m : w5.heap.size < w8.heap.size := (by omega)
            have c8m_0 : w8.cell? ⟨w5.heap.size, 0, none⟩ = some (.int .i64 (ml)) := by rw [hc8 _ _ (by first | (simp; done) | (simp; omega) | omega)]; first | done | (simp [go_sem, c7m_0, y7m, y7a, y7b, y7m, y7j]; done) | assumption
            have c8m_1 : w8.cell? ⟨w5.heap.size, 1, none⟩ = some (.int .i64 (mh)) := by rw [hc8 _ _ (by first | (simp; done) | (simp; omega) | omega)]; first | done | (simp [go_sem, c7m_1, y7m, y7a, y7b, y7m, y7j]; done) | assumption
            have y8j : w6.heap.size < w8.heap.size := (by omega)
            have c8j_0 : w8.cell? ⟨w6.heap.size, 0, none⟩ = some (.int .i64 (min (Al) (Bl))) := by rw [hc8 _ _ (by first | (simp; done) | (simp; omega) | omega)]; first | done | (simp [go_sem, c7j_0, y7j, y7a, y7b, y7m, y7j]; done) | assumption
            have c8j_1 : w8.cell? ⟨w6.heap.size, 1, none⟩ = some (.int .i64 (max (Ah) (Bh))) := by rw [hc8 _ _ (by first | (simp; done) | (simp; omega) | omega)]; first | done | (simp [go_sem, c7j_1, y7j, y7a, y7b, y7m, y7j]; done) | assumption
            clear hc8 hf8
            have hm := MM.out
            by_cases q1 : Al ≤ Bh <;> by_cases q2 : Bl ≤ Ah <;> simp only [q1, q2, decide_true, decide_false, Bool.and_true, Bool.and_false] at hm <;> subst hm
            · obtain ⟨D1, D2, D3, D4⟩ := MH.out rfl
              have E1 := Lib.hid (show decide (Al ≤ ml ∧ ml ≤ Ah) = true from decide_eq_true D1); have E2 := Lib.hid (show decide (Bl ≤ ml ∧ ml ≤ Bh) = true from decide_eq_true D2)
              have E3 := Lib.hid (show decide (Al ≤ mh ∧ mh ≤ Ah) = true from decide_eq_true D3); have E4 := Lib.hid (show decide (Bl ≤ mh ∧ mh ≤ Bh) = true from decide_eq_true D4)
              clear D1 D2 D3 D4
              go_wp2_with fail
              refine (Has_any _ _ _ _).mono ?_
              rw [E1.out]
              (rintro e w9 ⟨rfl, hb⟩; obtain ⟨hc9, hf9⟩ := bcell hb; have hz9 := hb.size; (try simp at hz9); have HW9 := Lib.hid (show Below w.heap.size w w9 from Below.trans (by repeat' (first | with_reducible exact HW8.out | with_reducible exact Below.refl _ _ | with_reducible refine Below.drew ?_ | with_reducible refine Below.drewN' ?_ _ | with_reducible refine Below.alloc ?_ ?_ _ | with_reducible refine Below.setCell ?_ ?_ _ | (simp; done) | (simp; omega) | omega)) (hb.mono (by first | (simp; done) | (simp; omega) | omega))); clear hb; (try have z90 : w.heap.size < w9.heap.size := by omega); (try have z91 : w.heap.size + 1 < w9.heap.size := by omega); (try have z92 : w.heap.size + 1 + 1 < w9.heap.size := by omega); (try have z93 : w.heap.size + 1 + 1 + 1 < w9.heap.size := by omega); (try have z94 : w.heap.size + 1 + 1 + 1 + 1 < w9.heap.size := by omega); (try have z95 : w.heap.size + 1 + 1 + 1 + 1 + 1 < w9.heap.size := by omega); (try have z96 : w.heap.size + 1 + 1 + 1 + 1 + 1 + 1 < w9.heap.size := by omega); (try have z97 : w.heap.size + 1 + 1 + 1 + 1 + 1 + 1 + 1 < w9.heap.size := by omega))
              have y9a : w.heap.size < w9.heap.size := (by omega)
              have c9a_0 : w9.cell? ⟨w.heap.size, 0, none⟩ = some (.int .i64 (Al)) := by rw [hc9 _ _ (by first | (simp; done) | (simp; omega) | omega)]; first | done | (simp [go_sem, c8a_0, y8a, y8a, y8b, y8m]; done) | assumption
              have c9a_1 : w9.cell? ⟨w.heap.size, 1, none⟩ = some (.int .i64 (Ah)) := by rw [hc9 _ _ (by first | (simp; done) | (simp; omega) | omega)]; first | done | (simp [go_sem, c8a_1, y8a, y8a, y8b, y8m]; done) | assumption
              have y9b : w.heap.size + 1 < w9.heap.size := (by omega)
              have c9b_0 : w9.cell? ⟨w.heap.size + 1, 0, none⟩ = some (.int .i64 (Bl)) := by rw [hc9 _ _ (by first | (simp; done) | (simp; omega) | omega)]; first | done | (simp [go_sem, c8b_0, y8b, y8a, y8b, y8m]; done) | assumption
              have c9b_1 : w9.cell? ⟨w.heap.size + 1, 1, none⟩ = some (.int .i64 (Bh)) := by rw [hc9 _ _ (by first | (simp; done) | (simp; omega) | omega)]; first | done | (simp [go_sem, c8b_1, y8b, y8a, y8b, y8m]; done) | assumption
              have y9m : w5.heap.size < w9.heap.size := (by omega)
              have c9m_0 : w9.cell? ⟨w5.heap.size, 0, none⟩ = some (.int .i64 (ml)) := by rw [hc9 _ _ (by first | (simp; done) | (simp; omega) | omega)]; first | done | (simp [go_sem, c8m_0, y8m, y8a, y8b, y8m]; done) | assumption
              have c9m_1 : w9.cell? ⟨w5.heap.size, 1, none⟩ = some (.int .i64 (mh)) := by rw [hc9 _ _ (by first | (simp; done) | (simp; omega) | omega)]; first | done | (simp [go_sem, c8m_1, y8m, y8a, y8b, y8m]; done) | assumption
              clear hc9 hf9
              go_wp2_with fail
              refine (Has_any _ _ _ _).mono ?_
              rw [E2.out]
              (rintro e wA ⟨rfl, hb⟩; obtain ⟨hcA, hfA⟩ := bcell hb; have hzA := hb.size; (try simp at hzA); have HWA := Lib.hid (show Below w.heap.size w wA from Below.trans (by repeat' (first | with_reducible exact HW9.out | with_reducible exact Below.refl _ _ | with_reducible refine Below.drew ?_ | with_reducible refine Below.drewN' ?_ _ | with_reducible refine Below.alloc ?_ ?_ _ | with_reducible refine Below.setCell ?_ ?_ _ | (simp; done) | (simp; omega) | omega)) (hb.mono (by first | (simp; done) | (simp; omega) | omega))); clear hb; (try have zA0 : w.heap.size < wA.heap.size := by omega); (try have zA1 : w.heap.size + 1 < wA.heap.size := by omega); (try have zA2 : w.heap.size + 1 + 1 < wA.heap.size := by omega); (try have zA3 : w.heap.size + 1 + 1 + 1 < wA.heap.size := by omega); (try have zA4 : w.heap.size + 1 + 1 + 1 + 1 < wA.heap.size := by omega); (try have zA5 : w.heap.size + 1 + 1 + 1 + 1 + 1 < wA.heap.size := by omega); (try have zA6 : w.heap.size + 1 + 1 + 1 + 1 + 1 + 1 < wA.heap.size := by omega); (try have zA7 : w.heap.size + 1 + 1 + 1 + 1 + 1 + 1 + 1 < wA.heap.size := by omega))
              have yAa : w.heap.size < wA.heap.size := (by omega)
              have cAa_0 : wA.cell? ⟨w.heap.size, 0, none⟩ = some (.int .i64 (Al)) := by rw [hcA _ _ (by first | (simp; done) | (simp; omega) | omega)]; first | done | (simp [go_sem, c9a_0, y9a, y9a, y9b, y9m]; done) | assumption
              have cAa_1 : wA.cell? ⟨w.heap.size, 1, none⟩ = some (.int .i64 (Ah)) := by rw [hcA _ _ (by first | (simp; done) | (simp; omega) | omega)]; first | done | (simp [go_sem, c9a_1, y9a, y9a, y9b, y9m]; done) | assumption
              have yAb : w.heap.size + 1 < wA.heap.size := (by omega)
              have cAb_0 : wA.cell? ⟨w.heap.size + 1, 0, none⟩ = some (.int .i64 (Bl)) := by rw [hcA _ _ (by first | (simp; done) | (simp; omega) | omega)]; first | done | (simp [go_sem, c9b_0, y9b, y9a, y9b, y9m]; done) | assumption
              have cAb_1 : wA.cell? ⟨w.heap.size + 1, 1, none⟩ = some (.int .i64 (Bh)) := by rw [hcA _ _ (by first | (simp; done) | (simp; omega) | omega)]; first | done | (simp [go_sem, c9b_1, y9b, y9a, y9b, y9m]; done) | assumption
              have yAm : w5.heap.size < wA.heap.size := (by omega)
              have cAm_0 : wA.cell? ⟨w5.heap.size, 0, none⟩ = some (.int .i64 (ml)) := by rw [hcA _ _ (by first | (simp; done) | (simp; omega) | omega)]; first | done | (simp [go_sem, c9m_0, y9m, y9a, y9b, y9m]; done) | assumption
              have cAm_1 : wA.cell? ⟨w5.heap.size, 1, none⟩ = some (.int .i64 (mh)) := by rw [hcA _ _ (by first | (simp; done) | (simp; omega) | omega)]; first | done | (simp [go_sem, c9m_1, y9m, y9a, y9b, y9m]; done) | assumption
              clear hcA hfA
              go_wp2_with fail
              refine (Has_any _ _ _ _).mono ?_
              rw [E3.out]
              (rintro e wB ⟨rfl, hb⟩; obtain ⟨hcB, hfB⟩ := bcell hb; have hzB := hb.size; (try simp at hzB); have HWB := Lib.hid (show Below w.heap.size w wB from Below.trans (by repeat' (first | with_reducible exact HWA.out | with_reducible exact Below.refl _ _ | with_reducible refine Below.drew ?_ | with_reducible refine Below.drewN' ?_ _ | with_reducible refine Below.alloc ?_ ?_ _ | with_reducible refine Below.setCell ?_ ?_ _ | (simp; done) | (simp; omega) | omega)) (hb.mono (by first | (simp; done) | (simp; omega) | omega))); clear hb; (try have zB0 : w.heap.size < wB.heap.size := by omega); (try have zB1 : w.heap.size + 1 < wB.heap.size := by omega); (try have zB2 : w.heap.size + 1 + 1 < wB.heap.size := by omega); (try have zB3 : w.heap.size + 1 + 1 + 1 < wB.heap.size := by omega); (try have zB4 : w.heap.size + 1 + 1 + 1 + 1 < wB.heap.size := by omega); (try have zB5 : w.heap.size + 1 + 1 + 1 + 1 + 1 < wB.heap.size := by omega); (try have zB6 : w.heap.size + 1 + 1 + 1 + 1 + 1 + 1 < wB.heap.size := by omega); (try have zB7 : w.heap.size + 1 + 1 + 1 + 1 + 1 + 1 + 1 < wB.heap.size := by omega))
              have yBa : w.heap.size < wB.heap.size := (by omega)
              have cBa_0 : wB.cell? ⟨w.heap.size, 0, none⟩ = some (.int .i64 (Al)) := by rw [hcB _ _ (by first | (simp; done) | (simp; omega) | omega)]; first | done | (simp [go_sem, cAa_0, yAa, yAa, yAb, yAm]; done) | assumption
              have cBa_1 : wB.cell? ⟨w.heap.size, 1, none⟩ = some (.int .i64 (Ah)) := by rw [hcB _ _ (by first | (simp; done) | (simp; omega) | omega)]; first | done | (simp [go_sem, cAa_1, yAa, yAa, yAb, yAm]; done) | assumption
              have yBb : w.heap.size + 1 < wB.heap.size := (by omega)
              have cBb_0 : wB.cell? ⟨w.heap.size + 1, 0, none⟩ = some (.int .i64 (Bl)) := by rw [hcB _ _ (by first | (simp; done) | (simp; omega) | omega)]; first | done | (simp [go_sem, cAb_0, yAb, yAa, yAb, yAm]; done) | assumption
              have cBb_1 : wB.cell? ⟨w.heap.size + 1, 1, none⟩ = some (.int .i64 (Bh)) := by rw [hcB _ _ (by first | (simp; done) | (simp; omega) | omega)]; first | done | (simp [go_sem, cAb_1, yAb, yAa, yAb, yAm]; done) | assumption
              have yBm : w5.heap.size < wB.heap.size := (by omega)
              have cBm_0 : wB.cell? ⟨w5.heap.size, 0, none⟩ = some (.int .i64 (ml)) := by rw [hcB _ _ (by first | (simp; done) | (simp; omega) | omega)]; first | done | (simp [go_sem, cAm_0, yAm, yAa, yAb, yAm]; done) | assumption
              have cBm_1 : wB.cell? ⟨w5.heap.size, 1, none⟩ = some (.int .i64 (mh)) := by rw [hcB _ _ (by first | (simp; done) | (simp; omega) | omega)]; first | done | (simp [go_sem, cAm_1, yAm, yAa, yAb, yAm]; done) | assumption
              clear hcB hfB
              go_wp2_with fail
              refine (Has_any _ _ _ _).mono ?_
              rw [E4.out]
              (rintro e wC ⟨rfl, hb⟩; obtain ⟨hcC, hfC⟩ := bcell hb; have hzC := hb.size; (try simp at hzC); have HWC := Lib.hid (show Below w.heap.size w wC from Below.trans (by repeat' (first | with_reducible exact HWB.out | with_reducible exact Below.refl _ _ | with_reducible refine Below.drew ?_ | with_reducible refine Below.drewN' ?_ _ | with_reducible refine Below.alloc ?_ ?_ _ | with_reducible refine Below.setCell ?_ ?_ _ | (simp; done) | (simp; omega) | omega)) (hb.mono (by first | (simp; done) | (simp; omega) | omega))); clear hb; (try have zC0 : w.heap.size < wC.heap.size := by omega); (try have zC1 : w.heap.size + 1 < wC.heap.size := by omega); (try have zC2 : w.heap.size + 1 + 1 < wC.heap.size := by omega); (try have zC3 : w.heap.size + 1 + 1 + 1 < wC.heap.size := by omega); (try have zC4 : w.heap.size + 1 + 1 + 1 + 1 < wC.heap.size := by omega); (try have zC5 : w.heap.size + 1 + 1 + 1 + 1 + 1 < wC.heap.size := by omega); (try have zC6 : w.heap.size + 1 + 1 + 1 + 1 + 1 + 1 < wC.heap.size := by omega); (try have zC7 : w.heap.size + 1 + 1 + 1 + 1 + 1 + 1 + 1 < wC.heap.size := by omega))
              have yCa : w.heap.size < wC.heap.size := (by omega)
              have cCa_0 : wC.cell? ⟨w.heap.size, 0, none⟩ = some (.int .i64 (Al)) := by rw [hcC _ _ (by first | (simp; done) | (simp; omega) | omega)]; first | done | (simp [go_sem, cBa_0, yBa, yBa, yBb, yBm]; done) | assumption
              have cCa_1 : wC.cell? ⟨w.heap.size, 1, none⟩ = some (.int .i64 (Ah)) := by rw [hcC _ _ (by first | (simp; done) | (simp; omega) | omega)]; first | done | (simp [go_sem, cBa_1, yBa, yBa, yBb, yBm]; done) | assumption
              have yCb : w.heap.size + 1 < wC.heap.size := (by omega)
              have cCb_0 : wC.cell? ⟨w.heap.size + 1, 0, none⟩ = some (.int .i64 (Bl)) := by rw [hcC _ _ (by first | (simp; done) | (simp; omega) | omega)]; first | done | (simp [go_sem, cBb_0, yBb, yBa, yBb, yBm]; done) | assumption
              have cCb_1 : wC.cell? ⟨w.heap.size + 1, 1, none⟩ = some (.int .i64 (Bh)) := by rw [hcC _ _ (by first | (simp; done) | (simp; omega) | omega)]; first | done | (simp [go_sem, cBb_1, yBb, yBa, yBb, yBm]; done) | assumption
              have yCm : w5.heap.size < wC.heap.size := (by omega)
              have cCm_0 : wC.cell? ⟨w5.heap.size, 0, none⟩ = some (.int .i64 (ml)) := by rw [hcC _ _ (by first | (simp; done) | (simp; omega) | omega)]; first | done | (simp [go_sem, cBm_0, yBm, yBa, yBb, yBm]; done) | assumption
              have cCm_1 : wC.cell? ⟨w5.heap.size, 1, none⟩ = some (.int .i64 (mh)) := by rw [hcC _ _ (by first | (simp; done) | (simp; omega) | omega)]; first | done | (simp [go_sem, cBm_1, yBm, yBa, yBb, yBm]; done) | assumption
              clear hcC hfC
              go_wp2_with fail
              go_ret
              exact ⟨rfl, (by repeat' (first | with_reducible exact HWC.out | with_reducible exact Below.refl _ _ | with_reducible refine Below.drew ?_ | with_reducible refine Below.drewN' ?_ _ | with_reducible refine Below.alloc ?_ ?_ _ | with_reducible refine Below.setCell ?_ ?_ _ | (simp; done) | (simp; omega) | omega))⟩
            all_goals (first | (exfalso; omega) | (go_wp2_with fail; go_ret; exact ⟨ret_bool (by simp [q1, q2]), (by repeat' (first | with_reducible exact HW8.out | with_reducible exact Below.refl _ _ | with_reducible refine Below.drew ?_ | with_reducible refine Below.drewN' ?_ _ | with_reducible refine Below.alloc ?_ ?_ _ | with_reducible refine Below.setCell ?_ ?_ _ | (simp; done) | (simp; omega) | omega))⟩))
          · obtain ⟨_, N1, N2⟩ := NS.out hq
            have HN1 := Lib.hid (show decide (pl ≤ x ∧ x ≤ ph) = true from decide_eq_true N1); have HN2 := Lib.hid (show decide (ql ≤ y ∧ y ≤ qh) = true from decide_eq_true N2)
            clear N1 N2
            have cta_0 := c4_0_0; have cta_1 := c4_0_1; have ctb_0 := c4_1_0; have ctb_1 := c4_1_1; have yta := z40; have ytb := z41; have HWt := HW4
            go_wp2_with (first | (go_at_call 8; refine (Is_any _ _ _ _).mono ?_; rintro e w' ⟨rfl, rfl⟩; rw [hq]))
            refine (Has_any _ _ _ _).mono ?_
            rw [HN1.out]
            (rintro e wD ⟨rfl, hb⟩; obtain ⟨hcD, hfD⟩ := bcell hb; have hzD := hb.size; (try simp at hzD); have HWD := Lib.hid (show Below w.heap.size w wD from Below.trans (by repeat' (first | with_reducible exact HWt.out | with_reducible exact Below.refl _ _ | with_reducible refine Below.drew ?_ | with_reducible refine Below.drewN' ?_ _ | with_reducible refine Below.alloc ?_ ?_ _ | with_reducible refine Below.setCell ?_ ?_ _ | (simp; done) | (simp; omega) | omega)) (hb.mono (by first | (simp; done) | (simp; omega) | omega))); clear hb; (try have zD0 : w.heap.size < wD.heap.size := by omega); (try have zD1 : w.heap.size + 1 < wD.heap.size := by omega); (try have zD2 : w.heap.size + 1 + 1 < wD.heap.size := by omega); (try have zD3 : w.heap.size + 1 + 1 + 1 < wD.heap.size := by omega); (try have zD4 : w.heap.size + 1 + 1 + 1 + 1 < wD.heap.size := by omega); (try have zD5 : w.heap.size + 1 + 1 + 1 + 1 + 1 < wD.heap.size := by omega); (try have zD6 : w.heap.size + 1 + 1 + 1 + 1 + 1 + 1 < wD.heap.size := by omega); (try have zD7 : w.heap.size + 1 + 1 + 1 + 1 + 1 + 1 + 1 < wD.heap.size := by omega))
            have yDa : w.heap.size < wD.heap.size := (by omega)
            have cDa_0 : wD.cell? ⟨w.heap.size, 0, none⟩ = some (.int .i64 (Al)) := by rw [hcD _ _ (by first | (simp; done) | (simp; omega) | omega)]; first | done | (simp [go_sem, cta_0, yta, yta, ytb]; done) | assumption
            have cDa_1 : wD.cell? ⟨w.heap.size, 1, none⟩ = some (.int .i64 (Ah)) := by rw [hcD _ _ (by first | (simp; done) | (simp; omega) | omega)]; first | done | (simp [go_sem, cta_1, yta, yta, ytb]; done) | assumption
            have yDb : w.heap.size + 1 < wD.heap.size := (by omega)
            have cDb_0 : wD.cell? ⟨w.heap.size + 1, 0, none⟩ = some (.int .i64 (Bl)) := by rw [hcD _ _ (by first | (simp; done) | (simp; omega) | omega)]; first | done | (simp [go_sem, ctb_0, ytb, yta, ytb]; done) | assumption
            have cDb_1 : wD.cell? ⟨w.heap.size + 1, 1, none⟩ = some (.int .i64 (Bh)) := by rw [hcD _ _ (by first | (simp; done) | (simp; omega) | omega)]; first | done | (simp [go_sem, ctb_1, ytb, yta, ytb]; done) | assumption
            have yDp : w4.heap.size < wD.heap.size := (by omega)
            have cDp_0 : wD.cell? ⟨w4.heap.size, 0, none⟩ = some (.int .i64 (pl)) := by rw [hcD _ _ (by first | (simp; done) | (simp; omega) | omega)]; first | done | (simp [go_sem, yta, ytb]; done) | assumption
            have cDp_1 : wD.cell? ⟨w4.heap.size, 1, none⟩ = some (.int .i64 (ph)) := by rw [hcD _ _ (by first | (simp; done) | (simp; omega) | omega)]; first | done | (simp [go_sem, yta, ytb]; done) | assumption
            have yDq : w4.heap.size + 1 < wD.heap.size := (by omega)
            have cDq_0 : wD.cell? ⟨w4.heap.size + 1, 0, none⟩ = some (.int .i64 (ql)) := by rw [hcD _ _ (by first | (simp; done) | (simp; omega) | omega)]; first | done | (simp [go_sem, yta, ytb]; done) | assumption
            have cDq_1 : wD.cell? ⟨w4.heap.size + 1, 1, none⟩ = some (.int .i64 (qh)) := by rw [hcD _ _ (by first | (simp; done) | (simp; omega) | omega)]; first | done | (simp [go_sem, yta, ytb]; done) | assumption
            clear hcD hfD
            go_wp2_with fail
            refine (Has_any _ _ _ _).mono ?_
            rw [HN2.out]
            (rintro e wE ⟨rfl, hb⟩; obtain ⟨hcE, hfE⟩ := bcell hb; have hzE := hb.size; (try simp at hzE); have HWE := Lib.hid (show Below w.heap.size w wE from Below.trans (by repeat' (first | with_reducible exact HWD.out | with_reducible exact Below.refl _ _ | with_reducible refine Below.drew ?_ | with_reducible refine Below.drewN' ?_ _ | with_reducible refine Below.alloc ?_ ?_ _ | with_reducible refine Below.setCell ?_ ?_ _ | (simp; done) | (simp; omega) | omega)) (hb.mono (by first | (simp; done) | (simp; omega) | omega))); clear hb; (try have zE0 : w.heap.size < wE.heap.size := by omega); (try have zE1 : w.heap.size + 1 < wE.heap.size := by omega); (try have zE2 : w.heap.size + 1 + 1 < wE.heap.size := by omega); (try have zE3 : w.heap.size + 1 + 1 + 1 < wE.heap.size := by omega); (try have zE4 : w.heap.size + 1 + 1 + 1 + 1 < wE.heap.size := by omega); (try have zE5 : w.heap.size + 1 + 1 + 1 + 1 + 1 < wE.heap.size := by omega); (try have zE6 : w.heap.size + 1 + 1 + 1 + 1 + 1 + 1 < wE.heap.size := by omega); (try have zE7 : w.heap.size + 1 + 1 + 1 + 1 + 1 + 1 + 1 < wE.heap.size := by omega))
            have yEa : w.heap.size < wE.heap.size := (by omega)
            have cEa_0 : wE.cell? ⟨w.heap.size, 0, none⟩ = some (.int .i64 (Al)) := by rw [hcE _ _ (by first | (simp; done) | (simp; omega) | omega)]; first | done | (simp [go_sem, cDa_0, yDa, yDa, yDb, yDp, yDq]; done) | assumption
            have cEa_1 : wE.cell? ⟨w.heap.size, 1, none⟩ = some (.int .i64 (Ah)) := by rw [hcE _ _ (by first | (simp; done) | (simp; omega) | omega)]; first | done | (simp [go_sem, cDa_1, yDa, yDa, yDb, yDp, yDq]; done) | assumption
            have yEb : w.heap.size + 1 < wE.heap.size := (by omega)
            have cEb_0 : wE.cell? ⟨w.heap.size + 1, 0, none⟩ = some (.int .i64 (Bl)) := by rw [hcE _ _ (by first | (simp; done) | (simp; omega) | omega)]; first | done | (simp [go_sem, cDb_0, yDb, yDa, yDb, yDp, yDq]; done) | assumption
            have cEb_1 : wE.cell? ⟨w.heap.size + 1, 1, none⟩ = some (.int .i64 (Bh)) := by rw [hcE _ _ (by first | (simp; done) | (simp; omega) | omega)]; first | done | (simp [go_sem, cDb_1, yDb, yDa, yDb, yDp, yDq]; done) | assumption
            have yEp : w4.heap.size < wE.heap.size := (by omega)
            have cEp_0 : wE.cell? ⟨w4.heap.size, 0, none⟩ = some (.int .i64 (pl)) := by rw [hcE _ _ (by first | (simp; done) | (simp; omega) | omega)]; first | done | (simp [go_sem, cDp_0, yDp, yDa, yDb, yDp, yDq]; done) | assumption
            have cEp_1 : wE.cell? ⟨w4.heap.size, 1, none⟩ = some (.int .i64 (ph)) := by rw [hcE _ _ (by first | (simp; done) | (simp; omega) | omega)]; first | done | (simp [go_sem, cDp_1, yDp, yDa, yDb, yDp, yDq]; done) | assumption
            have yEq : w4.heap.size + 1 < wE.heap.size := (by omega)
            have cEq_0 : wE.cell? ⟨w4.heap.size + 1, 0, none⟩ = some (.int .i64 (ql)) := by rw [hcE _ _ (by first | (simp; done) | (simp; omega) | omega)]; first | done | (simp [go_sem, cDq_0, yDq, yDa, yDb, yDp, yDq]; done) | assumption
            have cEq_1 : wE.cell? ⟨w4.heap.size + 1, 1, none⟩ = some (.int .i64 (qh)) := by rw [hcE _ _ (by first | (simp; done) | (simp; omega) | omega)]; first | done | (simp [go_sem, cDq_1, yDq, yDa, yDb, yDp, yDq]; done) | assumption
            clear hcE hfE
            go_wp2_with fail
            have cta_0 := cEa_0; have cta_1 := cEa_1; have ctb_0 := cEb_0; have ctb_1 := cEb_1; have yta := yEa; have ytb := yEb; have HWt := HWE
            have MM := Lib.hid (holds_meet RA.out.1 RB.out.1)
            have MH := Lib.hid (fun (h : (bmeet _ _).2 = true) => holds_meet_has (a := ⟨Al, Ah⟩) (b := ⟨Bl, Bh⟩) h)
            refine (Meet_any _ _ _ _ _).mono ?_
            generalize bmeet ⟨Al, Ah⟩ ⟨Bl, Bh⟩ = m at MM MH ⊢
            obtain ⟨⟨ml, mh⟩, met⟩ := m
            (rintro e w5 ⟨rfl, hb⟩; obtain ⟨hc5, hf5⟩ := bcell hb; have hz5 := hb.size; (try simp at hz5); have HW5 := Lib.hid (show Below w.heap.size w w5 from Below.trans (by repeat' (first | with_reducible exact HWt.out | with_reducible exact Below.refl _ _ | with_reducible refine Below.drew ?_ | with_reducible refine Below.drewN' ?_ _ | with_reducible refine Below.alloc ?_ ?_ _ | with_reducible refine Below.setCell ?_ ?_ _ | (simp; done) | (simp; omega) | omega)) (hb.mono (by first | (simp; done) | (simp; omega) | omega))); clear hb; (try have z50 : w.heap.size < w5.heap.size := by omega); (try have z51 : w.heap.size + 1 < w5.heap.size := by omega); (try have z52 : w.heap.size + 1 + 1 < w5.heap.size := by omega); (try have z53 : w.heap.size + 1 + 1 + 1 < w5.heap.size := by omega); (try have z54 : w.heap.size + 1 + 1 + 1 + 1 < w5.heap.size := by omega); (try have z55 : w.heap.size + 1 + 1 + 1 + 1 + 1 < w5.heap.size := by omega); (try have z56 : w.heap.size + 1 + 1 + 1 + 1 + 1 + 1 < w5.heap.size := by omega); (try have z57 : w.heap.size + 1 + 1 + 1 + 1 + 1 + 1 + 1 < w5.heap.size := by omega))
            have y5a : w.heap.size < w5.heap.size := (by omega)
            have c5a_0 : w5.cell? ⟨w.heap.size, 0, none⟩ = some (.int .i64 (Al)) := by rw [hc5 _ _ (by first | (simp; done) | (simp; omega) | omega)]; first | done | (simp [go_sem, cta_0, yta, yta, ytb]; done) | assumption
            have c5a_1 : w5.cell? ⟨w.heap.size, 1, none⟩ = some (.int .i64 (Ah)) := by rw [hc5 _ _ (by first | (simp; done) | (simp; omega) | omega)]; first | done | (simp [go_sem, cta_1, yta, yta, ytb]; done) | assumption
            have y5b : w.heap.size + 1 < w5.heap.size := (by omega)
            have c5b_0 : w5.cell? ⟨w.heap.size + 1, 0, none⟩ = some (.int .i64 (Bl)) := by rw [hc5 _ _ (by first | (simp; done) | (simp; omega) | omega)]; first | done | (simp [go_sem, ctb_0, ytb, yta, ytb]; done) | assumption
            have c5b_1 : w5.cell? ⟨w.heap.size + 1, 1, none⟩ = some (.int .i64 (Bh)) := by rw [hc5 _ _ (by first | (simp; done) | (simp; omega) | omega)]; first | done | (simp [go_sem, ctb_1, ytb, yta, ytb]; done) | assumption
            clear hc5 hf5
            go_wp2_with fail
            refine (Join_any _ _ _ _ _).mono ?_
            (rintro e w6 ⟨rfl, hb⟩; obtain ⟨hc6, hf6⟩ := bcell hb; have hz6 := hb.size; (try simp at hz6); have HW6 := Lib.hid (show Below w.heap.size w w6 from Below.trans (by repeat' (first | with_reducible exact HW5.out | with_reducible exact Below.refl _ _ | with_reducible refine Below.drew ?_ | with_reducible refine Below.drewN' ?_ _ | with_reducible refine Below.alloc ?_ ?_ _ | with_reducible refine Below.setCell ?_ ?_ _ | (simp; done) | (simp; omega) | omega)) (hb.mono (by first | (simp; done) | (simp; omega) | omega))); clear hb; (try have z60 : w.heap.size < w6.heap.size := by omega); (try have z61 : w.heap.size + 1 < w6.heap.size := by omega); (try have z62 : w.heap.size + 1 + 1 < w6.heap.size := by omega); (try have z63 : w.heap.size + 1 + 1 + 1 < w6.heap.size := by omega); (try have z64 : w.heap.size + 1 + 1 + 1 + 1 < w6.heap.size := by omega); (try have z65 : w.heap.size + 1 + 1 + 1 + 1 + 1 < w6.heap.size := by omega); (try have z66 : w.heap.size + 1 + 1 + 1 + 1 + 1 + 1 < w6.heap.size := by omega); (try have z67 : w.heap.size + 1 + 1 + 1 + 1 + 1 + 1 + 1 < w6.heap.size := by omega))
            have y6a : w.heap.size < w6.heap.size := (by omega)
            have c6a_0 : w6.cell? ⟨w.heap.size, 0, none⟩ = some (.int .i64 (Al)) := by rw [hc6 _ _ (by first | (simp; done) | (simp; omega) | omega)]; first | done | (simp [go_sem, c5a_0, y5a, y5a, y5b]; done) | assumption
            have c6a_1 : w6.cell? ⟨w.heap.size, 1, none⟩ = some (.int .i64 (Ah)) := by rw [hc6 _ _ (by first | (simp; done) | (simp; omega) | omega)]; first | done | (simp [go_sem, c5a_1, y5a, y5a, y5b]; done) | assumption
            have y6b : w.heap.size + 1 < w6.heap.size := (by omega)
            have c6b_0 : w6.cell? ⟨w.heap.size + 1, 0, none⟩ = some (.int .i64 (Bl)) := by rw [hc6 _ _ (by first | (simp; done) | (simp; omega) | omega)]; first | done | (simp [go_sem, c5b_0, y5b, y5a, y5b]; done) | assumption
            have c6b_1 : w6.cell? ⟨w.heap.size + 1, 1, none⟩ = some (.int .i64 (Bh)) := by rw [hc6 _ _ (by first | (simp; done) | (simp; omega) | omega)]; first | done | (simp [go_sem, c5b_1, y5b, y5a, y5b]; done) | assumption
            have y6m : w5.heap.size < w6.heap.size := (by omega)
            have c6m_0 : w6.cell? ⟨w5.heap.size, 0, none⟩ = some (.int .i64 (ml)) := by rw [hc6 _ _ (by first | (simp; done) | (simp; omega) | omega)]; first | done | (simp [go_sem, y5a, y5b]; done) | assumption
            have c6m_1 : w6.cell? ⟨w5.heap.size, 1, none⟩ = some (.int .i64 (mh)) := by rw [hc6 _ _ (by first | (simp; done) | (simp; omega) | omega)]; first | done | (simp [go_sem, y5a, y5b]; done) | assumption
            clear hc6 hf6
            have J1 : decide (min (Al) (Bl) ≤ x ∧ x ≤ max (Ah) (Bh)) = true := by have h1 := RA.out.2; unfold B.Has at h1; simp only at h1; rw [decide_eq_true_iff]; omega
            have J2 : decide (min (Al) (Bl) ≤ y ∧ y ≤ max (Ah) (Bh)) = true := by have h1 := RB.out.2; unfold B.Has at h1; simp only at h1; rw [decide_eq_true_iff]; omega
            have HJ1 := Lib.hid J1; have HJ2 := Lib.hid J2; clear J1 J2
            go_wp2_with fail
            refine (Has_any _ _ _ _).mono ?_
            rw [HJ1.out]
            (rintro e w7 ⟨rfl, hb⟩; obtain ⟨hc7, hf7⟩ := bcell hb; have hz7 := hb.size; (try simp at hz7); have HW7 := Lib.hid (show Below w.heap.size w w7 from Below.trans (by repeat' (first | with_reducible exact HW6.out | with_reducible exact Below.refl _ _ | with_reducible refine Below.drew ?_ | with_reducible refine Below.drewN' ?_ _ | with_reducible refine Below.alloc ?_ ?_ _ | with_reducible refine Below.setCell ?_ ?_ _ | (simp; done) | (simp; omega) | omega)) (hb.mono (by first | (simp; done) | (simp; omega) | omega))); clear hb; (try have z70 : w.heap.size < w7.heap.size := by omega); (try have z71 : w.heap.size + 1 < w7.heap.size := by omega); (try have z72 : w.heap.size + 1 + 1 < w7.heap.size := by omega); (try have z73 : w.heap.size + 1 + 1 + 1 < w7.heap.size := by omega); (try have z74 : w.heap.size + 1 + 1 + 1 + 1 < w7.heap.size := by omega); (try have z75 : w.heap.size + 1 + 1 + 1 + 1 + 1 < w7.heap.size := by omega); (try have z76 : w.heap.size + 1 + 1 + 1 + 1 + 1 + 1 < w7.heap.size := by omega); (try have z77 : w.heap.size + 1 + 1 + 1 + 1 + 1 + 1 + 1 < w7.heap.size := by omega))
            have y7a : w.heap.size < w7.heap.size := (by omega)
            have c7a_0 : w7.cell? ⟨w.heap.size, 0, none⟩ = some (.int .i64 (Al)) := by rw [hc7 _ _ (by first | (simp; done) | (simp; omega) | omega)]; first | done | (simp [go_sem, c6a_0, y6a, y6a, y6b, y6m]; done) | assumption
            have c7a_1 : w7.cell? ⟨w.heap.size, 1, none⟩ = some (.int .i64 (Ah)) := by rw [hc7 _ _ (by first | (simp; done) | (simp; omega) | omega)]; first | done | (simp [go_sem, c6a_1, y6a, y6a, y6b, y6m]; done) | assumption
            have y7b : w.heap.size + 1 < w7.heap.size := (by omega)
            have c7b_0 : w7.cell? ⟨w.heap.size + 1, 0, none⟩ = some (.int .i64 (Bl)) := by rw [hc7 _ _ (by first | (simp; done) | (simp; omega) | omega)]; first | done | (simp [go_sem, c6b_0, y6b, y6a, y6b, y6m]; done) | assumption
            have c7b_1 : w7.cell? ⟨w.heap.size + 1, 1, none⟩ = some (.int .i64 (Bh)) := by rw [hc7 _ _ (by first | (simp; done) | (simp; omega) | omega)]; first | done | (simp [go_sem, c6b_1, y6b, y6a, y6b, y6m]; done) | assumption
            have y7m : w5.heap.size < w7.heap.size := (by omega)
            have c7m_0 : w7.cell? ⟨w5.heap.size, 0, none⟩ = some (.int .i64 (ml)) := by rw [hc7 _ _ (by first | (simp; done) | (simp; omega) | omega)]; first | done | (simp [go_sem, c6m_0, y6m, y6a, y6b, y6m]; done) | assumption
            have c7m_1 : w7.cell? ⟨w5.heap.size, 1, none⟩ = some (.int .i64 (mh)) := by rw [hc7 _ _ (by first | (simp; done) | (simp; omega) | omega)]; first | done | (simp [go_sem, c6m_1, y6m, y6a, y6b, y6m]; done) | assumption
            have y7j : w6.heap.size < w7.heap.size := (by omega)
            have c7j_0 : w7.cell? ⟨w6.heap.size, 0, none⟩ = some (.int .i64 (min (Al) (Bl))) := by rw [hc7 _ _ (by first | (simp; done) | (simp; omega) | omega)]; first | done | (simp [go_sem, y6a, y6b, y6m]; done) | assumption
            have c7j_1 : w7.cell? ⟨w6.heap.size, 1, none⟩ = some (.int .i64 (max (Ah) (Bh))) := by rw [hc7 _ _ (by first | (simp; done) | (simp; omega) | omega)]; first | done | (simp [go_sem, y6a, y6b, y6m]; done) | assumption
            clear hc7 hf7
            go_wp2_with fail
            refine (Has_any _ _ _ _).mono ?_
            rw [HJ2.out]
            (rintro e w8 ⟨rfl, hb⟩; obtain ⟨hc8, hf8⟩ := bcell hb; have hz8 := hb.size; (try simp at hz8); have HW8 := Lib.hid (show Below w.heap.size w w8 from Below.trans (by repeat' (first | with_reducible exact HW7.out | with_reducible exact Below.refl _ _ | with_reducible refine Below.drew ?_ | with_reducible refine Below.drewN' ?_ _ | with_reducible refine Below.alloc ?_ ?_ _ | with_reducible refine Below.setCell ?_ ?_ _ | (simp; done) | (simp; omega) | omega)) (hb.mono (by first | (simp; done) | (simp; omega) | omega))); clear hb; (try have z80 : w.heap.size < w8.heap.size := by omega); (try have z81 : w.heap.size + 1 < w8.heap.size := by omega); (try have z82 : w.heap.size + 1 + 1 < w8.heap.size := by omega); (try have z83 : w.heap.size + 1 + 1 + 1 < w8.heap.size := by omega); (try have z84 : w.heap.size + 1 + 1 + 1 + 1 < w8.heap.size := by omega); (try have z85 : w.heap.size + 1 + 1 + 1 + 1 + 1 < w8.heap.size := by omega); (try have z86 : w.heap.size + 1 + 1 + 1 + 1 + 1 + 1 < w8.heap.size := by omega); (try have z87 : w.heap.size + 1 + 1 + 1 + 1 + 1 + 1 + 1 < w8.heap.size := by omega))
            have y8a : w.heap.size < w8.heap.size := (by omega)
            have c8a_0 : w8.cell? ⟨w.heap.size, 0, none⟩ = some (.int .i64 (Al)) := by rw [hc8 _ _ (by first | (simp; done) | (simp; omega) | omega)]; first | done | (simp [go_sem, c7a_0, y7a, y7a, y7b, y7m, y7j]; done) | assumption
            have c8a_1 : w8.cell? ⟨w.heap.size, 1, none⟩ = some (.int .i64 (Ah)) := by rw [hc8 _ _ (by first | (simp; done) | (simp; omega) | omega)]; first | done | (simp [go_sem, c7a_1, y7a, y7a, y7b, y7m, y7j]; done) | assumption
            have y8b : w.heap.size + 1 < w8.heap.size := (by omega)
            have c8b_0 : w8.cell? ⟨w.heap.size + 1, 0, none⟩ = some (.int .i64 (Bl)) := by rw [hc8 _ _ (by first | (simp; done) | (simp; omega) | omega)]; first | done | (simp [go_sem, c7b_0, y7b, y7a, y7b, y7m, y7j]; done) | assumption
            have c8b_1 : w8.cell? ⟨w.heap.size + 1, 1, none⟩ = some (.int .i64 (Bh)) := by rw [hc8 _ _ (by first | (simp; done) | (simp; omega) | omega)]; first | done | (simp [go_sem, c7b_1, y7b, y7a, y7b, y7m, y7j]; done) | assumption
            have y8m : w5.heap.size < w8.heap.size := (by omega)
            have c8m_0 : w8.cell? ⟨w5.heap.size, 0, none⟩ = some (.int .i64 (ml)) := by rw [hc8 _ _ (by first | (simp; done) | (simp; omega) | omega)]; first | done | (simp [go_sem, c7m_0, y7m, y7a, y7b, y7m, y7j]; done) | assumption
            have c8m_1 : w8.cell? ⟨w5.heap.size, 1, none⟩ = some (.int .i64 (mh)) := by rw [hc8 _ _ (by first | (simp; done) | (simp; omega) | omega)]; first | done | (simp [go_sem, c7m_1, y7m, y7a, y7b, y7m, y7j]; done) | assumption
            have y8j : w6.heap.size < w8.heap.size := (by omega)
            have c8j_0 : w8.cell? ⟨w6.heap.size, 0, none⟩ = some (.int .i64 (min (Al) (Bl))) := by rw [hc8 _ _ (by first | (simp; done) | (simp; omega) | omega)]; first | done | (simp [go_sem, c7j_0, y7j, y7a, y7b, y7m, y7j]; done) | assumption
            have c8j_1 : w8.cell? ⟨w6.heap.size, 1, none⟩ = some (.int .i64 (max (Ah) (Bh))) := by rw [hc8 _ _ (by first | (simp; done) | (simp; omega) | omega)]; first | done | (simp [go_sem, c7j_1, y7j, y7a, y7b, y7m, y7j]; done) | assumption
            clear hc8 hf8
            have hm := MM.out
            by_cases q1 : Al ≤ Bh <;> by_cases q2 : Bl ≤ Ah <;> simp only [q1, q2, decide_true, decide_false, Bool.and_true, Bool.and_false] at hm <;> subst hm
            · obtain ⟨D1, D2, D3, D4⟩ := MH.out rfl
              have E1 := Lib.hid (show decide (Al ≤ ml ∧ ml ≤ Ah) = true from decide_eq_true D1); have E2 := Lib.hid (show decide (Bl ≤ ml ∧ ml ≤ Bh) = true from decide_eq_true D2)
              have E3 := Lib.hid (show decide (Al ≤ mh ∧ mh ≤ Ah) = true from decide_eq_true D3); have E4 := Lib.hid (show decide (Bl ≤ mh ∧ mh ≤ Bh) = true from decide_eq_true D4)
              clear D1 D2 D3 D4
              go_wp2_with fail
              refine (Has_any _ _ _ _).mono ?_
              rw [E1.out]
              (rintro e w9 ⟨rfl, hb⟩; obtain ⟨hc9, hf9⟩ := bcell hb; have hz9 := hb.size; (try simp at hz9); have HW9 := Lib.hid (show Below w.heap.size w w9 from Below.trans (by repeat' (first | with_reducible exact HW8.out | with_reducible exact Below.refl _ _ | with_reducible refine Below.drew ?_ | with_reducible refine Below.drewN' ?_ _ | with_reducible refine Below.alloc ?_ ?_ _ | with_reducible refine Below.setCell ?_ ?_ _ | (simp; done) | (simp; omega) | omega)) (hb.mono (by first | (simp; done) | (simp; omega) | omega))); clear hb; (try have z90 : w.heap.size < w9.heap.size := by omega); (try have z91 : w.heap.size + 1 < w9.heap.size := by omega); (try have z92 : w.heap.size + 1 + 1 < w9.heap.size := by omega); (try have z93 : w.heap.size + 1 + 1 + 1 < w9.heap.size := by omega); (try have z94 : w.heap.size + 1 + 1 + 1 + 1 < w9.heap.size := by omega); (try have z95 : w.heap.size + 1 + 1 + 1 + 1 + 1 < w9.heap.size := by omega); (try have z96 : w.heap.size + 1 + 1 + 1 + 1 + 1 + 1 < w9.heap.size := by omega); (try have z97 : w.heap.size + 1 + 1 + 1 + 1 + 1 + 1 + 1 < w9.heap.size := by omega))
              have y9a : w.heap.size < w9.heap.size := (by omega)
              have c9a_0 : w9.cell? ⟨w.heap.size, 0, none⟩ = some (.int .i64 (Al)) := by rw [hc9 _ _ (by first | (simp; done) | (simp; omega) | omega)]; first | done | (simp [go_sem, c8a_0, y8a, y8a, y8b, y8m]; done) | assumption
              have c9a_1 : w9.cell? ⟨w.heap.size, 1, none⟩ = some (.int .i64 (Ah)) := by rw [hc9 _ _ (by first | (simp; done) | (simp; omega) | omega)]; first | done | (simp [go_sem, c8a_1, y8a, y8a, y8b, y8m]; done) | assumption
              have y9b : w.heap.size + 1 < w9.heap.size := (by omega)
              have c9b_0 : w9.cell? ⟨w.heap.size + 1, 0, none⟩ = some (.int .i64 (Bl)) := by rw [hc9 _ _ (by first | (simp; done) | (simp; omega) | omega)]; first | done | (simp [go_sem, c8b_0, y8b, y8a, y8b, y8m]; done) | assumption
              have c9b_1 : w9.cell? ⟨w.heap.size + 1, 1, none⟩ = some (.int .i64 (Bh)) := by rw [hc9 _ _ (by first | (simp; done) | (simp; omega) | omega)]; first | done | (simp [go_sem, c8b_1, y8b, y8a, y8b, y8m]; done) | assumption
              have y9m : w5.heap.size < w9.heap.size := (by omega)
              have c9m_0 : w9.cell? ⟨w5.heap.size, 0, none⟩ = some (.int .i64 (ml)) := by rw [hc9 _ _ (by first | (simp; done) | (simp; omega) | omega)]; first | done | (simp [go_sem, c8m_0, y8m, y8a, y8b, y8m]; done) | assumption
              have c9m_1 : w9.cell? ⟨w5.heap.size, 1, none⟩ = some (.int .i64 (mh)) := by rw [hc9 _ _ (by first | (simp; done) | (simp; omega) | omega)]; first | done | (simp [go_sem, c8m_1, y8m, y8a, y8b, y8m]; done) | assumption
              clear hc9 hf9
              go_wp2_with fail
              refine (Has_any _ _ _ _).mono ?_
              rw [E2.out]
              (rintro e wA ⟨rfl, hb⟩; obtain ⟨hcA, hfA⟩ := bcell hb; have hzA := hb.size; (try simp at hzA); have HWA := Lib.hid (show Below w.heap.size w wA from Below.trans (by repeat' (first | with_reducible exact HW9.out | with_reducible exact Below.refl _ _ | with_reducible refine Below.drew ?_ | with_reducible refine Below.drewN' ?_ _ | with_reducible refine Below.alloc ?_ ?_ _ | with_reducible refine Below.setCell ?_ ?_ _ | (simp; done) | (simp; omega) | omega)) (hb.mono (by first | (simp; done) | (simp; omega) | omega))); clear hb; (try have zA0 : w.heap.size < wA.heap.size := by omega); (try have zA1 : w.heap.size + 1 < wA.heap.size := by omega); (try have zA2 : w.heap.size + 1 + 1 < wA.heap.size := by omega); (try have zA3 : w.heap.size + 1 + 1 + 1 < wA.heap.size := by omega); (try have zA4 : w.heap.size + 1 + 1 + 1 + 1 < wA.heap.size := by omega); (try have zA5 : w.heap.size + 1 + 1 + 1 + 1 + 1 < wA.heap.size := by omega); (try have zA6 : w.heap.size + 1 + 1 + 1 + 1 + 1 + 1 < wA.heap.size := by omega); (try have zA7 : w.heap.size + 1 + 1 + 1 + 1 + 1 + 1 + 1 < wA.heap.size := by omega))
              have yAa : w.heap.size < wA.heap.size := (by omega)
              have cAa_0 : wA.cell? ⟨w.heap.size, 0, none⟩ = some (.int .i64 (Al)) := by rw [hcA _ _ (by first | (simp; done) | (simp; omega) | omega)]; first | done | (simp [go_sem, c9a_0, y9a, y9a, y9b, y9m]; done) | assumption
              have cAa_1 : wA.cell? ⟨w.heap.size, 1, none⟩ = some (.int .i64 (Ah)) := by rw [hcA _ _ (by first | (simp; done) | (simp; omega) | omega)]; first | done | (simp [go_sem, c9a_1, y9a, y9a, y9b, y9m]; done) | assumption
              have yAb : w.heap.size + 1 < wA.heap.size := (by omega)
              have cAb_0 : wA.cell? ⟨w.heap.size + 1, 0, none⟩ = some (.int .i64 (Bl)) := by rw [hcA _ _ (by first | (simp; done) | (simp; omega) | omega)]; first | done | (simp [go_sem, c9b_0, y9b, y9a, y9b, y9m]; done) | assumption
              have cAb_1 : wA.cell? ⟨w.heap.size + 1, 1, none⟩ = some (.int .i64 (Bh)) := by rw [hcA _ _ (by first | (simp; done) | (simp; omega) | omega)]; first | done | (simp [go_sem, c9b_1, y9b, y9a, y9b, y9m]; done) | assumption
              have yAm : w5.heap.size < wA.heap.size := (by omega)
              have cAm_0 : wA.cell? ⟨w5.heap.size, 0, none⟩ = some (.int .i64 (ml)) := by rw [hcA _ _ (by first | (simp; done) | (simp; omega) | omega)]; first | done | (simp [go_sem, c9m_0, y9m, y9a, y9b, y9m]; done) | assumption
              have cAm_1 : wA.cell? ⟨w5.heap.size, 1, none⟩ = some (.int .i64 (mh)) := by rw [hcA _ _ (by first | (simp; done) | (simp; omega) | omega)]; first | done | (simp [go_sem, c9m_1, y9m, y9a, y9b, y9m]; done) | assumption
              clear hcA hfA
              go_wp2_with fail
              refine (Has_any _ _ _ _).mono ?_
              rw [E3.out]
              (rintro e wB ⟨rfl, hb⟩; obtain ⟨hcB, hfB⟩ := bcell hb; have hzB := hb.size; (try simp at hzB); have HWB := Lib.hid (show Below w.heap.size w wB from Below.trans (by repeat' (first | with_reducible exact HWA.out | with_reducible exact Below.refl _ _ | with_reducible refine Below.drew ?_ | with_reducible refine Below.drewN' ?_ _ | with_reducible refine Below.alloc ?_ ?_ _ | with_reducible refine Below.setCell ?_ ?_ _ | (simp; done) | (simp; omega) | omega)) (hb.mono (by first | (simp; done) | (simp; omega) | omega))); clear hb; (try have zB0 : w.heap.size < wB.heap.size := by omega); (try have zB1 : w.heap.size + 1 < wB.heap.size := by omega); (try have zB2 : w.heap.size + 1 + 1 < wB.heap.size := by omega); (try have zB3 : w.heap.size + 1 + 1 + 1 < wB.heap.size := by omega); (try have zB4 : w.heap.size + 1 + 1 + 1 + 1 < wB.heap.size := by omega); (try have zB5 : w.heap.size + 1 + 1 + 1 + 1 + 1 < wB.heap.size := by omega); (try have zB6 : w.heap.size + 1 + 1 + 1 + 1 + 1 + 1 < wB.heap.size := by omega); (try have zB7 : w.heap.size + 1 + 1 + 1 + 1 + 1 + 1 + 1 < wB.heap.size := by omega))
              have yBa : w.heap.size < wB.heap.size := (by omega)
              have cBa_0 : wB.cell? ⟨w.heap.size, 0, none⟩ = some (.int .i64 (Al)) := by rw [hcB _ _ (by first | (simp; done) | (simp; omega) | omega)]; first | done | (simp [go_sem, cAa_0, yAa, yAa, yAb, yAm]; done) | assumption
              have cBa_1 : wB.cell? ⟨w.heap.size, 1, none⟩ = some (.int .i64 (Ah)) := by rw [hcB _ _ (by first | (simp; done) | (simp; omega) | omega)]; first | done | (simp [go_sem, cAa_1, yAa, yAa, yAb, yAm]; done) | assumption
              have yBb : w.heap.size + 1 < wB.heap.size := (by omega)
              have cBb_0 : wB.cell? ⟨w.heap.size + 1, 0, none⟩ = some (.int .i64 (Bl)) := by rw [hcB _ _ (by first | (simp; done) | (simp; omega) | omega)]; first | done | (simp [go_sem, cAb_0, yAb, yAa, yAb, yAm]; done) | assumption
              have cBb_1 : wB.cell? ⟨w.heap.size + 1, 1, none⟩ = some (.int .i64 (Bh)) := by rw [hcB _ _ (by first | (simp; done) | (simp; omega) | omega)]; first | done | (simp [go_sem, cAb_1, yAb, yAa, yAb, yAm]; done) | assumption
              have yBm : w5.heap.size < wB.heap.size := (by omega)
              have cBm_0 : wB.cell? ⟨w5.heap.size, 0, none⟩ = some (.int .i64 (ml)) := by rw [hcB _ _ (by first | (simp; done) | (simp; omega) | omega)]; first | done | (simp [go_sem, cAm_0, yAm, yAa, yAb, yAm]; done) | assumption
              have cBm_1 : wB.cell? ⟨w5.heap.size, 1, none⟩ = some (.int .i64 (mh)) := by rw [hcB _ _ (by first | (simp; done) | (simp; omega) | omega)]; first | done | (simp [go_sem, cAm_1, yAm, yAa, yAb, yAm]; done) | assumption
              clear hcB hfB
              go_wp2_with fail
              refine (Has_any _ _ _ _).mono ?_
              rw [E4.out]
              (rintro e wC ⟨rfl, hb⟩; obtain ⟨hcC, hfC⟩ := bcell hb; have hzC := hb.size; (try simp at hzC); have HWC := Lib.hid (show Below w.heap.size w wC from Below.trans (by repeat' (first | with_reducible exact HWB.out | with_reducible exact Below.refl _ _ | with_reducible refine Below.drew ?_ | with_reducible refine Below.drewN' ?_ _ | with_reducible refine Below.alloc ?_ ?_ _ | with_reducible refine Below.setCell ?_ ?_ _ | (simp; done) | (simp; omega) | omega)) (hb.mono (by first | (simp; done) | (simp; omega) | omega))); clear hb; (try have zC0 : w.heap.size < wC.heap.size := by omega); (try have zC1 : w.heap.size + 1 < wC.heap.size := by omega); (try have zC2 : w.heap.size + 1 + 1 < wC.heap.size := by omega); (try have zC3 : w.heap.size + 1 + 1 + 1 < wC.heap.size := by omega); (try have zC4 : w.heap.size + 1 + 1 + 1 + 1 < wC.heap.size := by omega); (try have zC5 : w.heap.size + 1 + 1 + 1 + 1 + 1 < wC.heap.size := by omega); (try have zC6 : w.heap.size + 1 + 1 + 1 + 1 + 1 + 1 < wC.heap.size := by omega); (try have zC7 : w.heap.size + 1 + 1 + 1 + 1 + 1 + 1 + 1 < wC.heap.size := by omega))
              have yCa : w.heap.size < wC.heap.size := (by omega)
              have cCa_0 : wC.cell? ⟨w.heap.size, 0, none⟩ = some (.int .i64 (Al)) := by rw [hcC _ _ (by first | (simp; done) | (simp; omega) | omega)]; first | done | (simp [go_sem, cBa_0, yBa, yBa, yBb, yBm]; done) | assumption
              have cCa_1 : wC.cell? ⟨w.heap.size, 1, none⟩ = some (.int .i64 (Ah)) := by rw [hcC _ _ (by first | (simp; done) | (simp; omega) | omega)]; first | done | (simp [go_sem, cBa_1, yBa, yBa, yBb, yBm]; done) | assumption
              have yCb : w.heap.size + 1 < wC.heap.size := (by omega)
              have cCb_0 : wC.cell? ⟨w.heap.size + 1, 0, none⟩ = some (.int .i64 (Bl)) := by rw [hcC _ _ (by first | (simp; done) | (simp; omega) | omega)]; first | done | (simp [go_sem, cBb_0, yBb, yBa, yBb, yBm]; done) | assumption
              have cCb_1 : wC.cell? ⟨w.heap.size + 1, 1, none⟩ = some (.int .i64 (Bh)) := by rw [hcC _ _ (by first | (simp; done) | (simp; omega) | omega)]; first | done | (simp [go_sem, cBb_1, yBb, yBa, yBb, yBm]; done) | assumption
              have yCm : w5.heap.size < wC.heap.size := (by omega)
              have cCm_0 : wC.cell? ⟨w5.heap.size, 0, none⟩ = some (.int .i64 (ml)) := by rw [hcC _ _ (by first | (simp; done) | (simp; omega) | omega)]; first | done | (simp [go_sem, cBm_0, yBm, yBa, yBb, yBm]; done) | assumption
              have cCm_1 : wC.cell? ⟨w5.heap.size, 1, none⟩ = some (.int .i64 (mh)) := by rw [hcC _ _ (by first | (simp; done) | (simp; omega) | omega)]; first | done | (simp [go_sem, cBm_1, yBm, yBa, yBb, yBm]; done) | assumption
              clear hcC hfC
              go_wp2_with fail
              go_ret
              exact ⟨rfl, (by repeat' (first | with_reducible exact HWC.out | with_reducible exact Below.refl _ _ | with_reducible refine Below.drew ?_ | with_reducible refine Below.drewN' ?_ _ | with_reducible refine Below.alloc ?_ ?_ _ | with_reducible refine Below.setCell ?_ ?_ _ | (simp; done) | (simp; omega) | omega))⟩
            all_goals (first | (exfalso; omega) | (go_wp2_with fail; go_ret; exact ⟨ret_bool (by simp [q1, q2]), (by repeat' (first | with_reducible exact HW8.out | with_reducible exact Below.refl _ _ | with_reducible refine Below.drew ?_ | with_reducible refine Below.drewN' ?_ _ | with_reducible refine Below.alloc ?_ ?_ _ | with_reducible refine Below.setCell ?_ ?_ _ | (simp; done) | (simp; omega) | omega))⟩))

end Go.Proofs.Ytfmcapmaebfppaa.W
