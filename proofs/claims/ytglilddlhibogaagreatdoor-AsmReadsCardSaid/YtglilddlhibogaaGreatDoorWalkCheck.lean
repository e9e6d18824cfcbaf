/- The walks of op.Check and of the reference's Check: what is wrong with a program, and where. Conditions: the program's cells are known; the variable errors.errorType holds the type error's handle. -/
import Derived.Test.YtglilddlhibogaaGreatDoorWalkStep
import Derived.Test.YtglilddlhibogaaGreatDoorPlace
import Derived.Test.YtglilddlhibogaaGreatDoorPureStep
namespace Go.Proofs.YtglilddlhibogaaGreatDoor.W
open Go.RowKit Go.Proofs.YtglilddlhibogaaGreatDoor.P
set_option linter.unusedSimpArgs false
set_option linter.unusedVariables false

/-- a program's cells -/
def Cells (w : World) (a : Addr) (S : Nat → Step) (n : Nat) : Prop := ∀ i, i < n →
  w.cell? (a.add (i * 6)) = some (.int .i64 (S i).code) ∧ w.cell? ⟨(a.add (i * 6)).block, (a.add (i * 6)).off + 1, none⟩ = some (.int .i64 (S i).dst) ∧
  w.cell? ⟨(a.add (i * 6)).block, (a.add (i * 6)).off + 2, none⟩ = some (.int .i64 (S i).src) ∧ w.cell? ⟨(a.add (i * 6)).block, (a.add (i * 6)).off + 3, none⟩ = some (.bool (S i).reg) ∧
  w.cell? ⟨(a.add (i * 6)).block, (a.add (i * 6)).off + 4, none⟩ = some (.int .i64 (S i).off) ∧ w.cell? ⟨(a.add (i * 6)).block, (a.add (i * 6)).off + 5, none⟩ = some (.int .i64 (S i).num)
theorem Cells.later {w w' : World} {a : Addr} {S : Nat → Step} {n : Nat} (h : Cells w a S n) (hb : Below w.heap.size w w') : Cells w' a S n := by
  intro i hi
  obtain ⟨e0, e1, e2, e3, e4, e5⟩ := h i hi
  have l := block_lt_of_cell e0
  exact ⟨(hb.cell l).trans e0, (hb.cell (p := ⟨_, _, none⟩) l).trans e1, (hb.cell (p := ⟨_, _, none⟩) l).trans e2, (hb.cell (p := ⟨_, _, none⟩) l).trans e3, (hb.cell (p := ⟨_, _, none⟩) l).trans e4, (hb.cell (p := ⟨_, _, none⟩) l).trans e5⟩

/-- an error that the program gives: its number, and its place -/
def ErrIs (w : World) (v : Value) (n p : Int) : Prop :=
  (v = .nilIface ∧ n = 0 ∧ p = -1) ∨ (n ≠ 0 ∧ v = .iface 30 (.int .i64 n) ∧ p = -1) ∨
  (n ≠ 0 ∧ ∃ b, v = .iface 119 (.pointer (some ⟨b, 0, none⟩)) ∧ w.cell? ⟨b, 0, none⟩ = some (.int .i64 n) ∧ w.cell? ⟨b, 1, none⟩ = some (.int .i64 p))

set_option maxRecDepth 100000 in
set_option maxHeartbeats 8000000 in
theorem Check_some (a : Addr) (n cap : Nat) (S : Nat → Step) (hn : 1 ≤ n) (hn2 : n ≤ 200) (hcap : n ≤ cap) (w : World) (hs : Cells w a S n) (hg : w.cell? ⟨5, 0, none⟩ = some (.iface 317 (.agg #[.pointer (some ⟨14, 26, none⟩)]))) :
    Calls Tryz.prog 40 #[.slice (some a) n cap] w fun e w' => ∃ v, e = .returned v ∧ ErrIs w' v (from_ S n 0 n).1 (from_ S n 0 n).2 ∧ Below w.heap.size w w' := by
  have HW0 := Lib.hid (Below.refl w.heap.size w)
  have gz := block_lt_of_cell hg
  have n1 : ¬ (n : Int) < 1 := by omega
  have n2 : ¬ 200 < (n : Int) := by omega
  go_enter Tryz.func40, Tryz.ntmps40
  go_wp2_with fail
  go_loopw [17] (fun i wr => ∃ k : Nat, k ≤ n ∧ i = .int .i64 k ∧ from_ S n 0 n = from_ S n k (n - k) ∧ Below w.heap.size w wr) (fun i _ => n - (intOf i).toNat)
  case atStart => exact ⟨0, by omega, rfl, by rw [Nat.sub_zero], Below.refl _ _⟩
  case round =>
    obtain ⟨k, hk, rfl, hfr, HB⟩ := hrel
    by_cases h : k < n
    · have hk1 : (k : Int) < n := by omega
      obtain ⟨e0, e1, e2, e3, e4, e5⟩ := hs.later HB k h
      have HWr := Lib.hid HB
      have zr : w.heap.size ≤ wr.heap.size := HB.size
      have HFR := Lib.hid hfr
      clear HB hfr
      go_wp2_with fail
      refine (Wrong_any _ _ _ _ _ _ _).mono ?_
      rw [show wrong (S k).code (S k).dst (S k).src (S k).reg (S k).off (S k).num = (S k).wrong from rfl]
      (rintro e w1 ⟨rfl, hb⟩; obtain ⟨hc1, hf1⟩ := bcell hb; have hz1 := hb.size; (try simp at hz1); have HW1 := Lib.hid (show Below w.heap.size w w1 from Below.trans (by repeat' (first | with_reducible (first | exact HWr.out | apply bR | apply bD | apply bN | apply bA | apply bS) | (simp; done) | (simp; omega) | omega)) (hb.mono (by first | omega | simp <;> omega))); clear hb; (try have z10 : w.heap.size < w1.heap.size := by omega); (try have z11 : w.heap.size + 1 < w1.heap.size := by omega))
      have b0 : w1.cell? ⟨wr.heap.size, 0, none⟩ = some (.int .i64 (S k).code) := by rw [hc1 _ _ (by simp)]; simp [go_sem]
      have b4 : w1.cell? ⟨wr.heap.size, 4, none⟩ = some (.int .i64 (S k).off) := by rw [hc1 _ _ (by simp)]; simp [go_sem]
      clear hc1 hf1
      by_cases hw : (S k).wrong = 0
      · rw [hw, errV_0]
        go_wp2_with (go_at_call 68; refine (Asks_any _ _).mono ?_; rintro e w' ⟨rfl, rfl⟩; rw [asks_of])
        all_goals (try simp only [Bool.not_eq_eq_eq_not, Bool.not_true, Bool.not_false, decide_eq_true_eq, decide_eq_false_iff_not, Bool.or_eq_true, Bool.and_eq_true, Bool.or_eq_false_iff, Bool.and_eq_false_iff, beq_iff_eq, beq_eq_false_iff_ne, bne_iff_ne, bne_eq_false_iff_eq, ne_eq] at *)
        all_goals first
          | (go_ret
             have HA : at_ S n k = 10 := by unfold at_ Step.leads; rw [if_neg (not_not_intro hw), if_pos (by omega)]
             refine ⟨_, rfl, .inr (.inr ⟨?_, w1.heap.size, rfl, ?_, ?_⟩), (by repeat' (first | with_reducible (first | exact HW1.out | apply bR | apply bD | apply bN | apply bA | apply bS) | (simp; done) | (simp; omega) | omega))⟩
             · rw [HFR.out, from_hit h (by rw [HA]; decide), HA]; simp
             · rw [HFR.out, from_hit h (by rw [HA]; decide), HA]; first | (simp; done) | (simp; omega)
             · rw [HFR.out, from_hit h (by rw [HA]; decide), HA]; first | (simp; done) | (simp; omega))
          | (go_roundw
             case rel =>
               have HA : at_ S n k = 0 := by unfold at_ Step.leads; rw [if_neg (not_not_intro hw), if_neg (by omega), if_neg (by omega)]
               exact ⟨k + 1, by omega, by go_num, HFR.out.trans (from_next h HA), HW1.out⟩
             case measure => simp [intOf]; omega)
          | (go_ret
             have HA : at_ S n k = 8 := by unfold at_ Step.leads; rw [if_neg (not_not_intro hw), if_neg (by omega), if_pos (by omega)]
             refine ⟨_, rfl, .inr (.inr ⟨?_, w1.heap.size, rfl, ?_, ?_⟩), (by repeat' (first | with_reducible (first | exact HW1.out | apply bR | apply bD | apply bN | apply bA | apply bS) | (simp; done) | (simp; omega) | omega))⟩
             · rw [HFR.out, from_hit h (by rw [HA]; decide), HA]; simp
             · rw [HFR.out, from_hit h (by rw [HA]; decide), HA]; first | (simp; done) | (simp; omega)
             · rw [HFR.out, from_hit h (by rw [HA]; decide), HA]; first | (simp; done) | (simp; omega))
      · rw [errV_pos hw]
        go_wp2_with fail
        refine (Tell_errno _ _ ((HW1.out.cell gz).trans hg)).mono ?_
        (rintro e w2 ⟨rfl, hb⟩; obtain ⟨hc2, hf2⟩ := bcell hb; have hz2 := hb.size; (try simp at hz2); have HW2 := Lib.hid (show Below w.heap.size w w2 from Below.trans (by repeat' (first | with_reducible (first | exact HW1.out | apply bR | apply bD | apply bN | apply bA | apply bS) | (simp; done) | (simp; omega) | omega)) (hb.mono (by first | omega | simp <;> omega))); clear hb; (try have z20 : w.heap.size < w2.heap.size := by omega); (try have z21 : w.heap.size + 1 < w2.heap.size := by omega))
        clear hc2 hf2
        go_wp2_with fail
        go_ret
        refine ⟨_, rfl, .inr (.inr ⟨?_, w2.heap.size, rfl, ?_, ?_⟩), (by repeat' (first | with_reducible (first | exact HW2.out | apply bR | apply bD | apply bN | apply bA | apply bS) | (simp; done) | (simp; omega) | omega))⟩
        · rw [HFR.out, from_hit h (by unfold at_; rw [if_pos hw]; exact hw)]; unfold at_; rw [if_pos hw]; exact hw
        · rw [HFR.out, from_hit h (by unfold at_; rw [if_pos hw]; exact hw)]; unfold at_; rw [if_pos hw]; simp
        · rw [HFR.out, from_hit h (by unfold at_; rw [if_pos hw]; exact hw)]; simp
    · obtain rfl : k = n := by omega
      go_wp2_with fail
      go_ret
      refine ⟨_, rfl, .inl ⟨rfl, ?_, ?_⟩, HB⟩ <;> rw [hfr, from_end]

set_option maxRecDepth 100000 in
set_option maxHeartbeats 8000000 in
theorem Check_limit (a : Option Addr) (n cap : Nat) (hn : n < 1 ∨ 200 < n) (hcap : n ≤ cap) (w : World) :
    Calls Tryz.prog 40 #[.slice a n cap] w fun e w' => e = .returned (.iface 30 (.int .i64 4)) ∧ w = w' := by
  by_cases h : n < 1
  · have n1 : (n : Int) < 1 := by omega
    go_enter Tryz.func40, Tryz.ntmps40
    go_wp2_with fail
    go_ret
    exact ⟨rfl, rfl⟩
  · have n1 : ¬ (n : Int) < 1 := by omega
    have n2 : 200 < (n : Int) := by omega
    go_enter Tryz.func40, Tryz.ntmps40
    go_wp2_with fail
    go_ret
    exact ⟨rfl, rfl⟩

theorem Bare_any (e : Int) (w : World) : Calls Tryz.prog 18 #[.int .i64 e] w fun v w' => v = .returned (.agg #[.int .i64 e, .int .i64 (-1)]) ∧ Below w.heap.size w w' := by
  go_enter Tryz.func18, Tryz.ntmps18
  go_wp2_with fail
  exact bodyPost_ret (v := .agg #[.int .i64 e, .int .i64 (-1)]) (by simp [results, Tryz.results18, go_sem]) rfl ⟨rfl, (by repeat (first | exact Below.refl _ _ | refine Below.drew ?_ | refine Below.drewN' ?_ _ | refine Below.alloc ?_ (by simp; try omega) _ | refine Below.setCell ?_ (by simp; try omega) _ | refine Below.trans ?_ (Below.mono (by assumption) (by simp; try omega)) | refine Below.trans ?_ (Below.mono (Lib.Hid.out (by assumption)) (by simp; try omega))))⟩

set_option maxRecDepth 100000 in
set_option maxHeartbeats 8000000 in
theorem RefCheck_limit (a : Option Addr) (n cap : Nat) (hn : n < 1 ∨ 200 < n) (hcap : n ≤ cap) (w : World) :
    Calls Tryz.prog 35 #[.slice a n cap] w fun e w' => e = .returned (.agg #[.int .i64 4, .int .i64 (-1)]) ∧ Below w.heap.size w w' := by
  have HW0 := Lib.hid (Below.refl w.heap.size w)
  have h5 : (decide (1 ≤ (n : Int)) && decide ((n : Int) ≤ 200)) = false := by simp; omega
  clear hn
  go_enter Tryz.func35, Tryz.ntmps35
  go_wp2_with (go_at_call 50; refine (In_any _ _ _ _).mono ?_; rintro e w' ⟨rfl, rfl⟩; rw [h5])
  refine (Bare_any _ _).mono ?_
  (rintro e w1 ⟨rfl, hb⟩; obtain ⟨hc1, hf1⟩ := bcell hb; have hz1 := hb.size; (try simp at hz1); have HW1 := Lib.hid (show Below w.heap.size w w1 from Below.trans (by repeat' (first | with_reducible (first | exact HW0.out | apply bR | apply bD | apply bN | apply bA | apply bS) | (simp; done) | (simp; omega) | omega)) (hb.mono (by first | omega | simp <;> omega))); clear hb; (try have z10 : w.heap.size < w1.heap.size := by omega); (try have z11 : w.heap.size + 1 < w1.heap.size := by omega))
  have b0 : w1.cell? ⟨w.heap.size, 0, none⟩ = some (.int .i64 0) := by rw [hc1 _ _ (by simp)]; simp [go_sem]
  have b1 : w1.cell? ⟨w.heap.size, 1, none⟩ = some (.int .i64 0) := by rw [hc1 _ _ (by simp)]; simp [go_sem]
  have r0 : w1.frozen? ⟨w.heap.size, 0, none⟩ = false := by rw [hf1 _ _ (by simp)]; simp [go_sem]
  have r1 : w1.frozen? ⟨w.heap.size, 1, none⟩ = false := by rw [hf1 _ _ (by simp)]; simp [go_sem]
  clear hc1 hf1
  go_wp2_with fail
  exact bodyPost_ret (v := .agg #[.int .i64 4, .int .i64 (-1)]) (by simp [results, Tryz.results35, go_sem, b0, b1, z10]) rfl ⟨rfl, (by repeat' (first | with_reducible (first | exact HW1.out | apply bR | apply bD | apply bN | apply bA | apply bS) | (simp; done) | (simp; omega) | omega))⟩

set_option maxRecDepth 100000 in
set_option maxHeartbeats 8000000 in
theorem RefCheck_some (a : Addr) (n cap : Nat) (S : Nat → Step) (hn : 1 ≤ n) (hn2 : n ≤ 200) (hcap : n ≤ cap) (w : World) (hs : Cells w a S n) :
    Calls Tryz.prog 35 #[.slice (some a) n cap] w fun e w' => e = .returned (.agg #[.int .i64 (from_ S n 0 n).1, .int .i64 (from_ S n 0 n).2]) ∧ Below w.heap.size w w' := by
  have HW0 := Lib.hid (Below.refl w.heap.size w)
  have h5 : (decide (1 ≤ (n : Int)) && decide ((n : Int) ≤ 200)) = true := by simp; omega
  go_enter Tryz.func35, Tryz.ntmps35
  go_wp2_with (go_at_call 50; refine (In_any _ _ _ _).mono ?_; rintro e w' ⟨rfl, rfl⟩; rw [h5])
  clear h5
  go_loopw [14] (fun i wr => ∃ k : Nat, k ≤ n ∧ i = .int .i64 k ∧ from_ S n 0 n = from_ S n k (n - k) ∧ wr.cell? ⟨w.heap.size, 0, none⟩ = some (.int .i64 0) ∧ wr.cell? ⟨w.heap.size, 1, none⟩ = some (.int .i64 0) ∧ wr.frozen? ⟨w.heap.size, 0, none⟩ = false ∧ wr.frozen? ⟨w.heap.size, 1, none⟩ = false ∧ w.heap.size < wr.heap.size ∧ Below w.heap.size w wr) (fun i _ => n - (intOf i).toNat)
  case atStart => exact ⟨0, by omega, rfl, by rw [Nat.sub_zero], by simp [go_sem], by simp [go_sem], by simp [go_sem], by simp [go_sem], by simp, (by repeat' (first | with_reducible (first | exact HW0.out | apply bR | apply bD | apply bN | apply bA | apply bS) | (simp; done) | (simp; omega) | omega))⟩
  case round =>
    obtain ⟨k, hk, rfl, hfr, a0, a1, q0, q1, zr, HB⟩ := hrel
    have HWr := Lib.hid HB
    have HFR := Lib.hid hfr
    by_cases h : k < n
    · have hk1 : (k : Int) < n := by omega
      obtain ⟨e0, e1, e2, e3, e4, e5⟩ := hs.later HB k h
      clear HB hfr
      go_wp2_with fail
      refine (RefWrong_any _ _ _ _ _ _ _).mono ?_
      rw [show wrong (S k).code (S k).dst (S k).src (S k).reg (S k).off (S k).num = (S k).wrong from rfl]
      (rintro e w1 ⟨rfl, hb⟩; obtain ⟨hc1, hf1⟩ := bcell hb; have hz1 := hb.size; (try simp at hz1); have HW1 := Lib.hid (show Below w.heap.size w w1 from Below.trans (by repeat' (first | with_reducible (first | exact HWr.out | apply bR | apply bD | apply bN | apply bA | apply bS) | (simp; done) | (simp; omega) | omega)) (hb.mono (by first | omega | simp <;> omega))); clear hb; (try have z10 : w.heap.size < w1.heap.size := by omega); (try have z11 : w.heap.size + 1 < w1.heap.size := by omega))
      have b0 : w1.cell? ⟨wr.heap.size, 0, none⟩ = some (.int .i64 (S k).code) := by rw [hc1 _ _ (by simp)]; simp [go_sem]
      have b4 : w1.cell? ⟨wr.heap.size, 4, none⟩ = some (.int .i64 (S k).off) := by rw [hc1 _ _ (by simp)]; simp [go_sem]
      have d0 : w1.cell? ⟨w.heap.size, 0, none⟩ = some (.int .i64 0) := by rw [hc1 _ _ (by simp; omega)]; simp [go_sem, a0, zr]
      have d1 : w1.cell? ⟨w.heap.size, 1, none⟩ = some (.int .i64 0) := by rw [hc1 _ _ (by simp; omega)]; simp [go_sem, a1, zr]
      have s0 : w1.frozen? ⟨w.heap.size, 0, none⟩ = false := by rw [hf1 _ _ (by simp; omega)]; simp [go_sem, q0, zr]
      have s1 : w1.frozen? ⟨w.heap.size, 1, none⟩ = false := by rw [hf1 _ _ (by simp; omega)]; simp [go_sem, q1, zr]
      clear hc1 hf1 a0 a1 q0 q1
      by_cases hw : (S k).wrong = 0
      · rw [hw]
        go_wp2_with (go_at_call 58; refine (RefAsks_any _ _).mono ?_; rintro e w' ⟨rfl, rfl⟩; rw [asks_of])
        all_goals (try simp only [Bool.not_eq_eq_eq_not, Bool.not_true, Bool.not_false, decide_eq_true_eq, decide_eq_false_iff_not, Bool.or_eq_true, Bool.and_eq_true, Bool.or_eq_false_iff, Bool.and_eq_false_iff, beq_iff_eq, beq_eq_false_iff_ne, bne_iff_ne, bne_eq_false_iff_eq, ne_eq] at *)
        all_goals first
          | (have HA : at_ S n k = 10 := by unfold at_ Step.leads; rw [if_neg (not_not_intro hw), if_pos (by omega)]
             refine bodyPost_ret (v := .agg #[.int .i64 10, .int .i64 k]) (by simp [results, Tryz.results35, go_sem, b0, d0, d1, z10]; try omega) rfl ⟨by rw [HFR.out, from_hit h (by rw [HA]; decide), HA], (by repeat' (first | with_reducible (first | exact HW1.out | apply bR | apply bD | apply bN | apply bA | apply bS) | (simp; done) | (simp; omega) | omega))⟩)
          | (have HA : at_ S n k = 8 := by unfold at_ Step.leads; rw [if_neg (not_not_intro hw), if_neg (by omega), if_pos (by omega)]
             refine bodyPost_ret (v := .agg #[.int .i64 8, .int .i64 k]) (by simp [results, Tryz.results35, go_sem, b0, d0, d1, z10]; try omega) rfl ⟨by rw [HFR.out, from_hit h (by rw [HA]; decide), HA], (by repeat' (first | with_reducible (first | exact HW1.out | apply bR | apply bD | apply bN | apply bA | apply bS) | (simp; done) | (simp; omega) | omega))⟩)
          | (go_roundw
             case rel =>
               have HA : at_ S n k = 0 := by unfold at_ Step.leads; rw [if_neg (not_not_intro hw), if_neg (by omega), if_neg (by omega)]
               exact ⟨k + 1, by omega, by go_num, HFR.out.trans (from_next h HA), d0, d1, s0, s1, by omega, HW1.out⟩
             case measure => simp [intOf]; omega)
      · have hw2 : ((S k).wrong == 0) = false := by rw [beq_eq_false_iff_ne]; exact hw
        go_wp2_with fail
        have HA : at_ S n k = (S k).wrong := by unfold at_; rw [if_pos hw]
        exact bodyPost_ret (v := .agg #[.int .i64 (S k).wrong, .int .i64 k]) (by simp [results, Tryz.results35, go_sem, d0, d1, z10]) rfl ⟨by rw [HFR.out, from_hit h (by rw [HA]; exact hw), HA], (by repeat' (first | with_reducible (first | exact HW1.out | apply bR | apply bD | apply bN | apply bA | apply bS) | (simp; done) | (simp; omega) | omega))⟩
    · obtain rfl : k = n := by omega
      go_wp2_with fail
      refine (Bare_any _ _).mono ?_
      (rintro e w1 ⟨rfl, hb⟩; obtain ⟨hc1, hf1⟩ := bcell hb; have hz1 := hb.size; (try simp at hz1); have HW1 := Lib.hid (show Below w.heap.size w w1 from Below.trans (by repeat' (first | with_reducible (first | exact HWr.out | apply bR | apply bD | apply bN | apply bA | apply bS) | (simp; done) | (simp; omega) | omega)) (hb.mono (by first | omega | simp <;> omega))); clear hb; (try have z10 : w.heap.size < w1.heap.size := by omega); (try have z11 : w.heap.size + 1 < w1.heap.size := by omega))
      have d0 : w1.cell? ⟨w.heap.size, 0, none⟩ = some (.int .i64 0) := by rw [hc1 _ _ (by first | omega | simp <;> omega)]; assumption
      have d1 : w1.cell? ⟨w.heap.size, 1, none⟩ = some (.int .i64 0) := by rw [hc1 _ _ (by first | omega | simp <;> omega)]; assumption
      have s0 : w1.frozen? ⟨w.heap.size, 0, none⟩ = false := by rw [hf1 _ _ (by first | omega | simp <;> omega)]; assumption
      have s1 : w1.frozen? ⟨w.heap.size, 1, none⟩ = false := by rw [hf1 _ _ (by first | omega | simp <;> omega)]; assumption
      clear hc1 hf1
      go_wp2_with fail
      exact bodyPost_ret (v := .agg #[.int .i64 0, .int .i64 (-1)]) (by simp [results, Tryz.results35, go_sem, d0, d1, z10]) rfl ⟨by rw [HFR.out, from_end], (by repeat' (first | with_reducible (first | exact HW1.out | apply bR | apply bD | apply bN | apply bA | apply bS) | (simp; done) | (simp; omega) | omega))⟩

end Go.Proofs.YtglilddlhibogaaGreatDoor.W
