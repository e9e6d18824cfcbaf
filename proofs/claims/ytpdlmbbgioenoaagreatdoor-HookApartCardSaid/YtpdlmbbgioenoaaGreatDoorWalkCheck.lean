/- A part of the proof; each theorem states its conditions. -/
import Derived.Test.YtpdlmbbgioenoaaGreatDoorWalkStep
import Derived.Test.YtpdlmbbgioenoaaGreatDoorPlace
set_option linter.unusedSimpArgs false
set_option linter.unusedVariables false
set_option maxRecDepth 100000
namespace Go.Proofs.YtpdlmbbgioenoaaGreatDoor.W
open Go.RowKit Go.Proofs.YtpdlmbbgioenoaaGreatDoor.P
def Cells (w : World) (a : Addr) (S : Nat → Step) (n : Nat) : Prop := ∀ i, i < n →
  w.cell? (a.add (i * 6)) = some (.int .i64 (S i).code) ∧ w.cell? ⟨(a.add (i * 6)).block, (a.add (i * 6)).off + 1, none⟩ = some (.int .i64 (S i).dst) ∧
  w.cell? ⟨(a.add (i * 6)).block, (a.add (i * 6)).off + 2, none⟩ = some (.int .i64 (S i).src) ∧ w.cell? ⟨(a.add (i * 6)).block, (a.add (i * 6)).off + 3, none⟩ = some (.bool (S i).reg) ∧
  w.cell? ⟨(a.add (i * 6)).block, (a.add (i * 6)).off + 4, none⟩ = some (.int .i64 (S i).off) ∧ w.cell? ⟨(a.add (i * 6)).block, (a.add (i * 6)).off + 5, none⟩ = some (.int .i64 (S i).num)
theorem Cells.later {w w' : World} {a : Addr} {S : Nat → Step} {n : Nat} (h : Cells w a S n) (hb : Below w.heap.size w w') : Cells w' a S n := by
  intro i hi
  obtain ⟨e0, e1, e2, e3, e4, e5⟩ := h i hi
  have l := block_lt_of_cell e0
  exact ⟨(hb.cell l).trans e0, (hb.cell (p := ⟨_, _, none⟩) l).trans e1, (hb.cell (p := ⟨_, _, none⟩) l).trans e2, (hb.cell (p := ⟨_, _, none⟩) l).trans e3, (hb.cell (p := ⟨_, _, none⟩) l).trans e4, (hb.cell (p := ⟨_, _, none⟩) l).trans e5⟩
def ErrIs (w : World) (v : Value) (n p : Int) : Prop :=
  (v = .nilIface ∧ n = 0 ∧ p = -1) ∨ (n ≠ 0 ∧ v = .iface 30 (.int .i64 n) ∧ p = -1) ∨
  (n ≠ 0 ∧ ∃ b, v = .iface 145 (.pointer (some ⟨b, 0, none⟩)) ∧ w.cell? ⟨b, 0, none⟩ = some (.int .i64 n) ∧ w.cell? ⟨b, 1, none⟩ = some (.int .i64 p))
set_option maxHeartbeats 8000000 in
theorem Check_some (a : Addr) (n cap : Nat) (S : Nat → Step) (hn : 1 ≤ n) (hn2 : n ≤ 200) (hcap : n ≤ cap) (w : World) (hs : Cells w a S n) (hg : w.cell? ⟨4, 0, none⟩ = some (.iface 298 (.agg #[.pointer (some ⟨14, 26, none⟩)]))) :
    Calls Tryz.prog 28 #[.slice (some a) n cap] w fun e w' => ∃ v, e = .returned v ∧ ErrIs w' v (from_ S n 0 n).1 (from_ S n 0 n).2 ∧ Below w.heap.size w w' := by
  have HW0 := Lib.hid (Below.refl w.heap.size w)
  have gz := block_lt_of_cell hg
  have n1 : ¬ (n : Int) < 1 := by omega
  have n2 : ¬ 200 < (n : Int) := by omega
  go_enter Tryz.func28, Tryz.ntmps28
  go_wp2_with fail
  go_loopw [17] (fun i wr => ∃ k : Nat, k ≤ n ∧ i = .int .i64 k ∧ from_ S n 0 n = from_ S n k (n - k) ∧ Below w.heap.size w wr) (fun i _ => n - (intOf i).toNat)
  case atStart => exact ⟨0, by omega, rfl, by rw [Nat.sub_zero], Below.refl _ _⟩
  case round =>
    obtain ⟨k, hk, rfl, hfr, HB⟩ := hrel
    by_cases h : k < n
    · have hk1 : (k : Int) < n := by omega
      obtain ⟨e0, e1, e2, e3, e4, e5⟩ := hs.later HB k h
      have HWr := Lib.hid HB
      have zr : w.heap.size ≤ wr.heap.size := HB.size
      have HFR := Lib.hid hfr
      clear HB hfr
      go_wp2_with fail
      refine (Wrong_any _ _ _ _ _ _ _).mono ?_
      rw [show wrong (S k).code (S k).dst (S k).src (S k).reg (S k).off (S k).num = (S k).wrong from rfl]
      (rintro e w1 ⟨rfl, hb⟩; obtain ⟨hc1, hf1⟩ := bcell hb; have hz1 := hb.size; (try simp at hz1); have HW1 := Lib.hid (show Below w.heap.size w w1 from Below.trans (by repeat' (first | with_reducible (first | exact HWr.out | apply bR | apply bD | apply bN | apply bA | apply bS) | (simp; done) | (simp; omega) | omega)) (hb.mono (by first | omega | simp <;> omega))); clear hb; (try have z10 : w.heap.size < w1.heap.size := by omega); (try have z11 : w.heap.size + 1 < w1.heap.size := by omega))
      have b0 : w1.cell? ⟨wr.heap.size, 0, none⟩ = some (.int .i64 (S k).code) := by rw [hc1 _ _ (by simp)]; simp [go_sem]
      have b4 : w1.cell? ⟨wr.heap.size, 4, none⟩ = some (.int .i64 (S k).off) := by rw [hc1 _ _ (by simp)]; simp [go_sem]
      clear hc1 hf1
      by_cases hw : (S k).wrong = 0
      · rw [hw, errV_0]
        go_wp2_with (go_at_call 63; refine (Asks_any _ _).mono ?_; rintro e w' ⟨rfl, rfl⟩; rw [asks_of])
        all_goals (try simp only [Bool.not_eq_eq_eq_not, Bool.not_true, Bool.not_false, decide_eq_true_eq, decide_eq_false_iff_not, Bool.or_eq_true, Bool.and_eq_true, Bool.or_eq_false_iff, Bool.and_eq_false_iff, beq_iff_eq, beq_eq_false_iff_ne, bne_iff_ne, bne_eq_false_iff_eq, ne_eq] at *)
        all_goals first
          | (go_ret
             have HA : at_ S n k = 10 := by unfold at_ Step.leads; rw [if_neg (not_not_intro hw), if_pos (by omega)]
             refine ⟨_, rfl, .inr (.inr ⟨?_, w1.heap.size, rfl, ?_, ?_⟩), (by repeat' (first | with_reducible (first | exact HW1.out | apply bR | apply bD | apply bN | apply bA | apply bS) | (simp; done) | (simp; omega) | omega))⟩
             · rw [HFR.out, from_hit h (by rw [HA]; decide), HA]; simp
             · rw [HFR.out, from_hit h (by rw [HA]; decide), HA]; first | (simp; done) | (simp; omega)
             · rw [HFR.out, from_hit h (by rw [HA]; decide), HA]; first | (simp; done) | (simp; omega))
          | (go_roundw
             case rel =>
               have HA : at_ S n k = 0 := by unfold at_ Step.leads; rw [if_neg (not_not_intro hw), if_neg (by omega), if_neg (by omega)]
               exact ⟨k + 1, by omega, by go_num, HFR.out.trans (from_next h HA), HW1.out⟩
             case measure => simp [intOf]; omega)
          | (go_ret
             have HA : at_ S n k = 8 := by unfold at_ Step.leads; rw [if_neg (not_not_intro hw), if_neg (by omega), if_pos (by omega)]
             refine ⟨_, rfl, .inr (.inr ⟨?_, w1.heap.size, rfl, ?_, ?_⟩), (by repeat' (first | with_reducible (first | exact HW1.out | apply bR | apply bD | apply bN | apply bA | apply bS) | (simp; done) | (simp; omega) | omega))⟩
             · rw [HFR.out, from_hit h (by rw [HA]; decide), HA]; simp
             · rw [HFR.out, from_hit h (by rw [HA]; decide), HA]; first | (simp; done) | (simp; omega)
             · rw [HFR.out, from_hit h (by rw [HA]; decide), HA]; first | (simp; done) | (simp; omega))
      · rw [errV_pos hw]
        go_wp2_with fail
        refine (Tell_errno _ _ ((HW1.out.cell gz).trans hg)).mono ?_
        (rintro e w2 ⟨rfl, hb⟩; obtain ⟨hc2, hf2⟩ := bcell hb; have hz2 := hb.size; (try simp at hz2); have HW2 := Lib.hid (show Below w.heap.size w w2 from Below.trans (by repeat' (first | with_reducible (first | exact HW1.out | apply bR | apply bD | apply bN | apply bA | apply bS) | (simp; done) | (simp; omega) | omega)) (hb.mono (by first | omega | simp <;> omega))); clear hb; (try have z20 : w.heap.size < w2.heap.size := by omega); (try have z21 : w.heap.size + 1 < w2.heap.size := by omega))
        clear hc2 hf2
        go_wp2_with fail
        go_ret
        refine ⟨_, rfl, .inr (.inr ⟨?_, w2.heap.size, rfl, ?_, ?_⟩), (by repeat' (first | with_reducible (first | exact HW2.out | apply bR | apply bD | apply bN | apply bA | apply bS) | (simp; done) | (simp; omega) | omega))⟩
        · rw [HFR.out, from_hit h (by unfold at_; rw [if_pos hw]; exact hw)]; unfold at_; rw [if_pos hw]; exact hw
        · rw [HFR.out, from_hit h (by unfold at_; rw [if_pos hw]; exact hw)]; unfold at_; rw [if_pos hw]; simp
        · rw [HFR.out, from_hit h (by unfold at_; rw [if_pos hw]; exact hw)]; simp
    · obtain rfl : k = n := by omega
      go_wp2_with fail
      go_ret
      refine ⟨_, rfl, .inl ⟨rfl, ?_, ?_⟩, HB⟩ <;> rw [hfr, from_end]
set_option maxHeartbeats 8000000 in
theorem Check_limit (a : Option Addr) (n cap : Nat) (hn : n < 1 ∨ 200 < n) (hcap : n ≤ cap) (w : World) :
    Calls Tryz.prog 28 #[.slice a n cap] w fun e w' => e = .returned (.iface 30 (.int .i64 4)) ∧ w = w' := by
  by_cases h : n < 1
  · have n1 : (n : Int) < 1 := by omega
    go_enter Tryz.func28, Tryz.ntmps28
    go_wp2_with fail
    go_ret
    exact ⟨rfl, rfl⟩
  · have n1 : ¬ (n : Int) < 1 := by omega
    have n2 : 200 < (n : Int) := by omega
    go_enter Tryz.func28, Tryz.ntmps28
    go_wp2_with fail
    go_ret
    exact ⟨rfl, rfl⟩
end Go.Proofs.YtpdlmbbgioenoaaGreatDoor.W
