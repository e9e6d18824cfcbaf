/- A part of the proof; each theorem states its conditions. -/
import Derived.Test.YtpdlmbbgioenoaaGreatDoorWalkBound4
set_option linter.unusedSimpArgs false
set_option linter.unusedVariables false
set_option maxRecDepth 100000
namespace Go.Proofs.YtpdlmbbgioenoaaGreatDoor.W
open Go.RowKit Go.Proofs.YtpdlmbbgioenoaaGreatDoor.P
theorem btimes_of {al ah bl bh : Int} (s0 : -2147483648 ≤ al) (t0 : al ≤ 2147483648) (s1 : -2147483648 ≤ ah) (t1 : ah ≤ 2147483648) (s2 : -2147483648 ≤ bl) (t2 : bl ≤ 2147483648) (s3 : -2147483648 ≤ bh) (t3 : bh ≤ 2147483648) :
  btimes ⟨al, ah⟩ ⟨bl, bh⟩ = ⟨min (al * bl) (min (al * bh) (min (ah * bl) (ah * bh))), max (al * bl) (max (al * bh) (max (ah * bl) (ah * bh)))⟩ := by
 unfold btimes
 rw [if_pos (by simp [small, *])]
 simp only [bjoin, bone, B.mk.injEq]
 constructor <;> omega
theorem btimes_all {al ah bl bh : Int} (h : ¬ (-2147483648 ≤ al ∧ al ≤ 2147483648 ∧ -2147483648 ≤ ah ∧ ah ≤ 2147483648 ∧ -2147483648 ≤ bl ∧ bl ≤ 2147483648 ∧ -2147483648 ≤ bh ∧ bh ≤ 2147483648)) :
  btimes ⟨al, ah⟩ ⟨bl, bh⟩ = ball := by
 unfold btimes
 rw [if_neg]
 simp only [small, Bool.and_eq_true, decide_eq_true_eq]
 intro h'
 exact h (by omega)
theorem times_any (al ah bl bh : Int) (w : World) :
  Calls Tryz.prog 191 #[.agg #[.int .i64 al, .int .i64 ah], .agg #[.int .i64 bl, .int .i64 bh]] w fun e w' => e = .returned (.agg #[.int .i64 ((btimes ⟨al, ah⟩ ⟨bl, bh⟩).lo), .int .i64 ((btimes ⟨al, ah⟩ ⟨bl, bh⟩).hi)]) ∧ Below w.heap.size w w' := by
 by_cases l0 : al < -2147483648
 ·rw [btimes_all (by omega)]; exact times_0lo al ah bl bh  l0 w
 by_cases g0 : 2147483648 < al
 ·rw [btimes_all (by omega)]; exact times_0hi al ah bl bh  g0 w
 have s0 : -2147483648 ≤ al := by omega
 have t0 : al ≤ 2147483648 := by omega
 by_cases l1 : ah < -2147483648
 ·rw [btimes_all (by omega)]; exact times_1lo al ah bl bh s0 t0 l1 w
 by_cases g1 : 2147483648 < ah
 ·rw [btimes_all (by omega)]; exact times_1hi al ah bl bh s0 t0 g1 w
 have s1 : -2147483648 ≤ ah := by omega
 have t1 : ah ≤ 2147483648 := by omega
 by_cases l2 : bl < -2147483648
 ·rw [btimes_all (by omega)]; exact times_2lo al ah bl bh s0 t0 s1 t1 l2 w
 by_cases g2 : 2147483648 < bl
 ·rw [btimes_all (by omega)]; exact times_2hi al ah bl bh s0 t0 s1 t1 g2 w
 have s2 : -2147483648 ≤ bl := by omega
 have t2 : bl ≤ 2147483648 := by omega
 by_cases l3 : bh < -2147483648
 ·rw [btimes_all (by omega)]; exact times_3lo al ah bl bh s0 t0 s1 t1 s2 t2 l3 w
 by_cases g3 : 2147483648 < bh
 ·rw [btimes_all (by omega)]; exact times_3hi al ah bl bh s0 t0 s1 t1 s2 t2 g3 w
 have s3 : -2147483648 ≤ bh := by omega
 have t3 : bh ≤ 2147483648 := by omega
 rw [btimes_of s0 t0 s1 t1 s2 t2 s3 t3]
 exact times_all al ah bl bh s0 t0 s1 t1 s2 t2 s3 t3 w
set_option maxHeartbeats 4000000 in
theorem Does_1 (al ah bl bh : Int)  (w : World) :
  Calls Tryz.prog 149 #[.int .i64 1, .agg #[.int .i64 al, .int .i64 ah], .agg #[.int .i64 bl, .int .i64 bh]] w fun e w' => e = .returned (.agg #[.int .i64 ((bdoes 1 ⟨al, ah⟩ ⟨bl, bh⟩).lo), .int .i64 ((bdoes 1 ⟨al, ah⟩ ⟨bl, bh⟩).hi)]) ∧ Below w.heap.size w w' := by
 have HW0 := Lib.hid (Below.refl w.heap.size w)
 have e : bdoes 1 ⟨al, ah⟩ ⟨bl, bh⟩ = ⟨bl, bh⟩ := rfl
 rw [e]
 clear e
 go_enter Tryz.func149, Tryz.ntmps149
 go_wp2_with (go_at_call 148; refine (All_any _).mono ?_; (rintro e w1 ⟨rfl, hb⟩; obtain ⟨hc1, hf1⟩ := bcell hb; have hz1 := hb.size; (try simp at hz1); have HW1 := Lib.hid (show Below w.heap.size w w1 from Below.trans (by repeat' (first | with_reducible (first | exact HW0.out | apply bR | apply bD | apply bN | apply bA | apply bS) | (simp; done) | (simp; omega) | omega)) (hb.mono (by first | omega | simp <;> omega))); clear hb; (try have z10 : w.heap.size < w1.heap.size := by omega); (try have z11 : w.heap.size + 1 < w1.heap.size := by omega); (try have z12 : w.heap.size + 1 + 1 < w1.heap.size := by omega)))
 exact bodyPost_ret (v := .agg #[.int .i64 (bl), .int .i64 (bh)]) (by simp [results, Tryz.results149, go_sem]) rfl ⟨rfl, (by repeat' (first | with_reducible (first | exact HW0.out | apply bR | apply bD | apply bN | apply bA | apply bS) | (simp; done) | (simp; omega) | omega))⟩
set_option maxHeartbeats 4000000 in
theorem Does_2 (al ah bl bh : Int)  (w : World) :
  Calls Tryz.prog 149 #[.int .i64 2, .agg #[.int .i64 al, .int .i64 ah], .agg #[.int .i64 bl, .int .i64 bh]] w fun e w' => e = .returned (.agg #[.int .i64 ((bdoes 2 ⟨al, ah⟩ ⟨bl, bh⟩).lo), .int .i64 ((bdoes 2 ⟨al, ah⟩ ⟨bl, bh⟩).hi)]) ∧ Below w.heap.size w w' := by
 have HW0 := Lib.hid (Below.refl w.heap.size w)
 generalize h1 : bsum al bl = s1
 generalize h2 : bsum ah bh = s2
 have e : bdoes 2 ⟨al, ah⟩ ⟨bl, bh⟩ = bpair s1.1 (s1.2 || decide (bl = 0)) s2.1 (s2.2 || decide (bh = 0)) := by rw [← h1, ← h2]; rfl
 rw [e]
 clear e
 have H1 := Lib.hid h1
 have H2 := Lib.hid h2
 clear h1 h2
 obtain ⟨v1, b1⟩ := s1
 obtain ⟨v2, b2⟩ := s2
 cases b1 <;> cases b2
 ·go_enter Tryz.func149, Tryz.ntmps149
  go_wp2_with fail
  refine (sum_any _ _ _).mono ?_
  rw [H1.out]
  rintro e w' ⟨rfl, rfl⟩
  go_wp2_with fail
  refine (sum_any _ _ _).mono ?_
  rw [H2.out]
  rintro e w' ⟨rfl, rfl⟩
  go_wp2_with fail
  refine (pair_any _ _ _ _ _).mono ?_
  (rintro e w1 ⟨rfl, hb⟩; obtain ⟨hc1, hf1⟩ := bcell hb; have hz1 := hb.size; (try simp at hz1); have HW1 := Lib.hid (show Below w.heap.size w w1 from Below.trans (by repeat' (first | with_reducible (first | exact HW0.out | apply bR | apply bD | apply bN | apply bA | apply bS) | (simp; done) | (simp; omega) | omega)) (hb.mono (by first | omega | simp <;> omega))); clear hb; (try have z10 : w.heap.size < w1.heap.size := by omega); (try have z11 : w.heap.size + 1 < w1.heap.size := by omega); (try have z12 : w.heap.size + 1 + 1 < w1.heap.size := by omega))
  go_wp2_with fail
  exact bodyPost_ret (v := .agg #[.int .i64 ((bpair v1 (bl == 0) v2 (bh == 0)).lo), .int .i64 ((bpair v1 (bl == 0) v2 (bh == 0)).hi)]) (by simp [results, Tryz.results149, go_sem, hc1, z10, z11, z12]) rfl ⟨by first | (simp; done) | (simp; exact ⟨rfl, rfl⟩), (by repeat' (first | with_reducible (first | exact HW1.out | apply bR | apply bD | apply bN | apply bA | apply bS) | (simp; done) | (simp; omega) | omega))⟩
 ·go_enter Tryz.func149, Tryz.ntmps149
  go_wp2_with fail
  refine (sum_any _ _ _).mono ?_
  rw [H1.out]
  rintro e w' ⟨rfl, rfl⟩
  go_wp2_with fail
  refine (sum_any _ _ _).mono ?_
  rw [H2.out]
  rintro e w' ⟨rfl, rfl⟩
  go_wp2_with fail
  refine (pair_any _ _ _ _ _).mono ?_
  (rintro e w1 ⟨rfl, hb⟩; obtain ⟨hc1, hf1⟩ := bcell hb; have hz1 := hb.size; (try simp at hz1); have HW1 := Lib.hid (show Below w.heap.size w w1 from Below.trans (by repeat' (first | with_reducible (first | exact HW0.out | apply bR | apply bD | apply bN | apply bA | apply bS) | (simp; done) | (simp; omega) | omega)) (hb.mono (by first | omega | simp <;> omega))); clear hb; (try have z10 : w.heap.size < w1.heap.size := by omega); (try have z11 : w.heap.size + 1 < w1.heap.size := by omega); (try have z12 : w.heap.size + 1 + 1 < w1.heap.size := by omega))
  go_wp2_with fail
  exact bodyPost_ret (v := .agg #[.int .i64 ((bpair v1 (bl == 0) v2 (true)).lo), .int .i64 ((bpair v1 (bl == 0) v2 (true)).hi)]) (by simp [results, Tryz.results149, go_sem, hc1, z10, z11, z12]) rfl ⟨by first | (simp; done) | (simp; exact ⟨rfl, rfl⟩), (by repeat' (first | with_reducible (first | exact HW1.out | apply bR | apply bD | apply bN | apply bA | apply bS) | (simp; done) | (simp; omega) | omega))⟩
 ·go_enter Tryz.func149, Tryz.ntmps149
  go_wp2_with fail
  refine (sum_any _ _ _).mono ?_
  rw [H1.out]
  rintro e w' ⟨rfl, rfl⟩
  go_wp2_with fail
  refine (sum_any _ _ _).mono ?_
  rw [H2.out]
  rintro e w' ⟨rfl, rfl⟩
  go_wp2_with fail
  refine (pair_any _ _ _ _ _).mono ?_
  (rintro e w1 ⟨rfl, hb⟩; obtain ⟨hc1, hf1⟩ := bcell hb; have hz1 := hb.size; (try simp at hz1); have HW1 := Lib.hid (show Below w.heap.size w w1 from Below.trans (by repeat' (first | with_reducible (first | exact HW0.out | apply bR | apply bD | apply bN | apply bA | apply bS) | (simp; done) | (simp; omega) | omega)) (hb.mono (by first | omega | simp <;> omega))); clear hb; (try have z10 : w.heap.size < w1.heap.size := by omega); (try have z11 : w.heap.size + 1 < w1.heap.size := by omega); (try have z12 : w.heap.size + 1 + 1 < w1.heap.size := by omega))
  go_wp2_with fail
  exact bodyPost_ret (v := .agg #[.int .i64 ((bpair v1 (true) v2 (bh == 0)).lo), .int .i64 ((bpair v1 (true) v2 (bh == 0)).hi)]) (by simp [results, Tryz.results149, go_sem, hc1, z10, z11, z12]) rfl ⟨by first | (simp; done) | (simp; exact ⟨rfl, rfl⟩), (by repeat' (first | with_reducible (first | exact HW1.out | apply bR | apply bD | apply bN | apply bA | apply bS) | (simp; done) | (simp; omega) | omega))⟩
 ·go_enter Tryz.func149, Tryz.ntmps149
  go_wp2_with fail
  refine (sum_any _ _ _).mono ?_
  rw [H1.out]
  rintro e w' ⟨rfl, rfl⟩
  go_wp2_with fail
  refine (sum_any _ _ _).mono ?_
  rw [H2.out]
  rintro e w' ⟨rfl, rfl⟩
  go_wp2_with fail
  refine (pair_any _ _ _ _ _).mono ?_
  (rintro e w1 ⟨rfl, hb⟩; obtain ⟨hc1, hf1⟩ := bcell hb; have hz1 := hb.size; (try simp at hz1); have HW1 := Lib.hid (show Below w.heap.size w w1 from Below.trans (by repeat' (first | with_reducible (first | exact HW0.out | apply bR | apply bD | apply bN | apply bA | apply bS) | (simp; done) | (simp; omega) | omega)) (hb.mono (by first | omega | simp <;> omega))); clear hb; (try have z10 : w.heap.size < w1.heap.size := by omega); (try have z11 : w.heap.size + 1 < w1.heap.size := by omega); (try have z12 : w.heap.size + 1 + 1 < w1.heap.size := by omega))
  go_wp2_with fail
  exact bodyPost_ret (v := .agg #[.int .i64 ((bpair v1 (true) v2 (true)).lo), .int .i64 ((bpair v1 (true) v2 (true)).hi)]) (by simp [results, Tryz.results149, go_sem, hc1, z10, z11, z12]) rfl ⟨by first | (simp; done) | (simp; exact ⟨rfl, rfl⟩), (by repeat' (first | with_reducible (first | exact HW1.out | apply bR | apply bD | apply bN | apply bA | apply bS) | (simp; done) | (simp; omega) | omega))⟩
set_option maxHeartbeats 4000000 in
theorem Does_3 (al ah bl bh : Int)  (w : World) :
  Calls Tryz.prog 149 #[.int .i64 3, .agg #[.int .i64 al, .int .i64 ah], .agg #[.int .i64 bl, .int .i64 bh]] w fun e w' => e = .returned (.agg #[.int .i64 ((bdoes 3 ⟨al, ah⟩ ⟨bl, bh⟩).lo), .int .i64 ((bdoes 3 ⟨al, ah⟩ ⟨bl, bh⟩).hi)]) ∧ Below w.heap.size w w' := by
 have HW0 := Lib.hid (Below.refl w.heap.size w)
 generalize h1 : bless al bh = s1
 generalize h2 : bless ah bl = s2
 have e : bdoes 3 ⟨al, ah⟩ ⟨bl, bh⟩ = bpair s1.1 (s1.2 || decide (bh = 0)) s2.1 (s2.2 || decide (bl = 0)) := by rw [← h1, ← h2]; rfl
 rw [e]
 clear e
 have H1 := Lib.hid h1
 have H2 := Lib.hid h2
 clear h1 h2
 obtain ⟨v1, b1⟩ := s1
 obtain ⟨v2, b2⟩ := s2
 cases b1 <;> cases b2
 ·go_enter Tryz.func149, Tryz.ntmps149
  go_wp2_with fail
  refine (less_any _ _ _).mono ?_
  rw [H1.out]
  rintro e w' ⟨rfl, rfl⟩
  go_wp2_with fail
  refine (less_any _ _ _).mono ?_
  rw [H2.out]
  rintro e w' ⟨rfl, rfl⟩
  go_wp2_with fail
  refine (pair_any _ _ _ _ _).mono ?_
  (rintro e w1 ⟨rfl, hb⟩; obtain ⟨hc1, hf1⟩ := bcell hb; have hz1 := hb.size; (try simp at hz1); have HW1 := Lib.hid (show Below w.heap.size w w1 from Below.trans (by repeat' (first | with_reducible (first | exact HW0.out | apply bR | apply bD | apply bN | apply bA | apply bS) | (simp; done) | (simp; omega) | omega)) (hb.mono (by first | omega | simp <;> omega))); clear hb; (try have z10 : w.heap.size < w1.heap.size := by omega); (try have z11 : w.heap.size + 1 < w1.heap.size := by omega); (try have z12 : w.heap.size + 1 + 1 < w1.heap.size := by omega))
  go_wp2_with fail
  exact bodyPost_ret (v := .agg #[.int .i64 ((bpair v1 (bh == 0) v2 (bl == 0)).lo), .int .i64 ((bpair v1 (bh == 0) v2 (bl == 0)).hi)]) (by simp [results, Tryz.results149, go_sem, hc1, z10, z11, z12]) rfl ⟨by first | (simp; done) | (simp; exact ⟨rfl, rfl⟩), (by repeat' (first | with_reducible (first | exact HW1.out | apply bR | apply bD | apply bN | apply bA | apply bS) | (simp; done) | (simp; omega) | omega))⟩
 ·go_enter Tryz.func149, Tryz.ntmps149
  go_wp2_with fail
  refine (less_any _ _ _).mono ?_
  rw [H1.out]
  rintro e w' ⟨rfl, rfl⟩
  go_wp2_with fail
  refine (less_any _ _ _).mono ?_
  rw [H2.out]
  rintro e w' ⟨rfl, rfl⟩
  go_wp2_with fail
  refine (pair_any _ _ _ _ _).mono ?_
  (rintro e w1 ⟨rfl, hb⟩; obtain ⟨hc1, hf1⟩ := bcell hb; have hz1 := hb.size; (try simp at hz1); have HW1 := Lib.hid (show Below w.heap.size w w1 from Below.trans (by repeat' (first | with_reducible (first | exact HW0.out | apply bR | apply bD | apply bN | apply bA | apply bS) | (simp; done) | (simp; omega) | omega)) (hb.mono (by first | omega | simp <;> omega))); clear hb; (try have z10 : w.heap.size < w1.heap.size := by omega); (try have z11 : w.heap.size + 1 < w1.heap.size := by omega); (try have z12 : w.heap.size + 1 + 1 < w1.heap.size := by omega))
  go_wp2_with fail
  exact bodyPost_ret (v := .agg #[.int .i64 ((bpair v1 (bh == 0) v2 (true)).lo), .int .i64 ((bpair v1 (bh == 0) v2 (true)).hi)]) (by simp [results, Tryz.results149, go_sem, hc1, z10, z11, z12]) rfl ⟨by first | (simp; done) | (simp; exact ⟨rfl, rfl⟩), (by repeat' (first | with_reducible (first | exact HW1.out | apply bR | apply bD | apply bN | apply bA | apply bS) | (simp; done) | (simp; omega) | omega))⟩
 ·go_enter Tryz.func149, Tryz.ntmps149
  go_wp2_with fail
  refine (less_any _ _ _).mono ?_
  rw [H1.out]
  rintro e w' ⟨rfl, rfl⟩
  go_wp2_with fail
  refine (less_any _ _ _).mono ?_
  rw [H2.out]
  rintro e w' ⟨rfl, rfl⟩
  go_wp2_with fail
  refine (pair_any _ _ _ _ _).mono ?_
  (rintro e w1 ⟨rfl, hb⟩; obtain ⟨hc1, hf1⟩ := bcell hb; have hz1 := hb.size; (try simp at hz1); have HW1 := Lib.hid (show Below w.heap.size w w1 from Below.trans (by repeat' (first | with_reducible (first | exact HW0.out | apply bR | apply bD | apply bN | apply bA | apply bS) | (simp; done) | (simp; omega) | omega)) (hb.mono (by first | omega | simp <;> omega))); clear hb; (try have z10 : w.heap.size < w1.heap.size := by omega); (try have z11 : w.heap.size + 1 < w1.heap.size := by omega); (try have z12 : w.heap.size + 1 + 1 < w1.heap.size := by omega))
  go_wp2_with fail
  exact bodyPost_ret (v := .agg #[.int .i64 ((bpair v1 (true) v2 (bl == 0)).lo), .int .i64 ((bpair v1 (true) v2 (bl == 0)).hi)]) (by simp [results, Tryz.results149, go_sem, hc1, z10, z11, z12]) rfl ⟨by first | (simp; done) | (simp; exact ⟨rfl, rfl⟩), (by repeat' (first | with_reducible (first | exact HW1.out | apply bR | apply bD | apply bN | apply bA | apply bS) | (simp; done) | (simp; omega) | omega))⟩
 ·go_enter Tryz.func149, Tryz.ntmps149
  go_wp2_with fail
  refine (less_any _ _ _).mono ?_
  rw [H1.out]
  rintro e w' ⟨rfl, rfl⟩
  go_wp2_with fail
  refine (less_any _ _ _).mono ?_
  rw [H2.out]
  rintro e w' ⟨rfl, rfl⟩
  go_wp2_with fail
  refine (pair_any _ _ _ _ _).mono ?_
  (rintro e w1 ⟨rfl, hb⟩; obtain ⟨hc1, hf1⟩ := bcell hb; have hz1 := hb.size; (try simp at hz1); have HW1 := Lib.hid (show Below w.heap.size w w1 from Below.trans (by repeat' (first | with_reducible (first | exact HW0.out | apply bR | apply bD | apply bN | apply bA | apply bS) | (simp; done) | (simp; omega) | omega)) (hb.mono (by first | omega | simp <;> omega))); clear hb; (try have z10 : w.heap.size < w1.heap.size := by omega); (try have z11 : w.heap.size + 1 < w1.heap.size := by omega); (try have z12 : w.heap.size + 1 + 1 < w1.heap.size := by omega))
  go_wp2_with fail
  exact bodyPost_ret (v := .agg #[.int .i64 ((bpair v1 (true) v2 (true)).lo), .int .i64 ((bpair v1 (true) v2 (true)).hi)]) (by simp [results, Tryz.results149, go_sem, hc1, z10, z11, z12]) rfl ⟨by first | (simp; done) | (simp; exact ⟨rfl, rfl⟩), (by repeat' (first | with_reducible (first | exact HW1.out | apply bR | apply bD | apply bN | apply bA | apply bS) | (simp; done) | (simp; omega) | omega))⟩
set_option maxHeartbeats 4000000 in
theorem Does_4 (al ah bl bh : Int)  (w : World) :
  Calls Tryz.prog 149 #[.int .i64 4, .agg #[.int .i64 al, .int .i64 ah], .agg #[.int .i64 bl, .int .i64 bh]] w fun e w' => e = .returned (.agg #[.int .i64 ((bdoes 4 ⟨al, ah⟩ ⟨bl, bh⟩).lo), .int .i64 ((bdoes 4 ⟨al, ah⟩ ⟨bl, bh⟩).hi)]) ∧ Below w.heap.size w w' := by
 have HW0 := Lib.hid (Below.refl w.heap.size w)
 have e : bdoes 4 ⟨al, ah⟩ ⟨bl, bh⟩ = btimes ⟨al, ah⟩ ⟨bl, bh⟩ := rfl
 rw [e]
 clear e
 go_enter Tryz.func149, Tryz.ntmps149
 go_wp2_with fail
 refine (times_any _ _ _ _ _).mono ?_
 (rintro e w1 ⟨rfl, hb⟩; obtain ⟨hc1, hf1⟩ := bcell hb; have hz1 := hb.size; (try simp at hz1); have HW1 := Lib.hid (show Below w.heap.size w w1 from Below.trans (by repeat' (first | with_reducible (first | exact HW0.out | apply bR | apply bD | apply bN | apply bA | apply bS) | (simp; done) | (simp; omega) | omega)) (hb.mono (by first | omega | simp <;> omega))); clear hb; (try have z10 : w.heap.size < w1.heap.size := by omega); (try have z11 : w.heap.size + 1 < w1.heap.size := by omega); (try have z12 : w.heap.size + 1 + 1 < w1.heap.size := by omega))
 go_wp2_with fail
 exact bodyPost_ret (v := .agg #[.int .i64 ((btimes ⟨al, ah⟩ ⟨bl, bh⟩).lo), .int .i64 ((btimes ⟨al, ah⟩ ⟨bl, bh⟩).hi)]) (by simp [results, Tryz.results149, go_sem, hc1, z10, z11, z12]) rfl ⟨rfl, (by repeat' (first | with_reducible (first | exact HW1.out | apply bR | apply bD | apply bN | apply bA | apply bS) | (simp; done) | (simp; omega) | omega))⟩
set_option maxHeartbeats 4000000 in
theorem Does_5 (al ah bl bh : Int) (ia : In64 al) (ia2 : In64 ah) (ib : In64 bl) (ib2 : In64 bh) (ha : al ≤ ah) (hb : bl ≤ bh) (w : World) :
  Calls Tryz.prog 149 #[.int .i64 5, .agg #[.int .i64 al, .int .i64 ah], .agg #[.int .i64 bl, .int .i64 bh]] w fun e w' => e = .returned (.agg #[.int .i64 ((bdoes 5 ⟨al, ah⟩ ⟨bl, bh⟩).lo), .int .i64 ((bdoes 5 ⟨al, ah⟩ ⟨bl, bh⟩).hi)]) ∧ Below w.heap.size w w' := by
 have HW0 := Lib.hid (Below.refl w.heap.size w)
 by_cases h1 : al < 0
 ·have e : bdoes 5 ⟨al, ah⟩ ⟨bl, bh⟩ = ball := by show bdiv 5 _ _ = _; unfold bdiv; rw [if_pos (.inl h1)]
  rw [e]
  clear e
  go_enter Tryz.func149, Tryz.ntmps149
  go_wp2_with (go_at_call 148; refine (All_any _).mono ?_; (rintro e w1 ⟨rfl, hb⟩; obtain ⟨hc1, hf1⟩ := bcell hb; have hz1 := hb.size; (try simp at hz1); have HW1 := Lib.hid (show Below w.heap.size w w1 from Below.trans (by repeat' (first | with_reducible (first | exact HW0.out | apply bR | apply bD | apply bN | apply bA | apply bS) | (simp; done) | (simp; omega) | omega)) (hb.mono (by first | omega | simp <;> omega))); clear hb; (try have z10 : w.heap.size < w1.heap.size := by omega); (try have z11 : w.heap.size + 1 < w1.heap.size := by omega); (try have z12 : w.heap.size + 1 + 1 < w1.heap.size := by omega)))
  exact bodyPost_ret (v := .agg #[.int .i64 (-9223372036854775808), .int .i64 9223372036854775807]) (by simp [results, Tryz.results149, go_sem, hc1, z10, z11, z12]) rfl ⟨rfl, (by repeat' (first | with_reducible (first | exact HW1.out | apply bR | apply bD | apply bN | apply bA | apply bS) | (simp; done) | (simp; omega) | omega))⟩
 ·by_cases h2 : bl < 0
  ·have e : bdoes 5 ⟨al, ah⟩ ⟨bl, bh⟩ = ball := by show bdiv 5 _ _ = _; unfold bdiv; rw [if_pos (.inr h2)]
   rw [e]
   clear e
   go_enter Tryz.func149, Tryz.ntmps149
   go_wp2_with (go_at_call 148; refine (All_any _).mono ?_; (rintro e w1 ⟨rfl, hb⟩; obtain ⟨hc1, hf1⟩ := bcell hb; have hz1 := hb.size; (try simp at hz1); have HW1 := Lib.hid (show Below w.heap.size w w1 from Below.trans (by repeat' (first | with_reducible (first | exact HW0.out | apply bR | apply bD | apply bN | apply bA | apply bS) | (simp; done) | (simp; omega) | omega)) (hb.mono (by first | omega | simp <;> omega))); clear hb; (try have z10 : w.heap.size < w1.heap.size := by omega); (try have z11 : w.heap.size + 1 < w1.heap.size := by omega); (try have z12 : w.heap.size + 1 + 1 < w1.heap.size := by omega)))
   exact bodyPost_ret (v := .agg #[.int .i64 (-9223372036854775808), .int .i64 9223372036854775807]) (by simp [results, Tryz.results149, go_sem, hc1, z10, z11, z12]) rfl ⟨rfl, (by repeat' (first | with_reducible (first | exact HW1.out | apply bR | apply bD | apply bN | apply bA | apply bS) | (simp; done) | (simp; omega) | omega))⟩
  ·by_cases h3 : bl = 0
   ·have e : bdoes 5 ⟨al, ah⟩ ⟨bl, bh⟩ = ⟨0, ah⟩ := by show bdiv 5 _ _ = _; unfold bdiv; rw [if_neg (by simp; omega), if_pos h3]
    rw [e]
    clear e
    have t3 : (bl == 0) = true := by simp [h3]
    have H3 := Lib.hid h3
    clear h3
    go_enter Tryz.func149, Tryz.ntmps149
    go_wp2_with (go_at_call 148; refine (All_any _).mono ?_; (rintro e w1 ⟨rfl, hb⟩; obtain ⟨hc1, hf1⟩ := bcell hb; have hz1 := hb.size; (try simp at hz1); have HW1 := Lib.hid (show Below w.heap.size w w1 from Below.trans (by repeat' (first | with_reducible (first | exact HW0.out | apply bR | apply bD | apply bN | apply bA | apply bS) | (simp; done) | (simp; omega) | omega)) (hb.mono (by first | omega | simp <;> omega))); clear hb; (try have z10 : w.heap.size < w1.heap.size := by omega); (try have z11 : w.heap.size + 1 < w1.heap.size := by omega); (try have z12 : w.heap.size + 1 + 1 < w1.heap.size := by omega)))
    exact bodyPost_ret (v := .agg #[.int .i64 (0), .int .i64 (ah)]) (by simp [results, Tryz.results149, go_sem]) rfl ⟨rfl, (by repeat' (first | with_reducible (first | exact HW0.out | apply bR | apply bD | apply bN | apply bA | apply bS) | (simp; done) | (simp; omega) | omega))⟩
   ·have e : bdoes 5 ⟨al, ah⟩ ⟨bl, bh⟩ = ⟨al / bh, ah / bl⟩ := by show bdiv 5 _ _ = _; unfold bdiv; rw [if_neg (by simp; omega), if_neg h3, if_pos rfl]
    rw [e]
    clear e
    have t3 : (bl == 0) = false := by simp [h3]
    have a0 : 0 ≤ al := by omega
    have a1 : 0 ≤ ah := by omega
    have a2 : 1 ≤ bl := by omega
    have a3 : 1 ≤ bh := by omega
    have a4 : al ≤ 9223372036854775807 := ia.2
    have a5 : ah ≤ 9223372036854775807 := ia2.2
    have a6 : ¬ bl = 0 := by omega
    have a7 : ¬ bh = 0 := by omega
    clear h1 h2 h3 ha hb ia ia2 ib ib2
    go_enter Tryz.func149, Tryz.ntmps149
    go_wp2_with fail
    refine wp_tail 11 (by kernel_rfl) (by kernel_rfl) ?_
    simp only [List.take_succ_cons, List.take_zero, List.drop_succ_cons, List.drop_zero]
    repeat (still_step; try go_bits)
    refine wpStill_nil ?_
    go_wp2_with fail
    exact bodyPost_ret (v := .agg #[.int .i64 (al / bh), .int .i64 (ah / bl)]) (by simp [results, Tryz.results149, go_sem]) rfl ⟨rfl, (by repeat' (first | with_reducible (first | exact HW0.out | apply bR | apply bD | apply bN | apply bA | apply bS) | (simp; done) | (simp; omega) | omega))⟩
set_option maxHeartbeats 4000000 in
theorem Does_6 (al ah bl bh : Int) (ia : In64 al) (ia2 : In64 ah) (ib : In64 bl) (ib2 : In64 bh) (ha : al ≤ ah) (hb : bl ≤ bh) (w : World) :
  Calls Tryz.prog 149 #[.int .i64 6, .agg #[.int .i64 al, .int .i64 ah], .agg #[.int .i64 bl, .int .i64 bh]] w fun e w' => e = .returned (.agg #[.int .i64 ((bdoes 6 ⟨al, ah⟩ ⟨bl, bh⟩).lo), .int .i64 ((bdoes 6 ⟨al, ah⟩ ⟨bl, bh⟩).hi)]) ∧ Below w.heap.size w w' := by
 have HW0 := Lib.hid (Below.refl w.heap.size w)
 by_cases h1 : al < 0
 ·have e : bdoes 6 ⟨al, ah⟩ ⟨bl, bh⟩ = ball := by show bdiv 6 _ _ = _; unfold bdiv; rw [if_pos (.inl h1)]
  rw [e]
  clear e
  go_enter Tryz.func149, Tryz.ntmps149
  go_wp2_with (go_at_call 148; refine (All_any _).mono ?_; (rintro e w1 ⟨rfl, hb⟩; obtain ⟨hc1, hf1⟩ := bcell hb; have hz1 := hb.size; (try simp at hz1); have HW1 := Lib.hid (show Below w.heap.size w w1 from Below.trans (by repeat' (first | with_reducible (first | exact HW0.out | apply bR | apply bD | apply bN | apply bA | apply bS) | (simp; done) | (simp; omega) | omega)) (hb.mono (by first | omega | simp <;> omega))); clear hb; (try have z10 : w.heap.size < w1.heap.size := by omega); (try have z11 : w.heap.size + 1 < w1.heap.size := by omega); (try have z12 : w.heap.size + 1 + 1 < w1.heap.size := by omega)))
  exact bodyPost_ret (v := .agg #[.int .i64 (-9223372036854775808), .int .i64 9223372036854775807]) (by simp [results, Tryz.results149, go_sem, hc1, z10, z11, z12]) rfl ⟨rfl, (by repeat' (first | with_reducible (first | exact HW1.out | apply bR | apply bD | apply bN | apply bA | apply bS) | (simp; done) | (simp; omega) | omega))⟩
 ·by_cases h2 : bl < 0
  ·have e : bdoes 6 ⟨al, ah⟩ ⟨bl, bh⟩ = ball := by show bdiv 6 _ _ = _; unfold bdiv; rw [if_pos (.inr h2)]
   rw [e]
   clear e
   go_enter Tryz.func149, Tryz.ntmps149
   go_wp2_with (go_at_call 148; refine (All_any _).mono ?_; (rintro e w1 ⟨rfl, hb⟩; obtain ⟨hc1, hf1⟩ := bcell hb; have hz1 := hb.size; (try simp at hz1); have HW1 := Lib.hid (show Below w.heap.size w w1 from Below.trans (by repeat' (first | with_reducible (first | exact HW0.out | apply bR | apply bD | apply bN | apply bA | apply bS) | (simp; done) | (simp; omega) | omega)) (hb.mono (by first | omega | simp <;> omega))); clear hb; (try have z10 : w.heap.size < w1.heap.size := by omega); (try have z11 : w.heap.size + 1 < w1.heap.size := by omega); (try have z12 : w.heap.size + 1 + 1 < w1.heap.size := by omega)))
   exact bodyPost_ret (v := .agg #[.int .i64 (-9223372036854775808), .int .i64 9223372036854775807]) (by simp [results, Tryz.results149, go_sem, hc1, z10, z11, z12]) rfl ⟨rfl, (by repeat' (first | with_reducible (first | exact HW1.out | apply bR | apply bD | apply bN | apply bA | apply bS) | (simp; done) | (simp; omega) | omega))⟩
  ·by_cases h3 : bl = 0
   ·have e : bdoes 6 ⟨al, ah⟩ ⟨bl, bh⟩ = ⟨0, ah⟩ := by show bdiv 6 _ _ = _; unfold bdiv; rw [if_neg (by simp; omega), if_pos h3]
    rw [e]
    clear e
    have t3 : (bl == 0) = true := by simp [h3]
    have H3 := Lib.hid h3
    clear h3
    go_enter Tryz.func149, Tryz.ntmps149
    go_wp2_with (go_at_call 148; refine (All_any _).mono ?_; (rintro e w1 ⟨rfl, hb⟩; obtain ⟨hc1, hf1⟩ := bcell hb; have hz1 := hb.size; (try simp at hz1); have HW1 := Lib.hid (show Below w.heap.size w w1 from Below.trans (by repeat' (first | with_reducible (first | exact HW0.out | apply bR | apply bD | apply bN | apply bA | apply bS) | (simp; done) | (simp; omega) | omega)) (hb.mono (by first | omega | simp <;> omega))); clear hb; (try have z10 : w.heap.size < w1.heap.size := by omega); (try have z11 : w.heap.size + 1 < w1.heap.size := by omega); (try have z12 : w.heap.size + 1 + 1 < w1.heap.size := by omega)))
    exact bodyPost_ret (v := .agg #[.int .i64 (0), .int .i64 (ah)]) (by simp [results, Tryz.results149, go_sem]) rfl ⟨rfl, (by repeat' (first | with_reducible (first | exact HW0.out | apply bR | apply bD | apply bN | apply bA | apply bS) | (simp; done) | (simp; omega) | omega))⟩
   ·have e : bdoes 6 ⟨al, ah⟩ ⟨bl, bh⟩ = ⟨0, min ah (bh - 1)⟩ := by show bdiv 6 _ _ = _; unfold bdiv; rw [if_neg (by simp; omega), if_neg h3, if_neg (by decide)]
    rw [e]
    clear e
    have t3 : (bl == 0) = false := by simp [h3]
    have a3 : -9223372036854775808 ≤ bh - 1 := by omega
    have a5 : bh - 1 ≤ 9223372036854775807 := by have := ib2.2; omega
    clear h3 ha hb ia ia2 ib ib2
    go_enter Tryz.func149, Tryz.ntmps149
    go_wp2_with fail
    exact bodyPost_ret (v := .agg #[.int .i64 (0), .int .i64 (min ah (bh - 1))]) (by simp [results, Tryz.results149, go_sem]) rfl ⟨rfl, (by repeat' (first | with_reducible (first | exact HW0.out | apply bR | apply bD | apply bN | apply bA | apply bS) | (simp; done) | (simp; omega) | omega))⟩
set_option maxHeartbeats 4000000 in
theorem Does_7 (al ah bl bh : Int) (ia2 : In64 ah) (ib2 : In64 bh) (w : World) :
  Calls Tryz.prog 149 #[.int .i64 7, .agg #[.int .i64 al, .int .i64 ah], .agg #[.int .i64 bl, .int .i64 bh]] w fun e w' => e = .returned (.agg #[.int .i64 ((bdoes 7 ⟨al, ah⟩ ⟨bl, bh⟩).lo), .int .i64 ((bdoes 7 ⟨al, ah⟩ ⟨bl, bh⟩).hi)]) ∧ Below w.heap.size w w' := by
 have HW0 := Lib.hid (Below.refl w.heap.size w)
 have IA := Lib.hid ia2
 have IB := Lib.hid ib2
 clear ia2 ib2
 have e : bdoes 7 ⟨al, ah⟩ ⟨bl, bh⟩ = bbit 7 ⟨al, ah⟩ ⟨bl, bh⟩ := rfl
 rw [e]
 clear e
 go_enter Tryz.func149, Tryz.ntmps149
 go_wp2_with fail
 refine (bitwise_any _ _ _ _ _ (by omega) IA.out IB.out _).mono ?_
 (rintro e w1 ⟨rfl, hb⟩; obtain ⟨hc1, hf1⟩ := bcell hb; have hz1 := hb.size; (try simp at hz1); have HW1 := Lib.hid (show Below w.heap.size w w1 from Below.trans (by repeat' (first | with_reducible (first | exact HW0.out | apply bR | apply bD | apply bN | apply bA | apply bS) | (simp; done) | (simp; omega) | omega)) (hb.mono (by first | omega | simp <;> omega))); clear hb; (try have z10 : w.heap.size < w1.heap.size := by omega); (try have z11 : w.heap.size + 1 < w1.heap.size := by omega); (try have z12 : w.heap.size + 1 + 1 < w1.heap.size := by omega))
 go_wp2_with fail
 exact bodyPost_ret (v := .agg #[.int .i64 ((bbit 7 ⟨al, ah⟩ ⟨bl, bh⟩).lo), .int .i64 ((bbit 7 ⟨al, ah⟩ ⟨bl, bh⟩).hi)]) (by simp [results, Tryz.results149, go_sem, hc1, z10, z11, z12]) rfl ⟨rfl, (by repeat' (first | with_reducible (first | exact HW1.out | apply bR | apply bD | apply bN | apply bA | apply bS) | (simp; done) | (simp; omega) | omega))⟩
set_option maxHeartbeats 4000000 in
theorem Does_8 (al ah bl bh : Int) (ia2 : In64 ah) (ib2 : In64 bh) (w : World) :
  Calls Tryz.prog 149 #[.int .i64 8, .agg #[.int .i64 al, .int .i64 ah], .agg #[.int .i64 bl, .int .i64 bh]] w fun e w' => e = .returned (.agg #[.int .i64 ((bdoes 8 ⟨al, ah⟩ ⟨bl, bh⟩).lo), .int .i64 ((bdoes 8 ⟨al, ah⟩ ⟨bl, bh⟩).hi)]) ∧ Below w.heap.size w w' := by
 have HW0 := Lib.hid (Below.refl w.heap.size w)
 have IA := Lib.hid ia2
 have IB := Lib.hid ib2
 clear ia2 ib2
 have e : bdoes 8 ⟨al, ah⟩ ⟨bl, bh⟩ = bbit 8 ⟨al, ah⟩ ⟨bl, bh⟩ := rfl
 rw [e]
 clear e
 go_enter Tryz.func149, Tryz.ntmps149
 go_wp2_with fail
 refine (bitwise_any _ _ _ _ _ (by omega) IA.out IB.out _).mono ?_
 (rintro e w1 ⟨rfl, hb⟩; obtain ⟨hc1, hf1⟩ := bcell hb; have hz1 := hb.size; (try simp at hz1); have HW1 := Lib.hid (show Below w.heap.size w w1 from Below.trans (by repeat' (first | with_reducible (first | exact HW0.out | apply bR | apply bD | apply bN | apply bA | apply bS) | (simp; done) | (simp; omega) | omega)) (hb.mono (by first | omega | simp <;> omega))); clear hb; (try have z10 : w.heap.size < w1.heap.size := by omega); (try have z11 : w.heap.size + 1 < w1.heap.size := by omega); (try have z12 : w.heap.size + 1 + 1 < w1.heap.size := by omega))
 go_wp2_with fail
 exact bodyPost_ret (v := .agg #[.int .i64 ((bbit 8 ⟨al, ah⟩ ⟨bl, bh⟩).lo), .int .i64 ((bbit 8 ⟨al, ah⟩ ⟨bl, bh⟩).hi)]) (by simp [results, Tryz.results149, go_sem, hc1, z10, z11, z12]) rfl ⟨rfl, (by repeat' (first | with_reducible (first | exact HW1.out | apply bR | apply bD | apply bN | apply bA | apply bS) | (simp; done) | (simp; omega) | omega))⟩
set_option maxHeartbeats 4000000 in
theorem Does_9 (al ah bl bh : Int) (ia2 : In64 ah) (ib2 : In64 bh) (w : World) :
  Calls Tryz.prog 149 #[.int .i64 9, .agg #[.int .i64 al, .int .i64 ah], .agg #[.int .i64 bl, .int .i64 bh]] w fun e w' => e = .returned (.agg #[.int .i64 ((bdoes 9 ⟨al, ah⟩ ⟨bl, bh⟩).lo), .int .i64 ((bdoes 9 ⟨al, ah⟩ ⟨bl, bh⟩).hi)]) ∧ Below w.heap.size w w' := by
 have HW0 := Lib.hid (Below.refl w.heap.size w)
 have IA := Lib.hid ia2
 have IB := Lib.hid ib2
 clear ia2 ib2
 have e : bdoes 9 ⟨al, ah⟩ ⟨bl, bh⟩ = bbit 9 ⟨al, ah⟩ ⟨bl, bh⟩ := rfl
 rw [e]
 clear e
 go_enter Tryz.func149, Tryz.ntmps149
 go_wp2_with fail
 refine (bitwise_any _ _ _ _ _ (by omega) IA.out IB.out _).mono ?_
 (rintro e w1 ⟨rfl, hb⟩; obtain ⟨hc1, hf1⟩ := bcell hb; have hz1 := hb.size; (try simp at hz1); have HW1 := Lib.hid (show Below w.heap.size w w1 from Below.trans (by repeat' (first | with_reducible (first | exact HW0.out | apply bR | apply bD | apply bN | apply bA | apply bS) | (simp; done) | (simp; omega) | omega)) (hb.mono (by first | omega | simp <;> omega))); clear hb; (try have z10 : w.heap.size < w1.heap.size := by omega); (try have z11 : w.heap.size + 1 < w1.heap.size := by omega); (try have z12 : w.heap.size + 1 + 1 < w1.heap.size := by omega))
 go_wp2_with fail
 exact bodyPost_ret (v := .agg #[.int .i64 ((bbit 9 ⟨al, ah⟩ ⟨bl, bh⟩).lo), .int .i64 ((bbit 9 ⟨al, ah⟩ ⟨bl, bh⟩).hi)]) (by simp [results, Tryz.results149, go_sem, hc1, z10, z11, z12]) rfl ⟨rfl, (by repeat' (first | with_reducible (first | exact HW1.out | apply bR | apply bD | apply bN | apply bA | apply bS) | (simp; done) | (simp; omega) | omega))⟩
set_option maxHeartbeats 4000000 in
theorem Does_10 (al ah bl bh : Int)  (w : World) :
  Calls Tryz.prog 149 #[.int .i64 10, .agg #[.int .i64 al, .int .i64 ah], .agg #[.int .i64 bl, .int .i64 bh]] w fun e w' => e = .returned (.agg #[.int .i64 ((bdoes 10 ⟨al, ah⟩ ⟨bl, bh⟩).lo), .int .i64 ((bdoes 10 ⟨al, ah⟩ ⟨bl, bh⟩).hi)]) ∧ Below w.heap.size w w' := by
 have HW0 := Lib.hid (Below.refl w.heap.size w)
 by_cases h : bl = bh
 ·subst h
  have e : bdoes 10 ⟨al, ah⟩ ⟨bl, bl⟩ = bleft ⟨al, ah⟩ (sh bl) := by unfold bdoes; simp
  rw [e]
  clear e
  have ke := and63i bl
  have k0 : (0 : Int) ≤ (sh bl : Int) := by omega
  have k1 : (sh bl : Int) ≤ 63 := by have := sh_lt bl; omega
  go_enter Tryz.func149, Tryz.ntmps149
  go_wp2_with fail
  refine (left_any _ _ _ (sh_lt bl) _).mono ?_
  (rintro e w1 ⟨rfl, hb⟩; obtain ⟨hc1, hf1⟩ := bcell hb; have hz1 := hb.size; (try simp at hz1); have HW1 := Lib.hid (show Below w.heap.size w w1 from Below.trans (by repeat' (first | with_reducible (first | exact HW0.out | apply bR | apply bD | apply bN | apply bA | apply bS) | (simp; done) | (simp; omega) | omega)) (hb.mono (by first | omega | simp <;> omega))); clear hb; (try have z10 : w.heap.size < w1.heap.size := by omega); (try have z11 : w.heap.size + 1 < w1.heap.size := by omega); (try have z12 : w.heap.size + 1 + 1 < w1.heap.size := by omega))
  go_wp2_with fail
  exact bodyPost_ret (v := .agg #[.int .i64 ((bleft ⟨al, ah⟩ (sh bl)).lo), .int .i64 ((bleft ⟨al, ah⟩ (sh bl)).hi)]) (by simp [results, Tryz.results149, go_sem, hc1, z10, z11, z12]) rfl ⟨rfl, (by repeat' (first | with_reducible (first | exact HW1.out | apply bR | apply bD | apply bN | apply bA | apply bS) | (simp; done) | (simp; omega) | omega))⟩
 ·have e : bdoes 10 ⟨al, ah⟩ ⟨bl, bh⟩ = ball := by unfold bdoes; simp [h]
  rw [e]
  clear e
  have t : (bl != bh) = true := by simp [h]
  clear h
  go_enter Tryz.func149, Tryz.ntmps149
  go_wp2_with (go_at_call 148; refine (All_any _).mono ?_; (rintro e w1 ⟨rfl, hb⟩; obtain ⟨hc1, hf1⟩ := bcell hb; have hz1 := hb.size; (try simp at hz1); have HW1 := Lib.hid (show Below w.heap.size w w1 from Below.trans (by repeat' (first | with_reducible (first | exact HW0.out | apply bR | apply bD | apply bN | apply bA | apply bS) | (simp; done) | (simp; omega) | omega)) (hb.mono (by first | omega | simp <;> omega))); clear hb; (try have z10 : w.heap.size < w1.heap.size := by omega); (try have z11 : w.heap.size + 1 < w1.heap.size := by omega); (try have z12 : w.heap.size + 1 + 1 < w1.heap.size := by omega)))
  exact bodyPost_ret (v := .agg #[.int .i64 (-9223372036854775808), .int .i64 9223372036854775807]) (by simp [results, Tryz.results149, go_sem, hc1, z10, z11, z12]) rfl ⟨rfl, (by repeat' (first | with_reducible (first | exact HW1.out | apply bR | apply bD | apply bN | apply bA | apply bS) | (simp; done) | (simp; omega) | omega))⟩
set_option maxHeartbeats 4000000 in
theorem Does_11 (al ah bl bh : Int)  (w : World) :
  Calls Tryz.prog 149 #[.int .i64 11, .agg #[.int .i64 al, .int .i64 ah], .agg #[.int .i64 bl, .int .i64 bh]] w fun e w' => e = .returned (.agg #[.int .i64 ((bdoes 11 ⟨al, ah⟩ ⟨bl, bh⟩).lo), .int .i64 ((bdoes 11 ⟨al, ah⟩ ⟨bl, bh⟩).hi)]) ∧ Below w.heap.size w w' := by
 have HW0 := Lib.hid (Below.refl w.heap.size w)
 have e : bdoes 11 ⟨al, ah⟩ ⟨bl, bh⟩ = bright ⟨al, ah⟩ ⟨bl, bh⟩ := rfl
 rw [e]
 clear e
 go_enter Tryz.func149, Tryz.ntmps149
 go_wp2_with fail
 refine (right_any _ _ _ _ _).mono ?_
 (rintro e w1 ⟨rfl, hb⟩; obtain ⟨hc1, hf1⟩ := bcell hb; have hz1 := hb.size; (try simp at hz1); have HW1 := Lib.hid (show Below w.heap.size w w1 from Below.trans (by repeat' (first | with_reducible (first | exact HW0.out | apply bR | apply bD | apply bN | apply bA | apply bS) | (simp; done) | (simp; omega) | omega)) (hb.mono (by first | omega | simp <;> omega))); clear hb; (try have z10 : w.heap.size < w1.heap.size := by omega); (try have z11 : w.heap.size + 1 < w1.heap.size := by omega); (try have z12 : w.heap.size + 1 + 1 < w1.heap.size := by omega))
 go_wp2_with fail
 exact bodyPost_ret (v := .agg #[.int .i64 ((bright ⟨al, ah⟩ ⟨bl, bh⟩).lo), .int .i64 ((bright ⟨al, ah⟩ ⟨bl, bh⟩).hi)]) (by simp [results, Tryz.results149, go_sem, hc1, z10, z11, z12]) rfl ⟨rfl, (by repeat' (first | with_reducible (first | exact HW1.out | apply bR | apply bD | apply bN | apply bA | apply bS) | (simp; done) | (simp; omega) | omega))⟩
set_option maxHeartbeats 4000000 in
theorem Does_12 (al ah bl bh : Int)  (w : World) :
  Calls Tryz.prog 149 #[.int .i64 12, .agg #[.int .i64 al, .int .i64 ah], .agg #[.int .i64 bl, .int .i64 bh]] w fun e w' => e = .returned (.agg #[.int .i64 ((bdoes 12 ⟨al, ah⟩ ⟨bl, bh⟩).lo), .int .i64 ((bdoes 12 ⟨al, ah⟩ ⟨bl, bh⟩).hi)]) ∧ Below w.heap.size w w' := by
 have HW0 := Lib.hid (Below.refl w.heap.size w)
 have e : bdoes 12 ⟨al, ah⟩ ⟨bl, bh⟩ = bsigned ⟨al, ah⟩ ⟨bl, bh⟩ := rfl
 rw [e]
 clear e
 go_enter Tryz.func149, Tryz.ntmps149
 go_wp2_with fail
 refine (signed_any _ _ _ _ _).mono ?_
 (rintro e w1 ⟨rfl, hb⟩; obtain ⟨hc1, hf1⟩ := bcell hb; have hz1 := hb.size; (try simp at hz1); have HW1 := Lib.hid (show Below w.heap.size w w1 from Below.trans (by repeat' (first | with_reducible (first | exact HW0.out | apply bR | apply bD | apply bN | apply bA | apply bS) | (simp; done) | (simp; omega) | omega)) (hb.mono (by first | omega | simp <;> omega))); clear hb; (try have z10 : w.heap.size < w1.heap.size := by omega); (try have z11 : w.heap.size + 1 < w1.heap.size := by omega); (try have z12 : w.heap.size + 1 + 1 < w1.heap.size := by omega))
 go_wp2_with fail
 exact bodyPost_ret (v := .agg #[.int .i64 ((bsigned ⟨al, ah⟩ ⟨bl, bh⟩).lo), .int .i64 ((bsigned ⟨al, ah⟩ ⟨bl, bh⟩).hi)]) (by simp [results, Tryz.results149, go_sem, hc1, z10, z11, z12]) rfl ⟨rfl, (by repeat' (first | with_reducible (first | exact HW1.out | apply bR | apply bD | apply bN | apply bA | apply bS) | (simp; done) | (simp; omega) | omega))⟩
set_option maxHeartbeats 4000000 in
theorem Does_13 (al ah bl bh : Int) (ia : In64 al) (ia2 : In64 ah) (ha : al ≤ ah) (w : World) :
  Calls Tryz.prog 149 #[.int .i64 13, .agg #[.int .i64 al, .int .i64 ah], .agg #[.int .i64 bl, .int .i64 bh]] w fun e w' => e = .returned (.agg #[.int .i64 ((bdoes 13 ⟨al, ah⟩ ⟨bl, bh⟩).lo), .int .i64 ((bdoes 13 ⟨al, ah⟩ ⟨bl, bh⟩).hi)]) ∧ Below w.heap.size w w' := by
 have HW0 := Lib.hid (Below.refl w.heap.size w)
 by_cases h : al = -9223372036854775808
 ·have e : bdoes 13 ⟨al, ah⟩ ⟨bl, bh⟩ = ball := by unfold bdoes; simp [h]
  rw [e]
  clear e
  have t : (al == -9223372036854775808) = true := by simp [h]
  clear h ia ia2 ha
  go_enter Tryz.func149, Tryz.ntmps149
  go_wp2_with (go_at_call 148; refine (All_any _).mono ?_; (rintro e w1 ⟨rfl, hb⟩; obtain ⟨hc1, hf1⟩ := bcell hb; have hz1 := hb.size; (try simp at hz1); have HW1 := Lib.hid (show Below w.heap.size w w1 from Below.trans (by repeat' (first | with_reducible (first | exact HW0.out | apply bR | apply bD | apply bN | apply bA | apply bS) | (simp; done) | (simp; omega) | omega)) (hb.mono (by first | omega | simp <;> omega))); clear hb; (try have z10 : w.heap.size < w1.heap.size := by omega); (try have z11 : w.heap.size + 1 < w1.heap.size := by omega); (try have z12 : w.heap.size + 1 + 1 < w1.heap.size := by omega)))
  exact bodyPost_ret (v := .agg #[.int .i64 (-9223372036854775808), .int .i64 9223372036854775807]) (by simp [results, Tryz.results149, go_sem, hc1, z10, z11, z12]) rfl ⟨rfl, (by repeat' (first | with_reducible (first | exact HW1.out | apply bR | apply bD | apply bN | apply bA | apply bS) | (simp; done) | (simp; omega) | omega))⟩
 ·have e : bdoes 13 ⟨al, ah⟩ ⟨bl, bh⟩ = ⟨-ah, -al⟩ := by unfold bdoes; simp [h]
  rw [e]
  clear e
  have t : (al == -9223372036854775808) = false := by simp [h]
  have a1 : -9223372036854775807 ≤ al := by have := ia.1; omega
  have a2 : al ≤ 9223372036854775807 := ia.2
  have a3 : ah ≤ 9223372036854775807 := ia2.2
  have a4 : -9223372036854775807 ≤ ah := by omega
  clear h ia ia2 ha
  go_enter Tryz.func149, Tryz.ntmps149
  go_wp2_with (go_at_call 148; refine (All_any _).mono ?_; (rintro e w1 ⟨rfl, hb⟩; obtain ⟨hc1, hf1⟩ := bcell hb; have hz1 := hb.size; (try simp at hz1); have HW1 := Lib.hid (show Below w.heap.size w w1 from Below.trans (by repeat' (first | with_reducible (first | exact HW0.out | apply bR | apply bD | apply bN | apply bA | apply bS) | (simp; done) | (simp; omega) | omega)) (hb.mono (by first | omega | simp <;> omega))); clear hb; (try have z10 : w.heap.size < w1.heap.size := by omega); (try have z11 : w.heap.size + 1 < w1.heap.size := by omega); (try have z12 : w.heap.size + 1 + 1 < w1.heap.size := by omega)))
  exact bodyPost_ret (v := .agg #[.int .i64 (-ah), .int .i64 (-al)]) (by simp [results, Tryz.results149, go_sem]) rfl ⟨rfl, (by repeat' (first | with_reducible (first | exact HW0.out | apply bR | apply bD | apply bN | apply bA | apply bS) | (simp; done) | (simp; omega) | omega))⟩
set_option maxHeartbeats 4000000 in
theorem Does_other (c al ah bl bh : Int) (hc : c < 1 ∨ 13 < c) (w : World) :
  Calls Tryz.prog 149 #[.int .i64 c, .agg #[.int .i64 al, .int .i64 ah], .agg #[.int .i64 bl, .int .i64 bh]] w fun e w' => e = .returned (.agg #[.int .i64 ((bdoes c ⟨al, ah⟩ ⟨bl, bh⟩).lo), .int .i64 ((bdoes c ⟨al, ah⟩ ⟨bl, bh⟩).hi)]) ∧ Below w.heap.size w w' := by
 have HW0 := Lib.hid (Below.refl w.heap.size w)
 have e : bdoes c ⟨al, ah⟩ ⟨bl, bh⟩ = ball := by
  unfold bdoes
  repeat rw [if_neg (by omega)]
 rw [e]
 clear e
 have t1 : (c == 1) = false := by simp; omega
 have t2 : (c == 2) = false := by simp; omega
 have t3 : (c == 3) = false := by simp; omega
 have t4 : (c == 4) = false := by simp; omega
 have t5 : (c == 5) = false := by simp; omega
 have t6 : (c == 6) = false := by simp; omega
 have t7 : (c == 7) = false := by simp; omega
 have t8 : (c == 8) = false := by simp; omega
 have t9 : (c == 9) = false := by simp; omega
 have t10 : (c == 10) = false := by simp; omega
 have t11 : (c == 11) = false := by simp; omega
 have t12 : (c == 12) = false := by simp; omega
 have t13 : (c == 13) = false := by simp; omega
 clear hc
 go_enter Tryz.func149, Tryz.ntmps149
 go_wp2_with (go_at_call 148; refine (All_any _).mono ?_; (rintro e w1 ⟨rfl, hb⟩; obtain ⟨hc1, hf1⟩ := bcell hb; have hz1 := hb.size; (try simp at hz1); have HW1 := Lib.hid (show Below w.heap.size w w1 from Below.trans (by repeat' (first | with_reducible (first | exact HW0.out | apply bR | apply bD | apply bN | apply bA | apply bS) | (simp; done) | (simp; omega) | omega)) (hb.mono (by first | omega | simp <;> omega))); clear hb; (try have z10 : w.heap.size < w1.heap.size := by omega); (try have z11 : w.heap.size + 1 < w1.heap.size := by omega); (try have z12 : w.heap.size + 1 + 1 < w1.heap.size := by omega)))
 exact bodyPost_ret (v := .agg #[.int .i64 (-9223372036854775808), .int .i64 9223372036854775807]) (by simp [results, Tryz.results149, go_sem, hc1, z10, z11, z12]) rfl ⟨rfl, (by repeat' (first | with_reducible (first | exact HW1.out | apply bR | apply bD | apply bN | apply bA | apply bS) | (simp; done) | (simp; omega) | omega))⟩
theorem BDoes_any (c al ah bl bh : Int) (ia : In64 al) (ia2 : In64 ah) (ib : In64 bl) (ib2 : In64 bh) (ha : al ≤ ah) (hb : bl ≤ bh) (w : World) :
  Calls Tryz.prog 149 #[.int .i64 c, .agg #[.int .i64 al, .int .i64 ah], .agg #[.int .i64 bl, .int .i64 bh]] w fun e w' => e = .returned (.agg #[.int .i64 ((bdoes c ⟨al, ah⟩ ⟨bl, bh⟩).lo), .int .i64 ((bdoes c ⟨al, ah⟩ ⟨bl, bh⟩).hi)]) ∧ Below w.heap.size w w' := by
 by_cases hc : c < 1 ∨ 13 < c
 ·exact Does_other c al ah bl bh hc w
 have hc' : c = 1 ∨ c = 2 ∨ c = 3 ∨ c = 4 ∨ c = 5 ∨ c = 6 ∨ c = 7 ∨ c = 8 ∨ c = 9 ∨ c = 10 ∨ c = 11 ∨ c = 12 ∨ c = 13 := by omega
 rcases hc' with rfl | rfl | rfl | rfl | rfl | rfl | rfl | rfl | rfl | rfl | rfl | rfl | rfl
 ·exact Does_1 al ah bl bh w
 ·exact Does_2 al ah bl bh w
 ·exact Does_3 al ah bl bh w
 ·exact Does_4 al ah bl bh w
 ·exact Does_5 al ah bl bh ia ia2 ib ib2 ha hb w
 ·exact Does_6 al ah bl bh ia ia2 ib ib2 ha hb w
 ·exact Does_7 al ah bl bh ia2 ib2 w
 ·exact Does_8 al ah bl bh ia2 ib2 w
 ·exact Does_9 al ah bl bh ia2 ib2 w
 ·exact Does_10 al ah bl bh w
 ·exact Does_11 al ah bl bh w
 ·exact Does_12 al ah bl bh w
 ·exact Does_13 al ah bl bh ia ia2 ha w
end Go.Proofs.YtpdlmbbgioenoaaGreatDoor.W
