/- OpChecks: the walk of the law: what op.Check says is what the reference's Check says. Conditions: the program's cells are known; the variable errors.errorType holds the type error's handle. -/
import Derived.Test.YtfmcapmaebfppaaDoorWalkCheck
namespace Go.Proofs.YtfmcapmaebfppaaDoor.W
open Go.RowKit Go.Proofs.YtfmcapmaebfppaaDoor.P
set_option linter.unusedSimpArgs false
set_option linter.unusedVariables false

theorem ErrIs.later {w w' : World} {v : Value} {n p : Int} (h : ErrIs w v n p) (hb : Below w.heap.size w w') : ErrIs w' v n p := by
  rcases h with h | h | ⟨b, hv, h0, h1⟩
  · exact .inl h
  · exact .inr (.inl h)
  · have l := block_lt_of_cell h0
    exact .inr (.inr ⟨b, hv, (hb.cell l).trans h0, (hb.cell (p := ⟨b, 1, none⟩) l).trans h1⟩)

set_option maxRecDepth 100000 in
set_option maxHeartbeats 4000000 in
theorem is_same (v : Value) (n p : Int) (w : World) (h : ErrIs w v n p) (hg : w.cell? ⟨5, 0, none⟩ = some (.iface 213 (.agg #[.pointer (some ⟨10, 25, none⟩)]))) :
    Calls Tryd.prog 8 #[v, .agg #[.int .i64 n, .int .i64 p]] w fun e w' => e = .returned (.bool true) ∧ Below w.heap.size w w' := by
  have HW0 := Lib.hid (Below.refl w.heap.size w)
  have hlt := block_lt_of_cell hg
  rcases h with ⟨rfl, rfl, rfl⟩ | ⟨rfl, rfl⟩ | ⟨b, rfl, h0, h1⟩
  · go_enter Tryd.func8, Tryd.ntmps8
    go_wp2_with fail
    refine (Place_nil _).mono ?_
    (rintro e w1 ⟨rfl, hb⟩; obtain ⟨hc1, hf1⟩ := bcell hb; have hz1 := hb.size; (try simp at hz1); have HW1 := Lib.hid (show Below w.heap.size w w1 from Below.trans (by repeat' (first | with_reducible exact HW0.out | with_reducible exact Below.refl _ _ | with_reducible refine Below.drew ?_ | with_reducible refine Below.drewN' ?_ _ | with_reducible refine Below.alloc ?_ ?_ _ | with_reducible refine Below.setCell ?_ ?_ _ | (simp; done) | (simp; omega) | omega)) (hb.mono (by first | (simp; done) | (simp; omega) | omega))); clear hb; (try have z10 : w.heap.size < w1.heap.size := by omega); (try have z11 : w.heap.size + 1 < w1.heap.size := by omega); (try have z12 : w.heap.size + 1 + 1 < w1.heap.size := by omega); (try have z13 : w.heap.size + 1 + 1 + 1 < w1.heap.size := by omega); (try have z14 : w.heap.size + 1 + 1 + 1 + 1 < w1.heap.size := by omega); (try have z15 : w.heap.size + 1 + 1 + 1 + 1 + 1 < w1.heap.size := by omega); (try have z16 : w.heap.size + 1 + 1 + 1 + 1 + 1 + 1 < w1.heap.size := by omega); (try have z17 : w.heap.size + 1 + 1 + 1 + 1 + 1 + 1 + 1 < w1.heap.size := by omega))
    have b0 : w1.cell? ⟨w.heap.size, 0, none⟩ = some (.int .i64 0) := by rw [hc1 _ _ (by simp)]; simp [go_sem]
    have b1 : w1.cell? ⟨w.heap.size, 1, none⟩ = some (.int .i64 (-1)) := by rw [hc1 _ _ (by simp)]; simp [go_sem]
    clear hc1 hf1
    go_wp2_with fail
    go_ret
    exact ⟨rfl, (by repeat' (first | with_reducible exact HW1.out | with_reducible exact Below.refl _ _ | with_reducible refine Below.drew ?_ | with_reducible refine Below.drewN' ?_ _ | with_reducible refine Below.alloc ?_ ?_ _ | with_reducible refine Below.setCell ?_ ?_ _ | (simp; done) | (simp; omega) | omega))⟩
  · go_enter Tryd.func8, Tryd.ntmps8
    go_wp2_with fail
    refine (Place_errno n _ (by rw [World.cell?_alloc_lt _ _ ⟨5, 0, none⟩ hlt]; exact hg)).mono ?_
    (rintro e w1 ⟨rfl, hb⟩; obtain ⟨hc1, hf1⟩ := bcell hb; have hz1 := hb.size; (try simp at hz1); have HW1 := Lib.hid (show Below w.heap.size w w1 from Below.trans (by repeat' (first | with_reducible exact HW0.out | with_reducible exact Below.refl _ _ | with_reducible refine Below.drew ?_ | with_reducible refine Below.drewN' ?_ _ | with_reducible refine Below.alloc ?_ ?_ _ | with_reducible refine Below.setCell ?_ ?_ _ | (simp; done) | (simp; omega) | omega)) (hb.mono (by first | (simp; done) | (simp; omega) | omega))); clear hb; (try have z10 : w.heap.size < w1.heap.size := by omega); (try have z11 : w.heap.size + 1 < w1.heap.size := by omega); (try have z12 : w.heap.size + 1 + 1 < w1.heap.size := by omega); (try have z13 : w.heap.size + 1 + 1 + 1 < w1.heap.size := by omega); (try have z14 : w.heap.size + 1 + 1 + 1 + 1 < w1.heap.size := by omega); (try have z15 : w.heap.size + 1 + 1 + 1 + 1 + 1 < w1.heap.size := by omega); (try have z16 : w.heap.size + 1 + 1 + 1 + 1 + 1 + 1 < w1.heap.size := by omega); (try have z17 : w.heap.size + 1 + 1 + 1 + 1 + 1 + 1 + 1 < w1.heap.size := by omega))
    have b0 : w1.cell? ⟨w.heap.size, 0, none⟩ = some (.int .i64 n) := by rw [hc1 _ _ (by simp)]; simp [go_sem]
    have b1 : w1.cell? ⟨w.heap.size, 1, none⟩ = some (.int .i64 (-1)) := by rw [hc1 _ _ (by simp)]; simp [go_sem]
    clear hc1 hf1
    go_wp2_with fail
    go_ret
    exact ⟨ret_bool (by simp), (by repeat' (first | with_reducible exact HW1.out | with_reducible exact Below.refl _ _ | with_reducible refine Below.drew ?_ | with_reducible refine Below.drewN' ?_ _ | with_reducible refine Below.alloc ?_ ?_ _ | with_reducible refine Below.setCell ?_ ?_ _ | (simp; done) | (simp; omega) | omega))⟩
  · have l := block_lt_of_cell h0
    go_enter Tryd.func8, Tryd.ntmps8
    go_wp2_with fail
    refine (Place_at b n p _ (by rw [World.cell?_alloc_lt _ _ ⟨5, 0, none⟩ hlt]; exact hg) (by rw [World.cell?_alloc_lt _ _ ⟨b, 0, none⟩ l]; exact h0) (by rw [World.cell?_alloc_lt _ _ ⟨b, 1, none⟩ l]; exact h1)).mono ?_
    (rintro e w1 ⟨rfl, hb⟩; obtain ⟨hc1, hf1⟩ := bcell hb; have hz1 := hb.size; (try simp at hz1); have HW1 := Lib.hid (show Below w.heap.size w w1 from Below.trans (by repeat' (first | with_reducible exact HW0.out | with_reducible exact Below.refl _ _ | with_reducible refine Below.drew ?_ | with_reducible refine Below.drewN' ?_ _ | with_reducible refine Below.alloc ?_ ?_ _ | with_reducible refine Below.setCell ?_ ?_ _ | (simp; done) | (simp; omega) | omega)) (hb.mono (by first | (simp; done) | (simp; omega) | omega))); clear hb; (try have z10 : w.heap.size < w1.heap.size := by omega); (try have z11 : w.heap.size + 1 < w1.heap.size := by omega); (try have z12 : w.heap.size + 1 + 1 < w1.heap.size := by omega); (try have z13 : w.heap.size + 1 + 1 + 1 < w1.heap.size := by omega); (try have z14 : w.heap.size + 1 + 1 + 1 + 1 < w1.heap.size := by omega); (try have z15 : w.heap.size + 1 + 1 + 1 + 1 + 1 < w1.heap.size := by omega); (try have z16 : w.heap.size + 1 + 1 + 1 + 1 + 1 + 1 < w1.heap.size := by omega); (try have z17 : w.heap.size + 1 + 1 + 1 + 1 + 1 + 1 + 1 < w1.heap.size := by omega))
    have b0 : w1.cell? ⟨w.heap.size, 0, none⟩ = some (.int .i64 n) := by rw [hc1 _ _ (by simp)]; simp [go_sem]
    have b1 : w1.cell? ⟨w.heap.size, 1, none⟩ = some (.int .i64 p) := by rw [hc1 _ _ (by simp)]; simp [go_sem]
    clear hc1 hf1
    go_wp2_with fail
    go_ret
    exact ⟨ret_bool (by simp), (by repeat' (first | with_reducible exact HW1.out | with_reducible exact Below.refl _ _ | with_reducible refine Below.drew ?_ | with_reducible refine Below.drewN' ?_ _ | with_reducible refine Below.alloc ?_ ?_ _ | with_reducible refine Below.setCell ?_ ?_ _ | (simp; done) | (simp; omega) | omega))⟩

set_option maxRecDepth 100000 in
set_option maxHeartbeats 4000000 in
theorem opChecks_limit (a : Option Addr) (n cap : Nat) (hn : n < 1 ∨ 200 < n) (hcap : n ≤ cap) (w : World) (hg : w.cell? ⟨5, 0, none⟩ = some (.iface 213 (.agg #[.pointer (some ⟨10, 25, none⟩)]))) :
    Calls Tryd.prog 3 #[.slice a n cap] w fun e w' => e = .returned (.bool true) ∧ Below w.heap.size w w' := by
  have HW0 := Lib.hid (Below.refl w.heap.size w)
  have hlt := block_lt_of_cell hg
  by_cases h : 300 < n
  · have h3 : 300 < (n : Int) := by omega
    go_enter Tryd.func3, Tryd.ntmps3
    go_wp2_with fail
    go_ret
    exact ⟨rfl, Below.refl _ _⟩
  · have h3 : ¬ 300 < (n : Int) := by omega
    go_enter Tryd.func3, Tryd.ntmps3
    go_wp2_with fail
    refine (Check_limit a n cap hn hcap _).mono ?_
    rintro e w' ⟨rfl, rfl⟩
    go_wp2_with fail
    refine (RefCheck_limit a n cap hn hcap _).mono ?_
    rintro e w1 ⟨rfl, hb⟩
    go_wp2_with fail
    refine (is_same _ 4 (-1) _ (.inr (.inl ⟨rfl, rfl⟩)) ((hb.cell hlt).trans hg)).mono ?_
    rintro e w2 ⟨rfl, hb2⟩
    go_wp2_with fail
    go_ret
    exact ⟨rfl, hb.trans (hb2.mono hb.size)⟩

set_option maxRecDepth 100000 in
set_option maxHeartbeats 4000000 in
theorem opChecks_some (a : Addr) (n cap : Nat) (S : Nat → Step) (hn : 1 ≤ n) (hn2 : n ≤ 200) (hcap : n ≤ cap) (w : World) (hs : Cells w a S n) (hg : w.cell? ⟨5, 0, none⟩ = some (.iface 213 (.agg #[.pointer (some ⟨10, 25, none⟩)]))) :
    Calls Tryd.prog 3 #[.slice (some a) n cap] w fun e w' => e = .returned (.bool true) ∧ Below w.heap.size w w' := by
  have hlt := block_lt_of_cell hg
  have h3 : ¬ 300 < (n : Int) := by omega
  go_enter Tryd.func3, Tryd.ntmps3
  go_wp2_with fail
  refine (Check_some a n cap S hn hn2 hcap _ hs hg).mono ?_
  rintro e w1 ⟨v, rfl, hv, hb⟩
  go_wp2_with fail
  refine (RefCheck_some a n cap S hn hn2 hcap _ (hs.later hb)).mono ?_
  rintro e w2 ⟨rfl, hb2⟩
  go_wp2_with fail
  refine (is_same _ _ _ _ (hv.later hb2) ((hb2.cell (Nat.lt_of_lt_of_le hlt hb.size)).trans ((hb.cell hlt).trans hg))).mono ?_
  rintro e w3 ⟨rfl, hb3⟩
  go_wp2_with fail
  go_ret
  exact ⟨rfl, hb.trans ((hb2.trans (hb3.mono hb2.size)).mono hb.size)⟩

theorem opChecks_walk (a : Addr) (n cap : Nat) (S : Nat → Step) (hcap : n ≤ cap) (w : World) (hs : Cells w a S n) (hg : w.cell? ⟨5, 0, none⟩ = some (.iface 213 (.agg #[.pointer (some ⟨10, 25, none⟩)]))) :
    Calls Tryd.prog 3 #[.slice (some a) n cap] w fun e w' => e = .returned (.bool true) ∧ Below w.heap.size w w' := by
  by_cases h : n < 1 ∨ 200 < n
  · exact opChecks_limit (some a) n cap h hcap w hg
  · exact opChecks_some a n cap S (by omega) (by omega) hcap w hs hg

end Go.Proofs.YtfmcapmaebfppaaDoor.W
