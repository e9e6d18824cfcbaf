/- AsmWrites: the walk of the law: what asm.Write gives is what the reference's Write gives. Conditions: the program's cells are known, its numbers are int64's; the tables lie in the world; the variable errors.errorType holds the type error's handle. -/
import Derived.Test.YtfpoicdfkjbknaaDoorA4
namespace Go.Proofs.YtfpoicdfkjbknaaDoor.W
open Go.RowKit Go.Proofs.YtfpoicdfkjbknaaDoor.P
set_option linter.unusedSimpArgs false
set_option linter.unusedVariables false

set_option maxRecDepth 100000 in
set_option maxHeartbeats 4000000 in
theorem asmWrites_big (oa : Option Addr) (n cap : Nat) (h : 300 < n) (w : World) :
  Calls Tryd.prog 4 #[.slice oa n cap] w fun e w' => e = .returned (.bool true) ∧ Below w.heap.size w w' := by
 have HW0 := Lib.hid (Below.refl w.heap.size w)
 have h3 : 300 < (n : Int) := by omega
 go_enter Tryd.func4, Tryd.ntmps4
 go_wp2_with fail
 go_ret
 exact ⟨rfl, (by repeat' (first | with_reducible (first | exact HW0.out | apply bR | apply bD | apply bN | apply bA | apply bS) | (simp; done) | (simp; omega) | omega))⟩

set_option maxRecDepth 100000 in
set_option maxHeartbeats 16000000 in
theorem asmWrites_walk (oa : Option Addr) (n cap : Nat) (S : Nat → Step) (hcap : n ≤ cap) (h : ¬ 300 < n) (w : World) (hs : 0 < n → ∃ a, oa = some a ∧ Cells w a S n) (hin : ∀ j, j < n → In64 (S j).off ∧ In64 (S j).num) (hg : w.cell? ⟨5, 0, none⟩ = some (.iface 217 (.agg #[.pointer (some ⟨10, 37, none⟩)]))) (ht : Tabs w) :
  Calls Tryd.prog 4 #[.slice oa n cap] w fun e w' => e = .returned (.bool true) ∧ Below w.heap.size w w' := by
 have HW0 := Lib.hid (Below.refl w.heap.size w)
 have h3 : ¬ 300 < (n : Int) := by omega
 have gz := block_lt_of_cell hg
 have later : ∀ w', Below w.heap.size w w' → (0 < n → ∃ a, oa = some a ∧ Cells w' a S n) := fun w' hb hn => by
  obtain ⟨a, h1, h2⟩ := hs hn
  exact ⟨a, h1, h2.later hb⟩
 have C1 := fun w' (hb : Below w.heap.size w w') => RWrite_full oa n cap S hcap w' (later w' hb) hin (ht.later hb)
 have C2 := fun w' (hb : Below w.heap.size w w') => AWrite_full oa n cap S hcap w' (later w' hb) hin (ht.later hb) ((hb.cell gz).trans hg)
 generalize writeRes S n = X at C1 C2
 obtain ⟨⟨er, p⟩, T⟩ := X
 have HC1 := Lib.hid C1
 have HC2 := Lib.hid C2
 have HG := Lib.hid hg
 clear C1 C2 hs hin hg ht later
 go_enter Tryd.func4, Tryd.ntmps4
 go_wp2_with fail
 refine (HC1.out _ (by repeat' (first | with_reducible exact HW0.out | with_reducible refine Below.alloc ?_ ?_ _ | (simp; done) | (simp; omega) | omega))).mono ?_
 rintro e w1 ⟨rfl, hb⟩
 have HB1 := Lib.hid hb
 have z1 : w.heap.size ≤ w1.heap.size := hb.size
 clear hb
 simp only
 go_upto_region 4 with fail
 generalize hW : World.alloc w1 _ = w2
 have a0 : w2.cell? ⟨w1.heap.size, 0, none⟩ = some (.int .i64 er) := by rw [← hW]; simp [go_sem]
 have a1 : w2.cell? ⟨w1.heap.size, 1, none⟩ = some (.int .i64 p) := by rw [← hW]; simp [go_sem]
 have HB2 := Lib.hid (show Below w.heap.size w w2 from HB1.out.trans (hW ▸ (Below.refl _ _).alloc z1 _))
 have z2 : w1.heap.size < w2.heap.size := block_lt_of_cell a0
 clear hW
 go_wp2_with fail
 refine (HC2.out _ HB2.out).mono ?_
 rintro e w3 ⟨v, rfl, hE, hb⟩
 have HB3 := Lib.hid (HB2.out.trans (hb.mono HB2.out.size))
 have a0' : w3.cell? ⟨w1.heap.size, 0, none⟩ = some (.int .i64 er) := (hb.cell (p := ⟨w1.heap.size, 0, none⟩) z2).trans a0
 have a1' : w3.cell? ⟨w1.heap.size, 1, none⟩ = some (.int .i64 p) := (hb.cell (p := ⟨w1.heap.size, 1, none⟩) z2).trans a1
 have HE := Lib.hid hE
 clear hb hE a0 a1
 simp only
 go_wp2_with fail
 refine (is_same v er p _ HE.out ?_).mono ?_
 ·exact (HB3.out.cell (p := ⟨5, 0, none⟩) gz).trans HG.out
 rintro e w4 ⟨rfl, hb⟩
 have HB4 := Lib.hid (HB3.out.trans (hb.mono HB3.out.size))
 clear hb a0' a1'
 go_wp2_with fail
 go_ret
 refine ⟨?_, HB4.out⟩
 first | rfl | (simp; done) | exact ret_bool (by simp)
end Go.Proofs.YtfpoicdfkjbknaaDoor.W
