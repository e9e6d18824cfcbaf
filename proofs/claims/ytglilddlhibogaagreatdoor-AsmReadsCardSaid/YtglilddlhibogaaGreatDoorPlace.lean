/- api.Tell, plain.Place and the law's 'is', for the errors that the program gives (nil, an Errno, an At). Conditions: the variable errors.errorType holds the type error's handle; an At's two cells are known. -/
import Derived.Test.YtglilddlhibogaaGreatDoorTell
import Derived.Below
import Derived.Lib.Hide
import Derived.Test.YtglilddlhibogaaGreatDoorWalkBound
namespace Go.Proofs.YtglilddlhibogaaGreatDoor.W
open Go.RowKit Go.Extern.Stop Go.Stop Go.Extern
set_option linter.unusedSimpArgs false
set_option linter.unusedVariables false

theorem notAt (v : Value) (x : TypeId) (w : World) : (Instr.typeAssert (.iface 30 v) x 119 true).run Tryz.prog w = .ok (.tuple #[.pointer none, .bool false]) w := by kernel_rfl
theorem isAt (v : Value) (x : TypeId) (w : World) : (Instr.typeAssert (.iface 119 v) x 119 true).run Tryz.prog w = .ok (.tuple #[v, .bool true]) w := by kernel_rfl

theorem Tell_nil (w : World) : Calls Tryz.prog 72 #[.nilIface] w fun e w' => e = .returned (.int .i64 0) ∧ w = w' := by
 go_enter Tryz.func72, Tryz.ntmps72
 go_wp2_with fail
 go_ret
 exact ⟨rfl, rfl⟩

set_option maxRecDepth 100000 in
set_option maxHeartbeats 4000000 in
theorem Tell_errno (n : Int) (w : World) (hg : w.cell? ⟨5, 0, none⟩ = some (.iface 317 (.agg #[.pointer (some ⟨14, 26, none⟩)]))) :
  Calls Tryz.prog 72 #[.iface 30 (.int .i64 n)] w fun e w' => e = .returned (.int .i64 n) ∧ Below w.heap.size w w' := by
 have HW0 := Lib.hid (Below.refl w.heap.size w)
 have hlt := block_lt_of_cell hg
 go_enter Tryz.func72, Tryz.ntmps72
 go_wp2_with fail
 refine (as_errno n ⟨w.heap.size, 0, none⟩ (.int .i64 0) (w.alloc (.cells #[.int .i64 0] 30)) (by rw [World.cell?_alloc_lt _ _ ⟨5, 0, none⟩ hlt]; exact hg) (by simp) (by simp)).mono ?_
 rintro e w' ⟨rfl, rfl⟩
 go_wp2_with fail
 go_ret
 exact ⟨rfl, (by repeat' (first | with_reducible (first | exact HW0.out | apply bR | apply bD | apply bN | apply bA | apply bS) | (simp; done) | (simp; omega) | omega))⟩

set_option maxRecDepth 100000 in
set_option maxHeartbeats 4000000 in
theorem Tell_at (b : Nat) (n : Int) (w : World) (hg : w.cell? ⟨5, 0, none⟩ = some (.iface 317 (.agg #[.pointer (some ⟨14, 26, none⟩)]))) (ha : w.cell? ⟨b, 0, none⟩ = some (.int .i64 n)) :
  Calls Tryz.prog 72 #[.iface 119 (.pointer (some ⟨b, 0, none⟩))] w fun e w' => e = .returned (.int .i64 n) ∧ Below w.heap.size w w' := by
 have HW0 := Lib.hid (Below.refl w.heap.size w)
 have hlt := block_lt_of_cell hg
 have hb := block_lt_of_cell ha
 go_enter Tryz.func72, Tryz.ntmps72
 go_wp2_with fail
 refine (as_at n b ⟨w.heap.size, 0, none⟩ (.int .i64 0) (w.alloc (.cells #[.int .i64 0] 30)) (by rw [World.cell?_alloc_lt _ _ ⟨5, 0, none⟩ hlt]; exact hg) (by rw [World.cell?_alloc_lt _ _ ⟨b, 0, none⟩ hb]; exact ha) (by simp; exact Nat.lt_succ_of_lt hb) (by simp) (by simp)).mono ?_
 rintro e w' ⟨rfl, rfl⟩
 go_wp2_with fail
 go_ret
 exact ⟨rfl, (by repeat' (first | with_reducible (first | exact HW0.out | apply bR | apply bD | apply bN | apply bA | apply bS) | (simp; done) | (simp; omega) | omega))⟩

theorem Place_nil (w : World) : Calls Tryz.prog 41 #[.nilIface] w fun e w' => e = .returned (.tuple #[.int .i64 0, .int .i64 (-1)]) ∧ Below w.heap.size w w' := by
 go_enter Tryz.func41, Tryz.ntmps41
 go_wp2_with fail
 refine (Tell_nil _).mono ?_
 rintro e w' ⟨rfl, rfl⟩
 go_wp2_with fail
 refine wp_loop_rounds 2 ?_
 rw [rounds_succ]
 go_wp2_with (rw [rounds_succ])
 go_ret2
 exact ⟨rfl, Below.refl _ _⟩

set_option maxRecDepth 100000 in
set_option maxHeartbeats 4000000 in
theorem Place_errno (n : Int) (w : World) (hg : w.cell? ⟨5, 0, none⟩ = some (.iface 317 (.agg #[.pointer (some ⟨14, 26, none⟩)]))) :
  Calls Tryz.prog 41 #[.iface 30 (.int .i64 n)] w fun e w' => e = .returned (.tuple #[.int .i64 n, .int .i64 (-1)]) ∧ Below w.heap.size w w' := by
 have u1 := noUnwrap; have u2 := notAt
 go_enter Tryz.func41, Tryz.ntmps41
 go_wp2_with fail
 refine (Tell_errno n _ hg).mono ?_
 rintro e w1 ⟨rfl, hb⟩
 go_wp2_with fail
 refine wp_loop_rounds 2 ?_
 rw [rounds_succ]
 go_wp2_with (rw [rounds_succ])
 go_ret2
 exact ⟨rfl, hb⟩

set_option maxRecDepth 100000 in
set_option maxHeartbeats 4000000 in
theorem Place_at (b : Nat) (n p : Int) (w : World) (hg : w.cell? ⟨5, 0, none⟩ = some (.iface 317 (.agg #[.pointer (some ⟨14, 26, none⟩)]))) (ha : w.cell? ⟨b, 0, none⟩ = some (.int .i64 n)) (hp : w.cell? ⟨b, 1, none⟩ = some (.int .i64 p)) :
  Calls Tryz.prog 41 #[.iface 119 (.pointer (some ⟨b, 0, none⟩))] w fun e w' => e = .returned (.tuple #[.int .i64 n, .int .i64 p]) ∧ Below w.heap.size w w' := by
 have hl := block_lt_of_cell ha; have u2 := isAt
 go_enter Tryz.func41, Tryz.ntmps41
 go_wp2_with fail
 refine (Tell_at b n _ hg ha).mono ?_
 rintro e w1 ⟨rfl, hb⟩
 have c1 : w1.cell? ⟨b, 1, none⟩ = some (.int .i64 p) := (hb.cell (p := ⟨b, 1, none⟩) hl).trans hp
 have HW1 := Lib.hid hb
 clear hb
 go_wp2_with fail
 refine wp_loop_rounds 2 ?_
 rw [rounds_succ]
 go_wp2_with (rw [rounds_succ])
 go_region
 go_wp2_with fail
 go_ret2
 exact ⟨rfl, (by repeat' (first | with_reducible (first | exact HW1.out | apply bR | apply bD | apply bN | apply bA | apply bS) | (simp; done) | (simp; omega) | omega))⟩

end Go.Proofs.YtglilddlhibogaaGreatDoor.W
