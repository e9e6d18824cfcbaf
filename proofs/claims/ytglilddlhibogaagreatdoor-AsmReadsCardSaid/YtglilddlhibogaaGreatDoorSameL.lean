/- same of the laws against the document: two programs of one text are the same. Conditions: their cells are known. -/
import Derived.Test.YtglilddlhibogaaGreatDoorWalkCheck
import Derived.Deep.QuietTactic
import Derived.BigQuiet
namespace Go.Proofs.YtglilddlhibogaaGreatDoor.W
open Go.RowKit Go.Proofs.YtglilddlhibogaaGreatDoor.P
set_option linter.unusedSimpArgs false
set_option linter.unusedVariables false

set_option maxRecDepth 100000 in
set_option maxHeartbeats 4000000 in
theorem LSame_yes (o1 o2 : Option Addr) (n c1 c2 : Nat) (S : Nat → Step) (w : World) (h1 : 0 < n → ∃ a, o1 = some a ∧ Cells w a S n) (h2 : 0 < n → ∃ a, o2 = some a ∧ Cells w a S n) (hc1 : n ≤ c1) (hc2 : n ≤ c2) (hn : n ≤ 100000) :
  Calls Tryz.prog 17 #[.slice o1 n c1, .slice o2 n c2] w fun e w' => e = .returned (.bool true) ∧ Below w.heap.size w w' := by
 have H1 := Lib.hid h1
 have H2 := Lib.hid h2
 clear h1 h2
 go_enter Tryz.func17, Tryz.ntmps17
 go_wp2_with fail
 go_loopw [5] (fun i wr => ∃ k : Nat, k ≤ n ∧ i = .int .i64 k ∧ Below w.heap.size w wr) (fun i _ => n - (intOf i).toNat)
 case atStart => exact ⟨0, by omega, rfl, Below.refl _ _⟩
 case round =>
  obtain ⟨k, hk, rfl, HB⟩ := hrel
  by_cases h : k < n
  ·have hk1 : (k : Int) < n := by omega
   obtain ⟨a1, rfl, hs1⟩ := H1.out (by omega)
   obtain ⟨a2, rfl, hs2⟩ := H2.out (by omega)
   obtain ⟨e0, e1, e2, e3, e4, e5⟩ := hs1.later HB k h
   obtain ⟨f0, f1, f2, f3, f4, f5⟩ := hs2.later HB k h
   have HWr := Lib.hid HB
   clear HB hs1 hs2
   go_wp2_with fail
   go_quiet (fail)
   go_wp2_with fail
   go_roundw
   case rel => exact ⟨k + 1, by omega, by go_num, HWr.out.trans ⟨rfl, rfl, rfl, Nat.le_refl _, fun _ _ => rfl⟩⟩
   case measure => simp [intOf]; omega
  ·obtain rfl : k = n := by omega
   go_wp2_with fail
   go_ret
   exact ⟨rfl, HB⟩
end Go.Proofs.YtglilddlhibogaaGreatDoor.W
